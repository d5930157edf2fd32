/- A machine over values for Go functions, proved sound, and functions run on it: texts VB, G1, G2, G3, G5. -/
import Derived.Test.YtkkmgjhfjhcdmaaGreatDoorFetchTickXah
import Derived.Test.YtkkmgjhfjhcdmaaGreatDoorFetchTickXai
/- Draws, pure. -/
namespace Go.Proofs.YtkkmgjhfjhcdmaaGreatDoor.Mx
set_option linter.all false
open Go Go.RowKit
/-- the bytes of a code -/
def okCode (c : List Int) : Prop := c.length ≤ 2000 ∧ ∀ x ∈ c, 0 ≤ x ∧ x ≤ 255
def mixK (c : List Int) (k : Int) : Int := c.getD (k.toNat % c.length) 0 * 131 + c.getD ((k.toNat * 7 + 3) % c.length) 0 * 1117 + k * 29 + k / c.length * 53
def xorK (x : Int) : Int := wr .i64 (BitVec.ofInt 64 x ^^^ BitVec.ofInt 64 (x / 64)).toNat
/-- the p-th draw of a number below n -/
def pickF (c : List Int) (p n : Int) : Int := if n < 1 ∨ c = [] then 0 else if p < c.length then (c.getD p.toNat 0) % n else xorK (mixK c p) % n
theorem code_get {c : List Int} (h : okCode c) (i : Nat) : 0 ≤ c.getD i 0 ∧ c.getD i 0 ≤ 255 := by
  rw [List.getD_eq_getElem?_getD]
  cases e : c[i]? with
  | none => simp
  | some x => exact h.2 x (List.mem_of_getElem? e)
theorem xorK_nn {x : Int} (h0 : 0 ≤ x) (h1 : x < 4611686018427387904) : 0 ≤ xorK x ∧ xorK x < 4611686018427387904 := by
  unfold xorK
  obtain ⟨n, rfl⟩ := Int.eq_ofNat_of_zero_le h0
  have e : (BitVec.ofInt 64 (n : Int) ^^^ BitVec.ofInt 64 ((n : Int) / 64)).toNat = n ^^^ (n / 64) := by
    rw [BitVec.toNat_xor]
    have h2 : ((n : Int) / 64) = ((n / 64 : Nat) : Int) := by simp
    rw [h2, BitVec.ofInt_natCast, BitVec.ofInt_natCast, BitVec.toNat_ofNat, BitVec.toNat_ofNat, Nat.mod_eq_of_lt (by omega), Nat.mod_eq_of_lt (by omega)]
  rw [e]
  have hl : n ^^^ (n / 64) < 2 ^ 62 := Nat.xor_lt_two_pow (by omega) (by omega)
  have : wr .i64 ((n ^^^ (n / 64) : Nat) : Int) = ((n ^^^ (n / 64) : Nat) : Int) := by
    rw [wr_id (by omega) (by omega)]
  omega
theorem pickF_nn {c : List Int} (h : okCode c) (p n : Int) (hp0 : 0 ≤ p) (hp : p ≤ 1000000) : 0 ≤ pickF c p n ∧ (1 ≤ n → pickF c p n < n) := by
  unfold pickF
  split
  · exact ⟨by omega, by omega⟩
  rename_i h1
  have hn : 1 ≤ n := by omega
  have : ∀ x : Int, 0 ≤ x % n ∧ x % n < n := fun x => ⟨Int.emod_nonneg _ (by omega), Int.emod_lt_of_pos _ (by omega)⟩
  split
  · exact ⟨(this _).1, fun _ => (this _).2⟩
  · exact ⟨(this _).1, fun _ => (this _).2⟩
end Go.Proofs.YtkkmgjhfjhcdmaaGreatDoor.Mx

/- The laws' helpers run (By fam.py of this session.) -/
namespace Go.Proofs.YtkkmgjhfjhcdmaaGreatDoor.Mx
set_option linter.all false
open Go Go.RowKit Go.Proofs
set_option linter.unusedSimpArgs false
set_option linter.unusedVariables false
def E165 : Env := { T := T0, kp := look [(0, [0, 1]), (1, [2, 3]), (2, []), (3, [2, 3]), (4, []), (5, [])] }
attribute [local push_cast] E165
theorem eqItem (x y : Item) (hy : okItem y) : Does Tryz.prog 165 [.ag (itemC false x), .ag (itemC false y)] (.sc (.bool (decide (x = y))), []) := by
  refine does_of (E := E165) (rs := [.tmp 4]) (lent := []) tOk rfl Tryz.func165 rfl (by decide) rfl rfl (Nat.le_of_ble_eq_true rfl) (Nat.le_of_ble_eq_true rfl) ?_
  by_cases e0 : x.t = y.t
  rotate_left
  · have hn : x ≠ y := fun h => e0 (by rw [h])
    (simp -dsimp (disch := first | omega | (simp only [e0, hn, LR] <;> omega) | fail) only [push_cast, e0, hn, simprocAttr, -Nat.reduceSubDiff]) <;> (repeat (refine (aw_draw (by kernel_rfl)).2 ?_; simp -dsimp (disch := first | omega | (simp only [e0, hn, LR] <;> omega) | fail) only [push_cast, e0, hn, simprocAttr, -Nat.reduceSubDiff]))
  (simp -dsimp (disch := first | omega | (simp only [e0, LR] <;> omega) | fail) only [push_cast, e0, simprocAttr, -Nat.reduceSubDiff]) <;> (repeat (refine (aw_draw (by kernel_rfl)).2 ?_; simp -dsimp (disch := first | omega | (simp only [e0, LR] <;> omega) | fail) only [push_cast, e0, simprocAttr, -Nat.reduceSubDiff]))
  by_cases e1 : x.u = y.u
  rotate_left
  · have hn : x ≠ y := fun h => e1 (by rw [h])
    (simp -dsimp (disch := first | omega | (simp only [e1, hn, LR] <;> omega) | fail) only [push_cast, e1, hn, simprocAttr, -Nat.reduceSubDiff]) <;> (repeat (refine (aw_draw (by kernel_rfl)).2 ?_; simp -dsimp (disch := first | omega | (simp only [e1, hn, LR] <;> omega) | fail) only [push_cast, e1, hn, simprocAttr, -Nat.reduceSubDiff]))
  have hn : x = y := by cases x; cases y; simp_all
  (simp -dsimp (disch := first | omega | (simp only [e1, hn, LR] <;> omega) | fail) only [push_cast, e1, hn, simprocAttr, -Nat.reduceSubDiff]) <;> (repeat (refine (aw_draw (by kernel_rfl)).2 ?_; simp -dsimp (disch := first | omega | (simp only [e1, hn, LR] <;> omega) | fail) only [push_cast, e1, hn, simprocAttr, -Nat.reduceSubDiff]))
def E129 : Env := { T := T0, kp := look [(0, [0, 1]), (1, [0, 1]), (2, []), (3, [0, 1]), (4, [0, 1, 5]), (5, [0, 1, 5]), (6, [0, 1, 5]), (7, []), (8, [])], dp := look2 [(6, [[], [], [0, 1], [0, 1, 2], [], [], [4, 5], [4, 5, 6], [0, 1, 2, 3, 4, 5, 6, 7], [0, 1, 2, 3, 4, 5, 6, 7, 8]])] }
attribute [local push_cast] E129
theorem eqItemS (a b : List Item) (hb : okL okItem b) : Does Tryz.prog 129 [.sl false 2 (a.map (itemC false)), .sl false 2 (b.map (itemC false))] (.sc (.bool (decide (a = b))), []) := by
  refine does_of (E := E129) (rs := [.tmp 4]) (lent := []) tOk rfl Tryz.func129 rfl (by decide) rfl rfl (Nat.le_of_ble_eq_true rfl) (Nat.le_of_ble_eq_true rfl) ?_
  have hb1 := hb.1
  by_cases hl : a.length = b.length
  rotate_left
  · have : a ≠ b := fun h => hl (by rw [h])
    simp -dsimp (disch := first | omega | (simp only [this, LR] <;> omega) | fail) only [push_cast, this, simprocAttr, -Nat.reduceSubDiff]
  simp -dsimp (disch := first | omega | (simp only [hl, LR] <;> omega) | fail) only [push_cast, hl, simprocAttr, -Nat.reduceSubDiff]
  refine loop_ind (α := Nat) (fun i => i ≤ b.length ∧ a.take i = b.take i) (fun i => ⟨[(0, .sl false 2 (a.map (itemC false))), (1, .sl false 2 (b.map (itemC false))), (5, .sc (.int .i64 i))], [], 1⟩) (fun i => b.length - i) 0 ⟨Nat.zero_le _, rfl⟩ ?_ ?_
  · simp -dsimp (disch := first | omega | (simp only [LR] <;> omega) | fail) only [push_cast, simprocAttr, -Nat.reduceSubDiff]
  intro i hi ih
  by_cases h : i < b.length
  · obtain ⟨x, hx⟩ := ex_get (hl ▸ h : i < a.length)
    obtain ⟨y, hy⟩ := ex_get h
    (simp -dsimp (disch := first | omega | (simp only [hx, hy, LR] <;> omega) | fail) only [push_cast, hx, hy, simprocAttr, -Nat.reduceSubDiff]) <;> (repeat (refine (aw_draw (by kernel_rfl)).2 ?_; simp -dsimp (disch := first | omega | (simp only [hx, hy, LR] <;> omega) | fail) only [push_cast, hx, hy, simprocAttr, -Nat.reduceSubDiff]))
    refine callC (eqItem x y (hb.2 y (List.mem_of_getElem? hy))) ?_
    by_cases e : x = y
    · simp -dsimp (disch := first | omega | (simp only [e, LR] <;> omega) | fail) only [push_cast, e, simprocAttr, -Nat.reduceSubDiff]
      refine ih (i + 1) _ (by omega) ⟨h, by rw [take_step hx, take_step hy, hi.2, e]⟩ ?_
      simp -dsimp (disch := first | omega | (simp only [wr_id, LR] <;> omega) | fail) only [push_cast, wr_id, simprocAttr, -Nat.reduceSubDiff]
    · have : a ≠ b := fun h' => e (by rw [h', hy] at hx; cases hx; rfl)
      simp -dsimp (disch := first | omega | (simp only [e, this, LR] <;> omega) | fail) only [push_cast, e, this, simprocAttr, -Nat.reduceSubDiff]
  · have : a = b := by
      have := hi.2
      rwa [List.take_of_length_le (by omega), List.take_of_length_le (by omega)] at this
    simp -dsimp (disch := first | omega | (simp only [this, LR] <;> omega) | fail) only [push_cast, this, simprocAttr, -Nat.reduceSubDiff]
def E159 : Env := { T := T0, kp := look [(0, [0, 1]), (1, [1, 2]), (2, [1]), (3, []), (4, [1])] }
attribute [local push_cast] E159
theorem szItem_run (a : Item) (x : Int) (x0 : 0 ≤ x) (x1 : x ≤ 1048576) (hb : bdItem a) : Does Tryz.prog 159 [.ag (itemC false a), .sc (.int .i64 x)] (.sc (.int .i64 (szItem a x)), []) := by
  refine does_of (E := E159) (rs := [.tmp 4]) (lent := []) tOk rfl Tryz.func159 rfl (by decide) rfl rfl (Nat.le_of_ble_eq_true rfl) (Nat.le_of_ble_eq_true rfl) ?_
  unfold bdItem at hb
  have b0 : a.t.size ≤ 9223372036854775807 := hb
  by_cases n0 : x - a.t.size < 0
  · have hv : szItem a x = -1 := by unfold szItem; rw [if_pos n0]
    (simp -dsimp (disch := first | omega | (simp only [wr_id, hv, LR] <;> omega) | fail) only [push_cast, wr_id, hv, simprocAttr, -Nat.reduceSubDiff]) <;> (repeat (refine (aw_draw (by kernel_rfl)).2 ?_; simp -dsimp (disch := first | omega | (simp only [wr_id, hv, LR] <;> omega) | fail) only [push_cast, wr_id, hv, simprocAttr, -Nat.reduceSubDiff]))
  have hv : szItem a x = x - a.t.size := by unfold szItem; rw [if_neg n0]
  (simp -dsimp (disch := first | omega | (simp only [wr_id, hv, LR] <;> omega) | fail) only [push_cast, wr_id, hv, simprocAttr, -Nat.reduceSubDiff]) <;> (repeat (refine (aw_draw (by kernel_rfl)).2 ?_; simp -dsimp (disch := first | omega | (simp only [wr_id, hv, LR] <;> omega) | fail) only [push_cast, wr_id, hv, simprocAttr, -Nat.reduceSubDiff]))
def E121 : Env := { T := T0, kp := look [(0, [0, 1]), (1, [0, 1]), (2, [0, 1]), (3, []), (4, [0, 1]), (5, [0, 1, 5]), (6, [0, 1, 5]), (7, [0, 1, 5]), (8, [0, 1, 5]), (9, []), (10, [1])] }
attribute [local push_cast] E121
theorem szItemS (l : List Item) (x : Int) (x0 : 0 ≤ x) (x1 : x ≤ 1048576) (hb : bdL bdItem l) : Does Tryz.prog 121 [.sl false 2 (l.map (itemC false)), .sc (.int .i64 x)] (.sc (.int .i64 (szL szItem l x)), []) := by
  refine does_of (E := E121) (rs := [.tmp 4]) (lent := []) tOk rfl Tryz.func121 rfl (by decide) rfl rfl (Nat.le_of_ble_eq_true rfl) (Nat.le_of_ble_eq_true rfl) ?_
  have hb1 := hb.1
  by_cases h0 : x - l.length < 0
  · simp -dsimp (disch := first | omega | (simp only [wr_id, szL, h0, LR] <;> omega) | fail) only [push_cast, wr_id, szL, h0, simprocAttr, -Nat.reduceSubDiff]
  rw [show szL szItem l x = szG szItem l (x - l.length) by unfold szL; rw [if_neg h0]]
  generalize hM : szG szItem l (x - l.length) = M
  simp -dsimp (disch := first | omega | (simp only [wr_id, LR] <;> omega) | fail) only [push_cast, wr_id, simprocAttr, -Nat.reduceSubDiff]
  refine loop_ind (α := Nat × Int) (fun p => p.1 ≤ l.length ∧ 0 ≤ p.2 ∧ p.2 ≤ x ∧ szG szItem (l.drop p.1) p.2 = M) (fun p => ⟨[(0, .sl false 2 (l.map (itemC false))), (1, .sc (.int .i64 p.2)), (5, .sc (.int .i64 p.1))], [], 1⟩) (fun p => l.length - p.1) (0, x - l.length) ⟨Nat.zero_le _, by omega, by omega, hM⟩ ?_ ?_
  · simp -dsimp (disch := first | omega | (simp only [LR] <;> omega) | fail) only [push_cast, simprocAttr, -Nat.reduceSubDiff]
  rintro ⟨i, y⟩ ⟨hi, hy0, hy1, hy⟩ ih
  dsimp only at hi hy0 hy1 hy
  by_cases h : i < l.length
  · obtain ⟨s, hx⟩ := ex_get h
    rw [drop_step hx, szG] at hy
    (simp -dsimp (disch := first | omega | (simp only [hx, LR] <;> omega) | fail) only [push_cast, hx, simprocAttr, -Nat.reduceSubDiff]) <;> (repeat (refine (aw_draw (by kernel_rfl)).2 ?_; simp -dsimp (disch := first | omega | (simp only [hx, LR] <;> omega) | fail) only [push_cast, hx, simprocAttr, -Nat.reduceSubDiff]))
    refine callC (szItem_run s y hy0 (by omega) (hb.2 s (List.mem_of_getElem? hx))) ?_
    by_cases h2 : szItem s y < 0
    · rw [if_pos h2] at hy
      simp -dsimp (disch := first | omega | (simp only [← hy, LR] <;> omega) | fail) only [push_cast, ← hy, simprocAttr, -Nat.reduceSubDiff]
    · rw [if_neg h2] at hy
      have := szItem_ok s y (by omega)
      simp -dsimp (disch := first | omega | (simp only [LR] <;> omega) | fail) only [push_cast, simprocAttr, -Nat.reduceSubDiff]
      refine ih (i + 1, szItem s y) _ (by simp; omega) ⟨h, by simp only []; omega, by simp only []; omega, hy⟩ ?_
      simp -dsimp (disch := first | omega | (simp only [wr_id, LR] <;> omega) | fail) only [push_cast, wr_id, simprocAttr, -Nat.reduceSubDiff]
  · rw [List.drop_eq_nil_of_le (by omega), szG] at hy
    simp -dsimp (disch := first | omega | (simp only [hy, LR] <;> omega) | fail) only [push_cast, hy, simprocAttr, -Nat.reduceSubDiff]
def E160 : Env := { T := T0, kp := look [(0, [0]), (1, [1, 2]), (2, [1, 2, 3]), (3, [1, 2, 3]), (4, [2, 3])] }
attribute [local push_cast] E160
theorem toItem_run (x : Item) (hx : okItem x) : Does Tryz.prog 160 [.ag (itemC false x)] (.ag (itemC true x), []) := by
  refine does_of (E := E160) (rs := [.cell 2 37]) (lent := []) tOk rfl Tryz.func160 rfl (by decide) rfl rfl (Nat.le_of_ble_eq_true rfl) (Nat.le_of_ble_eq_true rfl) ?_
  (simp -dsimp (disch := first | omega | (simp only [LR] <;> omega) | fail) only [push_cast, simprocAttr, -Nat.reduceSubDiff]) <;> (repeat (refine (aw_draw (by kernel_rfl)).2 ?_; simp -dsimp (disch := first | omega | (simp only [LR] <;> omega) | fail) only [push_cast, simprocAttr, -Nat.reduceSubDiff]))
def E124 : Env := { T := T0, kp := look [(0, [0]), (1, [0]), (2, [0, 3]), (3, [0, 3, 4]), (4, [0, 3, 4]), (5, [0, 3, 4]), (6, [3])] }
attribute [local push_cast] E124
theorem toItemS (l : List Item) (hl : okL okItem l) : Does Tryz.prog 124 [.sl false 2 (l.map (itemC false))] (.sl true 2 (l.map (itemC true)), []) := by
  refine does_of (E := E124) (rs := [.tmp 2]) (lent := []) tOk rfl Tryz.func124 rfl (by decide) rfl rfl (Nat.le_of_ble_eq_true rfl) (Nat.le_of_ble_eq_true rfl) ?_
  have hl1 := hl.1
  obtain ⟨Z, hZ⟩ : ∃ Z : Item, Z = ⟨em, 0⟩ := ⟨_, rfl⟩
  have hz : ∀ k, List.replicate k (itemC true Z) = (List.replicate k Z).map (itemC true) := fun k => by simp
  simp -dsimp (disch := first | omega | (simp only [LR] <;> omega) | fail) only [push_cast, simprocAttr, -Nat.reduceSubDiff]
  refine loop_ind (α := Nat) (fun i => i ≤ l.length) (fun i => ⟨[(0, .sl false 2 (l.map (itemC false))), (3, .ow 1 0 l.length), (4, .sc (.int .i64 i))], [(1, .ar 2 0 ((l.take i ++ (List.replicate l.length Z).drop i).map (itemC true)))], 2⟩) (fun i => l.length - i) 0 (Nat.zero_le _) ?_ ?_
  · simp -dsimp (disch := first | omega | (simp only [List.take_zero, List.drop_zero, List.map_replicate, hZ, em, LR] <;> omega) | fail) only [push_cast, List.take_zero, List.drop_zero, List.map_replicate, hZ, em, simprocAttr, -Nat.reduceSubDiff]
  intro i hi ih
  by_cases h : i < l.length
  · obtain ⟨s, hx⟩ := ex_get h
    have hw := get_over (a := l) (b := List.replicate l.length Z) (by simp) hi
    rw [List.getElem?_replicate, if_pos h] at hw
    have ee := congrArg (List.map (itemC true)) (set_over (b := List.replicate l.length Z) (by simp) hx)
    rw [List.map_set] at ee
    (simp -dsimp (disch := first | omega | (simp only [hx, LR] <;> omega) | fail) only [push_cast, hx, simprocAttr, -Nat.reduceSubDiff]) <;> (repeat (refine (aw_draw (by kernel_rfl)).2 ?_; simp -dsimp (disch := first | omega | (simp only [hx, LR] <;> omega) | fail) only [push_cast, hx, simprocAttr, -Nat.reduceSubDiff]))
    refine callC (toItem_run s (hl.2 s (List.mem_of_getElem? hx))) ?_
    (simp -dsimp (disch := first | omega | (simp only [hw, LR] <;> omega) | fail) only [push_cast, hw, simprocAttr, -Nat.reduceSubDiff]) <;> (repeat (refine (aw_draw (by kernel_rfl)).2 ?_; simp -dsimp (disch := first | omega | (simp only [hw, LR] <;> omega) | fail) only [push_cast, hw, simprocAttr, -Nat.reduceSubDiff]))
    refine ih (i + 1) _ (by omega) h ?_
    unfold itemC at ee ⊢
    simp -dsimp (disch := first | omega | (simp only [wr_id, ee, LR] <;> omega) | fail) only [push_cast, wr_id, ee, simprocAttr, -Nat.reduceSubDiff]
  · have hn : i = l.length := by omega
    subst hn
    simp -dsimp (disch := first | omega | (simp only [List.take_length, List.drop_eq_nil_of_le, LR] <;> omega) | fail) only [push_cast, List.take_length, List.drop_eq_nil_of_le, simprocAttr, -Nat.reduceSubDiff]
end Go.Proofs.YtkkmgjhfjhcdmaaGreatDoor.Mx

/- The laws' helpers run (By fam.py of this session.) -/
namespace Go.Proofs.YtkkmgjhfjhcdmaaGreatDoor.Mx
set_option linter.all false
open Go Go.RowKit Go.Proofs
set_option linter.unusedSimpArgs false
set_option linter.unusedVariables false
def E82 : Env := { T := T0, kp := look [(0, [0, 1]), (1, [1, 2]), (2, [1, 2]), (3, []), (4, [1, 2]), (5, [1]), (6, []), (7, [1])] }
attribute [local push_cast] E82
theorem szStore_run (a : Store) (x : Int) (x0 : 0 ≤ x) (x1 : x ≤ 1048576) (hb : bdStore a) : Does Tryz.prog 82 [.ag (storeC false a), .sc (.int .i64 x)] (.sc (.int .i64 (szStore a x)), []) := by
  refine does_of (E := E82) (rs := [.tmp 4]) (lent := []) tOk rfl Tryz.func82 rfl (by decide) rfl rfl (Nat.le_of_ble_eq_true rfl) (Nat.le_of_ble_eq_true rfl) ?_
  unfold bdStore at hb
  (simp -dsimp (disch := first | omega | (simp only [wr_id, LR] <;> omega) | fail) only [push_cast, wr_id, simprocAttr, -Nat.reduceSubDiff]) <;> (repeat (refine (aw_draw (by kernel_rfl)).2 ?_; simp -dsimp (disch := first | omega | (simp only [wr_id, LR] <;> omega) | fail) only [push_cast, wr_id, simprocAttr, -Nat.reduceSubDiff]))
  refine callC (szItemS a.I (x) (by omega) (by omega) hb.1) ?_
  by_cases n0 : szL szItem a.I (x) < 0
  · have hv : szStore a x = -1 := by unfold szStore; rw [if_pos n0]
    (simp -dsimp (disch := first | omega | (simp only [wr_id, hv, LR] <;> omega) | fail) only [push_cast, wr_id, hv, simprocAttr, -Nat.reduceSubDiff]) <;> (repeat (refine (aw_draw (by kernel_rfl)).2 ?_; simp -dsimp (disch := first | omega | (simp only [wr_id, hv, LR] <;> omega) | fail) only [push_cast, wr_id, hv, simprocAttr, -Nat.reduceSubDiff]))
  have q0 := szL_ok szItem_ok a.I (x) (by omega)
  (simp -dsimp (disch := first | omega | (simp only [wr_id, LR] <;> omega) | fail) only [push_cast, wr_id, simprocAttr, -Nat.reduceSubDiff]) <;> (repeat (refine (aw_draw (by kernel_rfl)).2 ?_; simp -dsimp (disch := first | omega | (simp only [wr_id, LR] <;> omega) | fail) only [push_cast, wr_id, simprocAttr, -Nat.reduceSubDiff]))
  refine callC (szStringS a.P (szL szItem a.I (x)) (by omega) (by omega) hb.2) ?_
  by_cases n1 : szL szStr a.P (szL szItem a.I (x)) < 0
  · have hv : szStore a x = -1 := by unfold szStore; rw [if_neg n0]; rw [if_pos n1]
    (simp -dsimp (disch := first | omega | (simp only [wr_id, hv, LR] <;> omega) | fail) only [push_cast, wr_id, hv, simprocAttr, -Nat.reduceSubDiff]) <;> (repeat (refine (aw_draw (by kernel_rfl)).2 ?_; simp -dsimp (disch := first | omega | (simp only [wr_id, hv, LR] <;> omega) | fail) only [push_cast, wr_id, hv, simprocAttr, -Nat.reduceSubDiff]))
  have q1 := szL_ok szStr_ok a.P (szL szItem a.I (x)) (by omega)
  have hv : szStore a x = szL szStr a.P (szL szItem a.I (x)) := by unfold szStore; rw [if_neg n0]; rw [if_neg n1]
  (simp -dsimp (disch := first | omega | (simp only [wr_id, hv, LR] <;> omega) | fail) only [push_cast, wr_id, hv, simprocAttr, -Nat.reduceSubDiff]) <;> (repeat (refine (aw_draw (by kernel_rfl)).2 ?_; simp -dsimp (disch := first | omega | (simp only [wr_id, hv, LR] <;> omega) | fail) only [push_cast, wr_id, hv, simprocAttr, -Nat.reduceSubDiff]))
def E88 : Env := { T := T0, kp := look [(0, [0]), (1, [1, 2]), (2, [1, 2, 3]), (3, [1, 2, 3]), (4, [1, 2, 3]), (5, [1, 2, 3]), (6, [2, 3])] }
attribute [local push_cast] E88
theorem toStore_run (x : Store) (hx : okStore x) : Does Tryz.prog 88 [.ag (storeC false x)] (.ag (storeC true x), []) := by
  refine does_of (E := E88) (rs := [.cell 2 26]) (lent := []) tOk rfl Tryz.func88 rfl (by decide) rfl rfl (Nat.le_of_ble_eq_true rfl) (Nat.le_of_ble_eq_true rfl) ?_
  (simp -dsimp (disch := first | omega | (simp only [LR] <;> omega) | fail) only [push_cast, simprocAttr, -Nat.reduceSubDiff]) <;> (repeat (refine (aw_draw (by kernel_rfl)).2 ?_; simp -dsimp (disch := first | omega | (simp only [LR] <;> omega) | fail) only [push_cast, simprocAttr, -Nat.reduceSubDiff]))
  refine callC (toItemS x.I hx.1) ?_
  (simp -dsimp (disch := first | omega | (simp only [LR] <;> omega) | fail) only [push_cast, simprocAttr, -Nat.reduceSubDiff]) <;> (repeat (refine (aw_draw (by kernel_rfl)).2 ?_; simp -dsimp (disch := first | omega | (simp only [LR] <;> omega) | fail) only [push_cast, simprocAttr, -Nat.reduceSubDiff]))
  refine callC (toStringS x.P hx.2) ?_
  (simp -dsimp (disch := first | omega | (simp only [LR] <;> omega) | fail) only [push_cast, simprocAttr, -Nat.reduceSubDiff]) <;> (repeat (refine (aw_draw (by kernel_rfl)).2 ?_; simp -dsimp (disch := first | omega | (simp only [LR] <;> omega) | fail) only [push_cast, simprocAttr, -Nat.reduceSubDiff]))
def E92 : Env := { T := T0, kp := look [(0, [0, 1]), (1, [2, 3]), (2, []), (3, [2, 3]), (4, []), (5, [2, 3]), (6, []), (7, [2, 3]), (8, []), (9, [])] }
attribute [local push_cast] E92
theorem eqStore (x y : Store) (hy : okStore y) : Does Tryz.prog 92 [.ag (storeC false x), .ag (storeC false y)] (.sc (.bool (decide (x = y))), []) := by
  refine does_of (E := E92) (rs := [.tmp 4]) (lent := []) tOk rfl Tryz.func92 rfl (by decide) rfl rfl (Nat.le_of_ble_eq_true rfl) (Nat.le_of_ble_eq_true rfl) ?_
  by_cases e0 : x.w = y.w
  rotate_left
  · have hn : x ≠ y := fun h => e0 (by rw [h])
    (simp -dsimp (disch := first | omega | (simp only [e0, hn, LR] <;> omega) | fail) only [push_cast, e0, hn, simprocAttr, -Nat.reduceSubDiff]) <;> (repeat (refine (aw_draw (by kernel_rfl)).2 ?_; simp -dsimp (disch := first | omega | (simp only [e0, hn, LR] <;> omega) | fail) only [push_cast, e0, hn, simprocAttr, -Nat.reduceSubDiff]))
  (simp -dsimp (disch := first | omega | (simp only [e0, LR] <;> omega) | fail) only [push_cast, e0, simprocAttr, -Nat.reduceSubDiff]) <;> (repeat (refine (aw_draw (by kernel_rfl)).2 ?_; simp -dsimp (disch := first | omega | (simp only [e0, LR] <;> omega) | fail) only [push_cast, e0, simprocAttr, -Nat.reduceSubDiff]))
  by_cases e1 : x.r = y.r
  rotate_left
  · have hn : x ≠ y := fun h => e1 (by rw [h])
    (simp -dsimp (disch := first | omega | (simp only [e1, hn, LR] <;> omega) | fail) only [push_cast, e1, hn, simprocAttr, -Nat.reduceSubDiff]) <;> (repeat (refine (aw_draw (by kernel_rfl)).2 ?_; simp -dsimp (disch := first | omega | (simp only [e1, hn, LR] <;> omega) | fail) only [push_cast, e1, hn, simprocAttr, -Nat.reduceSubDiff]))
  (simp -dsimp (disch := first | omega | (simp only [e1, LR] <;> omega) | fail) only [push_cast, e1, simprocAttr, -Nat.reduceSubDiff]) <;> (repeat (refine (aw_draw (by kernel_rfl)).2 ?_; simp -dsimp (disch := first | omega | (simp only [e1, LR] <;> omega) | fail) only [push_cast, e1, simprocAttr, -Nat.reduceSubDiff]))
  refine callC (eqItemS x.I y.I hy.1) ?_
  by_cases e2 : x.I = y.I
  rotate_left
  · have hn : x ≠ y := fun h => e2 (by rw [h])
    (simp -dsimp (disch := first | omega | (simp only [e2, hn, LR] <;> omega) | fail) only [push_cast, e2, hn, simprocAttr, -Nat.reduceSubDiff]) <;> (repeat (refine (aw_draw (by kernel_rfl)).2 ?_; simp -dsimp (disch := first | omega | (simp only [e2, hn, LR] <;> omega) | fail) only [push_cast, e2, hn, simprocAttr, -Nat.reduceSubDiff]))
  (simp -dsimp (disch := first | omega | (simp only [e2, LR] <;> omega) | fail) only [push_cast, e2, simprocAttr, -Nat.reduceSubDiff]) <;> (repeat (refine (aw_draw (by kernel_rfl)).2 ?_; simp -dsimp (disch := first | omega | (simp only [e2, LR] <;> omega) | fail) only [push_cast, e2, simprocAttr, -Nat.reduceSubDiff]))
  refine callC (eqStringS x.P y.P hy.2) ?_
  by_cases e3 : x.P = y.P
  rotate_left
  · have hn : x ≠ y := fun h => e3 (by rw [h])
    (simp -dsimp (disch := first | omega | (simp only [e3, hn, LR] <;> omega) | fail) only [push_cast, e3, hn, simprocAttr, -Nat.reduceSubDiff]) <;> (repeat (refine (aw_draw (by kernel_rfl)).2 ?_; simp -dsimp (disch := first | omega | (simp only [e3, hn, LR] <;> omega) | fail) only [push_cast, e3, hn, simprocAttr, -Nat.reduceSubDiff]))
  have hn : x = y := by cases x; cases y; simp_all
  (simp -dsimp (disch := first | omega | (simp only [e3, hn, LR] <;> omega) | fail) only [push_cast, e3, hn, simprocAttr, -Nat.reduceSubDiff]) <;> (repeat (refine (aw_draw (by kernel_rfl)).2 ?_; simp -dsimp (disch := first | omega | (simp only [e3, hn, LR] <;> omega) | fail) only [push_cast, e3, hn, simprocAttr, -Nat.reduceSubDiff]))
def E94 : Env := { T := T0, kp := look [(0, [0, 1]), (1, [2, 3]), (2, []), (3, [2, 3]), (4, []), (5, [2, 3]), (6, []), (7, [2, 3]), (8, []), (9, [2, 3]), (10, []), (11, [])] }
attribute [local push_cast] E94
theorem eqMessage (x y : Message) (hy : okMessage y) : Does Tryz.prog 94 [.ag (messageC false x), .ag (messageC false y)] (.sc (.bool (decide (x = y))), []) := by
  refine does_of (E := E94) (rs := [.tmp 4]) (lent := []) tOk rfl Tryz.func94 rfl (by decide) rfl rfl (Nat.le_of_ble_eq_true rfl) (Nat.le_of_ble_eq_true rfl) ?_
  by_cases e0 : x.fr = y.fr
  rotate_left
  · have hn : x ≠ y := fun h => e0 (by rw [h])
    (simp -dsimp (disch := first | omega | (simp only [e0, hn, LR] <;> omega) | fail) only [push_cast, e0, hn, simprocAttr, -Nat.reduceSubDiff]) <;> (repeat (refine (aw_draw (by kernel_rfl)).2 ?_; simp -dsimp (disch := first | omega | (simp only [e0, hn, LR] <;> omega) | fail) only [push_cast, e0, hn, simprocAttr, -Nat.reduceSubDiff]))
  (simp -dsimp (disch := first | omega | (simp only [e0, LR] <;> omega) | fail) only [push_cast, e0, simprocAttr, -Nat.reduceSubDiff]) <;> (repeat (refine (aw_draw (by kernel_rfl)).2 ?_; simp -dsimp (disch := first | omega | (simp only [e0, LR] <;> omega) | fail) only [push_cast, e0, simprocAttr, -Nat.reduceSubDiff]))
  by_cases e1 : x.to = y.to
  rotate_left
  · have hn : x ≠ y := fun h => e1 (by rw [h])
    (simp -dsimp (disch := first | omega | (simp only [e1, hn, LR] <;> omega) | fail) only [push_cast, e1, hn, simprocAttr, -Nat.reduceSubDiff]) <;> (repeat (refine (aw_draw (by kernel_rfl)).2 ?_; simp -dsimp (disch := first | omega | (simp only [e1, hn, LR] <;> omega) | fail) only [push_cast, e1, hn, simprocAttr, -Nat.reduceSubDiff]))
  (simp -dsimp (disch := first | omega | (simp only [e1, LR] <;> omega) | fail) only [push_cast, e1, simprocAttr, -Nat.reduceSubDiff]) <;> (repeat (refine (aw_draw (by kernel_rfl)).2 ?_; simp -dsimp (disch := first | omega | (simp only [e1, LR] <;> omega) | fail) only [push_cast, e1, simprocAttr, -Nat.reduceSubDiff]))
  by_cases e2 : x.sum = y.sum
  rotate_left
  · have hn : x ≠ y := fun h => e2 (by rw [h])
    (simp -dsimp (disch := first | omega | (simp only [e2, hn, LR] <;> omega) | fail) only [push_cast, e2, hn, simprocAttr, -Nat.reduceSubDiff]) <;> (repeat (refine (aw_draw (by kernel_rfl)).2 ?_; simp -dsimp (disch := first | omega | (simp only [e2, hn, LR] <;> omega) | fail) only [push_cast, e2, hn, simprocAttr, -Nat.reduceSubDiff]))
  (simp -dsimp (disch := first | omega | (simp only [e2, LR] <;> omega) | fail) only [push_cast, e2, simprocAttr, -Nat.reduceSubDiff]) <;> (repeat (refine (aw_draw (by kernel_rfl)).2 ?_; simp -dsimp (disch := first | omega | (simp only [e2, LR] <;> omega) | fail) only [push_cast, e2, simprocAttr, -Nat.reduceSubDiff]))
  by_cases e3 : (x.has == y.has) = true
  rotate_left
  · have hn : x ≠ y := fun h => e3 (by rw [h]; simp)
    have e3 := (Bool.not_eq_true _).mp e3
    (simp -dsimp (disch := first | omega | (simp only [e3, hn, LR] <;> omega) | fail) only [push_cast, e3, hn, simprocAttr, -Nat.reduceSubDiff]) <;> (repeat (refine (aw_draw (by kernel_rfl)).2 ?_; simp -dsimp (disch := first | omega | (simp only [e3, hn, LR] <;> omega) | fail) only [push_cast, e3, hn, simprocAttr, -Nat.reduceSubDiff]))
  (simp -dsimp (disch := first | omega | (simp only [e3, LR] <;> omega) | fail) only [push_cast, e3, simprocAttr, -Nat.reduceSubDiff]) <;> (repeat (refine (aw_draw (by kernel_rfl)).2 ?_; simp -dsimp (disch := first | omega | (simp only [e3, LR] <;> omega) | fail) only [push_cast, e3, simprocAttr, -Nat.reduceSubDiff]))
  by_cases e4 : x.tx = y.tx
  rotate_left
  · have hn : x ≠ y := fun h => e4 (by rw [h])
    (simp -dsimp (disch := first | omega | (simp only [e4, hn, LR] <;> omega) | fail) only [push_cast, e4, hn, simprocAttr, -Nat.reduceSubDiff]) <;> (repeat (refine (aw_draw (by kernel_rfl)).2 ?_; simp -dsimp (disch := first | omega | (simp only [e4, hn, LR] <;> omega) | fail) only [push_cast, e4, hn, simprocAttr, -Nat.reduceSubDiff]))
  have hn : x = y := by cases x; cases y; simp_all
  (simp -dsimp (disch := first | omega | (simp only [e4, hn, LR] <;> omega) | fail) only [push_cast, e4, hn, simprocAttr, -Nat.reduceSubDiff]) <;> (repeat (refine (aw_draw (by kernel_rfl)).2 ?_; simp -dsimp (disch := first | omega | (simp only [e4, hn, LR] <;> omega) | fail) only [push_cast, e4, hn, simprocAttr, -Nat.reduceSubDiff]))
def E35 : Env := { T := T0, kp := look [(0, [0, 1]), (1, [0, 1]), (2, []), (3, [0, 1]), (4, [0, 1, 5]), (5, [0, 1, 5]), (6, [0, 1, 5]), (7, []), (8, [])], dp := look2 [(6, [[], [], [0, 1], [0, 1, 2], [], [], [4, 5], [4, 5, 6], [0, 1, 2, 3, 4, 5, 6, 7], [0, 1, 2, 3, 4, 5, 6, 7, 8]])] }
attribute [local push_cast] E35
theorem eqMessageS (a b : List Message) (hb : okL okMessage b) : Does Tryz.prog 35 [.sl false 5 (a.map (messageC false)), .sl false 5 (b.map (messageC false))] (.sc (.bool (decide (a = b))), []) := by
  refine does_of (E := E35) (rs := [.tmp 4]) (lent := []) tOk rfl Tryz.func35 rfl (by decide) rfl rfl (Nat.le_of_ble_eq_true rfl) (Nat.le_of_ble_eq_true rfl) ?_
  have hb1 := hb.1
  by_cases hl : a.length = b.length
  rotate_left
  · have : a ≠ b := fun h => hl (by rw [h])
    simp -dsimp (disch := first | omega | (simp only [this, LR] <;> omega) | fail) only [push_cast, this, simprocAttr, -Nat.reduceSubDiff]
  simp -dsimp (disch := first | omega | (simp only [hl, LR] <;> omega) | fail) only [push_cast, hl, simprocAttr, -Nat.reduceSubDiff]
  refine loop_ind (α := Nat) (fun i => i ≤ b.length ∧ a.take i = b.take i) (fun i => ⟨[(0, .sl false 5 (a.map (messageC false))), (1, .sl false 5 (b.map (messageC false))), (5, .sc (.int .i64 i))], [], 1⟩) (fun i => b.length - i) 0 ⟨Nat.zero_le _, rfl⟩ ?_ ?_
  · simp -dsimp (disch := first | omega | (simp only [LR] <;> omega) | fail) only [push_cast, simprocAttr, -Nat.reduceSubDiff]
  intro i hi ih
  by_cases h : i < b.length
  · obtain ⟨x, hx⟩ := ex_get (hl ▸ h : i < a.length)
    obtain ⟨y, hy⟩ := ex_get h
    (simp -dsimp (disch := first | omega | (simp only [hx, hy, LR] <;> omega) | fail) only [push_cast, hx, hy, simprocAttr, -Nat.reduceSubDiff]) <;> (repeat (refine (aw_draw (by kernel_rfl)).2 ?_; simp -dsimp (disch := first | omega | (simp only [hx, hy, LR] <;> omega) | fail) only [push_cast, hx, hy, simprocAttr, -Nat.reduceSubDiff]))
    refine callC (eqMessage x y (hb.2 y (List.mem_of_getElem? hy))) ?_
    by_cases e : x = y
    · simp -dsimp (disch := first | omega | (simp only [e, LR] <;> omega) | fail) only [push_cast, e, simprocAttr, -Nat.reduceSubDiff]
      refine ih (i + 1) _ (by omega) ⟨h, by rw [take_step hx, take_step hy, hi.2, e]⟩ ?_
      simp -dsimp (disch := first | omega | (simp only [wr_id, LR] <;> omega) | fail) only [push_cast, wr_id, simprocAttr, -Nat.reduceSubDiff]
    · have : a ≠ b := fun h' => e (by rw [h', hy] at hx; cases hx; rfl)
      simp -dsimp (disch := first | omega | (simp only [e, this, LR] <;> omega) | fail) only [push_cast, e, this, simprocAttr, -Nat.reduceSubDiff]
  · have : a = b := by
      have := hi.2
      rwa [List.take_of_length_le (by omega), List.take_of_length_le (by omega)] at this
    simp -dsimp (disch := first | omega | (simp only [this, LR] <;> omega) | fail) only [push_cast, this, simprocAttr, -Nat.reduceSubDiff]
end Go.Proofs.YtkkmgjhfjhcdmaaGreatDoor.Mx

/- The laws' helpers run (By fam.py of this session.) -/
namespace Go.Proofs.YtkkmgjhfjhcdmaaGreatDoor.Mx
set_option linter.all false
open Go Go.RowKit Go.Proofs
set_option linter.unusedSimpArgs false
set_option linter.unusedVariables false
def E132 : Env := { T := T0, kp := look [(0, [0, 1]), (1, [0, 1]), (2, [0, 1, 5]), (3, [0, 1, 5]), (4, [0, 1, 5]), (5, [0, 1, 5]), (6, [0, 1, 5]), (7, [0, 1, 5]), (8, [0, 1])] }
attribute [local push_cast] E132
theorem markItemS (l : List Item) (k : Int) (k0 : 0 ≤ k) (k1 : k + cnG cnItem l < 2305843009213693952) : Does Tryz.prog 132 [.sl true 2 (l.map (itemC true)), .sc (.int .i64 k)] (.sc (.int .i64 (k + cnG cnItem l)), [some (.sl true 2 ((mkG mkItem cnItem l k).map (itemC true)))]) := by
  refine does_of (E := E132) (rs := [.tmp 4]) (lent := [true]) tOk rfl Tryz.func132 rfl (by decide) rfl rfl (Nat.le_of_ble_eq_true rfl) (Nat.le_of_ble_eq_true rfl) ?_
  have hM := mkG_len mkItem cnItem l k
  generalize hm : mkG mkItem cnItem l k = M at hM ⊢
  have hlen : (l.length : Int) ≤ cnG cnItem l := cnG_len (fun a => by have := cnItem_nn a; have := cnItem_1 a; omega) l
  simp -dsimp (disch := first | omega | (simp only [LR] <;> omega) | fail) only [push_cast, simprocAttr, -Nat.reduceSubDiff]
  refine loop_ind (α := Nat) (fun i => i ≤ l.length) (fun i => ⟨[(0, .ow 1 0 l.length), (1, .sc (.int .i64 (k + cnG cnItem (l.take i)))), (5, .sc (.int .i64 i))], [(1, .ar 2 0 ((M.take i ++ l.drop i).map (itemC true)))], 2⟩) (fun i => l.length - i) 0 (Nat.zero_le _) ?_ ?_
  · simp -dsimp (disch := first | omega | (simp only [Int.add_zero, List.take_zero, List.drop_zero, cnG, LR] <;> omega) | fail) only [push_cast, Int.add_zero, List.take_zero, List.drop_zero, cnG, simprocAttr, -Nat.reduceSubDiff]
  intro i hi ih
  by_cases h : i < l.length
  · obtain ⟨s, hx⟩ := ex_get h
    have hw := (get_over (a := M) (b := l) hM (by omega)).trans hx
    have hcs : cnItem s = 1 + 1 := rfl
    have hc : cnG cnItem (l.take (i + 1)) = cnG cnItem (l.take i) + cnItem s := by rw [take_step hx, cnG_app]; simp [cnG]
    have hle := cnG_app cnItem (l.take (i + 1)) (l.drop (i + 1))
    rw [List.take_append_drop] at hle
    have hnn := cnG_nn cnItem_nn (l.drop (i + 1))
    have hn0 := cnG_nn cnItem_nn (l.take i)
    have hy : M[i]? = some (mkItem s (k + cnG cnItem (l.take i))) := by rw [← hm, mkG_step hx]
    obtain ⟨K, hK⟩ : ∃ K, K = k + cnG cnItem (l.take i) := ⟨_, rfl⟩
    have hN : k + cnG cnItem (l.take (i + 1)) = K + 1 + 1 := by rw [hc, hcs]; omega
    rw [← hK] at hy
    have ee := congrArg (List.map (itemC true)) (set_over hM hy)
    rw [List.map_set] at ee
    simp -dsimp (disch := first | omega | (simp only [wr_id, hw, List.getElem?_set_self, List.set_set, List.getD_eq_getElem?_getD, ← hK, LR] <;> omega) | fail) only [push_cast, wr_id, hw, List.getElem?_set_self, List.set_set, List.getD_eq_getElem?_getD, ← hK, simprocAttr, -Nat.reduceSubDiff]
    refine callC (markText _ (by omega)) ?_
    simp -dsimp (disch := first | omega | (simp only [wr_id, hw, List.getElem?_set_self, List.set_set, List.getD_eq_getElem?_getD, ← hK, LR] <;> omega) | fail) only [push_cast, wr_id, hw, List.getElem?_set_self, List.set_set, List.getD_eq_getElem?_getD, ← hK, simprocAttr, -Nat.reduceSubDiff]
    refine ih (i + 1) _ (by omega) h ?_
    rw [show itemC true (mkItem s K) = [.sc (.string (mtx (K))), .sc (.int .i64 (K + 1))] from rfl] at ee
    simp -dsimp (disch := first | omega | (simp only [wr_id, hN, ee, LR] <;> omega) | fail) only [push_cast, wr_id, hN, ee, simprocAttr, -Nat.reduceSubDiff]
  · have hn : i = l.length := by omega
    subst hn
    simp -dsimp (disch := first | omega | (simp only [List.take_of_length_le, List.drop_eq_nil_of_le, hM, Nat.le_refl, LR] <;> omega) | fail) only [push_cast, List.take_of_length_le, List.drop_eq_nil_of_le, hM, Nat.le_refl, simprocAttr, -Nat.reduceSubDiff]
def E134 : Env := { T := T0, kp := look [(0, [0, 1]), (1, [0, 1]), (2, [0, 1, 5]), (3, [0, 1, 5]), (4, [0, 1, 5]), (5, []), (6, [0, 1, 5]), (7, [0, 1, 5]), (8, []), (9, [0, 1, 5]), (10, [1])], dp := look2 [(4, [[], [], [0, 1], [0, 1, 2], [0, 1, 2, 3], [], [5], [0, 1, 2, 3, 4, 5, 6]])] }
attribute [local push_cast] E134
theorem heldItemS (l : List Item) (k : Int) (k0 : 0 ≤ k) (k1 : k + cnG cnItem l < 2305843009213693952) : Does Tryz.prog 134 [.sl false 2 (l.map (itemC false)), .sc (.int .i64 k)] (.sc (.int .i64 (hdG hdItem cnItem l k)), []) := by
  refine does_of (E := E134) (rs := [.tmp 4]) (lent := []) tOk rfl Tryz.func134 rfl (by decide) rfl rfl (Nat.le_of_ble_eq_true rfl) (Nat.le_of_ble_eq_true rfl) ?_
  generalize hm : hdG hdItem cnItem l k = M
  have hlen : (l.length : Int) ≤ cnG cnItem l := cnG_len (fun a => by have := cnItem_nn a; have := cnItem_1 a; omega) l
  simp -dsimp (disch := first | omega | (simp only [LR] <;> omega) | fail) only [push_cast, simprocAttr, -Nat.reduceSubDiff]
  refine loop_ind (α := Nat) (fun i => i ≤ l.length ∧ hdG hdItem cnItem (l.drop i) (k + cnG cnItem (l.take i)) = M) (fun i => ⟨[(0, .sl false 2 (l.map (itemC false))), (1, .sc (.int .i64 (k + cnG cnItem (l.take i)))), (5, .sc (.int .i64 i))], [], 1⟩) (fun i => l.length - i) 0 ⟨Nat.zero_le _, by simpa [cnG] using hm⟩ ?_ ?_
  · simp -dsimp (disch := first | omega | (simp only [Int.add_zero, List.take_zero, cnG, LR] <;> omega) | fail) only [push_cast, Int.add_zero, List.take_zero, cnG, simprocAttr, -Nat.reduceSubDiff]
  rintro i ⟨hi, hy⟩ ih
  by_cases h : i < l.length
  · obtain ⟨s, hx⟩ := ex_get h
    have hcs : cnItem s = 1 + 1 := rfl
    have hc : cnG cnItem (l.take (i + 1)) = cnG cnItem (l.take i) + cnItem s := by rw [take_step hx, cnG_app]; simp [cnG]
    have hle := cnG_app cnItem (l.take (i + 1)) (l.drop (i + 1))
    rw [List.take_append_drop] at hle
    have hnn := cnG_nn cnItem_nn (l.drop (i + 1))
    have hn0 := cnG_nn cnItem_nn (l.take i)
    obtain ⟨K, hK⟩ : ∃ K, K = k + cnG cnItem (l.take i) := ⟨_, rfl⟩
    have hN : k + cnG cnItem (l.take (i + 1)) = K + 1 + 1 := by rw [hc, hcs]; omega
    rw [← hK, drop_step hx, hdG] at hy
    (simp -dsimp (disch := first | omega | (simp only [wr_id, hx, ← hK, LR] <;> omega) | fail) only [push_cast, wr_id, hx, ← hK, simprocAttr, -Nat.reduceSubDiff]) <;> (repeat (refine (aw_draw (by kernel_rfl)).2 ?_; simp -dsimp (disch := first | omega | (simp only [wr_id, hx, ← hK, LR] <;> omega) | fail) only [push_cast, wr_id, hx, ← hK, simprocAttr, -Nat.reduceSubDiff]))
    refine callC (markText _ (by omega)) ?_
    by_cases e0 : s.t = mtx (K)
    rotate_left
    · rw [if_neg (by simp [hdItem, e0])] at hy
      (simp -dsimp (disch := first | omega | (simp only [wr_id, hx, ← hK, e0, ← hy, LR] <;> omega) | fail) only [push_cast, wr_id, hx, ← hK, e0, ← hy, simprocAttr, -Nat.reduceSubDiff]) <;> (repeat (refine (aw_draw (by kernel_rfl)).2 ?_; simp -dsimp (disch := first | omega | (simp only [wr_id, hx, ← hK, e0, ← hy, LR] <;> omega) | fail) only [push_cast, wr_id, hx, ← hK, e0, ← hy, simprocAttr, -Nat.reduceSubDiff]))
    by_cases e1 : s.u = K + 1
    rotate_left
    · rw [if_neg (by simp [hdItem, e1])] at hy
      (simp -dsimp (disch := first | omega | (simp only [wr_id, hx, ← hK, e0, e1, ← hy, LR] <;> omega) | fail) only [push_cast, wr_id, hx, ← hK, e0, e1, ← hy, simprocAttr, -Nat.reduceSubDiff]) <;> (repeat (refine (aw_draw (by kernel_rfl)).2 ?_; simp -dsimp (disch := first | omega | (simp only [wr_id, hx, ← hK, e0, e1, ← hy, LR] <;> omega) | fail) only [push_cast, wr_id, hx, ← hK, e0, e1, ← hy, simprocAttr, -Nat.reduceSubDiff]))
    rw [if_pos (by simp [hdItem, e0, e1])] at hy
    (simp -dsimp (disch := first | omega | (simp only [wr_id, hx, ← hK, e0, e1, LR] <;> omega) | fail) only [push_cast, wr_id, hx, ← hK, e0, e1, simprocAttr, -Nat.reduceSubDiff]) <;> (repeat (refine (aw_draw (by kernel_rfl)).2 ?_; simp -dsimp (disch := first | omega | (simp only [wr_id, hx, ← hK, e0, e1, LR] <;> omega) | fail) only [push_cast, wr_id, hx, ← hK, e0, e1, simprocAttr, -Nat.reduceSubDiff]))
    refine ih (i + 1) _ (by omega) ⟨h, by rw [hN, ← hy, hcs]; congr 1; omega⟩ ?_
    simp -dsimp (disch := first | omega | (simp only [wr_id, hN, LR] <;> omega) | fail) only [push_cast, wr_id, hN, simprocAttr, -Nat.reduceSubDiff]
  · rw [List.drop_eq_nil_of_le (by omega), hdG, List.take_of_length_le (by omega)] at hy
    simp -dsimp (disch := first | omega | (simp only [← hy, List.take_of_length_le, LR] <;> omega) | fail) only [push_cast, ← hy, List.take_of_length_le, simprocAttr, -Nat.reduceSubDiff]
def E95 : Env := { T := T0, kp := look [(0, [0, 1]), (1, [0, 1, 2]), (2, [0, 1, 2]), (3, [0, 1])], md := look3 [(1, 3, [1]), (2, 3, [1])] }
attribute [local push_cast] E95
theorem markStore_run (a : Store) (k : Int) (k0 : 0 ≤ k) (k1 : k + scnStore a < 2305843009213693952) : Does Tryz.prog 95 [.ag (storeC true a), .sc (.int .i64 k)] (.sc (.int .i64 (k + scnStore a)), [some (.ag (storeC true (smkStore a k)))]) := by
  refine does_of (E := E95) (rs := [.tmp 4]) (lent := [true]) tOk rfl Tryz.func95 rfl (by decide) rfl rfl (Nat.le_of_ble_eq_true rfl) (Nat.le_of_ble_eq_true rfl) ?_
  have h_I := cnG_nn (c := cnItem) cnItem_nn a.I
  have h_P := cnG_nn (c := c1) c1_nn a.P
  have hs : k + scnStore a = k + cnG cnItem a.I + cnG c1 a.P := by unfold scnStore; omega
  rw [hs] at k1 ⊢
  (simp -dsimp (disch := first | omega | (simp only [LR] <;> omega) | fail) only [push_cast, simprocAttr, -Nat.reduceSubDiff]) <;> (repeat (refine (aw_draw (by kernel_rfl)).2 ?_; simp -dsimp (disch := first | omega | (simp only [LR] <;> omega) | fail) only [push_cast, simprocAttr, -Nat.reduceSubDiff]))
  refine callC (markItemS a.I _ (by omega) (by omega)) ?_
  (simp -dsimp (disch := first | omega | (simp only [mkG_len, smkStore, LR] <;> omega) | fail) only [push_cast, mkG_len, smkStore, simprocAttr, -Nat.reduceSubDiff]) <;> (repeat (refine (aw_draw (by kernel_rfl)).2 ?_; simp -dsimp (disch := first | omega | (simp only [mkG_len, smkStore, LR] <;> omega) | fail) only [push_cast, mkG_len, smkStore, simprocAttr, -Nat.reduceSubDiff]))
  refine callC (markStringS a.P _ (by omega) (by omega)) ?_
  (simp -dsimp (disch := first | omega | (simp only [mkG_len, smkStore, LR] <;> omega) | fail) only [push_cast, mkG_len, smkStore, simprocAttr, -Nat.reduceSubDiff]) <;> (repeat (refine (aw_draw (by kernel_rfl)).2 ?_; simp -dsimp (disch := first | omega | (simp only [mkG_len, smkStore, LR] <;> omega) | fail) only [push_cast, mkG_len, smkStore, simprocAttr, -Nat.reduceSubDiff]))
def hsStore (a : Store) (k : Int) : Int := if shdStore a k = true then k + scnStore a else -1
def E98 : Env := { T := T0, kp := look [(0, [0, 1]), (1, [1, 2]), (2, [1, 2]), (3, []), (4, [1, 2]), (5, [1]), (6, []), (7, [1])] }
attribute [local push_cast] E98
theorem heldStore_run (a : Store) (k : Int) (k0 : 0 ≤ k) (k1 : k + scnStore a < 2305843009213693952) : Does Tryz.prog 98 [.ag (storeC false a), .sc (.int .i64 k)] (.sc (.int .i64 (hsStore a k)), []) := by
  refine does_of (E := E98) (rs := [.tmp 4]) (lent := []) tOk rfl Tryz.func98 rfl (by decide) rfl rfl (Nat.le_of_ble_eq_true rfl) (Nat.le_of_ble_eq_true rfl) ?_
  have := cnG_nn (c := cnItem) cnItem_nn a.I
  have := cnG_nn (c := c1) c1_nn a.P
  unfold hsStore
  have hs : k + scnStore a = k + cnG cnItem a.I + cnG c1 a.P := by unfold scnStore; omega
  rw [hs] at k1 ⊢
  (simp -dsimp (disch := first | omega | (simp only [wr_id, LR] <;> omega) | fail) only [push_cast, wr_id, simprocAttr, -Nat.reduceSubDiff]) <;> (repeat (refine (aw_draw (by kernel_rfl)).2 ?_; simp -dsimp (disch := first | omega | (simp only [wr_id, LR] <;> omega) | fail) only [push_cast, wr_id, simprocAttr, -Nat.reduceSubDiff]))
  refine callC (heldItemS a.I _ (by omega) (by omega)) ?_
  by_cases e0 : hdOk hdItem cnItem a.I (k) = true
  rotate_left
  · rw [if_neg (by simp [shdStore, e0])]
    have ev := hdOk_not (c := cnItem) cnItem_nn (by omega) ((Bool.not_eq_true _).mp e0)
    (simp -dsimp (disch := first | omega | (simp only [ev, LR] <;> omega) | fail) only [push_cast, ev, simprocAttr, -Nat.reduceSubDiff]) <;> (repeat (refine (aw_draw (by kernel_rfl)).2 ?_; simp -dsimp (disch := first | omega | (simp only [ev, LR] <;> omega) | fail) only [push_cast, ev, simprocAttr, -Nat.reduceSubDiff]))
  have e0v := hdOk_val e0
  (simp -dsimp (disch := first | omega | (simp only [wr_id, e0v, LR] <;> omega) | fail) only [push_cast, wr_id, e0v, simprocAttr, -Nat.reduceSubDiff]) <;> (repeat (refine (aw_draw (by kernel_rfl)).2 ?_; simp -dsimp (disch := first | omega | (simp only [wr_id, e0v, LR] <;> omega) | fail) only [push_cast, wr_id, e0v, simprocAttr, -Nat.reduceSubDiff]))
  refine callC (heldStringS a.P _ (by omega) (by omega)) ?_
  by_cases e1 : hdOk hdStr c1 a.P (k + cnG cnItem a.I) = true
  rotate_left
  · rw [if_neg (by simp [shdStore, e1])]
    have ev := hdOk_not (c := c1) c1_nn (by omega) ((Bool.not_eq_true _).mp e1)
    (simp -dsimp (disch := first | omega | (simp only [ev, LR] <;> omega) | fail) only [push_cast, ev, simprocAttr, -Nat.reduceSubDiff]) <;> (repeat (refine (aw_draw (by kernel_rfl)).2 ?_; simp -dsimp (disch := first | omega | (simp only [ev, LR] <;> omega) | fail) only [push_cast, ev, simprocAttr, -Nat.reduceSubDiff]))
  have e1v := hdOk_val e1
  rw [if_pos (by simp [shdStore, e0, e1])]
  (simp -dsimp (disch := first | omega | (simp only [wr_id, e1v, LR] <;> omega) | fail) only [push_cast, wr_id, e1v, simprocAttr, -Nat.reduceSubDiff]) <;> (repeat (refine (aw_draw (by kernel_rfl)).2 ?_; simp -dsimp (disch := first | omega | (simp only [wr_id, e1v, LR] <;> omega) | fail) only [push_cast, wr_id, e1v, simprocAttr, -Nat.reduceSubDiff]))
end Go.Proofs.YtkkmgjhfjhcdmaaGreatDoor.Mx

/- The laws' helpers run (By fam.py of this session.) -/
namespace Go.Proofs.YtkkmgjhfjhcdmaaGreatDoor.Mx
set_option linter.all false
open Go Go.RowKit Go.Proofs
set_option linter.unusedSimpArgs false
set_option linter.unusedVariables false
def E123 : Env := { T := T0, kp := look [(0, [0, 1]), (1, [1, 2]), (2, [1, 2]), (3, []), (4, [1, 2]), (5, [1]), (6, []), (7, [1])] }
attribute [local push_cast] E123
theorem szPeer_run (a : Peer) (x : Int) (x0 : 0 ≤ x) (x1 : x ≤ 1048576) (hb : bdPeer a) : Does Tryz.prog 123 [.ag (peerC false a), .sc (.int .i64 x)] (.sc (.int .i64 (szPeer a x)), []) := by
  refine does_of (E := E123) (rs := [.tmp 4]) (lent := []) tOk rfl Tryz.func123 rfl (by decide) rfl rfl (Nat.le_of_ble_eq_true rfl) (Nat.le_of_ble_eq_true rfl) ?_
  unfold bdPeer at hb
  have b0 : a.ask.size ≤ 9223372036854775807 := hb.1
  by_cases n0 : x - a.ask.size < 0
  · have hv : szPeer a x = -1 := by unfold szPeer; rw [if_pos n0]
    (simp -dsimp (disch := first | omega | (simp only [wr_id, hv, LR] <;> omega) | fail) only [push_cast, wr_id, hv, simprocAttr, -Nat.reduceSubDiff]) <;> (repeat (refine (aw_draw (by kernel_rfl)).2 ?_; simp -dsimp (disch := first | omega | (simp only [wr_id, hv, LR] <;> omega) | fail) only [push_cast, wr_id, hv, simprocAttr, -Nat.reduceSubDiff]))
  (simp -dsimp (disch := first | omega | (simp only [wr_id, LR] <;> omega) | fail) only [push_cast, wr_id, simprocAttr, -Nat.reduceSubDiff]) <;> (repeat (refine (aw_draw (by kernel_rfl)).2 ?_; simp -dsimp (disch := first | omega | (simp only [wr_id, LR] <;> omega) | fail) only [push_cast, wr_id, simprocAttr, -Nat.reduceSubDiff]))
  refine callC (szStringS a.N (x - a.ask.size) (by omega) (by omega) hb.2) ?_
  by_cases n1 : szL szStr a.N (x - a.ask.size) < 0
  · have hv : szPeer a x = -1 := by unfold szPeer; rw [if_neg n0]; rw [if_pos n1]
    (simp -dsimp (disch := first | omega | (simp only [wr_id, hv, LR] <;> omega) | fail) only [push_cast, wr_id, hv, simprocAttr, -Nat.reduceSubDiff]) <;> (repeat (refine (aw_draw (by kernel_rfl)).2 ?_; simp -dsimp (disch := first | omega | (simp only [wr_id, hv, LR] <;> omega) | fail) only [push_cast, wr_id, hv, simprocAttr, -Nat.reduceSubDiff]))
  have q1 := szL_ok szStr_ok a.N (x - a.ask.size) (by omega)
  have hv : szPeer a x = szL szStr a.N (x - a.ask.size) := by unfold szPeer; rw [if_neg n0]; rw [if_neg n1]
  (simp -dsimp (disch := first | omega | (simp only [wr_id, hv, LR] <;> omega) | fail) only [push_cast, wr_id, hv, simprocAttr, -Nat.reduceSubDiff]) <;> (repeat (refine (aw_draw (by kernel_rfl)).2 ?_; simp -dsimp (disch := first | omega | (simp only [wr_id, hv, LR] <;> omega) | fail) only [push_cast, wr_id, hv, simprocAttr, -Nat.reduceSubDiff]))
def E83 : Env := { T := T0, kp := look [(0, [0, 1]), (1, [0, 1]), (2, [0, 1]), (3, []), (4, [0, 1]), (5, [0, 1, 5]), (6, [0, 1, 5]), (7, [0, 1, 5]), (8, [0, 1, 5]), (9, []), (10, [1])] }
attribute [local push_cast] E83
theorem szPeerS (l : List Peer) (x : Int) (x0 : 0 ≤ x) (x1 : x ≤ 1048576) (hb : bdL bdPeer l) : Does Tryz.prog 83 [.sl false 5 (l.map (peerC false)), .sc (.int .i64 x)] (.sc (.int .i64 (szL szPeer l x)), []) := by
  refine does_of (E := E83) (rs := [.tmp 4]) (lent := []) tOk rfl Tryz.func83 rfl (by decide) rfl rfl (Nat.le_of_ble_eq_true rfl) (Nat.le_of_ble_eq_true rfl) ?_
  have hb1 := hb.1
  by_cases h0 : x - l.length < 0
  · simp -dsimp (disch := first | omega | (simp only [wr_id, szL, h0, LR] <;> omega) | fail) only [push_cast, wr_id, szL, h0, simprocAttr, -Nat.reduceSubDiff]
  rw [show szL szPeer l x = szG szPeer l (x - l.length) by unfold szL; rw [if_neg h0]]
  generalize hM : szG szPeer l (x - l.length) = M
  simp -dsimp (disch := first | omega | (simp only [wr_id, LR] <;> omega) | fail) only [push_cast, wr_id, simprocAttr, -Nat.reduceSubDiff]
  refine loop_ind (α := Nat × Int) (fun p => p.1 ≤ l.length ∧ 0 ≤ p.2 ∧ p.2 ≤ x ∧ szG szPeer (l.drop p.1) p.2 = M) (fun p => ⟨[(0, .sl false 5 (l.map (peerC false))), (1, .sc (.int .i64 p.2)), (5, .sc (.int .i64 p.1))], [], 1⟩) (fun p => l.length - p.1) (0, x - l.length) ⟨Nat.zero_le _, by omega, by omega, hM⟩ ?_ ?_
  · simp -dsimp (disch := first | omega | (simp only [LR] <;> omega) | fail) only [push_cast, simprocAttr, -Nat.reduceSubDiff]
  rintro ⟨i, y⟩ ⟨hi, hy0, hy1, hy⟩ ih
  dsimp only at hi hy0 hy1 hy
  by_cases h : i < l.length
  · obtain ⟨s, hx⟩ := ex_get h
    rw [drop_step hx, szG] at hy
    (simp -dsimp (disch := first | omega | (simp only [hx, LR] <;> omega) | fail) only [push_cast, hx, simprocAttr, -Nat.reduceSubDiff]) <;> (repeat (refine (aw_draw (by kernel_rfl)).2 ?_; simp -dsimp (disch := first | omega | (simp only [hx, LR] <;> omega) | fail) only [push_cast, hx, simprocAttr, -Nat.reduceSubDiff]))
    refine callC (szPeer_run s y hy0 (by omega) (hb.2 s (List.mem_of_getElem? hx))) ?_
    by_cases h2 : szPeer s y < 0
    · rw [if_pos h2] at hy
      simp -dsimp (disch := first | omega | (simp only [← hy, LR] <;> omega) | fail) only [push_cast, ← hy, simprocAttr, -Nat.reduceSubDiff]
    · rw [if_neg h2] at hy
      have := szPeer_ok s y (by omega)
      simp -dsimp (disch := first | omega | (simp only [LR] <;> omega) | fail) only [push_cast, simprocAttr, -Nat.reduceSubDiff]
      refine ih (i + 1, szPeer s y) _ (by simp; omega) ⟨h, by simp only []; omega, by simp only []; omega, hy⟩ ?_
      simp -dsimp (disch := first | omega | (simp only [wr_id, LR] <;> omega) | fail) only [push_cast, wr_id, simprocAttr, -Nat.reduceSubDiff]
  · rw [List.drop_eq_nil_of_le (by omega), szG] at hy
    simp -dsimp (disch := first | omega | (simp only [hy, LR] <;> omega) | fail) only [push_cast, hy, simprocAttr, -Nat.reduceSubDiff]
def E126 : Env := { T := T0, kp := look [(0, [0]), (1, [1, 2]), (2, [1, 2, 3]), (3, [1, 2, 3]), (4, [1, 2, 3]), (5, [1, 2, 3]), (6, [1, 2, 3]), (7, [2, 3])] }
attribute [local push_cast] E126
theorem toPeer_run (x : Peer) (hx : okPeer x) : Does Tryz.prog 126 [.ag (peerC false x)] (.ag (peerC true x), []) := by
  refine does_of (E := E126) (rs := [.cell 2 77]) (lent := []) tOk rfl Tryz.func126 rfl (by decide) rfl rfl (Nat.le_of_ble_eq_true rfl) (Nat.le_of_ble_eq_true rfl) ?_
  (simp -dsimp (disch := first | omega | (simp only [LR] <;> omega) | fail) only [push_cast, simprocAttr, -Nat.reduceSubDiff]) <;> (repeat (refine (aw_draw (by kernel_rfl)).2 ?_; simp -dsimp (disch := first | omega | (simp only [LR] <;> omega) | fail) only [push_cast, simprocAttr, -Nat.reduceSubDiff]))
  refine callC (toStringS x.N hx.2) ?_
  (simp -dsimp (disch := first | omega | (simp only [LR] <;> omega) | fail) only [push_cast, simprocAttr, -Nat.reduceSubDiff]) <;> (repeat (refine (aw_draw (by kernel_rfl)).2 ?_; simp -dsimp (disch := first | omega | (simp only [LR] <;> omega) | fail) only [push_cast, simprocAttr, -Nat.reduceSubDiff]))
def E89 : Env := { T := T0, kp := look [(0, [0]), (1, [0]), (2, [0, 3]), (3, [0, 3, 4]), (4, [0, 3, 4]), (5, [0, 3, 4]), (6, [3])] }
attribute [local push_cast] E89
theorem toPeerS (l : List Peer) (hl : okL okPeer l) : Does Tryz.prog 89 [.sl false 5 (l.map (peerC false))] (.sl true 5 (l.map (peerC true)), []) := by
  refine does_of (E := E89) (rs := [.tmp 2]) (lent := []) tOk rfl Tryz.func89 rfl (by decide) rfl rfl (Nat.le_of_ble_eq_true rfl) (Nat.le_of_ble_eq_true rfl) ?_
  have hl1 := hl.1
  obtain ⟨Z, hZ⟩ : ∃ Z : Peer, Z = ⟨0, 0, 0, em, []⟩ := ⟨_, rfl⟩
  have hz : ∀ k, List.replicate k (peerC true Z) = (List.replicate k Z).map (peerC true) := fun k => by simp
  simp -dsimp (disch := first | omega | (simp only [LR] <;> omega) | fail) only [push_cast, simprocAttr, -Nat.reduceSubDiff]
  refine loop_ind (α := Nat) (fun i => i ≤ l.length) (fun i => ⟨[(0, .sl false 5 (l.map (peerC false))), (3, .ow 1 0 l.length), (4, .sc (.int .i64 i))], [(1, .ar 5 0 ((l.take i ++ (List.replicate l.length Z).drop i).map (peerC true)))], 2⟩) (fun i => l.length - i) 0 (Nat.zero_le _) ?_ ?_
  · simp -dsimp (disch := first | omega | (simp only [List.take_zero, List.drop_zero, List.map_replicate, hZ, em, LR] <;> omega) | fail) only [push_cast, List.take_zero, List.drop_zero, List.map_replicate, hZ, em, simprocAttr, -Nat.reduceSubDiff]
  intro i hi ih
  by_cases h : i < l.length
  · obtain ⟨s, hx⟩ := ex_get h
    have hw := get_over (a := l) (b := List.replicate l.length Z) (by simp) hi
    rw [List.getElem?_replicate, if_pos h] at hw
    have ee := congrArg (List.map (peerC true)) (set_over (b := List.replicate l.length Z) (by simp) hx)
    rw [List.map_set] at ee
    (simp -dsimp (disch := first | omega | (simp only [hx, LR] <;> omega) | fail) only [push_cast, hx, simprocAttr, -Nat.reduceSubDiff]) <;> (repeat (refine (aw_draw (by kernel_rfl)).2 ?_; simp -dsimp (disch := first | omega | (simp only [hx, LR] <;> omega) | fail) only [push_cast, hx, simprocAttr, -Nat.reduceSubDiff]))
    refine callC (toPeer_run s (hl.2 s (List.mem_of_getElem? hx))) ?_
    (simp -dsimp (disch := first | omega | (simp only [hw, LR] <;> omega) | fail) only [push_cast, hw, simprocAttr, -Nat.reduceSubDiff]) <;> (repeat (refine (aw_draw (by kernel_rfl)).2 ?_; simp -dsimp (disch := first | omega | (simp only [hw, LR] <;> omega) | fail) only [push_cast, hw, simprocAttr, -Nat.reduceSubDiff]))
    refine ih (i + 1) _ (by omega) h ?_
    unfold peerC at ee ⊢
    simp -dsimp (disch := first | omega | (simp only [wr_id, ee, LR] <;> omega) | fail) only [push_cast, wr_id, ee, simprocAttr, -Nat.reduceSubDiff]
  · have hn : i = l.length := by omega
    subst hn
    simp -dsimp (disch := first | omega | (simp only [List.take_length, List.drop_eq_nil_of_le, LR] <;> omega) | fail) only [push_cast, List.take_length, List.drop_eq_nil_of_le, simprocAttr, -Nat.reduceSubDiff]
def E131 : Env := { T := T0, kp := look [(0, [0, 1]), (1, [2, 3]), (2, []), (3, [2, 3]), (4, []), (5, [2, 3]), (6, []), (7, [2, 3]), (8, []), (9, [2, 3]), (10, []), (11, [])] }
attribute [local push_cast] E131
theorem eqPeer (x y : Peer) (hy : okPeer y) : Does Tryz.prog 131 [.ag (peerC false x), .ag (peerC false y)] (.sc (.bool (decide (x = y))), []) := by
  refine does_of (E := E131) (rs := [.tmp 4]) (lent := []) tOk rfl Tryz.func131 rfl (by decide) rfl rfl (Nat.le_of_ble_eq_true rfl) (Nat.le_of_ble_eq_true rfl) ?_
  by_cases e0 : x.lies = y.lies
  rotate_left
  · have hn : x ≠ y := fun h => e0 (by rw [h])
    (simp -dsimp (disch := first | omega | (simp only [e0, hn, LR] <;> omega) | fail) only [push_cast, e0, hn, simprocAttr, -Nat.reduceSubDiff]) <;> (repeat (refine (aw_draw (by kernel_rfl)).2 ?_; simp -dsimp (disch := first | omega | (simp only [e0, hn, LR] <;> omega) | fail) only [push_cast, e0, hn, simprocAttr, -Nat.reduceSubDiff]))
  (simp -dsimp (disch := first | omega | (simp only [e0, LR] <;> omega) | fail) only [push_cast, e0, simprocAttr, -Nat.reduceSubDiff]) <;> (repeat (refine (aw_draw (by kernel_rfl)).2 ?_; simp -dsimp (disch := first | omega | (simp only [e0, LR] <;> omega) | fail) only [push_cast, e0, simprocAttr, -Nat.reduceSubDiff]))
  by_cases e1 : x.wait = y.wait
  rotate_left
  · have hn : x ≠ y := fun h => e1 (by rw [h])
    (simp -dsimp (disch := first | omega | (simp only [e1, hn, LR] <;> omega) | fail) only [push_cast, e1, hn, simprocAttr, -Nat.reduceSubDiff]) <;> (repeat (refine (aw_draw (by kernel_rfl)).2 ?_; simp -dsimp (disch := first | omega | (simp only [e1, hn, LR] <;> omega) | fail) only [push_cast, e1, hn, simprocAttr, -Nat.reduceSubDiff]))
  (simp -dsimp (disch := first | omega | (simp only [e1, LR] <;> omega) | fail) only [push_cast, e1, simprocAttr, -Nat.reduceSubDiff]) <;> (repeat (refine (aw_draw (by kernel_rfl)).2 ?_; simp -dsimp (disch := first | omega | (simp only [e1, LR] <;> omega) | fail) only [push_cast, e1, simprocAttr, -Nat.reduceSubDiff]))
  by_cases e2 : x.last = y.last
  rotate_left
  · have hn : x ≠ y := fun h => e2 (by rw [h])
    (simp -dsimp (disch := first | omega | (simp only [e2, hn, LR] <;> omega) | fail) only [push_cast, e2, hn, simprocAttr, -Nat.reduceSubDiff]) <;> (repeat (refine (aw_draw (by kernel_rfl)).2 ?_; simp -dsimp (disch := first | omega | (simp only [e2, hn, LR] <;> omega) | fail) only [push_cast, e2, hn, simprocAttr, -Nat.reduceSubDiff]))
  (simp -dsimp (disch := first | omega | (simp only [e2, LR] <;> omega) | fail) only [push_cast, e2, simprocAttr, -Nat.reduceSubDiff]) <;> (repeat (refine (aw_draw (by kernel_rfl)).2 ?_; simp -dsimp (disch := first | omega | (simp only [e2, LR] <;> omega) | fail) only [push_cast, e2, simprocAttr, -Nat.reduceSubDiff]))
  by_cases e3 : x.ask = y.ask
  rotate_left
  · have hn : x ≠ y := fun h => e3 (by rw [h])
    (simp -dsimp (disch := first | omega | (simp only [e3, hn, LR] <;> omega) | fail) only [push_cast, e3, hn, simprocAttr, -Nat.reduceSubDiff]) <;> (repeat (refine (aw_draw (by kernel_rfl)).2 ?_; simp -dsimp (disch := first | omega | (simp only [e3, hn, LR] <;> omega) | fail) only [push_cast, e3, hn, simprocAttr, -Nat.reduceSubDiff]))
  (simp -dsimp (disch := first | omega | (simp only [e3, LR] <;> omega) | fail) only [push_cast, e3, simprocAttr, -Nat.reduceSubDiff]) <;> (repeat (refine (aw_draw (by kernel_rfl)).2 ?_; simp -dsimp (disch := first | omega | (simp only [e3, LR] <;> omega) | fail) only [push_cast, e3, simprocAttr, -Nat.reduceSubDiff]))
  refine callC (eqStringS x.N y.N hy.2) ?_
  by_cases e4 : x.N = y.N
  rotate_left
  · have hn : x ≠ y := fun h => e4 (by rw [h])
    (simp -dsimp (disch := first | omega | (simp only [e4, hn, LR] <;> omega) | fail) only [push_cast, e4, hn, simprocAttr, -Nat.reduceSubDiff]) <;> (repeat (refine (aw_draw (by kernel_rfl)).2 ?_; simp -dsimp (disch := first | omega | (simp only [e4, hn, LR] <;> omega) | fail) only [push_cast, e4, hn, simprocAttr, -Nat.reduceSubDiff]))
  have hn : x = y := by cases x; cases y; simp_all
  (simp -dsimp (disch := first | omega | (simp only [e4, hn, LR] <;> omega) | fail) only [push_cast, e4, hn, simprocAttr, -Nat.reduceSubDiff]) <;> (repeat (refine (aw_draw (by kernel_rfl)).2 ?_; simp -dsimp (disch := first | omega | (simp only [e4, hn, LR] <;> omega) | fail) only [push_cast, e4, hn, simprocAttr, -Nat.reduceSubDiff]))
def E93 : Env := { T := T0, kp := look [(0, [0, 1]), (1, [0, 1]), (2, []), (3, [0, 1]), (4, [0, 1, 5]), (5, [0, 1, 5]), (6, [0, 1, 5]), (7, []), (8, [])], dp := look2 [(6, [[], [], [0, 1], [0, 1, 2], [], [], [4, 5], [4, 5, 6], [0, 1, 2, 3, 4, 5, 6, 7], [0, 1, 2, 3, 4, 5, 6, 7, 8]])] }
attribute [local push_cast] E93
theorem eqPeerS (a b : List Peer) (hb : okL okPeer b) : Does Tryz.prog 93 [.sl false 5 (a.map (peerC false)), .sl false 5 (b.map (peerC false))] (.sc (.bool (decide (a = b))), []) := by
  refine does_of (E := E93) (rs := [.tmp 4]) (lent := []) tOk rfl Tryz.func93 rfl (by decide) rfl rfl (Nat.le_of_ble_eq_true rfl) (Nat.le_of_ble_eq_true rfl) ?_
  have hb1 := hb.1
  by_cases hl : a.length = b.length
  rotate_left
  · have : a ≠ b := fun h => hl (by rw [h])
    simp -dsimp (disch := first | omega | (simp only [this, LR] <;> omega) | fail) only [push_cast, this, simprocAttr, -Nat.reduceSubDiff]
  simp -dsimp (disch := first | omega | (simp only [hl, LR] <;> omega) | fail) only [push_cast, hl, simprocAttr, -Nat.reduceSubDiff]
  refine loop_ind (α := Nat) (fun i => i ≤ b.length ∧ a.take i = b.take i) (fun i => ⟨[(0, .sl false 5 (a.map (peerC false))), (1, .sl false 5 (b.map (peerC false))), (5, .sc (.int .i64 i))], [], 1⟩) (fun i => b.length - i) 0 ⟨Nat.zero_le _, rfl⟩ ?_ ?_
  · simp -dsimp (disch := first | omega | (simp only [LR] <;> omega) | fail) only [push_cast, simprocAttr, -Nat.reduceSubDiff]
  intro i hi ih
  by_cases h : i < b.length
  · obtain ⟨x, hx⟩ := ex_get (hl ▸ h : i < a.length)
    obtain ⟨y, hy⟩ := ex_get h
    (simp -dsimp (disch := first | omega | (simp only [hx, hy, LR] <;> omega) | fail) only [push_cast, hx, hy, simprocAttr, -Nat.reduceSubDiff]) <;> (repeat (refine (aw_draw (by kernel_rfl)).2 ?_; simp -dsimp (disch := first | omega | (simp only [hx, hy, LR] <;> omega) | fail) only [push_cast, hx, hy, simprocAttr, -Nat.reduceSubDiff]))
    refine callC (eqPeer x y (hb.2 y (List.mem_of_getElem? hy))) ?_
    by_cases e : x = y
    · simp -dsimp (disch := first | omega | (simp only [e, LR] <;> omega) | fail) only [push_cast, e, simprocAttr, -Nat.reduceSubDiff]
      refine ih (i + 1) _ (by omega) ⟨h, by rw [take_step hx, take_step hy, hi.2, e]⟩ ?_
      simp -dsimp (disch := first | omega | (simp only [wr_id, LR] <;> omega) | fail) only [push_cast, wr_id, simprocAttr, -Nat.reduceSubDiff]
    · have : a ≠ b := fun h' => e (by rw [h', hy] at hx; cases hx; rfl)
      simp -dsimp (disch := first | omega | (simp only [e, this, LR] <;> omega) | fail) only [push_cast, e, this, simprocAttr, -Nat.reduceSubDiff]
  · have : a = b := by
      have := hi.2
      rwa [List.take_of_length_le (by omega), List.take_of_length_le (by omega)] at this
    simp -dsimp (disch := first | omega | (simp only [this, LR] <;> omega) | fail) only [push_cast, this, simprocAttr, -Nat.reduceSubDiff]
def E96 : Env := { T := T0, kp := look [(0, [0, 1]), (1, [0, 1]), (2, [0, 1, 5]), (3, [0, 1, 5]), (4, [0, 1, 5]), (5, [0, 1, 5]), (6, [0, 1, 5]), (7, [0, 1, 5]), (8, [0, 1, 5]), (9, [0, 1, 5]), (10, [0, 1, 5]), (11, [0, 1, 5]), (12, [0, 1, 5]), (13, [0, 1])], md := look3 [(12, 6, [1])] }
attribute [local push_cast] E96
theorem markPeerS (l : List Peer) (k : Int) (k0 : 0 ≤ k) (k1 : k + cnG cnPeer l < 2305843009213693952) : Does Tryz.prog 96 [.sl true 5 (l.map (peerC true)), .sc (.int .i64 k)] (.sc (.int .i64 (k + cnG cnPeer l)), [some (.sl true 5 ((mkG mkPeer cnPeer l k).map (peerC true)))]) := by
  refine does_of (E := E96) (rs := [.tmp 4]) (lent := [true]) tOk rfl Tryz.func96 rfl (by decide) rfl rfl (Nat.le_of_ble_eq_true rfl) (Nat.le_of_ble_eq_true rfl) ?_
  have hM := mkG_len mkPeer cnPeer l k
  generalize hm : mkG mkPeer cnPeer l k = M at hM ⊢
  have hlen : (l.length : Int) ≤ cnG cnPeer l := cnG_len (fun a => by have := cnPeer_nn a; have := cnPeer_1 a; omega) l
  simp -dsimp (disch := first | omega | (simp only [LR] <;> omega) | fail) only [push_cast, simprocAttr, -Nat.reduceSubDiff]
  refine loop_ind (α := Nat) (fun i => i ≤ l.length) (fun i => ⟨[(0, .ow 1 0 l.length), (1, .sc (.int .i64 (k + cnG cnPeer (l.take i)))), (5, .sc (.int .i64 i))], [(1, .ar 5 0 ((M.take i ++ l.drop i).map (peerC true)))], 2⟩) (fun i => l.length - i) 0 (Nat.zero_le _) ?_ ?_
  · simp -dsimp (disch := first | omega | (simp only [Int.add_zero, List.take_zero, List.drop_zero, cnG, LR] <;> omega) | fail) only [push_cast, Int.add_zero, List.take_zero, List.drop_zero, cnG, simprocAttr, -Nat.reduceSubDiff]
  intro i hi ih
  by_cases h : i < l.length
  · obtain ⟨s, hx⟩ := ex_get h
    have hw := (get_over (a := M) (b := l) hM (by omega)).trans hx
    have := cnG_nn (c := c1) c1_nn s.N
    have hcs : cnPeer s = 1 + 1 + 1 + 1 + cnG c1 s.N := rfl
    have hc : cnG cnPeer (l.take (i + 1)) = cnG cnPeer (l.take i) + cnPeer s := by rw [take_step hx, cnG_app]; simp [cnG]
    have hle := cnG_app cnPeer (l.take (i + 1)) (l.drop (i + 1))
    rw [List.take_append_drop] at hle
    have hnn := cnG_nn cnPeer_nn (l.drop (i + 1))
    have hn0 := cnG_nn cnPeer_nn (l.take i)
    have hy : M[i]? = some (mkPeer s (k + cnG cnPeer (l.take i))) := by rw [← hm, mkG_step hx]
    obtain ⟨K, hK⟩ : ∃ K, K = k + cnG cnPeer (l.take i) := ⟨_, rfl⟩
    have hN : k + cnG cnPeer (l.take (i + 1)) = K + 1 + 1 + 1 + 1 + cnG c1 s.N := by rw [hc, hcs]; omega
    rw [← hK] at hy
    have ee := congrArg (List.map (peerC true)) (set_over hM hy)
    rw [List.map_set] at ee
    simp -dsimp (disch := first | omega | (simp only [wr_id, hw, List.getElem?_set_self, List.set_set, List.getD_eq_getElem?_getD, ← hK, LR] <;> omega) | fail) only [push_cast, wr_id, hw, List.getElem?_set_self, List.set_set, List.getD_eq_getElem?_getD, ← hK, simprocAttr, -Nat.reduceSubDiff]
    refine callC (markText _ (by omega)) ?_
    simp -dsimp (disch := first | omega | (simp only [wr_id, hw, List.getElem?_set_self, List.set_set, List.getD_eq_getElem?_getD, ← hK, LR] <;> omega) | fail) only [push_cast, wr_id, hw, List.getElem?_set_self, List.set_set, List.getD_eq_getElem?_getD, ← hK, simprocAttr, -Nat.reduceSubDiff]
    refine callC (markStringS s.N _ (by omega) (by omega)) ?_
    simp -dsimp (disch := first | omega | (simp only [wr_id, hw, List.getElem?_set_self, List.set_set, List.getD_eq_getElem?_getD, ← hK, LR] <;> omega) | fail) only [push_cast, wr_id, hw, List.getElem?_set_self, List.set_set, List.getD_eq_getElem?_getD, ← hK, simprocAttr, -Nat.reduceSubDiff]
    refine ih (i + 1) _ (by omega) h ?_
    rw [show peerC true (mkPeer s K) = [.sc (.int .i64 (K)), .sc (.int .i64 (K + 1)), .sc (.int .i64 (K + 1 + 1)), .sc (.string (mtx (K + 1 + 1 + 1))), .sl true 1 ((mkG mkStr c1 s.N (K + 1 + 1 + 1 + 1)).map strR)] from rfl] at ee
    simp -dsimp (disch := first | omega | (simp only [wr_id, hN, ee, LR] <;> omega) | fail) only [push_cast, wr_id, hN, ee, simprocAttr, -Nat.reduceSubDiff]
  · have hn : i = l.length := by omega
    subst hn
    simp -dsimp (disch := first | omega | (simp only [List.take_of_length_le, List.drop_eq_nil_of_le, hM, Nat.le_refl, LR] <;> omega) | fail) only [push_cast, List.take_of_length_le, List.drop_eq_nil_of_le, hM, Nat.le_refl, simprocAttr, -Nat.reduceSubDiff]
def E99 : Env := { T := T0, kp := look [(0, [0, 1]), (1, [0, 1]), (2, [0, 1, 5]), (3, [0, 1, 5]), (4, [0, 1, 5]), (5, []), (6, [0, 1, 5]), (7, [0, 1, 5]), (8, []), (9, [0, 1, 5]), (10, [0, 1, 5]), (11, []), (12, [0, 1, 5]), (13, [0, 1, 5]), (14, []), (15, [0, 1, 5]), (16, [0, 1, 5]), (17, [0, 1, 5]), (18, []), (19, [1])], dp := look2 [(13, [[], [], [0, 1], [0, 1, 2], [0, 1, 2, 3], [], [5], [0, 1, 2, 3, 4, 5, 6]])] }
attribute [local push_cast] E99
theorem heldPeerS (l : List Peer) (k : Int) (k0 : 0 ≤ k) (k1 : k + cnG cnPeer l < 2305843009213693952) : Does Tryz.prog 99 [.sl false 5 (l.map (peerC false)), .sc (.int .i64 k)] (.sc (.int .i64 (hdG hdPeer cnPeer l k)), []) := by
  refine does_of (E := E99) (rs := [.tmp 4]) (lent := []) tOk rfl Tryz.func99 rfl (by decide) rfl rfl (Nat.le_of_ble_eq_true rfl) (Nat.le_of_ble_eq_true rfl) ?_
  generalize hm : hdG hdPeer cnPeer l k = M
  have hlen : (l.length : Int) ≤ cnG cnPeer l := cnG_len (fun a => by have := cnPeer_nn a; have := cnPeer_1 a; omega) l
  simp -dsimp (disch := first | omega | (simp only [LR] <;> omega) | fail) only [push_cast, simprocAttr, -Nat.reduceSubDiff]
  refine loop_ind (α := Nat) (fun i => i ≤ l.length ∧ hdG hdPeer cnPeer (l.drop i) (k + cnG cnPeer (l.take i)) = M) (fun i => ⟨[(0, .sl false 5 (l.map (peerC false))), (1, .sc (.int .i64 (k + cnG cnPeer (l.take i)))), (5, .sc (.int .i64 i))], [], 1⟩) (fun i => l.length - i) 0 ⟨Nat.zero_le _, by simpa [cnG] using hm⟩ ?_ ?_
  · simp -dsimp (disch := first | omega | (simp only [Int.add_zero, List.take_zero, cnG, LR] <;> omega) | fail) only [push_cast, Int.add_zero, List.take_zero, cnG, simprocAttr, -Nat.reduceSubDiff]
  rintro i ⟨hi, hy⟩ ih
  by_cases h : i < l.length
  · obtain ⟨s, hx⟩ := ex_get h
    have := cnG_nn (c := c1) c1_nn s.N
    have hcs : cnPeer s = 1 + 1 + 1 + 1 + cnG c1 s.N := rfl
    have hc : cnG cnPeer (l.take (i + 1)) = cnG cnPeer (l.take i) + cnPeer s := by rw [take_step hx, cnG_app]; simp [cnG]
    have hle := cnG_app cnPeer (l.take (i + 1)) (l.drop (i + 1))
    rw [List.take_append_drop] at hle
    have hnn := cnG_nn cnPeer_nn (l.drop (i + 1))
    have hn0 := cnG_nn cnPeer_nn (l.take i)
    obtain ⟨K, hK⟩ : ∃ K, K = k + cnG cnPeer (l.take i) := ⟨_, rfl⟩
    have hN : k + cnG cnPeer (l.take (i + 1)) = K + 1 + 1 + 1 + 1 + cnG c1 s.N := by rw [hc, hcs]; omega
    rw [← hK, drop_step hx, hdG] at hy
    by_cases e0 : s.lies = K
    rotate_left
    · rw [if_neg (by simp [hdPeer, e0])] at hy
      (simp -dsimp (disch := first | omega | (simp only [wr_id, hx, ← hK, e0, ← hy, LR] <;> omega) | fail) only [push_cast, wr_id, hx, ← hK, e0, ← hy, simprocAttr, -Nat.reduceSubDiff]) <;> (repeat (refine (aw_draw (by kernel_rfl)).2 ?_; simp -dsimp (disch := first | omega | (simp only [wr_id, hx, ← hK, e0, ← hy, LR] <;> omega) | fail) only [push_cast, wr_id, hx, ← hK, e0, ← hy, simprocAttr, -Nat.reduceSubDiff]))
    by_cases e1 : s.wait = K + 1
    rotate_left
    · rw [if_neg (by simp [hdPeer, e1])] at hy
      (simp -dsimp (disch := first | omega | (simp only [wr_id, hx, ← hK, e0, e1, ← hy, LR] <;> omega) | fail) only [push_cast, wr_id, hx, ← hK, e0, e1, ← hy, simprocAttr, -Nat.reduceSubDiff]) <;> (repeat (refine (aw_draw (by kernel_rfl)).2 ?_; simp -dsimp (disch := first | omega | (simp only [wr_id, hx, ← hK, e0, e1, ← hy, LR] <;> omega) | fail) only [push_cast, wr_id, hx, ← hK, e0, e1, ← hy, simprocAttr, -Nat.reduceSubDiff]))
    by_cases e2 : s.last = K + 1 + 1
    rotate_left
    · rw [if_neg (by simp [hdPeer, e2])] at hy
      (simp -dsimp (disch := first | omega | (simp only [wr_id, hx, ← hK, e0, e1, e2, ← hy, LR] <;> omega) | fail) only [push_cast, wr_id, hx, ← hK, e0, e1, e2, ← hy, simprocAttr, -Nat.reduceSubDiff]) <;> (repeat (refine (aw_draw (by kernel_rfl)).2 ?_; simp -dsimp (disch := first | omega | (simp only [wr_id, hx, ← hK, e0, e1, e2, ← hy, LR] <;> omega) | fail) only [push_cast, wr_id, hx, ← hK, e0, e1, e2, ← hy, simprocAttr, -Nat.reduceSubDiff]))
    (simp -dsimp (disch := first | omega | (simp only [wr_id, hx, ← hK, e0, e1, e2, LR] <;> omega) | fail) only [push_cast, wr_id, hx, ← hK, e0, e1, e2, simprocAttr, -Nat.reduceSubDiff]) <;> (repeat (refine (aw_draw (by kernel_rfl)).2 ?_; simp -dsimp (disch := first | omega | (simp only [wr_id, hx, ← hK, e0, e1, e2, LR] <;> omega) | fail) only [push_cast, wr_id, hx, ← hK, e0, e1, e2, simprocAttr, -Nat.reduceSubDiff]))
    refine callC (markText _ (by omega)) ?_
    by_cases e3 : s.ask = mtx (K + 1 + 1 + 1)
    rotate_left
    · rw [if_neg (by simp [hdPeer, e3])] at hy
      (simp -dsimp (disch := first | omega | (simp only [wr_id, hx, ← hK, e0, e1, e2, e3, ← hy, LR] <;> omega) | fail) only [push_cast, wr_id, hx, ← hK, e0, e1, e2, e3, ← hy, simprocAttr, -Nat.reduceSubDiff]) <;> (repeat (refine (aw_draw (by kernel_rfl)).2 ?_; simp -dsimp (disch := first | omega | (simp only [wr_id, hx, ← hK, e0, e1, e2, e3, ← hy, LR] <;> omega) | fail) only [push_cast, wr_id, hx, ← hK, e0, e1, e2, e3, ← hy, simprocAttr, -Nat.reduceSubDiff]))
    (simp -dsimp (disch := first | omega | (simp only [wr_id, hx, ← hK, e0, e1, e2, e3, LR] <;> omega) | fail) only [push_cast, wr_id, hx, ← hK, e0, e1, e2, e3, simprocAttr, -Nat.reduceSubDiff]) <;> (repeat (refine (aw_draw (by kernel_rfl)).2 ?_; simp -dsimp (disch := first | omega | (simp only [wr_id, hx, ← hK, e0, e1, e2, e3, LR] <;> omega) | fail) only [push_cast, wr_id, hx, ← hK, e0, e1, e2, e3, simprocAttr, -Nat.reduceSubDiff]))
    refine callC (heldStringS s.N _ (by omega) (by omega)) ?_
    by_cases e4 : hdOk hdStr c1 s.N (K + 1 + 1 + 1 + 1) = true
    rotate_left
    · rw [if_neg (by simp [hdPeer, e4])] at hy
      have e4 := hdOk_not (c := c1) c1_nn (by omega) ((Bool.not_eq_true _).mp e4)
      (simp -dsimp (disch := first | omega | (simp only [wr_id, hx, ← hK, e0, e1, e2, e3, e4, ← hy, LR] <;> omega) | fail) only [push_cast, wr_id, hx, ← hK, e0, e1, e2, e3, e4, ← hy, simprocAttr, -Nat.reduceSubDiff]) <;> (repeat (refine (aw_draw (by kernel_rfl)).2 ?_; simp -dsimp (disch := first | omega | (simp only [wr_id, hx, ← hK, e0, e1, e2, e3, e4, ← hy, LR] <;> omega) | fail) only [push_cast, wr_id, hx, ← hK, e0, e1, e2, e3, e4, ← hy, simprocAttr, -Nat.reduceSubDiff]))
    have e4v := hdOk_val e4
    rw [if_pos (by simp [hdPeer, e0, e1, e2, e3, e4])] at hy
    (simp -dsimp (disch := first | omega | (simp only [wr_id, hx, ← hK, e0, e1, e2, e3, e4v, LR] <;> omega) | fail) only [push_cast, wr_id, hx, ← hK, e0, e1, e2, e3, e4v, simprocAttr, -Nat.reduceSubDiff]) <;> (repeat (refine (aw_draw (by kernel_rfl)).2 ?_; simp -dsimp (disch := first | omega | (simp only [wr_id, hx, ← hK, e0, e1, e2, e3, e4v, LR] <;> omega) | fail) only [push_cast, wr_id, hx, ← hK, e0, e1, e2, e3, e4v, simprocAttr, -Nat.reduceSubDiff]))
    refine ih (i + 1) _ (by omega) ⟨h, by rw [hN, ← hy, hcs]; congr 1; omega⟩ ?_
    simp -dsimp (disch := first | omega | (simp only [wr_id, hN, LR] <;> omega) | fail) only [push_cast, wr_id, hN, simprocAttr, -Nat.reduceSubDiff]
  · rw [List.drop_eq_nil_of_le (by omega), hdG, List.take_of_length_le (by omega)] at hy
    simp -dsimp (disch := first | omega | (simp only [← hy, List.take_of_length_le, LR] <;> omega) | fail) only [push_cast, ← hy, List.take_of_length_le, simprocAttr, -Nat.reduceSubDiff]
def E30 : Env := { T := T0, kp := look [(0, [0, 1]), (1, [1, 2]), (2, [1, 2]), (3, []), (4, [1, 2]), (5, [1, 2]), (6, []), (7, [1, 2]), (8, [1]), (9, []), (10, [1])] }
attribute [local push_cast] E30
theorem szFetch_run (a : Fetch) (x : Int) (x0 : 0 ≤ x) (x1 : x ≤ 1048576) (hb : bdFetch a) : Does Tryz.prog 30 [.ag (fetchC false a), .sc (.int .i64 x)] (.sc (.int .i64 (szFetch a x)), []) := by
  refine does_of (E := E30) (rs := [.tmp 4]) (lent := []) tOk rfl Tryz.func30 rfl (by decide) rfl rfl (Nat.le_of_ble_eq_true rfl) (Nat.le_of_ble_eq_true rfl) ?_
  unfold bdFetch at hb
  have b0 : a.nm.size ≤ 9223372036854775807 := hb.1
  by_cases n0 : x - a.nm.size < 0
  · have hv : szFetch a x = -1 := by unfold szFetch; rw [if_pos n0]
    (simp -dsimp (disch := first | omega | (simp only [wr_id, hv, LR] <;> omega) | fail) only [push_cast, wr_id, hv, simprocAttr, -Nat.reduceSubDiff]) <;> (repeat (refine (aw_draw (by kernel_rfl)).2 ?_; simp -dsimp (disch := first | omega | (simp only [wr_id, hv, LR] <;> omega) | fail) only [push_cast, wr_id, hv, simprocAttr, -Nat.reduceSubDiff]))
  (simp -dsimp (disch := first | omega | (simp only [wr_id, LR] <;> omega) | fail) only [push_cast, wr_id, simprocAttr, -Nat.reduceSubDiff]) <;> (repeat (refine (aw_draw (by kernel_rfl)).2 ?_; simp -dsimp (disch := first | omega | (simp only [wr_id, LR] <;> omega) | fail) only [push_cast, wr_id, simprocAttr, -Nat.reduceSubDiff]))
  refine callC (szStore_run a.st (x - a.nm.size) (by omega) (by omega) hb.2.1) ?_
  by_cases n1 : szStore a.st (x - a.nm.size) < 0
  · have hv : szFetch a x = -1 := by unfold szFetch; rw [if_neg n0]; rw [if_pos n1]
    (simp -dsimp (disch := first | omega | (simp only [wr_id, hv, LR] <;> omega) | fail) only [push_cast, wr_id, hv, simprocAttr, -Nat.reduceSubDiff]) <;> (repeat (refine (aw_draw (by kernel_rfl)).2 ?_; simp -dsimp (disch := first | omega | (simp only [wr_id, hv, LR] <;> omega) | fail) only [push_cast, wr_id, hv, simprocAttr, -Nat.reduceSubDiff]))
  have q1 := szStore_ok a.st (x - a.nm.size) (by omega)
  (simp -dsimp (disch := first | omega | (simp only [wr_id, LR] <;> omega) | fail) only [push_cast, wr_id, simprocAttr, -Nat.reduceSubDiff]) <;> (repeat (refine (aw_draw (by kernel_rfl)).2 ?_; simp -dsimp (disch := first | omega | (simp only [wr_id, LR] <;> omega) | fail) only [push_cast, wr_id, simprocAttr, -Nat.reduceSubDiff]))
  refine callC (szPeerS a.Q (szStore a.st (x - a.nm.size)) (by omega) (by omega) hb.2.2) ?_
  by_cases n2 : szL szPeer a.Q (szStore a.st (x - a.nm.size)) < 0
  · have hv : szFetch a x = -1 := by unfold szFetch; rw [if_neg n0]; rw [if_neg n1]; rw [if_pos n2]
    (simp -dsimp (disch := first | omega | (simp only [wr_id, hv, LR] <;> omega) | fail) only [push_cast, wr_id, hv, simprocAttr, -Nat.reduceSubDiff]) <;> (repeat (refine (aw_draw (by kernel_rfl)).2 ?_; simp -dsimp (disch := first | omega | (simp only [wr_id, hv, LR] <;> omega) | fail) only [push_cast, wr_id, hv, simprocAttr, -Nat.reduceSubDiff]))
  have q2 := szL_ok szPeer_ok a.Q (szStore a.st (x - a.nm.size)) (by omega)
  have hv : szFetch a x = szL szPeer a.Q (szStore a.st (x - a.nm.size)) := by unfold szFetch; rw [if_neg n0]; rw [if_neg n1]; rw [if_neg n2]
  (simp -dsimp (disch := first | omega | (simp only [wr_id, hv, LR] <;> omega) | fail) only [push_cast, wr_id, hv, simprocAttr, -Nat.reduceSubDiff]) <;> (repeat (refine (aw_draw (by kernel_rfl)).2 ?_; simp -dsimp (disch := first | omega | (simp only [wr_id, hv, LR] <;> omega) | fail) only [push_cast, wr_id, hv, simprocAttr, -Nat.reduceSubDiff]))
def E32 : Env := { T := T0, kp := look [(0, [0]), (1, [1, 2]), (2, [1, 2, 3]), (3, [1, 2, 3]), (4, [1, 2, 3]), (5, [1, 2, 3]), (6, [1, 2, 3]), (7, [2, 3])] }
attribute [local push_cast] E32
theorem toFetch_run (x : Fetch) (hx : okFetch x) : Does Tryz.prog 32 [.ag (fetchC false x)] (.ag (fetchC true x), []) := by
  refine does_of (E := E32) (rs := [.cell 2 53]) (lent := []) tOk rfl Tryz.func32 rfl (by decide) rfl rfl (Nat.le_of_ble_eq_true rfl) (Nat.le_of_ble_eq_true rfl) ?_
  (simp -dsimp (disch := first | omega | (simp only [LR] <;> omega) | fail) only [push_cast, simprocAttr, -Nat.reduceSubDiff]) <;> (repeat (refine (aw_draw (by kernel_rfl)).2 ?_; simp -dsimp (disch := first | omega | (simp only [LR] <;> omega) | fail) only [push_cast, simprocAttr, -Nat.reduceSubDiff]))
  refine callC (toStore_run x.st hx.2.1) ?_
  (simp -dsimp (disch := first | omega | (simp only [LR] <;> omega) | fail) only [push_cast, simprocAttr, -Nat.reduceSubDiff]) <;> (repeat (refine (aw_draw (by kernel_rfl)).2 ?_; simp -dsimp (disch := first | omega | (simp only [LR] <;> omega) | fail) only [push_cast, simprocAttr, -Nat.reduceSubDiff]))
  refine callC (toPeerS x.Q hx.2.2) ?_
  (simp -dsimp (disch := first | omega | (simp only [LR] <;> omega) | fail) only [push_cast, simprocAttr, -Nat.reduceSubDiff]) <;> (repeat (refine (aw_draw (by kernel_rfl)).2 ?_; simp -dsimp (disch := first | omega | (simp only [LR] <;> omega) | fail) only [push_cast, simprocAttr, -Nat.reduceSubDiff]))
def E34 : Env := { T := T0, kp := look [(0, [0, 1]), (1, [2, 3]), (2, []), (3, [2, 3]), (4, []), (5, [2, 3]), (6, []), (7, [2, 3]), (8, []), (9, [2, 3]), (10, []), (11, [])] }
attribute [local push_cast] E34
theorem eqFetch (x y : Fetch) (hy : okFetch y) : Does Tryz.prog 34 [.ag (fetchC false x), .ag (fetchC false y)] (.sc (.bool (decide (x = y))), []) := by
  refine does_of (E := E34) (rs := [.tmp 4]) (lent := []) tOk rfl Tryz.func34 rfl (by decide) rfl rfl (Nat.le_of_ble_eq_true rfl) (Nat.le_of_ble_eq_true rfl) ?_
  by_cases e0 : x.nm = y.nm
  rotate_left
  · have hn : x ≠ y := fun h => e0 (by rw [h])
    (simp -dsimp (disch := first | omega | (simp only [e0, hn, LR] <;> omega) | fail) only [push_cast, e0, hn, simprocAttr, -Nat.reduceSubDiff]) <;> (repeat (refine (aw_draw (by kernel_rfl)).2 ?_; simp -dsimp (disch := first | omega | (simp only [e0, hn, LR] <;> omega) | fail) only [push_cast, e0, hn, simprocAttr, -Nat.reduceSubDiff]))
  (simp -dsimp (disch := first | omega | (simp only [e0, LR] <;> omega) | fail) only [push_cast, e0, simprocAttr, -Nat.reduceSubDiff]) <;> (repeat (refine (aw_draw (by kernel_rfl)).2 ?_; simp -dsimp (disch := first | omega | (simp only [e0, LR] <;> omega) | fail) only [push_cast, e0, simprocAttr, -Nat.reduceSubDiff]))
  by_cases e1 : x.now = y.now
  rotate_left
  · have hn : x ≠ y := fun h => e1 (by rw [h])
    (simp -dsimp (disch := first | omega | (simp only [e1, hn, LR] <;> omega) | fail) only [push_cast, e1, hn, simprocAttr, -Nat.reduceSubDiff]) <;> (repeat (refine (aw_draw (by kernel_rfl)).2 ?_; simp -dsimp (disch := first | omega | (simp only [e1, hn, LR] <;> omega) | fail) only [push_cast, e1, hn, simprocAttr, -Nat.reduceSubDiff]))
  (simp -dsimp (disch := first | omega | (simp only [e1, LR] <;> omega) | fail) only [push_cast, e1, simprocAttr, -Nat.reduceSubDiff]) <;> (repeat (refine (aw_draw (by kernel_rfl)).2 ?_; simp -dsimp (disch := first | omega | (simp only [e1, LR] <;> omega) | fail) only [push_cast, e1, simprocAttr, -Nat.reduceSubDiff]))
  by_cases e2 : (x.full == y.full) = true
  rotate_left
  · have hn : x ≠ y := fun h => e2 (by rw [h]; simp)
    have e2 := (Bool.not_eq_true _).mp e2
    (simp -dsimp (disch := first | omega | (simp only [e2, hn, LR] <;> omega) | fail) only [push_cast, e2, hn, simprocAttr, -Nat.reduceSubDiff]) <;> (repeat (refine (aw_draw (by kernel_rfl)).2 ?_; simp -dsimp (disch := first | omega | (simp only [e2, hn, LR] <;> omega) | fail) only [push_cast, e2, hn, simprocAttr, -Nat.reduceSubDiff]))
  (simp -dsimp (disch := first | omega | (simp only [e2, LR] <;> omega) | fail) only [push_cast, e2, simprocAttr, -Nat.reduceSubDiff]) <;> (repeat (refine (aw_draw (by kernel_rfl)).2 ?_; simp -dsimp (disch := first | omega | (simp only [e2, LR] <;> omega) | fail) only [push_cast, e2, simprocAttr, -Nat.reduceSubDiff]))
  refine callC (eqStore x.st y.st hy.2.1) ?_
  by_cases e3 : x.st = y.st
  rotate_left
  · have hn : x ≠ y := fun h => e3 (by rw [h])
    (simp -dsimp (disch := first | omega | (simp only [e3, hn, LR] <;> omega) | fail) only [push_cast, e3, hn, simprocAttr, -Nat.reduceSubDiff]) <;> (repeat (refine (aw_draw (by kernel_rfl)).2 ?_; simp -dsimp (disch := first | omega | (simp only [e3, hn, LR] <;> omega) | fail) only [push_cast, e3, hn, simprocAttr, -Nat.reduceSubDiff]))
  (simp -dsimp (disch := first | omega | (simp only [e3, LR] <;> omega) | fail) only [push_cast, e3, simprocAttr, -Nat.reduceSubDiff]) <;> (repeat (refine (aw_draw (by kernel_rfl)).2 ?_; simp -dsimp (disch := first | omega | (simp only [e3, LR] <;> omega) | fail) only [push_cast, e3, simprocAttr, -Nat.reduceSubDiff]))
  refine callC (eqPeerS x.Q y.Q hy.2.2) ?_
  by_cases e4 : x.Q = y.Q
  rotate_left
  · have hn : x ≠ y := fun h => e4 (by rw [h])
    (simp -dsimp (disch := first | omega | (simp only [e4, hn, LR] <;> omega) | fail) only [push_cast, e4, hn, simprocAttr, -Nat.reduceSubDiff]) <;> (repeat (refine (aw_draw (by kernel_rfl)).2 ?_; simp -dsimp (disch := first | omega | (simp only [e4, hn, LR] <;> omega) | fail) only [push_cast, e4, hn, simprocAttr, -Nat.reduceSubDiff]))
  have hn : x = y := by cases x; cases y; simp_all
  (simp -dsimp (disch := first | omega | (simp only [e4, hn, LR] <;> omega) | fail) only [push_cast, e4, hn, simprocAttr, -Nat.reduceSubDiff]) <;> (repeat (refine (aw_draw (by kernel_rfl)).2 ?_; simp -dsimp (disch := first | omega | (simp only [e4, hn, LR] <;> omega) | fail) only [push_cast, e4, hn, simprocAttr, -Nat.reduceSubDiff]))
def E36 : Env := { T := T0, kp := look [(0, [0, 1]), (1, [0, 1, 2]), (2, [0, 1, 2]), (3, [0, 1])], md := look3 [(1, 3, [1]), (2, 3, [1])] }
attribute [local push_cast] E36
theorem markFetch_run (a : Fetch) (k : Int) (k0 : 0 ≤ k) (k1 : k + scnFetch a < 2305843009213693952) : Does Tryz.prog 36 [.ag (fetchC true a), .sc (.int .i64 k)] (.sc (.int .i64 (k + scnFetch a)), [some (.ag (fetchC true (smkFetch a k)))]) := by
  refine does_of (E := E36) (rs := [.tmp 4]) (lent := [true]) tOk rfl Tryz.func36 rfl (by decide) rfl rfl (Nat.le_of_ble_eq_true rfl) (Nat.le_of_ble_eq_true rfl) ?_
  have h_st := scnStore_nn a.st
  have h_Q := cnG_nn (c := cnPeer) cnPeer_nn a.Q
  have hs : k + scnFetch a = k + scnStore a.st + cnG cnPeer a.Q := by unfold scnFetch; omega
  rw [hs] at k1 ⊢
  (simp -dsimp (disch := first | omega | (simp only [LR] <;> omega) | fail) only [push_cast, simprocAttr, -Nat.reduceSubDiff]) <;> (repeat (refine (aw_draw (by kernel_rfl)).2 ?_; simp -dsimp (disch := first | omega | (simp only [LR] <;> omega) | fail) only [push_cast, simprocAttr, -Nat.reduceSubDiff]))
  refine callC (markStore_run a.st _ (by omega) (by omega)) ?_
  (simp -dsimp (disch := first | omega | (simp only [mkG_len, smkFetch, smkStore, LR] <;> omega) | fail) only [push_cast, mkG_len, smkFetch, smkStore, simprocAttr, -Nat.reduceSubDiff]) <;> (repeat (refine (aw_draw (by kernel_rfl)).2 ?_; simp -dsimp (disch := first | omega | (simp only [mkG_len, smkFetch, smkStore, LR] <;> omega) | fail) only [push_cast, mkG_len, smkFetch, smkStore, simprocAttr, -Nat.reduceSubDiff]))
  refine callC (markPeerS a.Q _ (by omega) (by omega)) ?_
  (simp -dsimp (disch := first | omega | (simp only [mkG_len, smkFetch, smkStore, LR] <;> omega) | fail) only [push_cast, mkG_len, smkFetch, smkStore, simprocAttr, -Nat.reduceSubDiff]) <;> (repeat (refine (aw_draw (by kernel_rfl)).2 ?_; simp -dsimp (disch := first | omega | (simp only [mkG_len, smkFetch, smkStore, LR] <;> omega) | fail) only [push_cast, mkG_len, smkFetch, smkStore, simprocAttr, -Nat.reduceSubDiff]))
def hsFetch (a : Fetch) (k : Int) : Int := if shdFetch a k = true then k + scnFetch a else -1
theorem hsFetch_mk (a : Fetch) (k : Int) (hk : 0 ≤ k) : hsFetch (smkFetch a k) k = k + scnFetch a := by unfold hsFetch; rw [if_pos (shdmk_Fetch a k hk), scnmk_Fetch]
def E38 : Env := { T := T0, kp := look [(0, [0, 1]), (1, [1, 2]), (2, [1, 2]), (3, []), (4, [1, 2]), (5, [1]), (6, []), (7, [1])] }
attribute [local push_cast] E38
theorem heldFetch_run (a : Fetch) (k : Int) (k0 : 0 ≤ k) (k1 : k + scnFetch a < 2305843009213693952) : Does Tryz.prog 38 [.ag (fetchC false a), .sc (.int .i64 k)] (.sc (.int .i64 (hsFetch a k)), []) := by
  refine does_of (E := E38) (rs := [.tmp 4]) (lent := []) tOk rfl Tryz.func38 rfl (by decide) rfl rfl (Nat.le_of_ble_eq_true rfl) (Nat.le_of_ble_eq_true rfl) ?_
  have := cnG_nn (c := cnItem) cnItem_nn a.st.I
  have := cnG_nn (c := c1) c1_nn a.st.P
  have := cnG_nn (c := cnPeer) cnPeer_nn a.Q
  unfold hsFetch
  have hs : k + scnFetch a = k + scnStore a.st + cnG cnPeer a.Q := by unfold scnFetch; omega
  have := scnStore_nn a.st
  rw [hs] at k1 ⊢
  (simp -dsimp (disch := first | omega | (simp only [wr_id, LR] <;> omega) | fail) only [push_cast, wr_id, simprocAttr, -Nat.reduceSubDiff]) <;> (repeat (refine (aw_draw (by kernel_rfl)).2 ?_; simp -dsimp (disch := first | omega | (simp only [wr_id, LR] <;> omega) | fail) only [push_cast, wr_id, simprocAttr, -Nat.reduceSubDiff]))
  refine callC (heldStore_run a.st _ (by omega) (by omega)) ?_
  by_cases e0 : shdStore a.st (k) = true
  rotate_left
  · rw [if_neg (by simp [shdFetch, e0])]
    have ev : hsStore a.st (k) = -1 := by unfold hsStore; rw [if_neg e0]
    (simp -dsimp (disch := first | omega | (simp only [ev, LR] <;> omega) | fail) only [push_cast, ev, simprocAttr, -Nat.reduceSubDiff]) <;> (repeat (refine (aw_draw (by kernel_rfl)).2 ?_; simp -dsimp (disch := first | omega | (simp only [ev, LR] <;> omega) | fail) only [push_cast, ev, simprocAttr, -Nat.reduceSubDiff]))
  have e0v : hsStore a.st (k) = k + scnStore a.st := by unfold hsStore; rw [if_pos e0]
  (simp -dsimp (disch := first | omega | (simp only [wr_id, e0v, LR] <;> omega) | fail) only [push_cast, wr_id, e0v, simprocAttr, -Nat.reduceSubDiff]) <;> (repeat (refine (aw_draw (by kernel_rfl)).2 ?_; simp -dsimp (disch := first | omega | (simp only [wr_id, e0v, LR] <;> omega) | fail) only [push_cast, wr_id, e0v, simprocAttr, -Nat.reduceSubDiff]))
  refine callC (heldPeerS a.Q _ (by omega) (by omega)) ?_
  by_cases e1 : hdOk hdPeer cnPeer a.Q (k + scnStore a.st) = true
  rotate_left
  · rw [if_neg (by simp [shdFetch, e1])]
    have ev := hdOk_not (c := cnPeer) cnPeer_nn (by omega) ((Bool.not_eq_true _).mp e1)
    (simp -dsimp (disch := first | omega | (simp only [ev, LR] <;> omega) | fail) only [push_cast, ev, simprocAttr, -Nat.reduceSubDiff]) <;> (repeat (refine (aw_draw (by kernel_rfl)).2 ?_; simp -dsimp (disch := first | omega | (simp only [ev, LR] <;> omega) | fail) only [push_cast, ev, simprocAttr, -Nat.reduceSubDiff]))
  have e1v := hdOk_val e1
  rw [if_pos (by simp [shdFetch, e0, e1])]
  (simp -dsimp (disch := first | omega | (simp only [wr_id, e1v, LR] <;> omega) | fail) only [push_cast, wr_id, e1v, simprocAttr, -Nat.reduceSubDiff]) <;> (repeat (refine (aw_draw (by kernel_rfl)).2 ?_; simp -dsimp (disch := first | omega | (simp only [wr_id, e1v, LR] <;> omega) | fail) only [push_cast, wr_id, e1v, simprocAttr, -Nat.reduceSubDiff]))
end Go.Proofs.YtkkmgjhfjhcdmaaGreatDoor.Mx

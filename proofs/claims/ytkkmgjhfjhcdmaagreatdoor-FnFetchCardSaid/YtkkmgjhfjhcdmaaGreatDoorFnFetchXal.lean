/- A machine over values for Go functions, proved sound, and functions run on it: texts F5, F21, S2, F38, F39, V5, V6, VU, VX, F53, B4, V8, B2, F6, F7, F8, V7. -/
import Derived.Test.YtkkmgjhfjhcdmaaGreatDoorShB
import Derived.Test.YtkkmgjhfjhcdmaaGreatDoorShC
import Derived.Test.YtkkmgjhfjhcdmaaGreatDoorShA
import Derived.Shelf.SlSorted.Search
import Derived.Test.YtkkmgjhfjhcdmaaGreatDoorFnFetchXai
import Derived.Test.YtkkmgjhfjhcdmaaGreatDoorFnFetchXaj
import Derived.Test.YtkkmgjhfjhcdmaaGreatDoorFnFetchXak
set_option linter.all false
namespace Go.Proofs.YtkkmgjhfjhcdmaaGreatDoor.Mx
open Go Go.RowKit Go.Proofs
def E78 : Env := { T := T0, kp := look [(0, [0, 1]), (1, [0, 1]), (2, [0, 1, 5]), (3, [0, 1, 5]), (4, [0, 1, 5]), (5, [0]), (6, [0, 1, 5])], dp := look2 [(6, [[], [], [], [1, 2], [0, 1, 2, 3], [], [5], [0, 1, 2, 3, 4, 5, 6], [], [], [8, 9], [0, 1, 2, 3, 4, 5, 6, 7, 8, 9, 10], [0, 1, 2, 3, 4, 5, 6, 7, 8, 9, 10, 11]])] }
attribute [local push_cast] E78
theorem l4Add (l : List Str) (s : Str) (hl : l.length ≤ 2097152) : Does Tryz.prog 78 [.sl true 1 (l.map strR), .sc (.string s)] (.sl true 1 ((addS l s).map strR), []) := by
  refine does_of (E := E78) (rs := [.tmp 4]) (lent := []) tOk rfl Tryz.func78 rfl (by decide) rfl rfl (Nat.le_of_ble_eq_true rfl) (Nat.le_of_ble_eq_true rfl) ?_
  have hr := rk_le l s
  obtain ⟨M, hM⟩ : ∃ M, M = addS l s := ⟨_, rfl⟩
  rw [← hM]
  ((refine go0 ?_) <;> try exact nop)
  refine loop_ind (α := Nat) (fun i => i ≤ rk l s) (fun i => ⟨[(0, .ow 1 0 l.length), (1, .sc (.string s)), (5, .sc (.int .i64 i))], [(1, .ar 1 0 (l.map strR))], 2⟩) (fun i => rk l s - i) 0 (Nat.zero_le _) ?_ ?_
  · ((refine go0 ?_) <;> try exact nop)
  intro i hi ih
  by_cases h : i < l.length
  · obtain ⟨x, hx⟩ := ex_get h
    cases e : lts x s with
    | true =>
      have := rk_step hi hx e
      (have zF := an hx e; (refine go0 ?_) <;> first | exact nop | clear zF)
      refine ih (i + 1) _ (by omega) this ?_
      ((refine go1 ?_) <;> try exact nop)
    | false =>
      have hk : i = rk l s := by
        rcases Nat.lt_or_eq_of_le hi with h | h
        · obtain ⟨y, hy, hy2⟩ := rk_all h
          rw [hx] at hy; cases hy; rw [e] at hy2; cases hy2
        · exact h
      by_cases e2 : x = s
      · have hM2 : M = l := by rw [hM]; unfold addS hasS; rw [← hk, hx, e2]; simp
        subst e2
        (have zF := an hx (an e hM2); (refine go0 ?_) <;> first | exact nop | clear zF)
      · have hM2 : M = l.take i ++ s :: l.drop i := by rw [hM]; unfold addS hasS; rw [← hk, hx]; simp [e2]
        have hs : ∀ n, seg (l.map strR) 0 n = (l.take n).map strR := fun n => by simp [seg, List.map_take]
        have hs2 : ∀ a n, l.length ≤ a + n → seg (l.map strR) a n = (l.drop a).map strR := fun a n h => by unfold seg; rw [List.take_of_length_le (by simp; omega), List.map_drop]
        (have zF := an hx (an e (an e2 (an hs hs2))); (refine go0 ?_ <;> repeat (refine dr ?_; refine go0 ?_)) <;> first | exact nop | clear zF)
        simp [hM2, strR]
  · have hk : i = l.length := by omega
    have hM2 : M = l ++ [s] := by
      rw [hM]; unfold addS hasS
      have : rk l s = l.length := by omega
      rw [this]; simp
    subst hk
    have hs : ∀ n, seg (l.map strR) 0 n = (l.take n).map strR := fun n => by simp [seg, List.map_take]
    have hs2 : ∀ a n, l.length ≤ a + n → seg (l.map strR) a n = (l.drop a).map strR := fun a n h => by unfold seg; rw [List.take_of_length_le (by simp; omega), List.map_drop]
    (have zF := an hs hs2; (refine go0 ?_ <;> repeat (refine dr ?_; refine go0 ?_)) <;> first | exact nop | clear zF)
    simp [hM2, strR]
end Go.Proofs.YtkkmgjhfjhcdmaaGreatDoor.Mx

namespace Go.Proofs.YtkkmgjhfjhcdmaaGreatDoor.Mx
open Go Go.RowKit Go.Proofs
theorem rF21_0 {p q : Prop} (k : q) (h : p = q := by conv => lhs; simp -dsimp (disch := first | omega | (simp only [zF, seg, List.drop_zero, ← List.map_take, LR] <;> omega) | fail) only [push_cast, zF, seg, List.drop_zero, ← List.map_take, simprocAttr, -Nat.reduceSubDiff]) : p := h.mpr k
theorem rF21_1 {p q : Prop} (k : q) (h : p = q := by conv => lhs; simp -dsimp (disch := first | omega | (simp only [zF, wr_id, Int.toNat_natCast, LR] <;> omega) | fail) only [push_cast, zF, wr_id, Int.toNat_natCast, simprocAttr, -Nat.reduceSubDiff]) : p := h.mpr k
@[push_cast] theorem rd_num (l : List Int) : rdR (l.map numR) = l.map numR := by simp [rdR, numR, rdC]
@[push_cast] def rdC1 (c : List Int) (p : Int) : Row := [.sl false 1 (c.map numR), .sc (.int .i64 p)]
def E52 : Env := { T := T0, kp := look [(0, [0]), (1, [0]), (2, [0]), (3, [0])] }
attribute [local push_cast] E52
theorem l1Open (c : List Int) (hc : c.length ≤ 1048576) : Does Tryz.prog 52 [.sl false 1 (c.map numR)] (.pb true (rdC1 (c.take 2000) 0), []) := by
  refine does_of (E := E52) (rs := [.tmp 2]) (lent := []) tOk rfl Tryz.func52 rfl (by decide) rfl rfl (Nat.le_of_ble_eq_true rfl) (Nat.le_of_ble_eq_true rfl) ?_
  by_cases h : 2000 < c.length
  · have hne : (c.map numR).isEmpty = false := by cases c <;> simp at h ⊢
    (have zF := an h hne; (refine rF21_0 ?_ <;> repeat (refine dr ?_; refine rF21_0 ?_)) <;> first | exact nop | clear zF)
  · rw [List.take_of_length_le (by omega)]
    (have zF := h; (refine go0 ?_ <;> repeat (refine dr ?_; refine go0 ?_)) <;> first | exact nop | clear zF)
def E60 : Env := { T := T0, kp := look [(0, [0, 1]), (1, [0, 1]), (2, [0, 1]), (3, [0]), (4, [0, 1]), (5, [0, 1, 5]), (6, [0, 1, 5]), (7, [0, 1, 5]), (8, [0, 1, 6]), (9, [0, 1, 6])], dp := look2 [(7, [[], [0], [0, 1], [0, 1, 2], [], [], [5], [5, 6], [5, 6, 7], [5, 6, 7, 8], [4, 5, 6, 7, 8, 9], [0, 1, 2, 3, 4, 5, 6, 7, 8, 9, 10], [0, 1, 2, 3, 4, 5, 6, 7, 8, 9, 10, 11], [0, 1, 2, 3, 4, 5, 6, 7, 8, 9, 10, 11, 12], [0, 1, 2, 3, 4, 5, 6, 7, 8, 9, 10, 11, 12, 13], [], [15], [15, 16], [15, 16, 17], [], [19], [19, 20], [], [22], [22, 23], [22, 23, 24], [22, 23, 24, 25], [19, 20, 21, 22, 23, 24, 25, 26], [15, 16, 17, 18, 19, 20, 21, 22, 23, 24, 25, 26, 27], [15, 16, 17, 18, 19, 20, 21, 22, 23, 24, 25, 26, 27, 28], [15, 16, 17, 18, 19, 20, 21, 22, 23, 24, 25, 26, 27, 28, 29], [15, 16, 17, 18, 19, 20, 21, 22, 23, 24, 25, 26, 27, 28, 29, 30], [0, 1, 2, 3, 4, 5, 6, 7, 8, 9, 10, 11, 12, 13, 14, 15, 16, 17, 18, 19, 20, 21, 22, 23, 24, 25, 26, 27, 28, 29, 30, 31], [], [33], [0, 1, 2, 3, 4, 5, 6, 7, 8, 9, 10, 11, 12, 13, 14, 15, 16, 17, 18, 19, 20, 21, 22, 23, 24, 25, 26, 27, 28, 29, 30, 31, 32, 33, 34], [], [], [37], [37, 38], [37, 38, 39], [37, 38, 39, 40], [36, 37, 38, 39, 40, 41], [36, 37, 38, 39, 40, 41, 42], [0, 1, 2, 3, 4, 5, 6, 7, 8, 9, 10, 11, 12, 13, 14, 15, 16, 17, 18, 19, 20, 21, 22, 23, 24, 25, 26, 27, 28, 29, 30, 31, 32, 33, 34, 35, 36, 37, 38, 39, 40, 41, 42, 43], [0, 1, 2, 3, 4, 5, 6, 7, 8, 9, 10, 11, 12, 13, 14, 15, 16, 17, 18, 19, 20, 21, 22, 23, 24, 25, 26, 27, 28, 29, 30, 31, 32, 33, 34, 35, 36, 37, 38, 39, 40, 41, 42, 43, 44]])] }
attribute [local push_cast] E60
set_option maxRecDepth 20000 in
set_option maxHeartbeats 4000000 in
theorem pick (c : List Int) (p n : Int) (hc : okCode c) (hp : 0 ≤ p) (hp2 : p ≤ 1000000) (hn : n ≤ 1000000) : Does Tryz.prog 60 [.pb true (rdC1 c p), .sc (.int .i64 n)] (.sc (.int .i64 (pickF c p n)), [some (.pb true (rdC1 c (p + 1)))]) := by
  refine does_of (E := E60) (rs := [.tmp 4]) (lent := [true]) tOk rfl Tryz.func60 rfl (by decide) rfl rfl (Nat.le_of_ble_eq_true rfl) (Nat.le_of_ble_eq_true rfl) ?_
  obtain ⟨M, hM⟩ : ∃ M, M = pickF c p n := ⟨_, rfl⟩
  rw [← hM]
  unfold pickF at hM
  by_cases h1 : n < 1
  · rw [if_pos (.inl h1)] at hM
    subst hM
    (have zF := h1; (refine go1 ?_ <;> repeat (refine dr ?_; refine go1 ?_)) <;> first | exact nop | clear zF)
  by_cases h2 : c.length = 0
  · rw [if_pos (.inr (List.length_eq_zero_iff.1 h2))] at hM
    subst hM
    (have zF := an h1 h2; (refine go1 ?_ <;> repeat (refine dr ?_; refine go1 ?_)) <;> first | exact nop | clear zF)
  rw [if_neg (by rintro (h | h); exact h1 h; rw [h] at h2; exact h2 rfl)] at hM
  have hl := hc.1
  have hk : p + 1 - 1 = p := by omega
  have hlp : 0 < (c.length : Int) := by omega
  have nn : ∀ i, 0 ≤ c.getD i 0 ∧ c.getD i 0 ≤ 255 := code_get hc
  by_cases h3 : p < c.length
  · rw [if_pos h3] at hM
    obtain ⟨x, hx⟩ := ex_get (show p.toNat < c.length by omega)
    have hb := nn p.toNat
    rw [List.getD_eq_getElem?_getD, hx, Option.getD_some] at hM hb
    have ht : x.tmod n = x % n := Int.tmod_eq_emod_of_nonneg hb.1
    have hnx : numR x = [.sc (.int .u8 x)] := rfl
    (have zF := an h1 (an h2 (an h3 (an hx (an hk (an ht hnx))))); (refine go1 ?_ <;> repeat (refine dr ?_; refine go1 ?_)) <;> first | exact nop | clear zF)
    rw [hM]
  rw [if_neg h3] at hM
  have e1 : p.tmod (c.length : Int) = ((p.toNat % c.length : Nat) : Int) := by
    rw [Int.tmod_eq_emod_of_nonneg hp]
    have hp' : p = ((p.toNat : Nat) : Int) := by omega
    conv => lhs; rw [hp']
    rfl
  have e2 : (p * 7 + 3).tmod (c.length : Int) = (((p.toNat * 7 + 3) % c.length : Nat) : Int) := by
    rw [Int.tmod_eq_emod_of_nonneg (by omega), show p * 7 + 3 = ((p.toNat * 7 + 3 : Nat) : Int) by omega]; rfl
  have e3 : p.tdiv (c.length : Int) = p / c.length := Int.tdiv_eq_ediv_of_nonneg hp
  obtain ⟨x, hx⟩ := ex_get (show p.toNat % c.length < c.length from Nat.mod_lt _ (by omega))
  obtain ⟨y, hy⟩ := ex_get (show (p.toNat * 7 + 3) % c.length < c.length from Nat.mod_lt _ (by omega))
  have hbx := nn (p.toNat % c.length)
  have hby := nn ((p.toNat * 7 + 3) % c.length)
  unfold mixK at hM
  rw [List.getD_eq_getElem?_getD, hx, Option.getD_some] at hM hbx
  rw [List.getD_eq_getElem?_getD, hy, Option.getD_some] at hM hby
  have d0 : 0 ≤ p / (c.length : Int) := Int.ediv_nonneg hp (by omega)
  have d1 : p / (c.length : Int) ≤ p := Int.ediv_le_self _ hp
  generalize p / (c.length : Int) = d at *
  generalize p.toNat % c.length = i at *
  generalize (p.toNat * 7 + 3) % c.length = j at *
  obtain ⟨X, hX⟩ : ∃ X, X = x * 131 + y * 1117 + p * 29 + d * 53 := ⟨_, rfl⟩
  have X0 : 0 ≤ X := by omega
  have X1 : X < 4611686018427387904 := by omega
  have hq : X.tdiv 64 = X / 64 := Int.tdiv_eq_ediv_of_nonneg X0
  have hxo : wr .i64 (BitVec.ofInt IntKind.i64.bits X ^^^ BitVec.ofInt IntKind.i64.bits (X / 64)).toNat = xorK X := rfl
  obtain ⟨z0, z1⟩ := xorK_nn X0 X1
  have ht : (xorK X).tmod n = xorK X % n := Int.tmod_eq_emod_of_nonneg z0
  rw [← hX] at hM
  have hnx : numR x = [.sc (.int .u8 x)] := rfl
  have hny : numR y = [.sc (.int .u8 y)] := rfl
  (have zF := an h1 (an h2 (an h3 (an hk (an hnx (an hny (an e1 (an e2 (an e3 (an hx (an hy (an ((hX).symm) (an hq (an hxo ht))))))))))))); (refine rF21_1 ?_ <;> repeat (refine dr ?_; refine rF21_1 ?_)) <;> first | exact nop | clear zF)
  rw [hM]
end Go.Proofs.YtkkmgjhfjhcdmaaGreatDoor.Mx

namespace Go.Proofs.YtkkmgjhfjhcdmaaGreatDoor.Mx
open Go Go.RowKit
def Sm (Q K : Ans → Prop) : Prop := ∃ r, Q r ∧ K r
theorem Sm.imp {Q K K' : Ans → Prop} (h : ∀ r, K r → K' r) : Sm Q K → Sm Q K' := fun ⟨r, a, b⟩ => ⟨r, a, h r b⟩
theorem ex_call {P : Program} {h : FuncId} {Q : Ans → Prop} {F : Ans → Ans → Prop} {l : List AV} {r' : Ans} (hm : Does P h l r') (hf : Sm Q fun r => F r r') : Sm Q fun r => AfterC P h (fun a => F r a) (some l) :=
  hf.imp fun _ k => ⟨l, r', rfl, hm.m, k⟩
theorem ex_some {P : Program} {h : FuncId} {Q Q' : Ans → Prop} {F : Ans → Ans → Prop} {l : List AV} (hm : ∃ r', Q' r' ∧ Does P h l r') (hf : ∀ r', Q' r' → Sm Q fun r => F r r') : Sm Q fun r => AfterC P h (fun a => F r a) (some l) := by
  obtain ⟨r', hq, hd⟩ := hm
  exact ex_call hd (hf r' hq)
theorem some_call {P : Program} {h : FuncId} {Q' : Ans → Prop} {f : Ans → Prop} {l : List AV} (hm : ∃ r', Q' r' ∧ Does P h l r') (hf : ∀ r', Q' r' → f r') : AfterC P h f (some l) := by
  obtain ⟨r', hq, hd⟩ := hm
  exact callC hd (hf r' hq)
section
variable {P : Program} {E : Env}
theorem ex_loop {Qa : Ans → Prop} {Q : Ans → Po} {s : St} {c : Code} {α : Type} (I : α → Prop) (st : α → St) (μ : α → Nat) (x0 : α) (hx : I x0) (h0 : norm (E.kp (headId c)) s = st x0)
    (step : ∀ x, I x → (∀ y s, μ y < μ x → I y → norm (E.kp (headId c)) s = st y → Sm Qa fun r => aw P E (.loop c) (Q r) s) → Sm Qa fun r => aw P E c (Po.then (aw P E (.loop c) (Q r)) (Q r)) (st x)) : Sm Qa fun r => aw P E (.loop c) (Q r) s := by
  have key : ∀ n x s, μ x = n → I x → norm (E.kp (headId c)) s = st x → Sm Qa fun r => aw P E (.loop c) (Q r) s := by
    intro n
    induction n using Nat.strongRecOn with
    | _ n ih =>
      intro x s hn hI hs
      refine (step x hI fun y s hlt hIy hsy => ih (μ y) (hn ▸ hlt) y s rfl hIy hsy).imp fun r k => ?_
      rw [aw_loop, hs]; exact k
  exact key _ x0 s rfl hx h0
theorem does_ex (hT : TOk P E.T) (hm : P.follows .mixedOrders = true) {f : FuncId} {fn : Func} {c : Code} {rs : List ResultVar} {lent : List Bool} {avs : List AV} {Q : Ans → Prop} (hf : P.funcs[f]? = some fn) (hb : fn.body = some c) (hn : (fn.name == "runtime.NumGoroutine") = false)
    (hr : fn.results = rs.toArray) (hd : dstOk lent.length fn.ntmps c = true) (hN : avs.length ≤ fn.ntmps) (hl : lent.length ≤ avs.length) (h : Sm Q fun r => aw P E c (Fin E.T rs lent r) (enter avs)) : ∃ r, Q r ∧ Does P f avs r := by
  obtain ⟨r, hq, k⟩ := h
  exact ⟨r, hq, does_of hT hm hf hb hn hr hd hN hl k⟩
theorem ex_draw {Qa : Ans → Prop} {id : Nat} {all : Array Oper} {Q : Ans → Po} {s : St} (h : okD all.toList (E.dp id) = true) (k : Sm Qa fun r => drW P E id (E.dp id) all.toList (Q r .normal) 0 all.toList [] (keep (E.kp id) (frz (E.fz id) s))) : Sm Qa fun r => aw P E (.region id all true) (Q r) s :=
  k.imp fun _ k => (aw_draw h).2 k
theorem dx {Qa : Ans → Prop} {id : Nat} {all : Array Oper} {Q : Ans → Po} {s : St} (k : Sm Qa fun r => drW P E id (E.dp id) all.toList (Q r .normal) 0 all.toList [] (keep (E.kp id) (frz (E.fz id) s))) (h : okD all.toList (E.dp id) = true := by kernel_rfl) : Sm Qa fun r => aw P E (.region id all true) (Q r) s := ex_draw h k
end
theorem ex_fin {Q : Ans → Prop} {a : Ans} (h : Q a) : Sm Q fun r => some a = some r := ⟨a, h, rfl⟩
end Go.Proofs.YtkkmgjhfjhcdmaaGreatDoor.Mx

namespace Go.Proofs.YtkkmgjhfjhcdmaaGreatDoor.Mx
open Go Go.RowKit Go.Proofs
theorem half_sz (s n : Nat) : n % 2 * s + (s + s) * (n / 2) = s * n := by
  have e : n = 2 * (n / 2) + n % 2 := by omega
  generalize n / 2 = q at *
  generalize n % 2 = r at *
  subst e
  rw [Nat.mul_add, Nat.add_mul, Nat.mul_comm r s, Nat.mul_comm 2 q, ← Nat.mul_assoc, Nat.mul_two]
  omega
theorem half_odd {s n o K : Nat} (h : o + s * n ≤ K) (e : n % 2 = 1) : o + s + (s + s) * (n / 2) ≤ K := by
  have := half_sz s n
  rw [e, Nat.one_mul] at this; omega
theorem half_even {s n o K : Nat} (h : o + s * n ≤ K) (e : ¬ n % 2 = 1) : o + (s + s) * (n / 2) ≤ K := by
  have := half_sz s n
  have e : n % 2 = 0 := by omega
  rw [e, Nat.zero_mul] at this; omega
theorem le_prod {s n o K : Nat} (h : o + s * n ≤ K) (hn : 0 < n) : o + s ≤ K := by
  have := Nat.le_mul_of_pos_right s hn
  omega
theorem tmod2 (n : Nat) : (n : Int).tmod 2 = ((n % 2 : Nat) : Int) := rfl
theorem tdiv2 (n : Nat) : (n : Int).tdiv 2 = ((n / 2 : Nat) : Int) := rfl
def manR (K : Nat) (r : Ans) : Prop := ∃ t : Str, r = (.sc (.string t), []) ∧ t.size ≤ K
def E61 : Env := { T := T0, kp := look [(0, [0, 1]), (1, [0, 1]), (2, [0, 1, 5]), (3, [0, 1, 5]), (4, [0, 1, 5]), (5, [0, 1, 5]), (6, [0, 1, 5]), (7, [5])] }
attribute [local push_cast] E61
set_option maxHeartbeats 1000000 in
theorem l1Many (s : Str) (n K : Nat) (hn : n ≤ 1000000) (hK : s.size * n ≤ K) (hK2 : K ≤ 1000000) (hs : s.size ≤ 2000000) : ∃ r, manR K r ∧ Does Tryz.prog 61 [.sc (.string s), .sc (.int .i64 n)] r := by
  refine does_ex (E := E61) (rs := [.tmp 4]) (lent := []) tOk rfl Tryz.func61 rfl (by decide) rfl rfl (Nat.le_of_ble_eq_true rfl) (Nat.le_of_ble_eq_true rfl) ?_
  ((refine go0 ?_ <;> repeat (refine dx ?_; refine go0 ?_)) <;> try exact nop)
  refine ex_loop (α := Str × Nat × Str) (fun q => q.2.2.size + q.1.size * q.2.1 ≤ K ∧ q.1.size ≤ 2000000 ∧ q.2.1 ≤ 1000000)
    (fun q => ⟨[(0, .sc (.string q.1)), (1, .sc (.int .i64 q.2.1)), (5, .sc (.string q.2.2))], [], 1⟩)
    (fun q => q.2.1) (s, n, ⟨#[]⟩) ⟨by show 0 + s.size * n ≤ K; omega, hs, hn⟩ ?_ ?_
  · ((refine go0 ?_) <;> try exact nop)
  rintro ⟨s, n, o⟩ ⟨g1, g2, g3⟩ ih
  replace g1 : o.size + s.size * n ≤ K := g1
  replace g2 : s.size ≤ 2000000 := g2
  replace g3 : n ≤ 1000000 := g3
  have m2 := tmod2 n
  have d2 := tdiv2 n
  by_cases h : 0 < n
  · have hle := le_prod g1 h
    by_cases e : n % 2 = 1
    · have i1 := half_odd g1 e
      rw [e] at m2
      have hsz : (s ++ s).size = s.size + s.size := ByteArray.size_append
      have hsz2 : (o ++ s).size = o.size + s.size := ByteArray.size_append
      (have zF := an h (an m2 d2); (refine go0 ?_ <;> repeat (refine dx ?_; refine go0 ?_)) <;> first | exact nop | clear zF)
      refine ih (s ++ s, n / 2, o ++ s) _ (by show n / 2 < n; omega) ⟨by show (o ++ s).size + (s ++ s).size * (n / 2) ≤ K; rw [hsz, hsz2]; exact i1, by show (s ++ s).size ≤ 2000000; omega, by show n / 2 ≤ 1000000; omega⟩ ?_
      ((refine go1 ?_) <;> try exact nop)
    · have i1 := half_even g1 e
      have e : n % 2 = 0 := by omega
      rw [e] at m2
      have hsz : (s ++ s).size = s.size + s.size := ByteArray.size_append
      (have zF := an h (an m2 d2); (refine go0 ?_ <;> repeat (refine dx ?_; refine go0 ?_)) <;> first | exact nop | clear zF)
      refine ih (s ++ s, n / 2, o) _ (by show n / 2 < n; omega) ⟨by show o.size + (s ++ s).size * (n / 2) ≤ K; rw [hsz]; exact i1, by show (s ++ s).size ≤ 2000000; omega, by show n / 2 ≤ 1000000; omega⟩ ?_
      ((refine go1 ?_) <;> try exact nop)
  · (have zF := h; (refine go0 ?_ <;> repeat (refine dx ?_; refine go0 ?_)) <;> first | exact nop | clear zF)
    exact ⟨_, ⟨o, rfl, by omega⟩, rfl⟩
end Go.Proofs.YtkkmgjhfjhcdmaaGreatDoor.Mx

namespace Go.Proofs.YtkkmgjhfjhcdmaaGreatDoor.Mx
open Go Go.RowKit Go.Proofs
theorem rF39_0 {p q : Prop} (k : q) (h : p = q := by conv => lhs; simp -dsimp (disch := first | omega | (simp only [zF, wr_id, List.map_append, List.length_append, List.length_cons, List.length_nil, List.map_cons, List.map_nil, LR] <;> omega) | fail) only [push_cast, zF, wr_id, List.map_append, List.length_append, List.length_cons, List.length_nil, List.map_cons, List.map_nil, simprocAttr, -Nat.reduceSubDiff]) : p := h.mpr k
theorem sz1 (a : UInt8) : (⟨#[a]⟩ : ByteArray).size = 1 := rfl
theorem sz3 (a b c : UInt8) : (⟨#[a, b, c]⟩ : ByteArray).size = 3 := rfl
theorem sz10 (a b c d e f g h i j : UInt8) : (⟨#[a, b, c, d, e, f, g, h, i, j]⟩ : ByteArray).size = 10 := rfl
theorem nat_of' {x : Int} (h : 0 ≤ x) : ∃ n : Nat, x = n := ⟨x.toNat, by omega⟩
def thR (c : List Int) (p : Int) (r : Ans) : Prop := ∃ (t : Str) (p' : Int), r = (.sc (.string t), [some (.pb true (rdC1 c p'))]) ∧ t.size ≤ 10000 ∧ p ≤ p' ∧ p' ≤ p + 10
theorem byte_row {v : Int} (h0 : 0 ≤ v) (h1 : v ≤ 255) : ([.sc (.int .u8 v)] : Row) = byteRow (UInt8.ofNat v.toNat) := by
  unfold byteRow
  rw [UInt8.toNat_ofNat']
  rw [Nat.mod_eq_of_lt (by omega), show ((v.toNat : Nat) : Int) = v by omega]
def E59 : Env := { T := T0, kp := look [(0, [0]), (1, [0]), (2, [0, 8]), (3, [0]), (4, [0, 8]), (5, [0]), (6, [0, 8]), (7, [0]), (8, [0, 8]), (9, [0]), (10, [0]), (11, [0, 3]), (12, [0, 3, 4]), (13, [0, 3, 4, 5]), (14, [0, 3, 4, 5, 6]), (15, [0, 3, 4, 5, 6]), (16, [0, 3, 4, 5, 6]), (17, [0, 3, 4, 5, 6]), (18, [0, 3])], md := look3 [(1, 1, [1, 0]), (5, 1, [1, 0]), (7, 1, [1, 0]), (9, 1, [1, 0]), (11, 1, [1, 0]), (11, 3, [1, 0]), (12, 1, [1, 0]), (12, 4, [1, 0])] }
attribute [local push_cast] E59
set_option maxRecDepth 20000 in
set_option maxHeartbeats 400000 in
theorem l2Thing (c : List Int) (p : Int) (hc : okCode c) (hp : 0 ≤ p) (hp2 : p ≤ 10000) : ∃ r, thR c p r ∧ Does Tryz.prog 59 [.pb true (rdC1 c p)] r := by
  refine does_ex (E := E59) (rs := [.tmp 2]) (lent := [true]) tOk rfl Tryz.func59 rfl (by decide) rfl rfl (Nat.le_of_ble_eq_true rfl) (Nat.le_of_ble_eq_true rfl) ?_
  obtain ⟨z0, z1⟩ := pickF_nn hc p 10 hp (by omega)
  have z1 := z1 (by omega)
  ((refine go0 ?_ <;> repeat (refine dx ?_; refine go0 ?_)) <;> try exact nop)
  refine ex_call (pick c p 10 hc hp (by omega) (by omega)) ?_
  obtain ⟨N, hN⟩ := nat_of' z0
  rw [hN]
  by_cases n0 : N = 0
  · subst n0
    ((refine go0 ?_ <;> repeat (refine dx ?_; refine go0 ?_)) <;> try exact nop)
    exact ⟨_, ⟨⟨#[]⟩, p + 1, rfl, Nat.zero_le _, by omega, by omega⟩, rfl⟩
  by_cases n1 : N = 1
  · subst n1
    ((refine go0 ?_ <;> repeat (refine dx ?_; refine go0 ?_)) <;> try exact nop)
    obtain ⟨y0, y1⟩ := pickF_nn hc (p + 1) 200 (by omega) (by omega)
    have y1 := y1 (by omega)
    refine ex_call (pick c (p + 1) 200 hc (by omega) (by omega) (by omega)) ?_
    obtain ⟨k, hk⟩ := nat_of' y0
    rw [hk]
    ((refine go0 ?_ <;> repeat (refine dx ?_; refine go0 ?_)) <;> try exact nop)
    refine ex_some (l1Many ⟨#[122]⟩ k 200 (by omega) (by rw [sz1]; omega) (by omega) (by rw [sz1]; omega)) ?_
    rintro _ ⟨t, rfl, ht⟩
    ((refine go0 ?_ <;> repeat (refine dx ?_; refine go0 ?_)) <;> try exact nop)
    exact ⟨_, ⟨t, p + 1 + 1, rfl, by omega, by omega, by omega⟩, rfl⟩
  by_cases n2 : N = 2
  · subst n2
    ((refine go0 ?_ <;> repeat (refine dx ?_; refine go0 ?_)) <;> try exact nop)
    obtain ⟨y0, y1⟩ := pickF_nn hc (p + 1) 30 (by omega) (by omega)
    have y1 := y1 (by omega)
    refine ex_call (pick c (p + 1) 30 hc (by omega) (by omega) (by omega)) ?_
    obtain ⟨k, hk⟩ := nat_of' y0
    rw [hk]
    ((refine go0 ?_ <;> repeat (refine dx ?_; refine go0 ?_)) <;> try exact nop)
    refine ex_some (l1Many ⟨#[97, 98, 99, 100, 101, 102, 103, 104, 105, 106]⟩ k 300 (by omega) (by rw [sz10]; omega) (by omega) (by rw [sz10]; omega)) ?_
    rintro _ ⟨t, rfl, ht⟩
    ((refine go0 ?_ <;> repeat (refine dx ?_; refine go0 ?_)) <;> try exact nop)
    exact ⟨_, ⟨t, p + 1 + 1, rfl, by omega, by omega, by omega⟩, rfl⟩
  by_cases n3 : N = 3
  · subst n3
    ((refine go0 ?_ <;> repeat (refine dx ?_; refine go0 ?_)) <;> try exact nop)
    obtain ⟨y0, y1⟩ := pickF_nn hc (p + 1) 2 (by omega) (by omega)
    have y1 := y1 (by omega)
    refine ex_call (pick c (p + 1) 2 hc (by omega) (by omega) (by omega)) ?_
    obtain ⟨k, hk⟩ := nat_of' y0
    rw [hk]
    obtain ⟨m, hm⟩ := nat_of' (show 0 ≤ (3000 : Int) - k by omega)
    (have zF := hm; (refine go1 ?_ <;> repeat (refine dx ?_; refine go1 ?_)) <;> first | exact nop | clear zF)
    refine ex_some (l1Many ⟨#[109]⟩ m 3000 (by omega) (by rw [sz1]; omega) (by omega) (by rw [sz1]; omega)) ?_
    rintro _ ⟨t, rfl, ht⟩
    ((refine go0 ?_ <;> repeat (refine dx ?_; refine go0 ?_)) <;> try exact nop)
    exact ⟨_, ⟨t, p + 1 + 1, rfl, by omega, by omega, by omega⟩, rfl⟩
  (have zF := an n0 (an n1 (an n2 n3)); (refine go0 ?_ <;> repeat (refine dx ?_; refine go0 ?_)) <;> first | exact nop | clear zF)
  obtain ⟨y0, y1⟩ := pickF_nn hc (p + 1) 200 (by omega) (by omega)
  have y1 := y1 (by omega)
  refine ex_call (pick c (p + 1) 200 hc (by omega) (by omega) (by omega)) ?_
  ((refine go0 ?_ <;> repeat (refine dx ?_; refine go0 ?_)) <;> try exact nop)
  obtain ⟨x0, x1⟩ := pickF_nn hc (p + 1 + 1) 200 (by omega) (by omega)
  have x1 := x1 (by omega)
  refine ex_call (pick c (p + 1 + 1) 200 hc (by omega) (by omega) (by omega)) ?_
  obtain ⟨T, hT⟩ : ∃ T : Nat, pickF c (p + 1) 200 + pickF c (p + 1 + 1) 200 = T := nat_of' (by omega)
  have hT4 : T ≤ 400 := by omega
  (have zF := hT; (refine go1 ?_ <;> repeat (refine dx ?_; refine go1 ?_)) <;> first | exact nop | clear zF)
  obtain ⟨v0, v1⟩ := pickF_nn hc (p + 1 + 1 + 1) 256 (by omega) (by omega)
  have v1 := v1 (by omega)
  refine ex_call (pick c (p + 1 + 1 + 1) 256 hc (by omega) (by omega) (by omega)) ?_
  ((refine go1 ?_ <;> repeat (refine dx ?_; refine go1 ?_)) <;> try exact nop)
  obtain ⟨u0, u1⟩ := pickF_nn hc (p + 1 + 1 + 1 + 1) 256 (by omega) (by omega)
  have u1 := u1 (by omega)
  refine ex_call (pick c (p + 1 + 1 + 1 + 1) 256 hc (by omega) (by omega) (by omega)) ?_
  generalize pickF c (p + 1 + 1 + 1) 256 = V at *
  generalize pickF c (p + 1 + 1 + 1 + 1) 256 = U at *
  obtain ⟨X, hX⟩ := nat_of' (show 0 ≤ V * 256 + U + 1 by omega)
  have hX6 : X ≤ 65536 := by omega
  (have zF := hX; (refine go1 ?_ <;> repeat (refine dx ?_; refine go1 ?_)) <;> first | exact nop | clear zF)
  refine ex_loop (α := Nat × Nat × List UInt8) (fun q => q.1 ≤ T ∧ q.2.1 ≤ 65536 ∧ q.2.2.length = q.1)
    (fun q => ⟨[(0, .pt 1 0 0), (3, .ow 2 0 q.2.2.length), (4, .sc (.int .i64 T)), (5, .sc (.int .i64 q.2.1)), (6, .sc (.int .i64 q.1))], [(1, .bx (rdC1 c (p + 1 + 1 + 1 + 1 + 1))), (2, .ar 1 0 (q.2.2.map byteRow))], 3⟩)
    (fun q => T - q.1) (0, X, []) ⟨Nat.zero_le _, hX6, rfl⟩ ?_ ?_
  · ((refine go0 ?_) <;> try exact nop)
  rintro ⟨i, x, B⟩ ⟨g1, g2, g3⟩ ih
  replace g1 : i ≤ T := g1
  replace g2 : x ≤ 65536 := g2
  replace g3 : B.length = i := g3
  clear hX hT x0 x1 y0 y1 u0 u1 v0 v1 z0 z1 hX6
  by_cases h : i < T
  · have e1 : ((x : Int) * 4005 + 7).tmod 65521 = (((x * 4005 + 7) % 65521 : Nat) : Int) := by
      rw [show (x : Int) * 4005 + 7 = ((x * 4005 + 7 : Nat) : Int) by omega]; rfl
    have hy : (x * 4005 + 7) % 65521 < 65521 := Nat.mod_lt _ (by omega)
    obtain ⟨y, hye⟩ : ∃ y, y = (x * 4005 + 7) % 65521 := ⟨_, rfl⟩
    rw [← hye] at e1 hy
    clear hye
    obtain ⟨q, hq⟩ : ∃ q, q = y / 7 := ⟨_, rfl⟩
    have e5 : (y : Int).tdiv 7 = (q : Int) := by rw [hq]; rfl
    have hq7 : q ≤ 65536 := by omega
    have e2 : (q : Int).tmod 26 = ((q % 26 : Nat) : Int) := rfl
    have hz : q % 26 < 26 := Nat.mod_lt _ (by omega)
    obtain ⟨z, hze⟩ : ∃ z, z = q % 26 := ⟨_, rfl⟩
    rw [← hze] at e2 hz
    clear hze hq
    have e3 := byte_row (v := 97 + (z : Int)) (by omega) (by omega)
    have e4 : wr .u8 (97 + (z : Int)) = 97 + (z : Int) := by rw [wr_u8]; omega
    (have zF := an h (an e1 (an e2 (an e4 e5))); (refine go1 ?_ <;> repeat (refine dx ?_; refine go1 ?_)) <;> first | exact nop | clear zF)
    refine ih (i + 1, y, B ++ [UInt8.ofNat (97 + (z : Int)).toNat]) _ (by show T - (i + 1) < T - i; omega) ⟨h, by show y ≤ 65536; omega, by show (B ++ _).length = i + 1; rw [List.length_append, g3]; rfl⟩ ?_
    (have zF := (e3).symm; (refine rF39_0 ?_) <;> first | exact nop | clear zF)
  · have hi : i = T := by omega
    (have zF := hi; (refine go0 ?_ <;> repeat (refine dx ?_; refine go0 ?_)) <;> first | exact nop | clear zF)
    exact ⟨_, ⟨stB B, _, rfl, by rw [stB_size]; omega, by omega, by omega⟩, rfl⟩
end Go.Proofs.YtkkmgjhfjhcdmaaGreatDoor.Mx

namespace Go.Proofs.YtkkmgjhfjhcdmaaGreatDoor.Mx
open Go Go.RowKit
def emF : Fetch := ⟨em, 0, false, emS, []⟩
def newPeer : Peer := ⟨0, 0, -1, em, []⟩
def newF (s : Store) (n : Str) (p : Int) : Fetch := if (pinS s n).2 = 0 ∧ inB p 1 5 = true then ⟨n, 0, false, (pinS s n).1, List.replicate p.toNat newPeer⟩ else emF
end Go.Proofs.YtkkmgjhfjhcdmaaGreatDoor.Mx

namespace Go.Proofs.YtkkmgjhfjhcdmaaGreatDoor.Mx
open Go Go.RowKit
def jb (l : List Str) : List UInt8 := l.flatMap bt
theorem jb_app (a b : List Str) : jb (a ++ b) = jb a ++ jb b := List.flatMap_append ..
theorem jb_one (x : Str) : jb [x] = bt x := by simp [jb]
def mset (l : List Str) : List (Value × Value) := l.foldl (fun es x => kset es (.string x) (.bool true)) []
theorem kget_kset (es : List (Value × Value)) (x y : Str) (u : Value) : kget (kset es (.string x) u) (.string y) = if x = y then some u else kget es (.string y) := by
  induction es with
  | nil => by_cases h : x = y <;> simp [kset, kget, keq, eqs, h, eq_comm]
  | cons e r ih =>
    obtain ⟨k, v⟩ := e
    rw [kset, kget]
    cases hk : keq k (.string x) with
    | true =>
      rw [cond_true, kget]
      cases k <;> simp only [keq] at hk <;> try (cases hk; done)
      rename_i a
      have : x = a := by simpa [eqs] using hk
      subst this
      by_cases h : x = y
      · subst h; simp [keq, eqs]
      · have h3 : ¬ y = x := fun e => h e.symm
        simp [keq, eqs, h, h3]
    | false =>
      rw [cond_false, kget, ih]
      by_cases h : x = y
      · subst h
        rw [hk]; simp
      · simp [h]
theorem mset_get (l : List Str) (y : Str) : kget (mset l) (.string y) = if inL l y = true then some (.bool true) else none := by
  unfold mset
  have : ∀ (l : List Str) (es : List (Value × Value)), kget (l.foldl (fun es x => kset es (.string x) (.bool true)) es) (.string y) = if inL l y = true then some (.bool true) else kget es (.string y) := fun l => by
    induction l with
    | nil => intro es; simp [inL]
    | cons a r ih =>
      intro es
      rw [List.foldl_cons, ih, kget_kset]
      by_cases h1 : inL r y = true
      · have : inL (a :: r) y = true := by unfold inL at h1 ⊢; rw [List.any_cons, h1]; simp
        rw [if_pos h1, if_pos this]
      · rw [if_neg h1]
        by_cases h2 : a = y
        · have : inL (a :: r) y = true := by unfold inL; rw [List.any_cons]; simp [h2]
          rw [if_pos h2, if_pos this]
        · have : ¬ inL (a :: r) y = true := by unfold inL at h1 ⊢; rw [List.any_cons]; simp [h2]; simpa using h1
          rw [if_neg h2, if_neg this]
  rw [this]; rfl
theorem mset_step {l : List Str} {i : Nat} {x : Str} (h : l[i]? = some x) : mset (l.take (i + 1)) = kset (mset (l.take i)) (.string x) (.bool true) := by
  unfold mset; rw [take_step h, List.foldl_append]; rfl
def mok (es : List (Value × Value)) : Bool := es.all fun e => (match e.1 with | .string _ => true | _ => false) && (match e.2 with | .bool _ => true | _ => false)
theorem mok_kset {es : List (Value × Value)} (h : mok es = true) (x : Str) (b : Bool) : mok (kset es (.string x) (.bool b)) = true := by
  induction es with
  | nil => rfl
  | cons e r ih =>
    obtain ⟨k, v⟩ := e
    unfold mok at h ih ⊢
    rw [List.all_cons, Bool.and_eq_true] at h
    rw [kset]
    cases hk : keq k (.string x) with
    | true => rw [cond_true, List.all_cons, h.2]; simp at h ⊢; exact h.1.1
    | false => rw [cond_false, List.all_cons, ih h.2, h.1]; rfl
theorem mset_mok (l : List Str) : mok (mset l) = true := by
  unfold mset
  have : ∀ (l : List Str) (es : List (Value × Value)), mok es = true → mok (l.foldl (fun es x => kset es (.string x) (.bool true)) es) = true := fun l => by
    induction l with
    | nil => intro es h; exact h
    | cons a r ih => intro es h; exact ih _ (mok_kset h a true)
  exact this l [] rfl
theorem mok_kok {es : List (Value × Value)} (h : mok es = true) : kok .str es = true ∧ es.all (fun e => plain e.2) = true := by
  unfold mok at h
  unfold kok
  rw [List.all_eq_true] at h ⊢
  rw [List.all_eq_true]
  constructor
  · intro e he
    have := h e he
    obtain ⟨k, v⟩ := e
    cases k <;> simp at this ⊢
    simp [kkey]
  · intro e he
    have := h e he
    obtain ⟨k, v⟩ := e
    cases v <;> simp at this ⊢
    simp [plain]
end Go.Proofs.YtkkmgjhfjhcdmaaGreatDoor.Mx

namespace Go.Proofs.YtkkmgjhfjhcdmaaGreatDoor.Mx
open Go Go.RowKit
def atI (w : Int) (n : Str) : List Item → Int
  | [] => -1
  | x :: r => if sumS x.t w = n then 0 else if atI w n r < 0 then -1 else atI w n r + 1
theorem at_some {w : Int} {n : Str} : ∀ {I : List Item} {i : Nat} {x : Item}, (∀ j y, j < i → I[j]? = some y → sumS y.t w ≠ n) → I[i]? = some x → sumS x.t w = n → atI w n I = i
  | [], i, x, _, h, _ => by simp at h
  | y :: r, 0, x, _, h, e => by
    cases h
    rw [atI, if_pos e]; rfl
  | y :: r, i + 1, x, hn, h, e => by
    have h1 := hn 0 y (by omega) rfl
    have ih := at_some (I := r) (i := i) (fun j z hj hz => hn (j + 1) z (by omega) hz) h e
    rw [atI, if_neg h1, ih, if_neg (by omega)]; omega
theorem at_none {w : Int} {n : Str} : ∀ {I : List Item}, (∀ y ∈ I, sumS y.t w ≠ n) → atI w n I = -1
  | [], _ => rfl
  | y :: r, hn => by
    rw [atI, if_neg (hn y (by simp)), at_none (I := r) (fun z hz => hn z (by simp [hz])), if_pos (by omega)]
theorem at_get {w : Int} {n : Str} : ∀ {I : List Item}, 0 ≤ atI w n I → ∃ (i : Nat) (x : Item), atI w n I = i ∧ I[i]? = some x ∧ sumS x.t w = n
  | [], h => by rw [atI] at h; omega
  | y :: r, h => by
    rw [atI] at h ⊢
    by_cases e : sumS y.t w = n
    · rw [if_pos e]; exact ⟨0, y, rfl, rfl, e⟩
    · rw [if_neg e] at h ⊢
      by_cases h2 : atI w n r < 0
      · rw [if_pos h2] at h; omega
      · obtain ⟨i, x, h3, h4, h5⟩ := at_get (w := w) (n := n) (I := r) (by omega)
        rw [if_neg h2, h3]
        exact ⟨i + 1, x, by omega, h4, h5⟩
theorem at_ge {w : Int} {n : Str} : ∀ {I : List Item}, -1 ≤ atI w n I
  | [] => by rw [atI]; omega
  | y :: r => by
    rw [atI]
    split
    · omega
    · split <;> omega
theorem at_neg {w : Int} {n : Str} {I : List Item} : atI w n I < 0 ↔ inL (I.map fun x => sumS x.t w) n = false := by
  constructor
  · intro h
    cases hb : inL (I.map fun x => sumS x.t w) n with
    | false => rfl
    | true =>
      obtain ⟨x, hx, e⟩ := List.mem_map.1 ((inL_iff _ _).1 hb)
      exfalso
      have : ∀ (I : List Item), x ∈ I → 0 ≤ atI w n I := fun I => by
        induction I with
        | nil => intro h; cases h
        | cons y r ih =>
          intro h
          rw [atI]
          by_cases e2 : sumS y.t w = n
          · rw [if_pos e2]; omega
          · rw [if_neg e2]
            rcases List.mem_cons.1 h with rfl | h
            · exact (e2 e).elim
            · have := ih h
              rw [if_neg (by omega)]; omega
      have := this I hx
      omega
  · intro h
    apply Classical.byContradiction
    intro hc
    obtain ⟨i, x, _, h1, h2⟩ := at_get (w := w) (n := n) (I := I) (by omega)
    have : inL (I.map fun x => sumS x.t w) n = true := (inL_iff _ _).2 (List.mem_map.2 ⟨x, List.mem_of_getElem? h1, h2⟩)
    rw [this] at h; cases h
noncomputable def listF (s : Store) (n : Str) : Lst × Bool := if atI s.w n s.I < 0 then (⟨0, []⟩, false) else match s.I[(atI s.w n s.I).toNat]? with
  | some x => readL x.t s.w
  | none => (⟨0, []⟩, false)
def lackL (w : Int) (I : List Item) : List Str → List Str → List Str
  | acc, [] => acc
  | acc, x :: r => lackL w I (if atI w x I < 0 ∧ inL acc x = false then acc ++ [x] else acc) r
noncomputable def lacksF (s : Store) (n : Str) : List Str := if validSt s = false ∨ (n.size : Int) ≠ s.w then [] else if (listF s n).2 = false then [n] else lackL s.w s.I [] (listF s n).1.S
theorem lackL_len (w : Int) (I : List Item) : ∀ (L acc : List Str), (lackL w I acc L).length ≤ acc.length + L.length
  | [], acc => Nat.le_refl _
  | x :: r, acc => by
    rw [lackL]
    have := lackL_len w I r (if atI w x I < 0 ∧ inL acc x = false then acc ++ [x] else acc)
    split at this
    · rw [List.length_append] at this
      rw [if_pos (by assumption)]
      simp only [List.length_cons, List.length_nil] at this ⊢; omega
    · rw [if_neg (by assumption)]
      rw [List.length_cons]; omega
theorem list_ok {s : Store} {n : Str} : (listF s n).1.S.length ≤ 375 ∧ ∀ x ∈ (listF s n).1.S, x.size ≤ 8 := by
  unfold listF
  split
  · simp
  · split
    · rename_i x _
      cases h : (readL x.t s.w).2 with
      | false => rw [read_fst h]; simp
      | true =>
        obtain ⟨_, w8, _, _, hn, hs⟩ := okLs_up (read_ok h).1
        exact ⟨hn, fun y hy => by have := hs y hy; omega⟩
    · simp
theorem mset_app (l : List Str) (x : Str) : mset (l ++ [x]) = kset (mset l) (.string x) (.bool true) := by
  unfold mset; rw [List.foldl_append]; rfl
theorem inL_app (l m : List Str) (x : Str) : inL (l ++ m) x = (inL l x || inL m x) := by unfold inL; rw [List.any_append]
end Go.Proofs.YtkkmgjhfjhcdmaaGreatDoor.Mx

namespace Go.Proofs.YtkkmgjhfjhcdmaaGreatDoor.Mx
open Go Go.RowKit
def bldB (w : Int) : Nat → List Str → List Str → Bool
  | _, [], [] => true
  | n, p :: r, s :: q => decide (n + p.size ≤ 3000) && decide (sumS p w = s) && bldB w (n + p.size) r q
  | _, _, _ => false
def buildF (l : Lst) (ps : List Str) (w : Int) : Str × Bool :=
  if okLs l w = true ∧ ps.length = l.S.length ∧ bldB w 0 ps l.S = true ∧ ((jb ps).length : Int) = l.sz ∧ (descL (stB (jb ps)) w).1 = l then (stB (jb ps), true) else (em, false)
theorem build_no {l : Lst} {ps : List Str} {w : Int} (h : okLs l w = false ∨ ps.length ≠ l.S.length ∨ bldB w 0 ps l.S = false ∨ ((jb ps).length : Int) ≠ l.sz ∨ (descL (stB (jb ps)) w).1 ≠ l) : buildF l ps w = (em, false) := by
  unfold buildF
  rw [if_neg]
  rintro ⟨a, b, c, d, e⟩
  rcases h with h | h | h | h | h
  · rw [a] at h; cases h
  · exact h b
  · rw [c] at h; cases h
  · exact h d
  · exact h e
theorem jb_take {l : List Str} {i : Nat} {x : Str} (h : l[i]? = some x) : (jb (l.take (i + 1))).length = (jb (l.take i)).length + x.size := by
  rw [take_step h, jb_app, jb_one, List.length_append, bt_len]
theorem build_len {l : Lst} {ps : List Str} {w : Int} : (buildF l ps w).1.size ≤ 3000 := by
  unfold buildF
  split
  · rename_i h
    obtain ⟨_, _, _, s3, _, _⟩ := okLs_up h.1
    rw [stB_size]; omega
  · exact Nat.zero_le _
def textAt (s : Store) (x : Str) : Str := match s.I[(atI s.w x s.I).toNat]? with | some y => y.t | none => em
noncomputable def loadF0 (s : Store) (n : Str) : Str × Bool :=
  if (listF s n).2 = true ∧ ((listF s n).1.S.all fun x => decide (0 ≤ atI s.w x s.I)) = true then buildF (listF s n).1 ((listF s n).1.S.map (textAt s)) s.w else (em, false)
noncomputable def loadF (s : Store) (n : Str) : Str × Bool := if validSt s = false then (em, false) else loadF0 s n
theorem textAt_some {s : Store} {x : Str} {y : Item} {i : Nat} (h : atI s.w x s.I = i) (hy : s.I[i]? = some y) : textAt s x = y.t := by
  unfold textAt; rw [h, Int.toNat_natCast, hy]
theorem textAt_sz {s : Store} (hs : okStore s) (x : Str) : (textAt s x).size ≤ 2097152 := by
  unfold textAt
  split
  · rename_i y h; exact hs.1.2 y (List.mem_of_getElem? h)
  · exact Nat.zero_le _
theorem load_len {s : Store} {n : Str} : (loadF s n).1.size ≤ 3000 := by
  unfold loadF loadF0
  split
  · exact Nat.zero_le _
  · split
    · exact build_len
    · exact Nat.zero_le _
end Go.Proofs.YtkkmgjhfjhcdmaaGreatDoor.Mx

namespace Go.Proofs.YtkkmgjhfjhcdmaaGreatDoor.Mx
open Go Go.RowKit Go.Proofs
theorem rF53_0 {p q : Prop} (k : q) (h : p = q := by conv => lhs; simp -dsimp (disch := first | omega | (simp only [zF, lrep6, LR] <;> omega) | fail) only [push_cast, zF, lrep6, simprocAttr, -Nat.reduceSubDiff]) : p := h.mpr k
theorem pick_nat (c : List Int) (p n : Int) (hc : okCode c) (hp : 0 ≤ p) (hp2 : p ≤ 900000) (hn : 1 ≤ n) (hn2 : n ≤ 1000000) : ∃ N : Nat, (N : Int) < n ∧ Does Tryz.prog 60 [.pb true (rdC1 c p), .sc (.int .i64 n)] (.sc (.int .i64 N), [some (.pb true (rdC1 c (p + 1)))]) := by
  obtain ⟨z0, z1⟩ := pickF_nn hc p n hp (by omega)
  obtain ⟨N, hN⟩ := nat_of' z0
  exact ⟨N, by rw [← hN]; exact z1 hn, hN ▸ pick c p n hc hp (by omega) hn2⟩
theorem lrep2 {α : Type} (a : α) : List.replicate 2 a = [a, a] := rfl
theorem lrep3 {α : Type} (a : α) : List.replicate 3 a = [a, a, a] := rfl
theorem lrep5 {α : Type} (a : α) : List.replicate 5 a = [a, a, a, a, a] := rfl
theorem lrep6 {α : Type} (a : α) : List.replicate 6 a = [a, a, a, a, a, a] := rfl
def wdR (c : List Int) (p : Int) (r : Ans) : Prop := ∃ w : Int, r = (.sc (.int .i64 w), [some (.pb true (rdC1 c (p + 1)))]) ∧ 1 ≤ w ∧ w ≤ 8
def E151 : Env := { T := T0, kp := look [(0, [0]), (1, [0])], md := look3 [(1, 2, [1, 0])] }
attribute [local push_cast] E151
theorem l1DrawWidth (c : List Int) (p : Int) (hc : okCode c) (hp : 0 ≤ p) (hp2 : p ≤ 900000) : ∃ r, wdR c p r ∧ Does Tryz.prog 151 [.pb true (rdC1 c p)] r := by
  refine does_ex (E := E151) (rs := [.tmp 2]) (lent := [true]) tOk rfl Tryz.func151 rfl (by decide) rfl rfl (Nat.le_of_ble_eq_true rfl) (Nat.le_of_ble_eq_true rfl) ?_
  obtain ⟨N, hN, hd⟩ := pick_nat c p 6 hc hp hp2 (by omega) (by omega)
  ((refine go0 ?_ <;> repeat (refine dx ?_; refine go0 ?_)) <;> try exact nop)
  refine ex_call hd ?_
  rcases (show N = 0 ∨ N = 1 ∨ N = 2 ∨ N = 3 ∨ N = 4 ∨ N = 5 by omega) with rfl | rfl | rfl | rfl | rfl | rfl
  all_goals
    ((refine rF53_0 ?_ <;> repeat (refine dx ?_; refine rF53_0 ?_)) <;> try exact nop)
    exact ⟨_, ⟨_, rfl, by omega, by omega⟩, rfl⟩
theorem ext_le (s : Str) (a b : Nat) : (s.extract a b).size ≤ s.size := by
  rw [ext_cur, stB_size]; unfold curB
  rw [List.length_drop, List.length_take, bt_len]; omega
theorem sz8 (a b c d e f g h : UInt8) : (⟨#[a, b, c, d, e, f, g, h]⟩ : ByteArray).size = 8 := rfl
end Go.Proofs.YtkkmgjhfjhcdmaaGreatDoor.Mx

namespace Go.Proofs.YtkkmgjhfjhcdmaaGreatDoor.Mx
open Go Go.RowKit Go.Proofs Go.Sort
def srtB (l : List Str) : List (List UInt8) := (l.map (·.data.toList)).mergeSort fun x y => decide (x ≤ y)
def srt (l : List Str) : List Str := (srtB l).map fun b => ⟨b.toArray⟩
theorem srt_nil : srt [] = [] := by simp [srt, srtB]
theorem srtB_len (l : List Str) : (srtB l).length = l.length := by simp [srtB]
theorem srt_len (l : List Str) : (srt l).length = l.length := by simp [srt, srtB_len]
theorem args1 {w : Go.World} {ok : Nat → Prop} {G : Fp} {args : List Value} {x : AV} (h : ArgsRep w ok G args [x]) : ∃ u, args = [u] ∧ OwnA w ok (G 0) u x := by
  match args, h.len with
  | [u], _ => exact ⟨u, rfl, h.own 0 u x rfl rfl⟩
theorem post_same {w : Go.World} {ok : Nat → Prop} {G : Fp} {u : Value} {x : AV} (h : ∀ w' ok', Own w' ok' (fun _ => False) u x) : ∃ H, Post w ok G [u] (.tu [], [some x]) (.tuple #[]) w H := by
  refine ⟨fun _ _ => False, ⟨⟨rfl, rfl, rfl, Nat.le_refl _, fun _ _ _ => rfl⟩, Kp.refl _, fun _ _ _ h => h.elim, fun _ _ h => h.elim, ?_, fun i t hi => ?_⟩⟩
  · exact ⟨[], fun _ _ => False, rfl, rfl, fun _ _ h => h, fun _ _ _ h => h.elim, fun j v x hv => by simp at hv⟩
  · cases i with
    | zero =>
      simp at hi; subst hi
      refine ⟨u, rfl, ?_⟩
      cases x with
      | ag cs => have := h w (fun _ => True); cases this with | rd _ _ _ _ _ hr => cases hr
      | _ => exact h _ _
    | succ i => simp at hi
theorem doesSort (l : List Str) (hl : l.length < 4611686018427387904) : Does Tryz.prog 111 [.sl true 1 (l.map strR)] (.tu [], [some (.sl true 1 ((srt l).map strR))]) := by
  constructor
  intro w ok G args hA
  left
  refine ⟨by simp [callFunc, Tryz.func111]; rfl, ?_⟩
  obtain ⟨u, rfl, h0⟩ := args1 hA
  have h0' : Own w ok (G 0) u (.sl true 1 (l.map strR)) := h0
  generalize hr : l.map strR = rows at h0'
  cases h0' with
  | rd _ _ _ h1 => exact (h1 _ _ rfl).elim
  | nil =>
    have : l = [] := by simpa using hr
    subst this
    refine (Any.sort_Strings_none Tryz.lays192 none 0 w).mono fun e w' hh => ?_
    obtain ⟨rfl, rfl⟩ := hh
    rw [srt_nil]; exact post_same fun w ok => Own.nil _ _
  | emp _ _ b off =>
    have : l = [] := by simpa using hr
    subst this
    refine (Any.sort_Strings_none Tryz.lays192 (some ⟨b, off, none⟩) 0 w).mono fun e w' hh => ?_
    obtain ⟨rfl, rfl⟩ := hh
    rw [srt_nil]; exact post_same fun w ok => Own.emp _ _ _ _
  | sl _ _ b off cap _ cur e fr Fs f1 f2 f3 f4 f5 f6 f7 f8 f9 f10 f11 =>
    subst hr
    simp only [List.length_map] at *
    have hcell : ∀ i x, l[i]? = some x → cur.getD (off + i) undef = .string x := by
      intro i x hx
      have hi : (l.map strR)[i]? = some [.sc (.string x)] := by rw [List.getElem?_map, hx]; rfl
      have a := f11 i _ 0 _ hi rfl
      simp only [Nat.mul_one, Nat.add_zero] at a
      exact rep_str (own_rep a (by intro z r h; cases h) (by intro cs h; cases h))
    have hH : Holds encStr w b off (l.map (·.data.toList)).toArray := by
      intro j hj
      simp only [List.size_toArray, List.length_map] at hj
      refine ⟨?_, frozen_at f2 f3 (by omega)⟩
      rw [cell_some f2 (by omega), hcell j l[j] (List.getElem?_eq_getElem hj)]
      simp [encStr, hj]
    have z := Any.sort_Strings Tryz.lays192 b off cap (l.map (·.data.toList)) w hH (Array.getElem?_eq_some_iff.1 f2).1 (by simpa using hl)
    rw [List.length_map] at z
    change Calls _ _ _ _ (fun e w' => e = _ ∧ ∃ n os, w' = grow (putRow encStr (Sort.ahead w n) b off (srtB l).toArray) os) at z
    refine z.mono fun e' w' hh => ?_
    obtain ⟨rfl, n, os, rfl⟩ := hh
    have hsz : (grow (putRow encStr (Sort.ahead w n) b off (srtB l).toArray) os).heap.size = w.heap.size + os.size := by simp
    have hbw := (Array.getElem?_eq_some_iff.1 f2).1
    have hb' : (grow (putRow encStr (Sort.ahead w n) b off (srtB l).toArray) os).heap[b]? = some (.cells (putCells encStr off (srtB l).toArray cur) e fr) := by
      simp only [grow]
      rw [Array.getElem?_append_left (by simpa using hbw)]
      simp [putRow, mapBlock, Array.getElem?_modify, f2, onCells, Sort.ahead]
    have hoth : ∀ k, k < w.heap.size → k ≠ b → (grow (putRow encStr (Sort.ahead w n) b off (srtB l).toArray) os).heap[k]? = w.heap[k]? := by
      intro k hk hkb
      simp only [grow]
      rw [Array.getElem?_append_left (by simpa using hk)]
      simp [putRow, mapBlock, Sort.ahead, Array.getElem?_modify, Ne.symm hkb]
    have hcs : (putCells encStr off (srtB l).toArray cur).size = cur.size := by simp [putCells]
    refine ⟨fun i k => i = 1 ∧ k = b, ⟨⟨rfl, rfl, rfl, by rw [hsz]; omega, fun k hk hm => hoth k hk fun hkb => hm ⟨0, hkb ▸ f1⟩⟩, ?_, fun i j _ h h' => h.1.trans h'.1.symm, fun i k h => ⟨by rw [hsz, h.2]; omega, .inr ⟨0, h.2 ▸ f1⟩⟩, ?_, fun i t hi => ?_⟩⟩
    · intro k c e1 fr1 hk
      by_cases hkb : k = b
      · subst hkb
        rw [f2] at hk; cases hk
        exact ⟨_, hb', hcs⟩
      · exact ⟨c, (hoth k (Array.getElem?_eq_some_iff.1 hk).1 hkb).trans hk, rfl⟩
    · exact ⟨[], fun _ _ => False, rfl, rfl, fun _ _ h => h.elim, fun _ _ _ h => h.elim, fun j v x hv => by simp at hv⟩
    · cases i with
      | succ i => simp at hi
      | zero =>
        simp at hi; subst hi
        refine ⟨_, rfl, ?_⟩
        show Own _ _ _ _ _
        have hlen : ((srt l).map strR).length = l.length := by rw [List.length_map, srt_len]
        have hget : ∀ (i : Nat) (row : Row) (j : Nat) (x : AV), ((srt l).map strR)[i]? = some row → row[j]? = some x → ∃ s, (putCells encStr off (srtB l).toArray cur).getD (off + (i * 1 + j)) undef = .string s ∧ x = .sc (.string s) := by
          intro i row j x hi hj
          have hil : i < l.length := by have := idx_lt hi; rw [hlen] at this; exact this
          rw [List.getElem?_map, srt, List.getElem?_map] at hi
          have hiB : i < (srtB l).length := by rw [srtB_len]; exact hil
          rw [List.getElem?_eq_getElem hiB] at hi
          cases hi
          cases j with
          | succ j => simp [strR] at hj
          | zero =>
            cases hj
            refine ⟨_, ?_, rfl⟩
            have hc : off + i < cur.size := by omega
            simp [putCells, hc, hiB, encStr]
        rw [← hlen]
        refine Own.sl _ 1 b off cap _ (putCells encStr off (srtB l).toArray cur) e fr (fun _ _ _ => False) ⟨rfl, rfl⟩ hb' (by unfold Thawed; rw [hcs]; exact f3) (by rw [hlen]; exact f4) (by rw [hcs]; exact f5) f6 (fun _ _ _ h => h.elim) (fun _ _ _ _ _ h => h.elim) ?_ ?_ ?_
        · intro i row hi
          rw [List.getElem?_map] at hi
          cases hq : (srt l)[i]? with
          | none => rw [hq] at hi; cases hi
          | some s => rw [hq] at hi; cases hi; rfl
        · intro i row j x hi hj
          obtain ⟨s, h1, rfl⟩ := hget i row j x hi hj
          rw [h1]; rfl
        · intro i row j x hi hj
          obtain ⟨s, h1, rfl⟩ := hget i row j x hi hj
          rw [h1]
          exact Own.rd _ _ _ (by intro z r h; cases h) (by intro cs h; cases h) (.sc _ rfl)
end Go.Proofs.YtkkmgjhfjhcdmaaGreatDoor.Mx

namespace Go.Proofs.YtkkmgjhfjhcdmaaGreatDoor.Mx
open Go Go.RowKit
attribute [local instance 100000] instBEqOfDecidableEq
def pT (s : Str) : Value × Value := (.string s, .bool true)
def ins (l : List Str) (s : Str) : List Str := if s ∈ l then l else l ++ [s]
theorem kset_ins (l : List Str) (s : Str) : kset (l.map pT) (.string s) (.bool true) = (ins l s).map pT := by
  unfold ins
  induction l with
  | nil => simp [kset, pT]
  | cons a r ih =>
    rw [List.map_cons]
    by_cases h : a = s
    · subst h; simp [kset, pT, keq, eqs]
    · have h2 : ¬ s = a := fun e => h e.symm
      show kset ((Value.string a, Value.bool true) :: r.map pT) _ _ = _
      rw [kset]
      have hk : keq (.string a) (.string s) = false := by simp [keq, eqs, h2]
      rw [hk, cond_false, ih]
      by_cases h3 : s ∈ r <;> simp [h3, h2, pT]
theorem ins_nodup {l : List Str} (h : l.Nodup) (s : Str) : (ins l s).Nodup := by
  unfold ins
  split
  · exact h
  · rename_i hs
    rw [List.nodup_append]
    exact ⟨h, by simp, fun a ha b hb => by simp at hb; subst hb; intro e; subst e; exact hs ha⟩
theorem ins_mem {l : List Str} {s x : Str} : x ∈ ins l s ↔ x ∈ l ∨ x = s := by
  unfold ins
  split <;> simp
  rename_i h
  intro e; subst e; exact h
def insL (l r : List Str) : List Str := r.foldl ins l
theorem insL_nodup {l : List Str} (h : l.Nodup) (r : List Str) : (insL l r).Nodup := by
  unfold insL
  induction r generalizing l with
  | nil => exact h
  | cons a r ih => exact ih (ins_nodup h a)
theorem insL_mem {l r : List Str} {x : Str} : x ∈ insL l r ↔ x ∈ l ∨ x ∈ r := by
  unfold insL
  induction r generalizing l with
  | nil => simp
  | cons a r ih => rw [List.foldl_cons, ih, ins_mem]; simp [or_assoc]
theorem nodup_len {l m : List Str} (h : l.Nodup) (hs : ∀ x ∈ l, x ∈ m) : l.length ≤ m.length := by
  induction l generalizing m with
  | nil => exact Nat.zero_le _
  | cons a r ih =>
    rw [List.nodup_cons] at h
    have ha := hs a (by simp)
    have := ih (m := m.erase a) h.2 fun x hx => by
      have hne : x ≠ a := fun e => h.1 (e ▸ hx)
      exact (List.mem_erase_of_ne hne).2 (hs x (by simp [hx]))
    rw [List.length_erase_of_mem ha] at this
    have : 0 < m.length := List.length_pos_of_mem ha
    simp only [List.length_cons]; omega
theorem pT_plain (l : List Str) : ((l.map pT).all fun e => plain e.1 && plain e.2) = true := by
  rw [List.all_eq_true]; intro e he
  obtain ⟨s, _, rfl⟩ := List.mem_map.1 he
  rfl
theorem srt_perm {l m : List Str} (h : l.Perm m) : srt l = srt m := by
  unfold srt srtB
  congr 1
  have hp : ((l.map (·.data.toList)).mergeSort fun x y => decide (x ≤ y)).Perm ((m.map (·.data.toList)).mergeSort fun x y => decide (x ≤ y)) :=
    (List.mergeSort_perm _ _).trans ((h.map _).trans (List.mergeSort_perm _ _).symm)
  have tr : ∀ a b c : List UInt8, decide (a ≤ b) = true → decide (b ≤ c) = true → decide (a ≤ c) = true := by
    intro a b c h1 h2; simp at *; exact List.le_trans h1 h2
  have «to» : ∀ a b : List UInt8, (decide (a ≤ b) || decide (b ≤ a)) = true := by
    intro a b; simp; exact List.le_total a b
  exact hp.eq_of_pairwise (le := fun x y => decide (x ≤ y) = true) (fun a b _ _ h1 h2 => by simp at h1 h2; exact List.le_antisymm h1 h2) (List.pairwise_mergeSort tr «to» _) (List.pairwise_mergeSort tr «to» _)
theorem map_pT_perm {rem : List Str} {kv : Value × Value} {r : List (Value × Value)} (h : (rem.map pT).Perm (kv :: r)) : ∃ s q, kv = pT s ∧ r = q.map pT ∧ rem.Perm (s :: q) := by
  have hk : kv ∈ rem.map pT := h.mem_iff.2 (by simp)
  obtain ⟨s, hs, rfl⟩ := List.mem_map.1 hk
  have h2 : (r.map fun e => match e.1 with | .string s => s | _ => s).map pT = r := by
    rw [List.map_map]
    conv => rhs; rw [← List.map_id r]
    apply List.map_congr_left
    intro e he
    have : e ∈ rem.map pT := h.mem_iff.2 (by simp [he])
    obtain ⟨z, _, rfl⟩ := List.mem_map.1 this
    rfl
  refine ⟨s, r.map fun e => match e.1 with | .string s => s | _ => s, rfl, h2.symm, ?_⟩
  have h3 := h.map fun e => match e.1 with | .string s => s | _ => s
  rw [List.map_map, List.map_cons] at h3
  have h4 : (rem.map ((fun e : Value × Value => match e.1 with | .string s => s | _ => s) ∘ pT)) = rem := by
    conv => rhs; rw [← List.map_id rem]
    apply List.map_congr_left
    intro e he; rfl
  rw [h4] at h3
  exact h3
end Go.Proofs.YtkkmgjhfjhcdmaaGreatDoor.Mx

namespace Go.Proofs.YtkkmgjhfjhcdmaaGreatDoor.Mx
open Go Go.RowKit Go.Proofs
theorem lts_def (a b : Str) : lts a b = decide (a.data.toList < b.data.toList) := bytesLess_eq _ _
def parts (l : List Str) (s : Str) : Prop := ∀ a b : Nat, a ≤ b → ∀ x y, l[a]? = some x → l[b]? = some y → lts y s = true → lts x s = true
theorem countP_rk {s : Str} : ∀ {l : List Str}, parts l s → l.countP (fun y => lts y s) = rk l s
  | [], _ => rfl
  | a :: r, h => by
    rw [List.countP_cons, rk]
    have ht : parts r s := fun i j hij x y hx hy => h (i + 1) (j + 1) (by omega) x y hx hy
    cases ha : lts a s with
    | true => rw [countP_rk ht]; simp
    | false =>
      have : r.countP (fun y => lts y s) = 0 := by
        rw [List.countP_eq_zero]
        intro y hy
        obtain ⟨j, hj⟩ := List.mem_iff_getElem?.1 hy
        intro hc
        have := h 0 (j + 1) (by omega) a y rfl hj hc
        rw [ha] at this; cases this
      rw [this]; simp
theorem searchStrings (l : List Str) (s : Str) (hl : l.length ≤ 2097152) (hp : parts l s) : Does Tryz.prog 120 [.sl false 1 (l.map strR), .sc (.string s)] (.sc (.int .i64 (rk l s)), []) := by
  refine does_pure Tryz.func120 rfl rfl rfl fun w ok G args hA => ?_
  obtain ⟨u, v, rfl, h0, h1⟩ := args2 hA
  obtain rfl := rep_str (own_rep h1 (by intro z r h; cases h) (by intro cs h; cases h))
  rcases rep_strs (own_rep h0 (by intro z r h; cases h) (by intro cs h; cases h)) with ⟨rfl, A, c, rfl⟩ | ⟨b, off, cap, rfl, hc, hb, hcell⟩
  · exact Any.sort_SearchStrings_none Tryz.searchStrings A c s w
  · have e2 : ∀ i x, l[i]? = some x → (l.toArray)[i]! = x := fun i x hx => by
      have hi := idx_lt hx
      rw [getElem!_pos l.toArray i (by simpa using hi)]
      rw [List.getElem?_eq_getElem hi] at hx
      simpa using hx
    have z := Any.sort_SearchStrings Tryz.searchStrings b off cap l.toArray s w (fun i hi => by
        obtain ⟨x, hx⟩ := ex_get (by simpa using hi : i < l.length)
        rw [e2 i x hx]; exact hcell i x hx) (hA.inn b hb) (by simp; omega) (fun i j hij hj => by
        obtain ⟨y, hy⟩ := ex_get (by simpa using hj : j < l.length)
        obtain ⟨x, hx⟩ := ex_get (show i < l.length by have := idx_lt hy; omega)
        rw [e2 i x hx, e2 j y hy, ← lts_def, ← lts_def]
        intro q
        cases z : lts y s with
        | false => rfl
        | true => rw [hp i j hij x y hx hy z] at q; exact q)
    simp only [List.size_toArray] at z
    refine z.mono fun e w' hh => ⟨?_, hh.2⟩
    rw [hh.1, ← countP_rk hp]
    congr 4
    funext y
    rw [lts_def]; simp
end Go.Proofs.YtkkmgjhfjhcdmaaGreatDoor.Mx

namespace Go.Proofs.YtkkmgjhfjhcdmaaGreatDoor.Mx
open Go Go.RowKit Go.Proofs
theorem lts_trans {a b c : Str} (h1 : lts a b = true) (h2 : lts b c = true) : lts a c = true := by
  rw [lts_def] at *
  exact decide_eq_true (List.lt_trans (of_decide_eq_true h1) (of_decide_eq_true h2))
theorem asc_get {w : Int} : ∀ {p : Option Str} {l : List Str} {i : Nat} {x : Str}, ascF w p l = true → l[i]? = some x → (x.size : Int) = w ∧ ∀ q, p = some q → lts q x = true
  | _, [], i, x, _, h => by simp at h
  | p, a :: r, 0, x, h, hx => by
    rw [ascF, Bool.and_eq_true, Bool.and_eq_true, decide_eq_true_eq] at h
    simp only [List.getElem?_cons_zero, Option.some.injEq] at hx
    subst hx
    exact ⟨h.1.1, fun q hq => by rw [hq] at h; exact h.1.2⟩
  | p, a :: r, i + 1, x, h, hx => by
    rw [ascF, Bool.and_eq_true, Bool.and_eq_true, decide_eq_true_eq] at h
    have := asc_get h.2 (by simpa using hx)
    exact ⟨this.1, fun q hq => by rw [hq] at h; exact lts_trans h.1.2 (this.2 a rfl)⟩
theorem asc_lt {w : Int} : ∀ {p : Option Str} {l : List Str} {i j : Nat} {x y : Str}, ascF w p l = true → i < j → l[i]? = some x → l[j]? = some y → lts x y = true
  | _, [], i, j, x, y, _, _, h, _ => by simp at h
  | p, a :: r, 0, j + 1, x, y, h, _, hx, hy => by
    rw [ascF, Bool.and_eq_true, Bool.and_eq_true, decide_eq_true_eq] at h
    simp only [List.getElem?_cons_zero, Option.some.injEq] at hx
    subst hx
    exact (asc_get h.2 (by simpa using hy)).2 a rfl
  | p, a :: r, i + 1, j + 1, x, y, h, hij, hx, hy => by
    rw [ascF, Bool.and_eq_true, Bool.and_eq_true, decide_eq_true_eq] at h
    exact asc_lt h.2 (by omega : i < j) (by simpa using hx) (by simpa using hy)
theorem asc_parts {w : Int} {p : Option Str} {l : List Str} (h : ascF w p l = true) (s : Str) : parts l s := fun a b hab x y hx hy hl => by
  rcases Nat.lt_or_eq_of_le hab with hlt | rfl
  · exact lts_trans (asc_lt h hlt hx hy) hl
  · rw [hx] at hy; cases hy; exact hl
theorem validSt_asc {s : Store} (h : validSt s = true) : ascF s.w none s.P = true ∧ s.P.length ≤ 10 := by
  unfold validSt at h
  simp only [Bool.and_eq_true, decide_eq_true_eq] at h
  exact ⟨h.1.1.2, h.1.1.1.2⟩
def E77 : Env := { T := T0, kp := look [(0, [0, 1]), (1, [1, 2]), (2, [1, 2, 6])], dp := look2 [(2, [[], [], [], [2], [2, 3], [1, 2, 3, 4], [1, 2, 3, 4, 5], [1, 2, 3, 4, 5, 6], [1, 2, 3, 4, 5, 6, 7], [1, 2, 3, 4, 5, 6], [1, 2, 3, 4, 5, 6, 7, 8, 9], [1, 2, 3, 4, 5, 6, 7, 8, 9, 10], [1, 2, 3, 4, 5, 6], [1, 2, 3, 4, 5, 6, 7, 8, 9, 10, 11, 12], [1, 2, 3, 4, 5, 6, 7, 8, 9, 10, 11, 12, 13], [0, 1, 2, 3, 4, 5, 6], [0, 1, 2, 3, 4, 5, 6, 7, 8, 9, 10, 11, 12, 13, 14, 15]])] }
attribute [local push_cast] E77
theorem pinned (s : Store) (n : Str) (hs : okStore s) (hp : parts s.P n) : Does Tryz.prog 77 [.ag (storeC false s), .sc (.string n)] (.tu [.sc (.int .i64 (rk s.P n)), .sc (.bool (hasS s.P n))], []) := by
  refine does_of (E := E77) (rs := [.tmp 4, .tmp 5]) (lent := []) tOk rfl Tryz.func77 rfl (by decide) rfl rfl (Nat.le_of_ble_eq_true rfl) (Nat.le_of_ble_eq_true rfl) ?_
  have hr := rk_le s.P n
  have hl := hs.2.1
  ((refine go0 ?_ <;> repeat (refine dr ?_; refine go0 ?_)) <;> try exact nop)
  refine callC (searchStrings s.P n hl hp) ?_
  by_cases h : rk s.P n < s.P.length
  · obtain ⟨x, hx⟩ := ex_get h
    by_cases e : x = n
    · have hh : hasS s.P n = true := by unfold hasS; rw [hx, e]; simp
      (have zF := an hx (an e hh); (refine go0 ?_ <;> repeat (refine dr ?_; refine go0 ?_)) <;> first | exact nop | clear zF)
    · have hh : hasS s.P n = false := by unfold hasS; rw [hx]; simp [e]
      (have zF := an hx (an e hh); (refine go0 ?_ <;> repeat (refine dr ?_; refine go0 ?_)) <;> first | exact nop | clear zF)
  · have hh : hasS s.P n = false := by unfold hasS; rw [List.getElem?_eq_none (by omega)]; simp
    (have zF := hh; (refine go0 ?_ <;> repeat (refine dr ?_; refine go0 ?_)) <;> first | exact nop | clear zF)
end Go.Proofs.YtkkmgjhfjhcdmaaGreatDoor.Mx

namespace Go.Proofs.YtkkmgjhfjhcdmaaGreatDoor.Mx
open Go Go.RowKit Go.Proofs
theorem seg_drop (l : List Str) (a n : Nat) (h : l.length ≤ a + n) : seg (l.map strR) a n = (l.drop a).map strR := by
  unfold seg; rw [List.take_of_length_le (by simp; omega), List.map_drop]
theorem ins_rows (P : List Str) (z : Str) (i : Nat) (hi : i ≤ P.length) : ∃ x : Str,
    List.take (i + 1) (P.map strR ++ [[.sc (.string z)]]) ++ List.take (P.length - i) (seg (P.map strR ++ [[.sc (.string z)]]) i (P.length + 1 - i)) ++
      List.drop (i + 1 + min (seg (P.map strR ++ [[.sc (.string z)]]) i (P.length + 1 - i)).length (P.length - i)) (P.map strR ++ [[.sc (.string z)]]) = (P.take i ++ x :: P.drop i).map strR := by
  have e : P.map strR ++ [[.sc (.string z)]] = (P ++ [z]).map strR := by simp [strR]
  rw [e, seg_drop (P ++ [z]) i (P.length + 1 - i) (by simp only [List.length_append, List.length_cons, List.length_nil]; omega)]
  obtain ⟨x, hx⟩ := ex_get (show i < (P ++ [z]).length by simp; omega)
  refine ⟨x, ?_⟩
  have t1 : (P ++ [z]).take (i + 1) = P.take i ++ [x] := by rw [take_step hx, List.take_append_of_le_length hi]
  have t2 : ((P ++ [z]).drop i).take (P.length - i) = P.drop i := by rw [List.drop_append_of_le_length hi, List.take_append_of_le_length (by rw [List.length_drop]; omega), List.take_of_length_le (by rw [List.length_drop]; omega)]
  have t3 : List.drop (i + 1 + min (((P ++ [z]).drop i).map strR).length (P.length - i)) ((P ++ [z]).map strR) = [] := List.drop_eq_nil_of_le (by simp only [List.length_map, List.length_append, List.length_drop, List.length_cons, List.length_nil]; omega)
  rw [← List.map_take, ← List.map_take, t1, t2, t3]
  simp
theorem flatR_seg {r : List Row} (h : flatR r = true) (a n : Nat) : flatR (seg r a n) = true := by
  unfold flatR seg at *
  rw [List.all_eq_true] at *
  exact fun x hx => h x (List.mem_of_mem_drop (List.mem_of_mem_take hx))
theorem mid_get {α : Type} {a b : List α} {x : α} {i : Nat} (h : a.length = i) : (a ++ x :: b)[i]? = some x := by subst h; simp
theorem mid_set {α : Type} {a b : List α} {x y : α} {i : Nat} (h : a.length = i) : (a ++ x :: b).set i y = a ++ y :: b := by subst h; simp
def E21 : Env := { T := T0, kp := look [(0, [0, 1]), (1, [1, 2, 4]), (2, [4]), (3, [1, 2, 4]), (4, [1, 4, 6]), (5, [4, 6]), (6, [4]), (7, [4, 6])], md := look3 [(4, 4, [2])] }
attribute [local push_cast] E21
theorem addS_len (l : List Str) (n : Str) : (addS l n).length ≤ l.length + 1 ∧ (hasS l n = false → (addS l n).length = l.length + 1) := by
  have := rk_le l n
  unfold addS
  cases hasS l n with
  | true => simp
  | false => simp; omega
theorem specPin (s : Store) (n : Str) (hs : okStore s) : Does Tryz.prog 21 [.ag (storeC false s), .sc (.string n)] (.tu [.ag (storeC true (pinS s n).1), .sc (.int .i64 (pinS s n).2)], []) := by
  refine does_of (E := E21) (rs := [.cell 4 26, .tmp 5]) (lent := []) tOk rfl Tryz.func21 rfl (by decide) rfl rfl (Nat.le_of_ble_eq_true rfl) (Nat.le_of_ble_eq_true rfl) ?_
  have hl := hs.1.1
  have hp := hs.2.1
  obtain ⟨M, hM⟩ : ∃ M, M = pinS s n := ⟨_, rfl⟩
  rw [← hM]
  unfold pinS at hM
  ((refine go0 ?_ <;> repeat (refine dr ?_; refine go0 ?_)) <;> try exact nop)
  refine callC (specValidStore s hs) ?_
  cases hv : validSt s with
  | false =>
    rw [hv, Bool.false_and, if_pos rfl] at hM
    subst hM
    ((refine go0 ?_ <;> repeat (refine dr ?_; refine go0 ?_)) <;> try exact nop)
    rfl
  | true =>
  by_cases hw : (n.size : Int) = s.w
  rotate_left
  · rw [if_pos (by simp [hw])] at hM
    subst hM
    (have zF := hw; (refine go0 ?_ <;> repeat (refine dr ?_; refine go0 ?_)) <;> first | exact nop | clear zF)
    rfl
  rw [if_neg (by simp [hv, hw])] at hM
  obtain ⟨has, hp10⟩ := validSt_asc hv
  have hal := addS_len s.P n
  (have zF := hw; (refine go0 ?_ <;> repeat (refine dr ?_; refine go0 ?_)) <;> first | exact nop | clear zF)
  refine callC (l4Copy s hs) ?_
  ((refine go0 ?_ <;> repeat (refine dr ?_; refine go0 ?_)) <;> try exact nop)
  refine callC (l4Add s.P n hp) ?_
  cases hh : hasS s.P n with
  | true =>
    rw [if_pos hh] at hM
    subst hM
    have : addS s.P n = s.P := by unfold addS; rw [hh]; rfl
    (have zF := this; (refine go0 ?_ <;> repeat (refine dr ?_; refine go0 ?_)) <;> first | exact nop | clear zF)
  | false =>
  rw [if_neg (by simp [hh])] at hM
  have hal := hal.2 hh
  by_cases h10 : s.P.length = 10
  · rw [if_pos h10] at hM
    subst hM
    (have zF := an h10 hal; (refine go0 ?_ <;> repeat (refine dr ?_; refine go0 ?_)) <;> first | exact nop | clear zF)
    rfl
  rw [if_neg h10] at hM
  subst hM
  (have zF := hal; (refine go0 ?_ <;> repeat (refine dr ?_; refine go0 ?_)) <;> first | exact nop | clear zF)
end Go.Proofs.YtkkmgjhfjhcdmaaGreatDoor.Mx

namespace Go.Proofs.YtkkmgjhfjhcdmaaGreatDoor.Mx
open Go Go.RowKit Go.Proofs
theorem rF8_0 {p q : Prop} (k : q) (h : p = q := by conv => lhs; simp -dsimp (disch := first | omega | (simp only [zF, wr_id, newRows_len, LR] <;> omega) | fail) only [push_cast, zF, wr_id, newRows_len, simprocAttr, -Nat.reduceSubDiff]) : p := h.mpr k
theorem rF8_1 {p q : Prop} (k : q) (h : p = q := by conv => lhs; simp -dsimp (disch := first | omega | (simp only [zF, newRows_len, newRows, LR] <;> omega) | fail) only [push_cast, zF, newRows_len, newRows, simprocAttr, -Nat.reduceSubDiff]) : p := h.mpr k
theorem pinS_ok {s : Store} {n : Str} (hs : okStore s) (hn : okStr n) : okStore (pinS s n).1 := by
  unfold pinS
  split
  · exact ⟨⟨by simp [emS], by simp [emS]⟩, ⟨by simp [emS], by simp [emS]⟩⟩
  · rename_i hv
    split
    · exact hs
    · split
      · exact ⟨⟨by simp [emS], by simp [emS]⟩, ⟨by simp [emS], by simp [emS]⟩⟩
      · have hv : validSt s = true := by cases h : validSt s <;> simp_all
        obtain ⟨_, h10⟩ := validSt_asc hv
        have := addS_len s.P n
        refine ⟨hs.1, ⟨by simp only []; omega, fun a ha => ?_⟩⟩
        simp only [] at ha
        unfold addS at ha
        cases hh : hasS s.P n with
        | true => rw [hh] at ha; exact hs.2.2 a ha
        | false =>
          rw [hh, cond_false, List.mem_append, List.mem_cons] at ha
          rcases ha with ha | rfl | ha
          · exact hs.2.2 a (List.mem_of_mem_take ha)
          · exact hn
          · exact hs.2.2 a (List.mem_of_mem_drop ha)
theorem newF_ok {s : Store} {n : Str} {p : Int} (hs : okStore s) (hn : okStr n) : okFetch (newF s n p) := by
  unfold newF
  split
  · rename_i h
    have hp : 1 ≤ p ∧ p ≤ 5 := by have := h.2; unfold inB at this; exact of_decide_eq_true this
    refine ⟨hn, pinS_ok hs hn, by simp only [List.length_replicate]; omega, fun a ha => ?_⟩
    rw [List.eq_of_mem_replicate ha]
    exact ⟨by simp [okStr, newPeer, em, ByteArray.size], by simp [newPeer], by simp [newPeer]⟩
  · exact ⟨by simp [okStr, emF, em, ByteArray.size], ⟨⟨by simp [emF, emS], by simp [emF, emS]⟩, ⟨by simp [emF, emS], by simp [emF, emS]⟩⟩, by simp [emF], by simp [emF]⟩
def newRow : Row := [.sc (.int .i64 0), .sc (.int .i64 0), .sc (.int .i64 (-1)), .sc (.string ⟨#[]⟩), .sl true 1 []]
theorem newRows (k : Nat) : (List.replicate k newPeer).map (peerC true) = List.replicate k newRow := by rw [List.map_replicate]; rfl
theorem newRows_len (k : Nat) : (List.replicate k newRow).length = k := List.length_replicate
def E177 : Env := { T := T0, kp := look [(0, [0, 1, 2]), (1, [1, 2, 3, 6]), (2, [1, 2, 6, 7, 8]), (3, [6]), (4, [1, 2, 6, 7]), (5, [2, 6, 9]), (6, [2, 6, 9, 10]), (7, [2, 6, 9, 10]), (8, [2, 6, 9, 10]), (9, [6, 9])] }
attribute [local push_cast] E177
theorem specNewFetch (s : Store) (n : Str) (p : Int) (hs : okStore s) (hn : okStr n) : Does Tryz.prog 177 [.ag (storeC false s), .sc (.string n), .sc (.int .i64 p)] (.ag (fetchC true (newF s n p)), []) := by
  refine does_of (E := E177) (rs := [.cell 6 53]) (lent := []) tOk rfl Tryz.func177 rfl (by decide) rfl rfl (Nat.le_of_ble_eq_true rfl) (Nat.le_of_ble_eq_true rfl) ?_
  obtain ⟨F, hF⟩ : ∃ F, F = newF s n p := ⟨_, rfl⟩
  rw [← hF]
  unfold newF at hF
  ((refine go0 ?_ <;> repeat (refine dr ?_; refine go0 ?_)) <;> try exact nop)
  refine callC (specPin s n hs) ?_
  obtain ⟨⟨g, c⟩, hg⟩ : ∃ q, q = pinS s n := ⟨_, rfl⟩
  rw [← hg] at hF ⊢
  dsimp only at hF
  have c1 : ∀ (h : ¬ (c = 0 ∧ inB p 1 5 = true)), F = emF := fun h => by rw [hF, if_neg h]
  by_cases h1 : c = 0
  rotate_left
  · obtain rfl := c1 (fun h => h1 h.1)
    (have zF := h1; (refine go0 ?_ <;> repeat (refine dr ?_; refine go0 ?_)) <;> first | exact nop | clear zF)
    rfl
  (have zF := h1; (refine go0 ?_ <;> repeat (refine dr ?_; refine go0 ?_)) <;> first | exact nop | clear zF)
  refine callC (l1In ..) ?_
  cases h2 : inB p 1 5 with
  | false =>
    obtain rfl := c1 (fun h => by rw [h2] at h; cases h.2)
    ((refine go0 ?_ <;> repeat (refine dr ?_; refine go0 ?_)) <;> try exact nop)
    rfl
  | true =>
  have h3 : 1 ≤ p ∧ p ≤ 5 := by unfold inB at h2; exact of_decide_eq_true h2
  rw [if_pos ⟨h1, h2⟩] at hF
  (have zF := h1; (refine go0 ?_ <;> repeat (refine dr ?_; refine go0 ?_)) <;> first | exact nop | clear zF)
  refine loop_ind (α := Nat) (fun i => i ≤ p.toNat) (fun i => ⟨[(2, .sc (.int .i64 p)), (6, .pt 1 0 0), (9, .pt 5 0 0), (10, .sc (.int .i64 i))],
    [(1, .bx [.sc (.string ⟨#[]⟩), .sc (.int .i64 0), .sc (.bool false), .sc (.int .i64 0), .sc (.int .i64 0), .ow 2 0 0, .ow 3 0 0, .ow 4 0 0]), (2, .ar 2 0 []), (3, .ar 1 0 []), (4, .ar 5 0 []),
     (5, .bx [.sc (.string n), .sc (.int .i64 0), .sc (.bool false), .sc (.int .i64 g.w), .sc (.int .i64 g.r), .ow 6 0 g.I.length, .ow 7 0 g.P.length, .ow 8 0 i]), (6, .ar 2 0 (g.I.map (itemC true))), (7, .ar 1 0 (g.P.map strR)), (8, .ar 5 0 (List.replicate i newRow))], 9⟩) (fun i => p.toNat - i) 0 (Nat.zero_le _) ?_ ?_
  · ((refine go0 ?_) <;> try exact nop)
  intro i hi ih
  by_cases h : (i : Int) < p
  · ((refine rF8_0 ?_) <;> try exact nop)
    refine ih (i + 1) _ (by omega) (by omega) ?_
    have ee : List.replicate i newRow ++ [[.sc (.int .i64 0), .sc (.int .i64 0), .sc (.int .i64 (-1)), .sc (.string ⟨#[]⟩), .sl true 1 []]] = List.replicate (i + 1) newRow := List.replicate_succ'.symm
    (have zF := ee; (refine go1 ?_) <;> first | exact nop | clear zF)
  · have hi : p.toNat = i := by omega
    subst hF
    (have zF := hi; (refine rF8_1 ?_) <;> first | exact nop | clear zF)
end Go.Proofs.YtkkmgjhfjhcdmaaGreatDoor.Mx

namespace Go.Proofs.YtkkmgjhfjhcdmaaGreatDoor.Mx
open Go Go.RowKit
def askB (w wait : Int) (ask : Str) : Bool := bif decide (0 < wait) then decide ((ask.size : Int) = w) else bif decide (wait = 0) then decide (ask = em) else true
def peerB (w now : Int) (p : Peer) : Bool := inB p.lies 0 3 && inB p.wait 0 5 && inB p.last (-1) now && decide (p.N.length ≤ 376) && askB w p.wait p.ask && ascF w none p.N
def validF (f : Fetch) : Bool := validSt f.st && inL f.st.P f.nm && inB f.now 0 1000000 && inB f.Q.length 1 5 && f.Q.all (peerB f.st.w f.now)
def msgB (n : Int) (m : Message) : Bool := inB m.fr 0 n && inB m.to 0 n && decide (m.sum.size ≤ 8) && decide (m.tx.size ≤ 7000)
def storeB (w : Int) (s : Store) : Bool := validSt s && decide (s.w = w)
def emW : World := ⟨emF, [], [], [], 0⟩
def newW (f : Fetch) (ss : List Store) : World :=
  if validF f = true ∧ ss.length = f.Q.length ∧ ss.all (storeB f.st.w) = true then ⟨f, List.replicate ss.length true, ss, [], 0⟩ else emW
theorem all_drop {α : Type} {p : α → Bool} {l : List α} {i : Nat} {x : α} (h : l[i]? = some x) : (l.drop i).all p = (p x && (l.drop (i + 1)).all p) := by rw [drop_step h, List.all_cons]
end Go.Proofs.YtkkmgjhfjhcdmaaGreatDoor.Mx

/- A machine over values for Go functions, proved sound, and functions run on it: texts VS, B6, J2, VP, VN, F1, F2, F30, F31, F33. -/
import Derived.Lib.ShelfFacts
import Derived.Lib.Atoi
import Derived.Shelf.Hex.Decode
import Derived.Shelf.Strings.Split
import Derived.Shelf.Small.Wraps
import Derived.Shelf.Strconv.Atoi
import Derived.Shelf.Strconv.AtoiErr
import Derived.Test.YtkkmgjhfjhcdmaaGreatDoorShF
import Derived.Test.YtkkmgjhfjhcdmaaGreatDoorShG
import Derived.Test.YtkkmgjhfjhcdmaaGreatDoorShH
import Derived.Test.YtkkmgjhfjhcdmaaGreatDoorShI
import Derived.Lib.LaidTab
import Derived.Stop.LaidErr
import Derived.MakeChecks
import Derived.Test.YtkkmgjhfjhcdmaaGreatDoorRows
import Derived.SizedLaws
import Derived.HandedShaped
import Derived.Test.YtkkmgjhfjhcdmaaGreatDoorFetchTickXah
/- A list's form read again. -/
namespace Go.Proofs.YtkkmgjhfjhcdmaaGreatDoor.Mx
set_option linter.all false
open Go Go.RowKit
theorem dec_digit : ∀ (n : Nat), ∀ b ∈ Lib.decDigits n, 48 ≤ b.toNat ∧ b.toNat ≤ 57 := by
  intro n
  induction n using Nat.strongRecOn with
  | _ n ih =>
    intro b hb
    rw [Lib.decDigits] at hb
    split at hb
    · rw [List.mem_singleton.1 hb]
      rw [UInt8.toNat_ofNat']; omega
    · rcases List.mem_append.1 hb with hb | hb
      · exact ih (n / 10) (by omega) b hb
      · rw [List.mem_singleton.1 hb, UInt8.toNat_ofNat']; omega
theorem decFrom_app : ∀ (a b : List UInt8) (acc : Nat), Lib.decFrom acc (a ++ b) = (Lib.decFrom acc a).bind fun m => Lib.decFrom m b
  | [], b, acc => rfl
  | x :: r, b, acc => by
    rw [List.cons_append, Lib.decFrom, Lib.decFrom]
    cases Lib.digitVal x with
    | none => rfl
    | some d => exact decFrom_app r b _
theorem decFrom_dec : ∀ n : Nat, Lib.decFrom 0 (Lib.decDigits n) = some n := by
  intro n
  induction n using Nat.strongRecOn with
  | _ n ih =>
    have hv : ∀ d : Nat, d < 10 → Lib.digitVal (UInt8.ofNat (48 + d)) = some d := by
      intro d hd
      unfold Lib.digitVal
      have : (UInt8.ofNat (48 + d)).toNat = 48 + d := by rw [UInt8.toNat_ofNat']; omega
      rw [this, if_pos (by omega)]
      congr 1; omega
    rw [Lib.decDigits]
    split
    · rename_i h
      rw [Lib.decFrom, hv n h]
      simp [Lib.decFrom]
    · rename_i h
      rw [decFrom_app, ih (n / 10) (by omega), Option.bind_some, Lib.decFrom, hv (n % 10) (by omega)]
      simp only [Lib.decFrom]
      congr 1; omega
theorem dec_ne (n : Nat) : Lib.decDigits n ≠ [] := by
  rw [Lib.decDigits]
  split <;> simp
theorem dec_len4 {n : Nat} (h : n ≤ 9999) : (Lib.decDigits n).length ≤ 4 := by
  rw [Lib.decDigits]
  split
  · simp
  · rw [List.length_append, Lib.decDigits]
    split
    · simp
    · rw [List.length_append, Lib.decDigits]
      split
      · simp
      · rw [List.length_append, Lib.decDigits]
        split
        · simp
        · omega
theorem atoi_dec {n : Nat} : Lib.atoi (Lib.decDigits n) = some (n : Int) := by
  have h1 := decFrom_dec n
  cases hd : Lib.decDigits n with
  | nil => exact (dec_ne n hd).elim
  | cons b r =>
    have hb := dec_digit n b (by rw [hd]; simp)
    have n1 : (b == 45) = false := by
      cases e : b == 45 with
      | false => rfl
      | true => have := beq_iff_eq.1 e; subst this; simp at hb
    have n2 : (b == 43) = false := by
      cases e : b == 43 with
      | false => rfl
      | true => have := beq_iff_eq.1 e; subst this; simp at hb
    rw [hd] at h1
    unfold Lib.atoi
    simp only [n1, n2, Bool.false_eq_true, if_false]
    unfold Lib.decNat
    rw [h1]; rfl
/-- the number that a short decimal is, -1 if it is none -/
def numB (s : List UInt8) : Int := if s.length < 1 ∨ 4 < s.length then -1 else match Lib.decFrom 0 s with
  | some m => if Lib.decDigits m = s then (m : Int) else -1
  | none => -1
theorem numB_dec {n : Nat} (h : n ≤ 9999) : numB (Lib.decDigits n) = n := by
  unfold numB
  have h1 := dec_ne n
  have h2 := dec_len4 h
  have h3 : 0 < (Lib.decDigits n).length := List.length_pos_iff.2 h1
  rw [if_neg (by omega), decFrom_dec]
  simp
def digI (b : UInt8) : Int := if 48 ≤ b.toNat ∧ b.toNat ≤ 57 then (b.toNat : Int) - 48 else (b.toNat : Int) - 97 + 10
def unhex : List UInt8 → List UInt8
  | a :: b :: r => UInt8.ofNat ((16 * digI a + digI b) % 256).toNat :: unhex r
  | _ => []
theorem digit_fin : ∀ d : _root_.Fin 16, digI (Lib.Hx.digit d.val) = (d.val : Int) ∧ 48 ≤ (Lib.Hx.digit d.val).toNat := by decide +kernel
theorem unhex_encode : ∀ l : List UInt8, unhex (Lib.Hx.encode l) = l
  | [] => rfl
  | b :: r => by
    have hb : b.toNat < 256 := b.toNat_lt
    rw [Lib.Hx.encode_cons, unhex, unhex_encode r]
    have h1 := (digit_fin ⟨b.toNat / 16, by omega⟩).1
    have h2 := (digit_fin ⟨b.toNat % 16, by omega⟩).1
    simp only at h1 h2
    rw [h1, h2]
    have : ((16 * ((b.toNat / 16 : Nat) : Int) + ((b.toNat % 16 : Nat) : Int)) % 256).toNat = b.toNat := by omega
    rw [this]; simp
theorem encode_ge : ∀ (l : List UInt8), ∀ c ∈ Lib.Hx.encode l, 48 ≤ c.toNat
  | [], c, h => by simp [Lib.Hx.encode] at h
  | b :: r, c, h => by
    have hb : b.toNat < 256 := b.toNat_lt
    rw [Lib.Hx.encode_cons] at h
    rcases List.mem_cons.1 h with rfl | h
    · exact (digit_fin ⟨b.toNat / 16, by omega⟩).2
    · rcases List.mem_cons.1 h with rfl | h
      · exact (digit_fin ⟨b.toNat % 16, by omega⟩).2
      · exact encode_ge r c h
def hexL (S : List Str) : List (List UInt8) := S.map fun x => Lib.Hx.encode (bt x)
theorem lines_hex (S : List Str) : S.flatMap lineB = (hexL S).flatMap fun a => a ++ [10] := by
  unfold hexL
  induction S with
  | nil => rfl
  | cons x r ih => rw [List.flatMap_cons, List.map_cons, List.flatMap_cons, ih]; rfl
theorem ten_hex {S : List Str} : ∀ a ∈ hexL S, (10 : UInt8) ∉ a := by
  intro a ha hc
  unfold hexL at ha
  obtain ⟨x, _, rfl⟩ := List.mem_map.1 ha
  have := encode_ge _ _ hc
  simp at this
theorem ten_head (n : Nat) : (10 : UInt8) ∉ sizB ++ Lib.decDigits n := by
  intro hc
  rcases List.mem_append.1 hc with hc | hc
  · revert hc; decide
  · have := dec_digit n 10 hc
    simp at this
/-- a form's lines -/
theorem cut_form (l : Lst) : cutL 10 (formB l) = (sizB ++ Lib.decDigits l.sz.toNat) :: (hexL l.S ++ [[]]) := by
  unfold formB
  rw [List.append_assoc, List.singleton_append, cutL_one (ten_head _), lines_hex, cutL_lines ten_hex]
/-- what the reference reads, loosely -/
def parseL (s : Str) : Lst := ⟨numB (((cutL 10 (bt s)).getD 0 []).drop 5), (((cutL 10 (bt s)).drop 1).take ((cutL 10 (bt s)).length - 2)).map fun x => stB (unhex x)⟩
theorem parse_form {l : Lst} {w : Int} (h : okLs l w = true) : parseL (stB (formB l)) = l := by
  obtain ⟨_, _, s0, s3, _, _⟩ := okLs_up h
  unfold parseL
  rw [bt_stB, cut_form]
  have e1 : ((((sizB ++ Lib.decDigits l.sz.toNat) :: (hexL l.S ++ [[]])).getD 0 []).drop 5) = Lib.decDigits l.sz.toNat := by
    show (sizB ++ Lib.decDigits l.sz.toNat).drop 5 = _
    exact List.drop_left' rfl
  have e2 : ((((sizB ++ Lib.decDigits l.sz.toNat) :: (hexL l.S ++ [[]])).drop 1).take (((sizB ++ Lib.decDigits l.sz.toNat) :: (hexL l.S ++ [[]])).length - 2)) = hexL l.S := by
    rw [List.drop_succ_cons, List.drop_zero, List.length_cons, List.length_append, List.length_cons, List.length_nil]
    exact List.take_left' (by omega)
  rw [e1, e2, numB_dec (by omega)]
  have e3 : (hexL l.S).map (fun x => stB (unhex x)) = l.S := by
    unfold hexL
    rw [List.map_map]
    conv => rhs; rw [← List.map_id l.S]
    apply List.map_congr_left
    intro x _
    show stB (unhex (Lib.Hx.encode (bt x))) = x
    rw [unhex_encode, stB_bt]
  rw [e3]
  obtain ⟨sz, S⟩ := l
  simp only at s0 ⊢
  congr 1
  omega
open Classical in
/-- what a text is read as: the list whose form it is -/
noncomputable def readL (s : Str) (w : Int) : Lst × Bool := if h : ∃ l, okLs l w = true ∧ stB (formB l) = s then (Classical.choose h, true) else (⟨0, []⟩, false)
theorem read_of {l : Lst} {s : Str} {w : Int} (h : okLs l w = true) (hs : stB (formB l) = s) : readL s w = (l, true) := by
  have hx : ∃ l, okLs l w = true ∧ stB (formB l) = s := ⟨l, h, hs⟩
  unfold readL
  rw [dif_pos hx]
  have := Classical.choose_spec hx
  have e : Classical.choose hx = l := by rw [← parse_form this.1, this.2, ← hs, parse_form h]
  rw [e]
theorem read_no {s : Str} {w : Int} (h : ∀ l, okLs l w = true → stB (formB l) ≠ s) : readL s w = (⟨0, []⟩, false) := by
  unfold readL
  rw [dif_neg]
  rintro ⟨l, h1, h2⟩
  exact h l h1 h2
theorem read_ok {s : Str} {w : Int} (h : (readL s w).2 = true) : okLs (readL s w).1 w = true ∧ stB (formB (readL s w).1) = s := by
  unfold readL at h ⊢
  split
  · rename_i hx
    exact Classical.choose_spec hx
  · rename_i hx
    rw [dif_neg hx] at h; cases h
theorem read_fst {s : Str} {w : Int} (h : (readL s w).2 = false) : (readL s w).1 = ⟨0, []⟩ := by
  unfold readL at h ⊢
  split
  · rename_i hx
    rw [dif_pos hx] at h; cases h
  · rfl
theorem formL_ok {l : Lst} {w : Int} {s : Str} (h : formL l w = s) (hs : 1 ≤ s.size) : okLs l w = true ∧ stB (formB l) = s := by
  unfold formL at h
  split at h
  · rename_i ho; exact ⟨ho, h⟩
  · rw [← h] at hs; exact absurd hs (by decide)
theorem formB_len {l : Lst} {w : Int} (h : okLs l w = true) : 7 ≤ (formB l).length ∧ (formB l).length ≤ 6385 ∧ (formB l).take 5 = sizB := by
  obtain ⟨_, w8, s0, s3, hn, hsz⟩ := okLs_up h
  have h1 := lines_len hsz w8
  have h2 := dec_len4 (n := l.sz.toNat) (by omega)
  have h3 : 0 < (Lib.decDigits l.sz.toNat).length := List.length_pos_iff.2 (dec_ne _)
  have h4 : sizB.length = 5 := rfl
  unfold formB
  refine ⟨?_, ?_, ?_⟩
  · simp only [List.length_append, List.length_cons, List.length_nil]; omega
  · simp only [List.length_append, List.length_cons, List.length_nil]; omega
  · rw [List.append_assoc, List.append_assoc]
    exact List.take_left' rfl
/-- the reference's way -/
theorem read_spec {s : Str} {w : Int} (hs : 1 ≤ s.size) : readL s w = if formL (parseL s) w = s then (parseL s, true) else (⟨0, []⟩, false) := by
  split
  · rename_i h
    obtain ⟨h1, h2⟩ := formL_ok h hs
    exact read_of h1 h2
  · rename_i h
    refine read_no fun l h1 h2 => h ?_
    rw [← h2, parse_form h1]
    unfold formL; rw [if_pos h1]
theorem read_out {s : Str} {w : Int} (h : s.size < 6 ∨ 7000 < s.size ∨ (bt s).take 5 ≠ sizB) : readL s w = (⟨0, []⟩, false) := by
  refine read_no fun l h1 h2 => ?_
  obtain ⟨a, b, c⟩ := formB_len h1
  rw [← h2, stB_size, bt_stB] at h
  rcases h with h | h | h
  · omega
  · omega
  · exact h c
end Go.Proofs.YtkkmgjhfjhcdmaaGreatDoor.Mx

/- strconv.Atoi, hex.DecodeString, strings.Split, strings.CutPrefix. -/
namespace Go.Proofs.YtkkmgjhfjhcdmaaGreatDoor.Mx
set_option linter.all false
open Go Go.RowKit Go.Proofs
/-- a callee that makes what it answers -/
theorem does_new {P : Program} {f : FuncId} {fn : Func} {c : Code} {avs : List AV} {r : AV} (hf : P.funcs[f]? = some fn) (hb : fn.body = some c) (hn : (fn.name == "runtime.NumGoroutine") = false)
    (H : ∀ (w : Go.World) (ok : Nat → Prop) (G : Fp) (args : List Value), ArgsRep w ok G args avs → Calls P f args.toArray w fun e w' => ∃ (v : Value) (F : Nat → Prop), e = .returned v ∧ Below w.heap.size w w' ∧ (∀ b, F b → w.heap.size ≤ b ∧ b < w'.heap.size) ∧ OwnV w' (fun _ => False) F v r) : Does P f avs (r, []) := by
  constructor
  intro w ok G args hA
  left
  have h1 : fn.name ≠ "runtime.NumGoroutine" := by simpa using hn
  refine ⟨by simp [callFunc, hf, h1, hb], (H w ok G args hA).mono fun e w' h => ?_⟩
  obtain ⟨v, F, rfl, hB, hF, hV⟩ := h
  refine ⟨fun i b => i = 0 ∧ F b, ⟨⟨hB.os, hB.tape, hB.output, hB.size, fun k hk _ => hB.block k hk⟩, Kp.old hB.block, fun i j b h h' => h.1.trans h'.1.symm, fun i b h => ⟨(hF b h.2).2, .inl (hF b h.2).1⟩, ?_, fun i t h => by simp at h⟩⟩
  exact OwnV.mono (fun b hb => hb.elim) hV _ fun b hb => ⟨⟨rfl, hb⟩, rfl⟩
theorem own_sc {w : Go.World} {ok F : Nat → Prop} {v : Value} (h : plain v = true) : OwnA w ok F v (.sc v) := Own.rd _ _ _ (by intro z r h; cases h) (by intro cs h; cases h) (.sc v h)
theorem own_er {w : Go.World} {ok F : Nat → Prop} {t : TypeId} {v : Value} : OwnA w ok F (.iface t v) .er := Own.rd _ _ _ (by intro z r h; cases h) (by intro cs h; cases h) (.er t v)
/-- a pair -/
theorem own_two {w : Go.World} {ok F : Nat → Prop} {u v : Value} {x y : AV} (h1 : OwnA w ok F u x) (h2 : OwnA w ok (fun _ => False) v y) : OwnV w ok F (.tuple #[u, v]) (.tu [x, y]) := by
  refine ⟨[u, v], fun i b => i = 0 ∧ F b, rfl, rfl, fun j b h => h.2, fun i j b h h' => h.1.trans h'.1.symm, fun j a z ha hz => ?_⟩
  match j, ha, hz with
  | 0, ha, hz => cases ha; cases hz; exact h1.mono (fun b hb => ⟨hb, rfl⟩) _ fun b hb => ⟨⟨rfl, hb⟩, rfl⟩
  | 1, ha, hz => cases ha; cases hz; exact h2.mono (fun b hb => ⟨hb, rfl⟩) _ fun b hb => hb.elim
  | j + 2, ha, hz => simp at ha
/-- a new row of plain cells -/
theorem own_row {w : Go.World} {b len cap : Nat} {cur : Array Value} {t : TypeId} {rows : List Row} (hb : w.heap[b]? = some (.cells cur t (0, 0))) (hr : rows.length = len) (hc : len ≤ cap) (hs : cap ≤ cur.size) (hm : cap ≤ maxLen)
    (h : ∀ (i : Nat) (row : Row), rows[i]? = some row → ∃ v : Value, row = ([.sc v] : Row) ∧ cur[i]? = some v ∧ plain v = true ∧ v.oneCell' = true) : OwnA w (fun _ => False) (fun k => k = b) (.slice (some ⟨b, 0, none⟩) len cap) (.sl true 1 rows) := by
  subst hr
  have hx : ∀ (i : Nat) (row : Row) (j : Nat) (x : AV), rows[i]? = some row → row[j]? = some x → ∃ v, cur.getD (0 + (i * 1 + j)) undef = v ∧ x = .sc v ∧ plain v = true ∧ v.oneCell' = true := by
    intro i row j x hi hj
    obtain ⟨v, rfl, h1, h2, h3⟩ := h i row hi
    cases j with
    | succ j => simp at hj
    | zero =>
      cases hj
      exact ⟨v, by simp [Array.getD_eq_getD_getElem?, h1], rfl, h2, h3⟩
  refine Own.sl _ 1 b 0 cap rows cur t (0, 0) (fun _ _ _ => False) rfl hb (fun o _ h => by have := h.2; simp at this) hc (by omega) hm (fun _ _ _ h => h.elim) (fun _ _ _ _ _ h => h.elim) (fun i row hi => ?_) (fun i row j x hi hj => ?_) (fun i row j x hi hj => ?_)
  · obtain ⟨v, rfl, _⟩ := h i row hi; rfl
  · obtain ⟨v, h1, _, _, h3⟩ := hx i row j x hi hj; rw [h1]; exact h3
  · obtain ⟨v, h1, rfl, h2, _⟩ := hx i row j x hi hj
    rw [h1]; exact Own.rd _ _ _ (by intro z r h; cases h) (by intro cs h; cases h) (.sc v h2)
theorem cutPrefix (s p : Str) : Does Tryz.prog 137 [.sc (.string s), .sc (.string p)] (.tu [.sc (.string (stB (Lib.trimPrefix (bt s) (bt p)))), .sc (.bool (Lib.hasPrefix (bt s) (bt p)))], []) := by
  refine does_new Tryz.func137 rfl rfl fun w ok G args hA => ?_
  obtain ⟨u, v, rfl, h0, h1⟩ := args2 hA
  obtain rfl := rep_str (own_rep h0 (by intro z r h; cases h) (by intro cs h; cases h))
  obtain rfl := rep_str (own_rep h1 (by intro z r h; cases h) (by intro cs h; cases h))
  refine (Any.strings_CutPrefix Tryz.cutP s p w).mono fun e w' hh => ?_
  obtain ⟨rfl, rfl⟩ := hh
  exact ⟨_, fun _ => False, rfl, Below.refl _ _, fun b h => h.elim, own_two (own_sc rfl) (own_sc rfl)⟩
theorem atoi_yes (s : Str) (n : Int) (hs : s.size ≤ 18) (h : Lib.atoi (bt s) = some n) : Does Tryz.prog 138 [.sc (.string s)] (.tu [.sc (.int .i64 n), .sc .nilIface], []) := by
  refine does_new Tryz.func138 rfl rfl fun w ok G args hA => ?_
  obtain ⟨u, rfl, h0⟩ := args1' hA
  obtain rfl := rep_str (own_rep h0 (by intro z r h; cases h) (by intro cs h; cases h))
  refine (Any.strconv_Atoi { Tryz.atoiL with } s n hs h w).mono fun e w' hh => ?_
  obtain ⟨rfl, t, rfl⟩ := hh
  exact ⟨_, fun _ => False, rfl, Lib.bytesWorld_below _ _ _, fun b h => h.elim, own_two (own_sc rfl) (own_sc rfl)⟩
theorem atoi_no (s : Str) (hs : s.size ≤ 18) (h : Lib.atoi (bt s) = none) : Does Tryz.prog 138 [.sc (.string s)] (.tu [.sc (.int .i64 0), .er], []) := by
  refine does_new Tryz.func138 rfl rfl fun w ok G args hA => ?_
  obtain ⟨u, rfl, h0⟩ := args1' hA
  obtain rfl := rep_str (own_rep h0 (by intro z r h; cases h) (by intro cs h; cases h))
  have hg : GP w := hA.gw
  obtain ⟨_, _, ⟨t, p, e1, fr, h1⟩, _⟩ := hg
  have hv : w.cell? ⟨(Tryz.atoiL_ren.g 15), 0, none⟩ = some (.iface t p) := by
    show w.cell? ⟨1, 0, none⟩ = _
    simp [World.cell?, h1]
  refine (Any.strconv_Atoi_err Tryz.atoiL s hs h (.iface t p) w hv (.inr ⟨_, _, rfl⟩)).mono fun e w' hh => ?_
  obtain ⟨N, rfl, _, _, hB⟩ := hh
  exact ⟨_, fun _ => False, rfl, hB, fun b h => h.elim, own_two (own_sc rfl) own_er⟩
/-- what DecodeString answers -/
def decA (l : List UInt8) : AV := match (Lib.Hx.decode l).2 with | .ok => .sc .nilIface | _ => .er
theorem hexDec (s : Str) (hs : s.size ≤ 10000000) : Does Tryz.prog 139 [.sc (.string s)] (.tu [.sl true 1 ((Lib.Hx.decode (bt s)).1.map byteRow), decA (bt s)], []) := by
  refine does_new Tryz.func139 rfl rfl fun w ok G args hA => ?_
  obtain ⟨u, rfl, h0⟩ := args1' hA
  obtain rfl := rep_str (own_rep h0 (by intro z r h; cases h) (by intro cs h; cases h))
  have hg : GP w := hA.gw
  obtain ⟨_, ⟨t, p, e1, fr, h1⟩, _, _⟩ := hg
  have hv : w.cell? ⟨(Tryz.hexD_ren.g 0), 0, none⟩ = some (.iface t p) := by
    show w.cell? ⟨0, 0, none⟩ = _
    simp [World.cell?, h1]
  have hdl := Lib.Hx.decode_len (bt s)
  rw [bt_len] at hdl
  refine (Any.hex_DecodeString Tryz.hexD s w (.iface t p) hv (by omega)).mono fun e w' hh => ?_
  obtain ⟨rfl, ⟨c, hc, hcs, hci⟩, hB⟩ := hh
  have hlt := (Array.getElem?_eq_some_iff.1 hc).1
  change (Lib.Hx.decode s.data.toList).1.length ≤ s.size / 2 at hdl
  refine ⟨_, fun k => k = w.heap.size, rfl, hB, fun b h => ⟨by rw [h]; exact Nat.le_refl _, by rw [h]; exact hlt⟩, own_two (own_row hc (by rw [List.length_map]; rfl) hdl (by omega) (by show _ ≤ 9223372036854775807; omega) fun i row hi => ?_) ?_⟩
  · rw [List.getElem?_map] at hi
    cases hq : (Lib.Hx.decode (bt s)).1[i]? with
    | none => rw [hq] at hi; cases hi
    | some x =>
      rw [hq] at hi; cases hi
      have hil := (List.getElem?_eq_some_iff.1 hq).1
      have := hci i (by have : (Lib.Hx.decode (bt s)).1.length ≤ s.size / 2 := hdl; omega)
      refine ⟨_, rfl, ?_, rfl, rfl⟩
      rw [this]
      unfold Lib.Hx.rowP
      rw [if_pos ⟨Nat.zero_le _, by rw [Nat.zero_add]; exact hil⟩, Nat.sub_zero]
      have hq' : (Lib.Hx.decode s.data.toList).1[i]? = some x := hq
      rw [hq']; rfl
  · unfold decA
    show OwnA _ _ _ (Lib.Hx.errVal _ _ (Lib.Hx.decode (bt s)).2) _
    cases (Lib.Hx.decode (bt s)).2 with
    | ok => exact own_sc rfl
    | bad c => exact own_er
    | odd => exact own_er
theorem splitNl (s : Str) (hs : s.size ≤ 10000000) : Does Tryz.prog 136 [.sc (.string s), .sc (.string ⟨#[10]⟩)] (.sl true 1 (((cutL 10 (bt s)).map stB).map strR), []) := by
  refine does_new Tryz.func136 rfl rfl fun w ok G args hA => ?_
  obtain ⟨u, v, rfl, h0, h1⟩ := args2 hA
  obtain rfl := rep_str (own_rep h0 (by intro z r h; cases h) (by intro cs h; cases h))
  obtain rfl := rep_str (own_rep h1 (by intro z r h; cases h) (by intro cs h; cases h))
  have hg : GP w := hA.gw
  obtain ⟨_, _, _, m, hm⟩ := hg
  refine (Any.strings_Split { Tryz.splitL with } Tryz.splitL.i9 s ⟨#[10]⟩ m w (by omega) hm (by decide)).mono fun e w' hh => ?_
  obtain ⟨rfl, rfl⟩ := hh
  have hdat := Lib.splitB_data ⟨#[10]⟩ 0 (Lib.countB s ⟨#[10]⟩) s
  have hcut := split_cut 10 _ (bt s) (Nat.le_refl _)
  have e1 : Lib.splitB ⟨#[10]⟩ 0 (Lib.countB s ⟨#[10]⟩) s = (cutL 10 (bt s)).map stB := by
    have : (Lib.splitB ⟨#[10]⟩ 0 (Lib.countB s ⟨#[10]⟩) s).map bt = cutL 10 (bt s) := hdat.trans hcut
    rw [← this, List.map_map]
    conv => lhs; rw [← List.map_id (Lib.splitB ⟨#[10]⟩ 0 (Lib.countB s ⟨#[10]⟩) s)]
    apply List.map_congr_left
    intro x _
    exact (stB_bt x).symm
  have hlen := Lib.splitB_all ⟨#[10]⟩ (by decide) 0 _ s rfl
  have hcl := cutF_len 10 (bt s) [] []
  rw [bt_len] at hcl
  have hl2 : ((cutL 10 (bt s)).map stB).length = Lib.countB s ⟨#[10]⟩ + 1 := by rw [← e1]; exact hlen
  have hl3 : (cutL 10 (bt s)).length = Lib.countB s ⟨#[10]⟩ + 1 := by rw [← hl2, List.length_map]
  have hl4 : (cutL 10 (bt s)).length ≤ 1 + s.size := by unfold cutL; simpa using hcl
  rw [e1]
  obtain ⟨w2, hw2⟩ : ∃ w2, w2 = w.alloc (.cells (((cutL 10 (bt s)).map stB).map Value.string).toArray (Tryz.splitL_ren.t 9)) := ⟨_, rfl⟩
  have hal : w2.heap[w.heap.size]? = some (.cells (((cutL 10 (bt s)).map stB).map Value.string).toArray (Tryz.splitL_ren.t 9) (0, 0)) := by rw [hw2]; exact (MapKept.heap_alloc w _).1
  have hsz : w2.heap.size = w.heap.size + 1 := by rw [hw2]; show (w.heap.push _).size = _; simp
  have hold : ∀ k, k < w.heap.size → w2.heap[k]? = w.heap[k]? := by rw [hw2]; exact (MapKept.heap_alloc w _).2
  rw [← hw2]
  refine ⟨_, fun k => k = w.heap.size, rfl, ?_, fun b h => ⟨by rw [h]; exact Nat.le_refl _, by rw [h, hsz]; omega⟩, ?_⟩
  · exact ⟨by rw [hw2]; rfl, by rw [hw2]; rfl, by rw [hw2]; rfl, by rw [hsz]; omega, hold⟩
  · rw [← hl3]
    refine (show OwnA _ _ _ _ _ from own_row hal (by rw [List.length_map, List.length_map]) (Nat.le_refl _) (by simp) (by show _ ≤ 9223372036854775807; omega) fun i row hi => ?_)
    rw [List.getElem?_map] at hi
    cases hq : ((cutL 10 (bt s)).map stB)[i]? with
    | none => rw [hq] at hi; cases hi
    | some x =>
      rw [hq] at hi; cases hi
      refine ⟨_, rfl, ?_, rfl, rfl⟩
      rw [List.getElem?_toArray, List.getElem?_map, hq]; rfl
end Go.Proofs.YtkkmgjhfjhcdmaaGreatDoor.Mx

/- From the variables that a row lists «to» what the machine takes of the first blocks. -/
namespace Go.Proofs.YtkkmgjhfjhcdmaaGreatDoor.Mx
set_option linter.all false
open Go Go.RowKit Go.Proofs Go.Proofs.YtkkmgjhfjhcdmaaGreatDoor
theorem pow_of_laid {n1 n2 : String} {D1 D2 : DataW Unit} {rest : List (String × DataW Unit)} {W : Go.World} (h : laidMet Tryz.prog ((n1, D1) :: (n2, D2) :: ("internal/strconv.uint64pow10", Rows.laid_internal_strconv_uint64pow10) :: rest) W) :
    ∃ e fr, W.heap[3]? = some (.cells (Lib.pow10Tab.map fun z => Value.int .u64 z).toArray e fr) := by
  have h3 := h.tail.tail
  have e : (Rows.laid_internal_strconv_uint64pow10 : DataW Unit) = Lib.tabData .u64 Lib.pow10Tab := by kernel_rfl
  rw [e] at h3
  have ht := Lib.tabIs_of_head (k := .u64) (zs := Lib.pow10Tab) (n := 20) (t := 255) (e := 103) (show Tryz.prog.globalNamed "internal/strconv.uint64pow10" = some 3 by kernel_rfl) (by kernel_rfl) Tryz.underlying255 Tryz.underlying103 (by kernel_rfl) (by kernel_rfl) h3
  unfold Lib.TabIs World.var? at ht
  rw [show Tryz.prog.globalNamed "internal/strconv.uint64pow10" = some 3 by kernel_rfl] at ht
  simp only [Option.bind_some] at ht
  split at ht
  · rename_i cs e fr hc
    cases ht
    exact ⟨e, fr, hc⟩
  · cases ht
theorem sent_laid {P : Program} {n nm : String} {d : DataW Unit} {r : List (String × DataW Unit)} {W : Go.World} {g : Nat} {ti : TypeId} {ms : Array (String × TypeId)}
    (h : laidMet P ((n, .iface nm d) :: r) W) (hg : P.globalNamed n = some g) (ht : (P.globals[g]?).map (·.type) = some ti) (hi : P.underlying ti = some (.interface ms)) :
    ∃ t p e fr, W.heap[g]? = some (.cells #[.iface t p] e fr) := by
  obtain ⟨ps, ⟨g0, t0, cs0, f0, p0, q0, hg0, ht0, hv0, hd0, _, e0⟩, _, hrows⟩ := h
  obtain rfl := Option.some.inj (hg.symm.trans hg0)
  obtain rfl := Option.some.inj (ht.symm.trans ht0)
  obtain ⟨f1, u, v, hcs, _, _⟩ := iface_of_trod hi hd0
  have hcs' : cs0 = #[.iface u v] := by
    cases cs0; simp_all
  subst hcs'
  unfold World.var? at hv0
  rw [hg] at hv0
  simp only [Option.bind_some] at hv0
  split at hv0
  · rename_i cs e fr hc
    cases hv0
    exact ⟨u, v, e, fr, hc⟩
  · cases hv0
theorem gp_of_laid {n1 n2 n4 n5 n8 : String} {D1 D2 D4 D5 D8 : DataW Unit} {W : Go.World} (h : laidMetH Tryz.prog [(n1, D1), (n2, D2), ("internal/strconv.uint64pow10", Rows.laid_internal_strconv_uint64pow10), (n4, D4), (n5, D5), ("strconv.ErrSyntax", Rows.laid_strconv_ErrSyntax), ("encoding/hex.ErrLength", Rows.laid_encoding_hex_ErrLength), (n8, D8)] W)
    (hp : ([(n1, D1), (n2, D2), ("internal/strconv.uint64pow10", Rows.laid_internal_strconv_uint64pow10), (n4, D4), (n5, D5), ("strconv.ErrSyntax", Rows.laid_strconv_ErrSyntax), ("encoding/hex.ErrLength", Rows.laid_encoding_hex_ErrLength), (n8, D8)].all fun x => x.2.handleName?.isNone) = true)
    (hsh : W.ShapedOpen Tryz.prog) : NG ≤ W.heap.size ∧ GP W := by
  rw [MakeChecks.laidMetH_plain _ _ _ hp] at h
  obtain ⟨e, fr, h3⟩ := pow_of_laid h
  have h1 := sent_laid h.tail.tail.tail.tail.tail (g := 1) (by kernel_rfl) (by kernel_rfl) Tryz.underlying156
  have h0 := sent_laid h.tail.tail.tail.tail.tail.tail (g := 0) (by kernel_rfl) (by kernel_rfl) Tryz.underlying156
  obtain ⟨m, hm⟩ := Tryz.splitL.s1_3 W hsh
  have hm : W.cell? ⟨4, 0, none⟩ = some (.int .i64 m) := hm
  refine ⟨?_, ⟨e, fr, h3⟩, h0, h1, m, hm⟩
  show 5 ≤ _
  apply Classical.byContradiction
  intro hc
  have : W.heap[4]? = none := Array.getElem?_eq_none (by omega)
  simp [World.cell?, this] at hm
theorem rih_shaped {H : Type} {enc : TypeId × Value → H} {a : Assume} {C : Checked} {os : Os} {f : FuncId} {fn : Func} {s : ChangeSpec} {conds : List PathCond} {apart fresh handsOn again : Bool} {X : Go.World → Array Value → Prop}
    (hX : ∀ (w w' : Go.World) (args : Array Value), w.heap = w'.heap → X w args → X w' args)
    (own : ownKnob C.prog.godebug = none) (started : os.Started) (noInit : C.prog.inits.idxOf? f = none) (hfn : C.prog.funcs[f]? = some fn)
    (witness : ∃ (w : Go.World) (tape : Tape) (i : Input), w.os = os ∧ (w.forCall tape i).Shaped C.prog ∧ i.vars = [] ∧ Input.okWide C.prog (w.forCall tape i) .any w.heap.size f i ∧
      ((s.pre enc C.prog fn conds apart (w.forCall tape i).memory i.args ∧ X (w.forCall tape i).memory i.args) ∧ sizedMet enc C.prog fn (OpenSpec.ofChange s) apart (w.forCall tape i).memory i.args) ∧ a.holds C.prog (lone (Frame.enter C.prog f i.args .normal) [] (w.forCall tape i)))
    (contract : ∀ (W : Go.World) (base : Nat) (args : Array Value) (ds gs : List (DataW H)) (before : List MemPlace),
      (∀ (j : Nat) t v, fn.params[j]? = some t → args[j]? = some v → Value.okWide C.prog W .any base t v) →
      DataW.Whole enc C.prog fn.params.toList s.vars apart W args.toList ds gs before → X W args → W.ShapedOpen C.prog →
      Calls C.prog f args W fun e W' => ∃ v, e = .returned v ∧ s.post enc C.prog fn apart fresh handsOn again W args v W') :
    ReturnsInHanded a C os f .any (fun w args => (s.pre enc C.prog fn conds apart w args ∧ X w args) ∧ sizedMet enc C.prog fn (OpenSpec.ofChange s) apart w args) (s.post enc C.prog fn apart fresh handsOn again) := by
  refine returnsInHanded_of_calls own started noInit witness ?_
  intro w tape i _ hs _ hok hp _
  obtain ⟨_, _, _, g, hg, _, _, _, _, hv⟩ := hok
  obtain rfl : g = fn := Option.some.inj (hg.symm.trans hfn)
  obtain ⟨⟨⟨ds, gs, before, hw, _⟩, hx⟩, _⟩ := hp
  refine (contract (w.forCall tape i) w.heap.size i.args ds gs before hv (DataW.Whole.of_heap (w' := w.forCall tape i) (by rfl) hw) (hX _ _ _ (by rfl) hx) hs).mono fun e W' k => ?_
  obtain ⟨v, he, hq⟩ := k
  subst he
  exact ChangeSpec.post_blind hq
end Go.Proofs.YtkkmgjhfjhcdmaaGreatDoor.Mx

/- Pieces, descriptions, names: what they mean. -/
namespace Go.Proofs.YtkkmgjhfjhcdmaaGreatDoor.Mx
set_option linter.all false
open Go Go.RowKit
def endsB (p : List UInt8) : Bool := decide (8 ≤ p.length) && (decide (64 ≤ p.length) || decide (hash64 (p.drop (p.length - 8)) % 16 = 0))
def pcF : List UInt8 → List UInt8 → List (List UInt8)
  | cur, [] => if cur = [] then [] else [cur]
  | cur, x :: r => if endsB (cur ++ [x]) = true then (cur ++ [x]) :: pcF [] r else pcF (cur ++ [x]) r
def piecesL (t : Str) : List Str := if 3000 < t.size then [] else (pcF [] (bt t)).map stB
def curB (s : Str) (a i : Nat) : List UInt8 := ((bt s).take i).drop a
theorem cur_nil (s : Str) (i : Nat) : curB s i i = [] := by
  unfold curB
  exact List.drop_eq_nil_of_le (by rw [List.length_take]; omega)
theorem cur_step {s : Str} {a i : Nat} {x : UInt8} (h : (bt s)[i]? = some x) (ha : a ≤ i) : curB s a (i + 1) = curB s a i ++ [x] := by
  unfold curB
  have hi := (List.getElem?_eq_some_iff.1 h).1
  rw [take_step h, List.drop_append_of_le_length (by rw [List.length_take]; omega)]
theorem cur_len {s : Str} {a i : Nat} (hi : i ≤ s.size) : (curB s a i).length = i - a := by
  unfold curB
  rw [List.length_drop, List.length_take, bt_len]; omega
theorem bt_ext (s : Str) (a b : Nat) : bt (s.extract a b) = curB s a b := by
  unfold curB bt
  rw [ByteArray.data_extract]
  simp [List.drop_take]
theorem ext_cur (s : Str) (a b : Nat) : s.extract a b = stB (curB s a b) := by rw [← bt_ext, stB_bt]
theorem ext_size {s : Str} {a b : Nat} (h : b ≤ s.size) : (s.extract a b).size = b - a := by rw [← bt_len, bt_ext, cur_len h]
theorem cur_cur {s : Str} {a i : Nat} (k : Nat) (_ : a ≤ i) : (curB s a i).drop k = curB s (a + k) i := by
  unfold curB; rw [List.drop_drop]
theorem ends_ext {s : Str} {a i : Nat} (hi : i ≤ s.size) (ha : a ≤ i) : endsB (curB s a i) = (decide (8 ≤ i - a) && (decide (64 ≤ i - a) || decide (hash64 (bt (s.extract (i - 8) i)) % 16 = 0))) := by
  unfold endsB
  rw [cur_len hi, bt_ext]
  by_cases h : 8 ≤ i - a
  · rw [cur_cur _ ha, show a + (i - a - 8) = i - 8 by omega]
  · simp [h]
theorem pc_end (cur : List UInt8) (h : cur = []) : pcF cur [] = [] := by rw [pcF, if_pos h]
theorem pc_yes {cur r : List UInt8} {x : UInt8} (h : endsB (cur ++ [x]) = true) : pcF cur (x :: r) = (cur ++ [x]) :: pcF [] r := by rw [pcF, if_pos h]
theorem pc_no {cur r : List UInt8} {x : UInt8} (h : endsB (cur ++ [x]) = false) : pcF cur (x :: r) = pcF (cur ++ [x]) r := by rw [pcF, if_neg (by rw [h]; simp)]
theorem pc_last {cur : List UInt8} {x : UInt8} : pcF cur [x] = [cur ++ [x]] := by
  rw [pcF]
  split
  · rw [pcF, if_pos rfl]
  · rw [pcF, if_neg (by simp)]
theorem pc_len : ∀ (r cur : List UInt8), (pcF cur r).length ≤ r.length + 1
  | [], cur => by rw [pcF]; split <;> simp
  | x :: r, cur => by
    rw [pcF]
    split
    · have := pc_len r []; simp only [List.length_cons]; omega
    · have := pc_len r (cur ++ [x]); simp only [List.length_cons]; omega
theorem pc_join : ∀ (r cur : List UInt8), (pcF cur r).flatten = cur ++ r
  | [], cur => by rw [pcF]; split <;> simp [*]
  | x :: r, cur => by
    rw [pcF]
    split
    · rw [List.flatten_cons, pc_join r []]; simp
    · rw [pc_join r]; simp
theorem pieces_len (t : Str) : (piecesL t).length ≤ 3001 := by
  unfold piecesL
  split
  · simp
  · rw [List.length_map]
    have := pc_len (bt t) []
    rw [bt_len] at this; omega
theorem pc_sz : ∀ (r cur : List UInt8) (n : Nat), cur.length + r.length ≤ n → ∀ p ∈ pcF cur r, p.length ≤ n
  | [], cur, n, h, p, hp => by
    rw [pcF] at hp
    split at hp
    · cases hp
    · rw [List.mem_singleton.1 hp]; simpa using h
  | x :: r, cur, n, h, p, hp => by
    rw [pcF] at hp
    rw [List.length_cons] at h
    split at hp
    · rcases List.mem_cons.1 hp with rfl | hp
      · rw [List.length_append, List.length_cons, List.length_nil]; omega
      · exact pc_sz r [] n (by rw [List.length_nil]; omega) p hp
    · exact pc_sz r (cur ++ [x]) n (by rw [List.length_append, List.length_cons, List.length_nil]; omega) p hp
theorem pieces_sz {t p : Str} (h : p ∈ piecesL t) : p.size ≤ 3000 := by
  unfold piecesL at h
  split at h
  · cases h
  · obtain ⟨q, hq, rfl⟩ := List.mem_map.1 h
    rw [stB_size]
    exact Nat.le_trans (pc_sz (bt t) [] t.size (by rw [bt_len]; simp) q hq) (by omega)
def emL : Lst := ⟨0, []⟩
def descL (t : Str) (w : Int) : Lst × Bool := if 3000 < t.size ∨ inB w 1 8 = false then (emL, false) else (⟨t.size, (piecesL t).map fun p => sumS p w⟩, true)
def nameS (t : Str) (w : Int) : Str := if (descL t w).2 = true then sumS (formL (descL t w).1 w) w else em
end Go.Proofs.YtkkmgjhfjhcdmaaGreatDoor.Mx

/- Two things of one name: a clash, pure. -/
namespace Go.Proofs.YtkkmgjhfjhcdmaaGreatDoor.Mx
set_option linter.all false
open Go Go.RowKit
theorem pc_len8 : ∀ (r cur : List UInt8), 8 * (pcF cur r).length ≤ cur.length + r.length + 7
  | [], cur => by
    rw [pcF]
    split
    · simp
    · rename_i h
      have := List.length_pos_iff.2 h
      simp only [List.length_cons, List.length_nil]; omega
  | x :: r, cur => by
    rw [pcF]
    split
    · rename_i h
      have h8 : 8 ≤ (cur ++ [x]).length := by
        unfold endsB at h
        simp only [Bool.and_eq_true, decide_eq_true_eq] at h
        exact h.1
      have := pc_len8 r []
      rw [List.length_append] at h8
      simp only [List.length_cons, List.length_nil] at this h8 ⊢; omega
    · have := pc_len8 r (cur ++ [x])
      rw [List.length_append] at this
      simp only [List.length_cons, List.length_nil] at this ⊢; omega
theorem pieces_len8 (t : Str) : (piecesL t).length ≤ 375 := by
  unfold piecesL
  split
  · simp
  · rename_i h
    have := pc_len8 (bt t) []
    rw [bt_len, List.length_nil] at this
    rw [List.length_map]; omega
theorem pieces_inj {a b : Str} (ha : a.size ≤ 3000) (hb : b.size ≤ 3000) (h : piecesL a = piecesL b) : a = b := by
  unfold piecesL at h
  rw [if_neg (by omega), if_neg (by omega)] at h
  have h2 := congrArg (fun l => (l.map bt).flatten) h
  simp only [List.map_map] at h2
  have e : ∀ l : List (List UInt8), l.map (bt ∘ stB) = l := fun l => by
    rw [show (bt ∘ stB) = id from funext bt_stB, List.map_id]
  rw [e, e, pc_join, pc_join, List.nil_append, List.nil_append] at h2
  rw [← stB_bt a, h2, stB_bt]
theorem desc_eq {t : Str} {w : Int} (h : t.size ≤ 3000) (hw : inB w 1 8 = true) : descL t w = (⟨t.size, (piecesL t).map fun p => sumS p w⟩, true) := by
  unfold descL
  rw [if_neg (by rintro (q | q); omega; rw [hw] at q; cases q)]
theorem desc_ok {t : Str} {w : Int} (h : t.size ≤ 3000) (hw : inB w 1 8 = true) : okLs (descL t w).1 w = true := by
  rw [desc_eq h hw]
  have hw' : 1 ≤ w ∧ w ≤ 8 := of_decide_eq_true hw
  unfold okLs
  have := pieces_len8 t
  simp only [hw, Bool.true_and, Bool.and_eq_true, decide_eq_true_eq, List.length_map, List.all_eq_true]
  refine ⟨⟨decide_eq_true (by omega), this⟩, ?_⟩
  intro x hx
  obtain ⟨p, _, rfl⟩ := List.mem_map.1 hx
  exact sumS_size hw'.1 hw'.2
/-- no two texts of one sum -/
def nocl (L : List Str) (w : Int) : Prop := ∀ x ∈ L, ∀ y ∈ L, sumS x w = sumS y w → x = y
def twoL (a b : Str) (w : Int) : List Str := [formL (descL a w).1 w] ++ piecesL a ++ [formL (descL b w).1 w] ++ piecesL b
theorem map_inj {f : Str → Str} : ∀ {l m : List Str}, (∀ x ∈ l, ∀ y ∈ m, f x = f y → x = y) → l.map f = m.map f → l = m
  | [], [], _, _ => rfl
  | [], y :: m, _, h => by simp at h
  | x :: l, [], _, h => by simp at h
  | x :: l, y :: m, H, h => by
    rw [List.map_cons, List.map_cons] at h
    injection h with h1 h2
    rw [H x (by simp) y (by simp) h1, map_inj (fun u hu v hv => H u (by simp [hu]) v (by simp [hv])) h2]
theorem name_two {a b : Str} {w : Int} (ha : a.size ≤ 3000) (hb : b.size ≤ 3000) (hw : inB w 1 8 = true) (hn : nameS a w = nameS b w) (nc : nocl (twoL a b w) w) : a = b := by
  have da := desc_eq ha hw
  have db := desc_eq hb hw
  have oa := desc_ok ha hw
  have ob := desc_ok hb hw
  have fa : (descL a w).2 = true := by rw [da]
  have fb : (descL b w).2 = true := by rw [db]
  unfold nameS at hn
  rw [if_pos fa, if_pos fb] at hn
  have e1 := nc _ (by unfold twoL; simp) _ (by unfold twoL; simp) hn
  unfold formL at e1
  rw [if_pos oa, if_pos ob] at e1
  have e2 := parse_form oa
  rw [e1, parse_form ob, da, db] at e2
  have e3 := congrArg Lst.S e2
  simp only at e3
  exact pieces_inj ha hb (map_inj (fun x hx y hy => nc x (by unfold twoL; simp [hx]) y (by unfold twoL; simp [hy])) e3.symm)
theorem two_len (a b : Str) (w : Int) : (twoL a b w).length ≤ 752 := by
  unfold twoL
  have := pieces_len8 a
  have := pieces_len8 b
  simp only [List.length_append, List.length_cons, List.length_nil]; omega
/-- what two things share: the bytes of the other's pieces that are the first's, too -/
def shareN (a b : Str) : Nat → Int
  | 0 => 0
  | i + 1 => shareN a b i + (match (piecesL b)[i]? with | some x => bif inL (piecesL a) x then (x.size : Int) else 0 | none => 0)
theorem share_nn (a b : Str) : ∀ i, 0 ≤ shareN a b i ∧ shareN a b i ≤ 3000 * i
  | 0 => by simp [shareN]
  | i + 1 => by
    have := share_nn a b i
    rw [shareN]
    split
    · rename_i x hx
      have := pieces_sz (List.mem_of_getElem? hx)
      cases inL (piecesL a) x <;> simp only [cond_true, cond_false] <;> omega
    · omega
theorem share_step {a b : Str} {i : Nat} {x : Str} (h : (piecesL b)[i]? = some x) : shareN a b (i + 1) = shareN a b i + (bif inL (piecesL a) x then (x.size : Int) else 0) := by
  rw [shareN, h]
end Go.Proofs.YtkkmgjhfjhcdmaaGreatDoor.Mx

/- Sums. -/
namespace Go.Proofs.YtkkmgjhfjhcdmaaGreatDoor.Mx
set_option linter.all false
open Go Go.RowKit Go.Proofs
def E56 : Env := { T := T0, kp := look [(0, [0]), (1, [0])] }
attribute [local push_cast] E56
theorem widthOk (n : Int) : Does Tryz.prog 56 [.sc (.int .i64 n)] (.sc (.bool (inB n 1 8)), []) := by
  refine does_of (E := E56) (rs := [.tmp 2]) (lent := []) tOk rfl Tryz.func56 rfl (by decide) rfl rfl (Nat.le_of_ble_eq_true rfl) (Nat.le_of_ble_eq_true rfl) ?_
  by_cases h : 1 ≤ n <;> by_cases h2 : n ≤ 8 <;> first | (exfalso; omega) | (simp -dsimp (disch := first | omega | (simp only [h, h2, inB, LR] <;> omega) | fail) only [push_cast, h, h2, inB, simprocAttr, -Nat.reduceSubDiff])
def E54 : Env := { T := T0, kp := look [(0, [0, 1, 2]), (1, [0, 1, 2])] }
attribute [local push_cast] E54
theorem l1In (a b c : Int) : Does Tryz.prog 54 [.sc (.int .i64 a), .sc (.int .i64 b), .sc (.int .i64 c)] (.sc (.bool (inB a b c)), []) := by
  refine does_of (E := E54) (rs := [.tmp 6]) (lent := []) tOk rfl Tryz.func54 rfl (by decide) rfl rfl (Nat.le_of_ble_eq_true rfl) (Nat.le_of_ble_eq_true rfl) ?_
  by_cases h : b ≤ a <;> by_cases h2 : a ≤ c <;> simp -dsimp (disch := first | omega | (simp only [h, h2, inB, LR] <;> omega) | fail) only [push_cast, h, h2, inB, simprocAttr, -Nat.reduceSubDiff]
def E53 : Env := { T := T0, kp := look [(0, [0]), (1, [0])] }
attribute [local push_cast] E53
theorem l1Width (n : Int) : Does Tryz.prog 53 [.sc (.int .i64 n)] (.sc (.bool (inB n 1 8)), []) := by
  refine does_of (E := E53) (rs := [.tmp 2]) (lent := []) tOk rfl Tryz.func53 rfl (by decide) rfl rfl (Nat.le_of_ble_eq_true rfl) (Nat.le_of_ble_eq_true rfl) ?_
  simp -dsimp (disch := first | omega | (simp only [LR] <;> omega) | fail) only [push_cast, simprocAttr, -Nat.reduceSubDiff]
  refine callC (l1In ..) ?_
  simp -dsimp (disch := first | omega | (simp only [LR] <;> omega) | fail) only [push_cast, simprocAttr, -Nat.reduceSubDiff]
def E81 : Env := { T := T0, kp := look [(0, [0]), (1, [0]), (2, [0, 3]), (3, [0, 3, 4]), (4, [0, 3, 4]), (5, [0, 3, 4]), (6, [3])] }
attribute [local push_cast] E81
theorem sum64 (t : Str) (ht : t.size < 4611686018427387904) : Does Tryz.prog 81 [.sc (.string t)] (.sc (.int .u64 (hash64 (bt t))), []) := by
  refine does_of (E := E81) (rs := [.tmp 2]) (lent := []) tOk rfl Tryz.func81 rfl (by decide) rfl rfl (Nat.le_of_ble_eq_true rfl) (Nat.le_of_ble_eq_true rfl) ?_
  simp -dsimp (disch := first | omega | (simp only [LR] <;> omega) | fail) only [push_cast, simprocAttr, -Nat.reduceSubDiff]
  refine loop_ind (α := Nat) (fun i => i ≤ t.size) (fun i => ⟨[(0, .sc (.string t)), (3, .sc (.int .u64 (((bt t).take i).foldl step64 14695981039346656037))), (4, .sc (.int .i64 i))], [], 1⟩) (fun i => t.size - i) 0 (Nat.zero_le _) ?_ ?_
  · simp -dsimp (disch := first | omega | (simp only [List.foldl_nil, LR] <;> omega) | fail) only [push_cast, List.foldl_nil, simprocAttr, -Nat.reduceSubDiff]
  intro i hi ih
  by_cases h : i < t.size
  · obtain ⟨u, hu⟩ := ex_get (by rw [bt_len]; exact h : i < (bt t).length)
    simp -dsimp (disch := first | omega | (simp only [h, hu, LR] <;> omega) | fail) only [push_cast, h, hu, simprocAttr, -Nat.reduceSubDiff]
    refine ih (i + 1) _ (by omega) h ?_
    simp -dsimp (disch := first | omega | (simp only [wr_id, take_step hu, List.foldl_append, List.foldl_cons, List.foldl_nil, step64, LR] <;> omega) | fail) only [push_cast, wr_id, take_step hu, List.foldl_append, List.foldl_cons, List.foldl_nil, step64, simprocAttr, -Nat.reduceSubDiff]
  · have hl : (bt t).take i = bt t := List.take_of_length_le (by rw [bt_len]; omega)
    simp -dsimp (disch := first | omega | (simp only [h, hl, hash64, LR] <;> omega) | fail) only [push_cast, h, hl, hash64, simprocAttr, -Nat.reduceSubDiff]
def E80 : Env := { T := T0, kp := look [(0, [0]), (1, [0]), (2, [0, 3]), (3, [0, 3, 4]), (4, [0, 3, 4]), (5, [0, 3, 4]), (6, [3])] }
attribute [local push_cast] E80
theorem l1Sum64 (t : Str) (ht : t.size < 4611686018427387904) : Does Tryz.prog 80 [.sc (.string t)] (.sc (.int .u64 (hash64 (bt t))), []) := by
  refine does_of (E := E80) (rs := [.tmp 2]) (lent := []) tOk rfl Tryz.func80 rfl (by decide) rfl rfl (Nat.le_of_ble_eq_true rfl) (Nat.le_of_ble_eq_true rfl) ?_
  simp -dsimp (disch := first | omega | (simp only [LR] <;> omega) | fail) only [push_cast, simprocAttr, -Nat.reduceSubDiff]
  refine loop_ind (α := Nat) (fun i => i ≤ t.size) (fun i => ⟨[(0, .sc (.string t)), (3, .sc (.int .u64 (((bt t).take i).foldl step64 14695981039346656037))), (4, .sc (.int .i64 i))], [], 1⟩) (fun i => t.size - i) 0 (Nat.zero_le _) ?_ ?_
  · simp -dsimp (disch := first | omega | (simp only [List.foldl_nil, LR] <;> omega) | fail) only [push_cast, List.foldl_nil, simprocAttr, -Nat.reduceSubDiff]
  intro i hi ih
  by_cases h : i < t.size
  · obtain ⟨u, hu⟩ := ex_get (by rw [bt_len]; exact h : i < (bt t).length)
    simp -dsimp (disch := first | omega | (simp only [h, hu, LR] <;> omega) | fail) only [push_cast, h, hu, simprocAttr, -Nat.reduceSubDiff]
    refine ih (i + 1) _ (by omega) h ?_
    simp -dsimp (disch := first | omega | (simp only [wr_id, take_step hu, List.foldl_append, List.foldl_cons, List.foldl_nil, step64, LR] <;> omega) | fail) only [push_cast, wr_id, take_step hu, List.foldl_append, List.foldl_cons, List.foldl_nil, step64, simprocAttr, -Nat.reduceSubDiff]
  · have hl : (bt t).take i = bt t := List.take_of_length_le (by rw [bt_len]; omega)
    simp -dsimp (disch := first | omega | (simp only [h, hl, hash64, LR] <;> omega) | fail) only [push_cast, h, hl, hash64, simprocAttr, -Nat.reduceSubDiff]
def E79 : Env := { T := T0, kp := look [(0, [0, 1]), (1, [0, 1]), (2, [0, 1, 5]), (3, [0, 1, 5, 6]), (4, [0, 1, 5, 6]), (5, [0, 1, 5, 6]), (6, [0, 1, 5, 6]), (7, [5])] }
attribute [local push_cast] E79
theorem l1Bytes (h w : Int) (h0 : 0 ≤ h) (h1 : h < 18446744073709551616) (w0 : 0 ≤ w) (w8 : w ≤ 8) : Does Tryz.prog 79 [.sc (.int .u64 h), .sc (.int .i64 w)] (.sc (.string (strN (be w.toNat h))), []) := by
  refine does_of (E := E79) (rs := [.tmp 4]) (lent := []) tOk rfl Tryz.func79 rfl (by decide) rfl rfl (Nat.le_of_ble_eq_true rfl) (Nat.le_of_ble_eq_true rfl) ?_
  simp -dsimp (disch := first | omega | (simp only [LR] <;> omega) | fail) only [push_cast, simprocAttr, -Nat.reduceSubDiff]
  refine loop_ind (α := Nat) (fun i => i ≤ w.toNat) (fun i => ⟨[(0, .sc (.int .u64 (h / 256 ^ i))), (1, .sc (.int .i64 w)), (5, .sc (.string (strN (be i h)))), (6, .sc (.int .i64 i))], [], 1⟩) (fun i => w.toNat - i) 0 (Nat.zero_le _) ?_ ?_
  · simp -dsimp (disch := first | omega | (simp only [be, strN, Int.pow_zero, Int.ediv_one, LR] <;> omega) | fail) only [push_cast, be, strN, Int.pow_zero, Int.ediv_one, simprocAttr, -Nat.reduceSubDiff]
    trace_state
  intro i hi ih
  by_cases h2 : (i : Int) < w
  · have e1 : 0 ≤ h / 256 ^ i := Int.ediv_nonneg h0 (Int.pow_nonneg (by decide))
    have e2 : h / 256 ^ i < 18446744073709551616 := Int.lt_of_le_of_lt (Int.ediv_le_self _ h0) h1
    have e3 : wr .u8 ((h / 256 ^ i).tmod 256) = h / 256 ^ i % 256 := by rw [wr_u8, Int.tmod_eq_emod_of_nonneg e1]; omega
    have e4 : wr .u64 ((h / 256 ^ i).tdiv 256) = h / 256 ^ (i + 1) := by
      rw [wr_u64, Int.tdiv_eq_ediv_of_nonneg e1, Int.pow_succ, ← Int.ediv_ediv_of_nonneg (Int.pow_nonneg (by decide))]
      have := Int.ediv_nonneg e1 (by decide : (0 : Int) ≤ 256)
      have := Int.ediv_le_self 256 e1
      omega
    simp -dsimp (disch := first | omega | (simp only [h2, e3, e4, strN_one, strN_size, be_len, strN_app, LR] <;> omega) | fail) only [push_cast, h2, e3, e4, strN_one, strN_size, be_len, strN_app, simprocAttr, -Nat.reduceSubDiff]
    refine ih (i + 1) _ (by omega) (by omega) ?_
    simp -dsimp (disch := first | omega | (simp only [wr_id, be, LR] <;> omega) | fail) only [push_cast, wr_id, be, simprocAttr, -Nat.reduceSubDiff]
  · have : w.toNat = i := by omega
    simp -dsimp (disch := first | omega | (simp only [h2, this, LR] <;> omega) | fail) only [push_cast, h2, this, simprocAttr, -Nat.reduceSubDiff]
def E22 : Env := { T := T0, kp := look [(0, [0, 1]), (1, [0, 1]), (2, []), (3, [0, 1])] }
attribute [local push_cast] E22
theorem specSum (t : Str) (w : Int) (ht : t.size < 4611686018427387904) : Does Tryz.prog 22 [.sc (.string t), .sc (.int .i64 w)] (.sc (.string (sumS t w)), []) := by
  refine does_of (E := E22) (rs := [.tmp 4]) (lent := []) tOk rfl Tryz.func22 rfl (by decide) rfl rfl (Nat.le_of_ble_eq_true rfl) (Nat.le_of_ble_eq_true rfl) ?_
  simp -dsimp (disch := first | omega | (simp only [LR] <;> omega) | fail) only [push_cast, simprocAttr, -Nat.reduceSubDiff]
  refine callC (l1Width ..) ?_
  by_cases h : 1 ≤ w ∧ w ≤ 8
  · simp -dsimp (disch := first | omega | (simp only [inB, h, sumS, and_self, LR] <;> omega) | fail) only [push_cast, inB, h, sumS, and_self, simprocAttr, -Nat.reduceSubDiff]
    refine callC (l1Sum64 _ ht) ?_
    simp -dsimp (disch := first | omega | (simp only [LR] <;> omega) | fail) only [push_cast, simprocAttr, -Nat.reduceSubDiff]
    have := hash64_r (bt t)
    refine callC (l1Bytes _ _ this.1 this.2 (by omega) h.2) ?_
    simp -dsimp (disch := first | omega | (simp only [sumS, LR] <;> omega) | fail) only [push_cast, sumS, simprocAttr, -Nat.reduceSubDiff]
  · simp -dsimp (disch := first | omega | (simp only [inB, h, sumS, em, LR] <;> omega) | fail) only [push_cast, inB, h, sumS, em, simprocAttr, -Nat.reduceSubDiff]
def E25 : Env := { T := T0, kp := look [(0, [0, 1]), (1, [0, 1]), (2, []), (3, [0, 1]), (4, [1, 5]), (5, [1, 5, 6]), (6, [1, 5, 6, 16, 17]), (7, [1, 5, 6, 16, 17]), (8, [1, 5, 6, 7, 16, 17]), (9, [1, 5, 6, 16, 17]), (10, [6])] }
attribute [local push_cast] E25
theorem implSum (t : Str) (w : Int) (ht : t.size < 4611686018427387904) : Does Tryz.prog 25 [.sc (.string t), .sc (.int .i64 w)] (.sc (.string (sumS t w)), []) := by
  by_cases h : 1 ≤ w ∧ w ≤ 8
  rotate_left
  · refine does_of (E := E25) (rs := [.tmp 4]) (lent := []) tOk rfl Tryz.func25 rfl (by decide) rfl rfl (Nat.le_of_ble_eq_true rfl) (Nat.le_of_ble_eq_true rfl) ?_
    simp -dsimp (disch := first | omega | (simp only [LR] <;> omega) | fail) only [push_cast, simprocAttr, -Nat.reduceSubDiff]
    refine callC (widthOk ..) ?_
    simp -dsimp (disch := first | omega | (simp only [inB, h, sumS, em, LR] <;> omega) | fail) only [push_cast, inB, h, sumS, em, simprocAttr, -Nat.reduceSubDiff]
  obtain ⟨n, rfl⟩ : ∃ n : Nat, w = n := ⟨w.toNat, by omega⟩
  rw [show sumS t n = strN (be n (hash64 (bt t))) by unfold sumS; rw [if_pos h]; rfl]
  refine does_of (E := E25) (rs := [.tmp 4]) (lent := []) tOk rfl Tryz.func25 rfl (by decide) rfl rfl (Nat.le_of_ble_eq_true rfl) (Nat.le_of_ble_eq_true rfl) ?_
  simp -dsimp (disch := first | omega | (simp only [LR] <;> omega) | fail) only [push_cast, simprocAttr, -Nat.reduceSubDiff]
  refine callC (widthOk ..) ?_
  simp -dsimp (disch := first | omega | (simp only [inB, h, and_self, LR] <;> omega) | fail) only [push_cast, inB, h, and_self, simprocAttr, -Nat.reduceSubDiff]
  refine callC (sum64 _ ht) ?_
  have hr := hash64_r (bt t)
  generalize hash64 (bt t) = H at hr ⊢
  simp -dsimp (disch := first | omega | (simp only [LR] <;> omega) | fail) only [push_cast, simprocAttr, -Nat.reduceSubDiff]
  refine loop_ind (α := Nat) (fun i => i ≤ n) (fun i => ⟨[(1, .sc (.int .i64 n)), (5, .sc (.int .u64 H)), (6, .ow 1 0 n), (16, .sc (.int .i64 n)), (17, .sc (.int .i64 i))], [(1, .ar 1 0 (((be n H).take i ++ List.replicate (n - i) 0).map numR))], 2⟩) (fun i => n - i) 0 (Nat.zero_le _) ?_ ?_
  · simp -dsimp (disch := first | omega | (simp only [List.map_replicate, numR, Nat.sub_zero, LR] <;> omega) | fail) only [push_cast, List.map_replicate, numR, Nat.sub_zero, simprocAttr, -Nat.reduceSubDiff]
  intro i hi ih
  by_cases h2 : i < n
  · obtain ⟨x, hx⟩ := ex_get (show i < ((be n H).take i ++ List.replicate (n - i) 0).length by simp [be_len]; omega)
    have e : wr .u8 (H.fdiv (2 ^ (min (8 * ((n : Int) - 1 - i)).toNat IntKind.u64.bits))) = H / 256 ^ (n - 1 - i) % 256 := by
      rw [show (8 * ((n : Int) - 1 - i)).toNat = 8 * (n - 1 - i) by omega,
        show IntKind.u64.bits = 64 from rfl, Nat.min_eq_left (by omega), Int.pow_mul, wr_u8, Int.fdiv_eq_ediv_of_nonneg _ (Int.pow_nonneg (by decide))]
      rfl
    simp -dsimp (disch := first | omega | (simp only [wr_id, e, hx, numR, LR] <;> omega) | fail) only [push_cast, wr_id, e, hx, numR, simprocAttr, -Nat.reduceSubDiff]
    refine ih (i + 1) _ (by omega) h2 ?_
    have ee : (((be n H).take i ++ List.replicate (n - i) 0).map numR).set i [.sc (.int .u8 (H / 256 ^ (n - 1 - i) % 256))] = ((be n H).take (i + 1) ++ List.replicate (n - (i + 1)) 0).map numR := by
      rw [show ([.sc (.int .u8 (H / 256 ^ (n - 1 - i) % 256))] : Row) = numR (H / 256 ^ (n - 1 - i) % 256) from rfl, ← List.map_set, take_step (be_get n H i h2), List.set_append_right _ _ (by simp [be_len]; omega), show n - i = n - (i + 1) + 1 by omega, List.replicate_succ]
      simp [be_len, Nat.min_eq_left hi]
    simp -dsimp (disch := first | omega | (simp only [wr_id, ee, LR] <;> omega) | fail) only [push_cast, wr_id, ee, simprocAttr, -Nat.reduceSubDiff]
  · have hn : i = n := by omega
    subst hn
    have e : (be i H).take i ++ List.replicate (i - i) 0 = be i H := by rw [List.take_of_length_le (by rw [be_len]; omega)]; simp
    simp -dsimp (disch := first | omega | (simp only [e, be_len, bytesOf_num, strN, LR] <;> omega) | fail) only [push_cast, e, be_len, bytesOf_num, strN, simprocAttr, -Nat.reduceSubDiff]
end Go.Proofs.YtkkmgjhfjhcdmaaGreatDoor.Mx

/- Lists of texts: copied, measured, held against each other, marked. -/
namespace Go.Proofs.YtkkmgjhfjhcdmaaGreatDoor.Mx
set_option linter.all false
open Go Go.RowKit Go.Proofs
def E122 : Env := { T := T0, kp := look [(0, [0, 1]), (1, [0, 1]), (2, [0, 1]), (3, []), (4, [0, 1]), (5, [0, 1, 5]), (6, [0, 1, 5]), (7, [0, 1, 5]), (8, [0, 1, 5]), (9, []), (10, [1])] }
attribute [local push_cast] E122
theorem szStringS (l : List Str) (x : Int) (x0 : 0 ≤ x) (x1 : x ≤ 1048576) (hb : bdL bdStr l) : Does Tryz.prog 122 [.sl false 1 (l.map strR), .sc (.int .i64 x)] (.sc (.int .i64 (szL szStr l x)), []) := by
  refine does_of (E := E122) (rs := [.tmp 4]) (lent := []) tOk rfl Tryz.func122 rfl (by decide) rfl rfl (Nat.le_of_ble_eq_true rfl) (Nat.le_of_ble_eq_true rfl) ?_
  have hb1 := hb.1
  by_cases h0 : x - l.length < 0
  · simp -dsimp (disch := first | omega | (simp only [wr_id, szL, h0, LR] <;> omega) | fail) only [push_cast, wr_id, szL, h0, simprocAttr, -Nat.reduceSubDiff]
  simp -dsimp (disch := first | omega | (simp only [wr_id, szL, h0, LR] <;> omega) | fail) only [push_cast, wr_id, szL, h0, simprocAttr, -Nat.reduceSubDiff]
  refine loop_ind (α := Nat × Int) (fun p => p.1 ≤ l.length ∧ 0 ≤ p.2 ∧ p.2 ≤ x ∧ szG szStr (l.drop p.1) p.2 = szG szStr l (x - l.length)) (fun p => ⟨[(0, .sl false 1 (l.map strR)), (1, .sc (.int .i64 p.2)), (5, .sc (.int .i64 p.1))], [], 1⟩) (fun p => l.length - p.1) (0, x - l.length) ⟨Nat.zero_le _, by omega, by omega, rfl⟩ ?_ ?_
  · simp -dsimp (disch := first | omega | (simp only [LR] <;> omega) | fail) only [push_cast, simprocAttr, -Nat.reduceSubDiff]
  rintro ⟨i, y⟩ ⟨hi, hy0, hy1, hy⟩ ih
  by_cases h : i < l.length
  · obtain ⟨s, hx⟩ := ex_get h
    have hs := hb.2 s (List.mem_of_getElem? hx)
    unfold bdStr at hs
    rw [drop_step hx, szG] at hy
    by_cases h2 : y - s.size < 0
    · simp -dsimp (disch := first | omega | (simp only [hx, strR, wr_id, szL, h0, ← hy, szStr, h2, LR] <;> omega) | fail) only [push_cast, hx, strR, wr_id, szL, h0, ← hy, szStr, h2, simprocAttr, -Nat.reduceSubDiff]
    · simp -dsimp (disch := first | omega | (simp only [hx, strR, wr_id, LR] <;> omega) | fail) only [push_cast, hx, strR, wr_id, simprocAttr, -Nat.reduceSubDiff]
      refine ih (i + 1, y - s.size) _ (by simp; omega) ⟨h, by simp only []; omega, by simp only []; omega, ?_⟩ ?_
      · rw [← hy, szStr, if_neg h2]
      · simp -dsimp (disch := first | omega | (simp only [wr_id, LR] <;> omega) | fail) only [push_cast, wr_id, simprocAttr, -Nat.reduceSubDiff]
  · rw [List.drop_eq_nil_of_le (by omega), szG] at hy
    simp -dsimp (disch := first | omega | (simp only [szL, h0, ← hy, LR] <;> omega) | fail) only [push_cast, szL, h0, ← hy, simprocAttr, -Nat.reduceSubDiff]
def E125 : Env := { T := T0, kp := look [(0, [0]), (1, [0]), (2, [0, 3]), (3, [0, 3, 4]), (4, [0, 3, 4]), (5, [0, 3, 4]), (6, [3])] }
attribute [local push_cast] E125
theorem toStringS (l : List Str) (hb : okL okStr l) : Does Tryz.prog 125 [.sl false 1 (l.map strR)] (.sl true 1 (l.map strR), []) := by
  refine does_of (E := E125) (rs := [.tmp 2]) (lent := []) tOk rfl Tryz.func125 rfl (by decide) rfl rfl (Nat.le_of_ble_eq_true rfl) (Nat.le_of_ble_eq_true rfl) ?_
  have hb1 := hb.1
  simp -dsimp (disch := first | omega | (simp only [LR] <;> omega) | fail) only [push_cast, simprocAttr, -Nat.reduceSubDiff]
  refine loop_ind (α := Nat) (fun i => i ≤ l.length) (fun i => ⟨[(0, .sl false 1 (l.map strR)), (3, .ow 1 0 l.length), (4, .sc (.int .i64 i))], [(1, .ar 1 0 ((l.take i ++ (List.replicate l.length em).drop i).map strR))], 2⟩) (fun i => l.length - i) 0 (Nat.zero_le _) ?_ ?_
  · simp -dsimp (disch := first | omega | (simp only [List.map_replicate, strR, em, LR] <;> omega) | fail) only [push_cast, List.map_replicate, strR, em, simprocAttr, -Nat.reduceSubDiff]
  intro i hi ih
  by_cases h : i < l.length
  · obtain ⟨s, hx⟩ := ex_get h
    have hw := get_over (a := l) (b := List.replicate l.length em) (by simp) hi
    rw [List.getElem?_replicate, if_pos h] at hw
    have ee := congrArg (List.map strR) (set_over (b := List.replicate l.length em) (by simp) hx)
    rw [List.map_set] at ee
    simp -dsimp (disch := first | omega | (simp only [hx, hw, strR, LR] <;> omega) | fail) only [push_cast, hx, hw, strR, simprocAttr, -Nat.reduceSubDiff]
    refine ih (i + 1) _ (by omega) h ?_
    unfold strR at ee ⊢
    simp -dsimp (disch := first | omega | (simp only [wr_id, ee, LR] <;> omega) | fail) only [push_cast, wr_id, ee, simprocAttr, -Nat.reduceSubDiff]
  · have hn : i = l.length := by omega
    subst hn
    simp -dsimp (disch := first | omega | (simp only [List.take_length, List.drop_eq_nil_of_le, LR] <;> omega) | fail) only [push_cast, List.take_length, List.drop_eq_nil_of_le, simprocAttr, -Nat.reduceSubDiff]
def E130 : Env := { T := T0, kp := look [(0, [0, 1]), (1, [0, 1]), (2, []), (3, [0, 1]), (4, [0, 1, 5]), (5, [0, 1, 5]), (6, [0, 1, 5]), (7, []), (8, [])], dp := look2 [(6, [[], [], [0, 1], [0, 1, 2], [], [], [4, 5], [4, 5, 6], [0, 1, 2, 3, 4, 5, 6, 7]])] }
attribute [local push_cast] E130
theorem eqStringS (a b : List Str) (hb : okL okStr b) : Does Tryz.prog 130 [.sl false 1 (a.map strR), .sl false 1 (b.map strR)] (.sc (.bool (decide (a = b))), []) := by
  refine does_of (E := E130) (rs := [.tmp 4]) (lent := []) tOk rfl Tryz.func130 rfl (by decide) rfl rfl (Nat.le_of_ble_eq_true rfl) (Nat.le_of_ble_eq_true rfl) ?_
  have hb1 := hb.1
  by_cases hl : a.length = b.length
  rotate_left
  · have : a ≠ b := fun h => hl (by rw [h])
    simp -dsimp (disch := first | omega | (simp only [this, LR] <;> omega) | fail) only [push_cast, this, simprocAttr, -Nat.reduceSubDiff]
  simp -dsimp (disch := first | omega | (simp only [hl, LR] <;> omega) | fail) only [push_cast, hl, simprocAttr, -Nat.reduceSubDiff]
  refine loop_ind (α := Nat) (fun i => i ≤ b.length ∧ a.take i = b.take i) (fun i => ⟨[(0, .sl false 1 (a.map strR)), (1, .sl false 1 (b.map strR)), (5, .sc (.int .i64 i))], [], 1⟩) (fun i => b.length - i) 0 ⟨Nat.zero_le _, rfl⟩ ?_ ?_
  · simp -dsimp (disch := first | omega | (simp only [LR] <;> omega) | fail) only [push_cast, simprocAttr, -Nat.reduceSubDiff]
  intro i hi ih
  by_cases h : i < b.length
  · obtain ⟨x, hx⟩ := ex_get (hl ▸ h : i < a.length)
    obtain ⟨y, hy⟩ := ex_get h
    by_cases e : x = y
    · (simp -dsimp (disch := first | omega | (simp only [hx, hy, strR, e, LR] <;> omega) | fail) only [push_cast, hx, hy, strR, e, simprocAttr, -Nat.reduceSubDiff]) <;> (repeat (refine (aw_draw (by kernel_rfl)).2 ?_; simp -dsimp (disch := first | omega | (simp only [hx, hy, strR, e, LR] <;> omega) | fail) only [push_cast, hx, hy, strR, e, simprocAttr, -Nat.reduceSubDiff]))
      refine ih (i + 1) _ (by omega) ⟨h, by rw [take_step hx, take_step hy, hi.2, e]⟩ ?_
      simp -dsimp (disch := first | omega | (simp only [wr_id, LR] <;> omega) | fail) only [push_cast, wr_id, simprocAttr, -Nat.reduceSubDiff]
    · have : a ≠ b := fun h' => e (by rw [h', hy] at hx; cases hx; rfl)
      (simp -dsimp (disch := first | omega | (simp only [hx, hy, strR, e, this, LR] <;> omega) | fail) only [push_cast, hx, hy, strR, e, this, simprocAttr, -Nat.reduceSubDiff]) <;> (repeat (refine (aw_draw (by kernel_rfl)).2 ?_; simp -dsimp (disch := first | omega | (simp only [hx, hy, strR, e, this, LR] <;> omega) | fail) only [push_cast, hx, hy, strR, e, this, simprocAttr, -Nat.reduceSubDiff]))
  · have : a = b := by
      have := hi.2
      rwa [List.take_of_length_le (by omega), List.take_of_length_le (by omega)] at this
    simp -dsimp (disch := first | omega | (simp only [this, LR] <;> omega) | fail) only [push_cast, this, simprocAttr, -Nat.reduceSubDiff]
def E97 : Env := { T := T0, kp := look [(0, [0]), (1, [0]), (2, []), (3, [0]), (4, [0, 3]), (5, [0, 3]), (6, [0, 3]), (7, [3])] }
attribute [local push_cast] E97
theorem markText (k : Int) (hk : k < 2305843009213693952) : Does Tryz.prog 97 [.sc (.int .i64 k)] (.sc (.string (mtx k)), []) := by
  refine does_of (E := E97) (rs := [.tmp 2]) (lent := []) tOk rfl Tryz.func97 rfl (by decide) rfl rfl (Nat.le_of_ble_eq_true rfl) (Nat.le_of_ble_eq_true rfl) ?_
  by_cases h0 : k ≤ 0
  · simp -dsimp (disch := first | omega | (simp only [mtx, LR] <;> omega) | fail) only [push_cast, mtx, simprocAttr, -Nat.reduceSubDiff]
    rfl
  obtain ⟨n, rfl⟩ : ∃ n : Nat, k = n := ⟨k.toNat, by omega⟩
  simp -dsimp (disch := first | omega | (simp only [LR] <;> omega) | fail) only [push_cast, simprocAttr, -Nat.reduceSubDiff]
  refine loop_ind (α := Nat × List Int) (fun p => p.1 < 2305843009213693952 ∧ dig n = dig p.1 ++ p.2) (fun p => ⟨[(0, .sc (.int .i64 p.1)), (3, .sc (.string (strN p.2)))], [], 1⟩) (fun p => p.1) (n, []) ⟨by simp only []; omega, by simp⟩ ?_ ?_
  · simp -dsimp (disch := first | omega | (simp only [strN, LR] <;> omega) | fail) only [push_cast, strN, simprocAttr, -Nat.reduceSubDiff]
  rintro ⟨m, l⟩ ⟨hm, hl⟩ ih
  dsimp only at hm hl
  have hn := dig_len n
  have hs : 1 + (l.length : Int) ≤ 4611686018427387904 := by rw [hl, List.length_append] at hn; omega
  by_cases h : m = 0
  · subst h
    rw [show dig 0 = [] by unfold dig; rfl] at hl
    have e : mtx n = strN [109] ++ strN l := by unfold mtx; rw [if_neg h0, Int.toNat_natCast, hl, strN_app]; rfl
    simp -dsimp (disch := first | omega | (simp only [e, show (⟨#[109]⟩ : ByteArray) = strN [109] from rfl, strN_size, LR] <;> omega) | fail) only [push_cast, e, show (⟨#[109]⟩ : ByteArray) = strN [109] from rfl, strN_size, simprocAttr, -Nat.reduceSubDiff]
  · have e1 : ((m : Int).tmod 10) = (m : Int) % 10 := rfl
    have e2 : wr .u8 (48 + (m : Int) % 10) = 48 + (m : Int) % 10 := by rw [wr_u8]; omega
    have e3 : ((m : Int).tdiv 10) = (m : Int) / 10 := rfl
    simp -dsimp (disch := first | omega | (simp only [wr_id, e1, e2, e3, strN_one, strN_size, strN_app, LR] <;> omega) | fail) only [push_cast, wr_id, e1, e2, e3, strN_one, strN_size, strN_app, simprocAttr, -Nat.reduceSubDiff]
    refine ih (m / 10, (48 + (m : Int) % 10) :: l) _ (by simp; omega) ⟨by simp only []; omega, ?_⟩ ?_
    · rw [hl]; conv => lhs; unfold dig; rw [dif_neg h]
      simp
    · simp -dsimp (disch := first | omega | (simp only [LR] <;> omega) | fail) only [push_cast, simprocAttr, -Nat.reduceSubDiff]

def E133 : Env := { T := T0, kp := look [(0, [0, 1]), (1, [0, 1]), (2, [0, 1, 5]), (3, [0, 1, 5]), (4, [0, 1, 5]), (5, [0, 1, 5]), (6, [0, 1])] }
attribute [local push_cast] E133
theorem markStringS (l : List Str) (k : Int) (k0 : 0 ≤ k) (k1 : k + cnG c1 l < 2305843009213693952) : Does Tryz.prog 133 [.sl true 1 (l.map strR), .sc (.int .i64 k)] (.sc (.int .i64 (k + cnG c1 l)), [some (.sl true 1 ((mkG mkStr c1 l k).map strR))]) := by
  refine does_of (E := E133) (rs := [.tmp 4]) (lent := [true]) tOk rfl Tryz.func133 rfl (by decide) rfl rfl (Nat.le_of_ble_eq_true rfl) (Nat.le_of_ble_eq_true rfl) ?_
  have hM := mkG_len mkStr c1 l k
  generalize hm : mkG mkStr c1 l k = M at hM ⊢
  rw [cn1] at k1 ⊢
  simp -dsimp (disch := first | omega | (simp only [LR] <;> omega) | fail) only [push_cast, simprocAttr, -Nat.reduceSubDiff]
  refine loop_ind (α := Nat) (fun i => i ≤ l.length) (fun i => ⟨[(0, .ow 1 0 l.length), (1, .sc (.int .i64 (k + i))), (5, .sc (.int .i64 i))], [(1, .ar 1 0 ((M.take i ++ l.drop i).map strR))], 2⟩) (fun i => l.length - i) 0 (Nat.zero_le _) ?_ ?_
  · simp -dsimp (disch := first | omega | (simp only [Int.add_zero, List.take_zero, List.drop_zero, LR] <;> omega) | fail) only [push_cast, Int.add_zero, List.take_zero, List.drop_zero, simprocAttr, -Nat.reduceSubDiff]
  intro i hi ih
  by_cases h : i < l.length
  · obtain ⟨s, hx⟩ := ex_get h
    have hw := (get_over (a := M) (b := l) hM (by omega)).trans hx
    have hy : M[i]? = some (mtx (k + i)) := by rw [← hm, mkG_step hx, cn1, List.length_take, Nat.min_eq_left (by omega)]
    have ee := congrArg (List.map strR) (set_over hM hy)
    rw [List.map_set] at ee
    simp -dsimp (disch := first | omega | (simp only [LR] <;> omega) | fail) only [push_cast, simprocAttr, -Nat.reduceSubDiff]
    refine callC (markText _ (by omega)) ?_
    simp -dsimp (disch := first | omega | (simp only [hw, LR] <;> omega) | fail) only [push_cast, hw, simprocAttr, -Nat.reduceSubDiff]
    refine ih (i + 1) _ (by omega) h ?_
    unfold strR at ee ⊢
    simp -dsimp (disch := first | omega | (simp only [wr_id, ee, Int.add_assoc, LR] <;> omega) | fail) only [push_cast, wr_id, ee, Int.add_assoc, simprocAttr, -Nat.reduceSubDiff]
  · have hn : i = l.length := by omega
    subst hn
    simp -dsimp (disch := first | omega | (simp only [List.take_of_length_le, List.drop_eq_nil_of_le, hM, Nat.le_refl, LR] <;> omega) | fail) only [push_cast, List.take_of_length_le, List.drop_eq_nil_of_le, hM, Nat.le_refl, simprocAttr, -Nat.reduceSubDiff]
def E135 : Env := { T := T0, kp := look [(0, [0, 1]), (1, [0, 1]), (2, [0, 1, 5]), (3, [0, 1, 5]), (4, [0, 1, 5]), (5, []), (6, [0, 1, 5]), (7, [1])], dp := look2 [(4, [[], [], [0, 1], [0, 1, 2], [], [4], [0, 1, 2, 3, 4, 5]])] }
attribute [local push_cast] E135
theorem heldStringS (l : List Str) (k : Int) (k0 : 0 ≤ k) (k1 : k + cnG c1 l < 2305843009213693952) : Does Tryz.prog 135 [.sl false 1 (l.map strR), .sc (.int .i64 k)] (.sc (.int .i64 (hdG hdStr c1 l k)), []) := by
  refine does_of (E := E135) (rs := [.tmp 4]) (lent := []) tOk rfl Tryz.func135 rfl (by decide) rfl rfl (Nat.le_of_ble_eq_true rfl) (Nat.le_of_ble_eq_true rfl) ?_
  generalize hm : hdG hdStr c1 l k = M
  rw [cn1] at k1
  simp -dsimp (disch := first | omega | (simp only [LR] <;> omega) | fail) only [push_cast, simprocAttr, -Nat.reduceSubDiff]
  refine loop_ind (α := Nat) (fun i => i ≤ l.length ∧ hdG hdStr c1 (l.drop i) (k + i) = M) (fun i => ⟨[(0, .sl false 1 (l.map strR)), (1, .sc (.int .i64 (k + i))), (5, .sc (.int .i64 i))], [], 1⟩) (fun i => l.length - i) 0 ⟨Nat.zero_le _, by simpa using hm⟩ ?_ ?_
  · simp -dsimp (disch := first | omega | (simp only [Int.add_zero, LR] <;> omega) | fail) only [push_cast, Int.add_zero, simprocAttr, -Nat.reduceSubDiff]
  rintro i ⟨hi, hy⟩ ih
  by_cases h : i < l.length
  · obtain ⟨s, hx⟩ := ex_get h
    rw [drop_step hx, hdG] at hy
    (simp -dsimp (disch := first | omega | (simp only [hx, LR] <;> omega) | fail) only [push_cast, hx, simprocAttr, -Nat.reduceSubDiff]) <;> (repeat (refine (aw_draw (by kernel_rfl)).2 ?_; simp -dsimp (disch := first | omega | (simp only [hx, LR] <;> omega) | fail) only [push_cast, hx, simprocAttr, -Nat.reduceSubDiff]))
    refine callC (markText _ (by omega)) ?_
    by_cases e : s = mtx (k + i)
    · rw [if_pos (by simp [e])] at hy
      simp -dsimp (disch := first | omega | (simp only [e, LR] <;> omega) | fail) only [push_cast, e, simprocAttr, -Nat.reduceSubDiff]
      refine ih (i + 1) _ (by omega) ⟨h, by rw [← hy, show k + ((i + 1 : Nat) : Int) = k + i + c1 s by show _ = k + i + 1; omega]⟩ ?_
      simp -dsimp (disch := first | omega | (simp only [wr_id, Int.add_assoc, LR] <;> omega) | fail) only [push_cast, wr_id, Int.add_assoc, simprocAttr, -Nat.reduceSubDiff]
    · rw [if_neg (by simp [e])] at hy
      simp -dsimp (disch := first | omega | (simp only [e, ← hy, LR] <;> omega) | fail) only [push_cast, e, ← hy, simprocAttr, -Nat.reduceSubDiff]
  · rw [List.drop_eq_nil_of_le (by omega), hdG] at hy
    simp -dsimp (disch := first | omega | (simp only [← hy, LR] <;> omega) | fail) only [push_cast, ← hy, simprocAttr, -Nat.reduceSubDiff]
end Go.Proofs.YtkkmgjhfjhcdmaaGreatDoor.Mx

/- Lists' forms. -/
namespace Go.Proofs.YtkkmgjhfjhcdmaaGreatDoor.Mx
set_option linter.all false
open Go Go.RowKit Go.Proofs
set_option linter.unusedSimpArgs false
theorem inB_and (a b c : Int) : inB a b c = (decide (b ≤ a) && decide (a ≤ c)) := by
  unfold inB; by_cases h : b ≤ a <;> by_cases h2 : a ≤ c <;> simp [h, h2]
def E114 : Env := { T := T0, kp := look [(0, [0, 1]), (1, [1, 2]), (2, []), (3, [1, 2]), (4, [1, 27, 28, 29]), (5, [1, 27, 28, 29]), (6, [1, 6, 27, 28, 29]), (7, []), (8, [1, 27, 28, 29]), (9, [])] }
attribute [local push_cast] E114
set_option maxRecDepth 20000 in
set_option maxHeartbeats 1000000 in
theorem listOk (l : Lst) (w : Int) (hl : l.S.length ≤ 2097152) : Does Tryz.prog 114 [.ag (lstC false l), .sc (.int .i64 w)] (.sc (.bool (okLs l w)), []) := by
  refine does_of (E := E114) (rs := [.tmp 4]) (lent := []) tOk rfl Tryz.func114 rfl (by decide) rfl rfl (Nat.le_of_ble_eq_true rfl) (Nat.le_of_ble_eq_true rfl) ?_
  obtain ⟨M, hM⟩ : ∃ M, M = okLs l w := ⟨_, rfl⟩
  rw [← hM]
  unfold okLs at hM
  (simp -dsimp (disch := first | omega | (simp only [LR] <;> omega) | fail) only [push_cast, simprocAttr, -Nat.reduceSubDiff]) <;> (repeat (refine (aw_draw (by kernel_rfl)).2 ?_; simp -dsimp (disch := first | omega | (simp only [LR] <;> omega) | fail) only [push_cast, simprocAttr, -Nat.reduceSubDiff]))
  refine callC (widthOk ..) ?_
  by_cases c1 : inB w 1 8 = true
  rotate_left
  · have hv : M = false := by rw [hM]; simp [c1]
    (simp -dsimp (disch := first | omega | (simp only [c1, hv, LR] <;> omega) | fail) only [push_cast, c1, hv, simprocAttr, -Nat.reduceSubDiff]) <;> (repeat (refine (aw_draw (by kernel_rfl)).2 ?_; simp -dsimp (disch := first | omega | (simp only [c1, hv, LR] <;> omega) | fail) only [push_cast, c1, hv, simprocAttr, -Nat.reduceSubDiff]))
  by_cases c2 : 0 ≤ l.sz
  rotate_left
  · have hv : M = false := by rw [hM]; simp [inB_and l.sz, c2]
    (simp -dsimp (disch := first | omega | (simp only [c1, hv, LR] <;> omega) | fail) only [push_cast, c1, hv, simprocAttr, -Nat.reduceSubDiff]) <;> (repeat (refine (aw_draw (by kernel_rfl)).2 ?_; simp -dsimp (disch := first | omega | (simp only [c1, hv, LR] <;> omega) | fail) only [push_cast, c1, hv, simprocAttr, -Nat.reduceSubDiff]))
  by_cases c3 : l.sz ≤ 3000
  rotate_left
  · have hv : M = false := by rw [hM]; simp [inB_and l.sz, c3]
    (simp -dsimp (disch := first | omega | (simp only [c1, hv, LR] <;> omega) | fail) only [push_cast, c1, hv, simprocAttr, -Nat.reduceSubDiff]) <;> (repeat (refine (aw_draw (by kernel_rfl)).2 ?_; simp -dsimp (disch := first | omega | (simp only [c1, hv, LR] <;> omega) | fail) only [push_cast, c1, hv, simprocAttr, -Nat.reduceSubDiff]))
  by_cases c4 : l.S.length ≤ 375
  rotate_left
  · have hv : M = false := by rw [hM]; simp [c4]
    (simp -dsimp (disch := first | omega | (simp only [c1, hv, LR] <;> omega) | fail) only [push_cast, c1, hv, simprocAttr, -Nat.reduceSubDiff]) <;> (repeat (refine (aw_draw (by kernel_rfl)).2 ?_; simp -dsimp (disch := first | omega | (simp only [c1, hv, LR] <;> omega) | fail) only [push_cast, c1, hv, simprocAttr, -Nat.reduceSubDiff]))
  have hM : (l.S.all fun s => decide ((s.size : Int) = w)) = M := by rw [hM]; simp [inB_and l.sz, c1, c2, c3, c4]
  (simp -dsimp (disch := first | omega | (simp only [c1, LR] <;> omega) | fail) only [push_cast, c1, simprocAttr, -Nat.reduceSubDiff]) <;> (repeat (refine (aw_draw (by kernel_rfl)).2 ?_; simp -dsimp (disch := first | omega | (simp only [c1, LR] <;> omega) | fail) only [push_cast, c1, simprocAttr, -Nat.reduceSubDiff]))
  refine loop_ind (α := Nat) (fun i => i ≤ l.S.length ∧ ((l.S.drop i).all fun s => decide ((s.size : Int) = w)) = M)
    (fun i => ⟨[(1, .sc (.int .i64 w)), (27, .sl false 1 (l.S.map strR)), (28, .sc (.int .i64 l.S.length)), (29, .sc (.int .i64 i))], [], 1⟩) (fun i => l.S.length - i) 0 ⟨Nat.zero_le _, hM⟩ ?_ ?_
  · simp -dsimp (disch := first | omega | (simp only [LR] <;> omega) | fail) only [push_cast, simprocAttr, -Nat.reduceSubDiff]
  rintro i ⟨hi, hy⟩ ih
  by_cases h : i < l.S.length
  · obtain ⟨x, hx⟩ := ex_get h
    rw [drop_step hx, List.all_cons] at hy
    by_cases e : (x.size : Int) = w
    · (simp -dsimp (disch := first | omega | (simp only [hx, e, LR] <;> omega) | fail) only [push_cast, hx, e, simprocAttr, -Nat.reduceSubDiff]) <;> (repeat (refine (aw_draw (by kernel_rfl)).2 ?_; simp -dsimp (disch := first | omega | (simp only [hx, e, LR] <;> omega) | fail) only [push_cast, hx, e, simprocAttr, -Nat.reduceSubDiff]))
      refine ih (i + 1) _ (by omega) ⟨h, by rw [← hy]; simp [e]⟩ ?_
      simp -dsimp (disch := first | omega | (simp only [wr_id, LR] <;> omega) | fail) only [push_cast, wr_id, simprocAttr, -Nat.reduceSubDiff]
    · have hy : false = M := by rw [← hy]; simp [e]
      (simp -dsimp (disch := first | omega | (simp only [hx, e, ← hy, LR] <;> omega) | fail) only [push_cast, hx, e, ← hy, simprocAttr, -Nat.reduceSubDiff]) <;> (repeat (refine (aw_draw (by kernel_rfl)).2 ?_; simp -dsimp (disch := first | omega | (simp only [hx, e, ← hy, LR] <;> omega) | fail) only [push_cast, hx, e, ← hy, simprocAttr, -Nat.reduceSubDiff]))
  · rw [List.drop_eq_nil_of_le (by omega)] at hy
    have hy : true = M := by rw [← hy]; rfl
    (simp -dsimp (disch := first | omega | (simp only [← hy, LR] <;> omega) | fail) only [push_cast, ← hy, simprocAttr, -Nat.reduceSubDiff]) <;> (repeat (refine (aw_draw (by kernel_rfl)).2 ?_; simp -dsimp (disch := first | omega | (simp only [← hy, LR] <;> omega) | fail) only [push_cast, ← hy, simprocAttr, -Nat.reduceSubDiff]))
def E117 : Env := { T := T0, kp := look [(0, [0, 1]), (1, [1, 2]), (2, []), (3, [1, 2]), (4, [1, 2, 5]), (5, [1, 2, 5]), (6, [1, 2, 5]), (7, []), (8, [])] }
attribute [local push_cast] E117
set_option maxRecDepth 20000 in
set_option maxHeartbeats 1000000 in
theorem l3Ok (l : Lst) (w : Int) (hl : l.S.length ≤ 2097152) : Does Tryz.prog 117 [.ag (lstC false l), .sc (.int .i64 w)] (.sc (.bool (okLs l w)), []) := by
  refine does_of (E := E117) (rs := [.tmp 4]) (lent := []) tOk rfl Tryz.func117 rfl (by decide) rfl rfl (Nat.le_of_ble_eq_true rfl) (Nat.le_of_ble_eq_true rfl) ?_
  obtain ⟨M, hM⟩ : ∃ M, M = okLs l w := ⟨_, rfl⟩
  rw [← hM]
  unfold okLs at hM
  (simp -dsimp (disch := first | omega | (simp only [LR] <;> omega) | fail) only [push_cast, simprocAttr, -Nat.reduceSubDiff]) <;> (repeat (refine (aw_draw (by kernel_rfl)).2 ?_; simp -dsimp (disch := first | omega | (simp only [LR] <;> omega) | fail) only [push_cast, simprocAttr, -Nat.reduceSubDiff]))
  refine callC (l1Width ..) ?_
  by_cases c1 : inB w 1 8 = true
  rotate_left
  · have hv : M = false := by rw [hM]; simp [c1]
    (simp -dsimp (disch := first | omega | (simp only [c1, hv, LR] <;> omega) | fail) only [push_cast, c1, hv, simprocAttr, -Nat.reduceSubDiff]) <;> (repeat (refine (aw_draw (by kernel_rfl)).2 ?_; simp -dsimp (disch := first | omega | (simp only [c1, hv, LR] <;> omega) | fail) only [push_cast, c1, hv, simprocAttr, -Nat.reduceSubDiff]))
  (simp -dsimp (disch := first | omega | (simp only [c1, LR] <;> omega) | fail) only [push_cast, c1, simprocAttr, -Nat.reduceSubDiff]) <;> (repeat (refine (aw_draw (by kernel_rfl)).2 ?_; simp -dsimp (disch := first | omega | (simp only [c1, LR] <;> omega) | fail) only [push_cast, c1, simprocAttr, -Nat.reduceSubDiff]))
  refine callC (l1In ..) ?_
  by_cases c2 : inB l.sz 0 3000 = true
  rotate_left
  · have hv : M = false := by rw [hM]; simp [c2]
    (simp -dsimp (disch := first | omega | (simp only [c2, hv, LR] <;> omega) | fail) only [push_cast, c2, hv, simprocAttr, -Nat.reduceSubDiff]) <;> (repeat (refine (aw_draw (by kernel_rfl)).2 ?_; simp -dsimp (disch := first | omega | (simp only [c2, hv, LR] <;> omega) | fail) only [push_cast, c2, hv, simprocAttr, -Nat.reduceSubDiff]))
  by_cases c4 : l.S.length ≤ 375
  rotate_left
  · have hv : M = false := by rw [hM]; simp [c4]
    (simp -dsimp (disch := first | omega | (simp only [c2, hv, LR] <;> omega) | fail) only [push_cast, c2, hv, simprocAttr, -Nat.reduceSubDiff]) <;> (repeat (refine (aw_draw (by kernel_rfl)).2 ?_; simp -dsimp (disch := first | omega | (simp only [c2, hv, LR] <;> omega) | fail) only [push_cast, c2, hv, simprocAttr, -Nat.reduceSubDiff]))
  have hM : (l.S.all fun s => decide ((s.size : Int) = w)) = M := by rw [hM]; simp [c1, c2, c4]
  (simp -dsimp (disch := first | omega | (simp only [c2, LR] <;> omega) | fail) only [push_cast, c2, simprocAttr, -Nat.reduceSubDiff]) <;> (repeat (refine (aw_draw (by kernel_rfl)).2 ?_; simp -dsimp (disch := first | omega | (simp only [c2, LR] <;> omega) | fail) only [push_cast, c2, simprocAttr, -Nat.reduceSubDiff]))
  refine loop_ind (α := Nat) (fun i => i ≤ l.S.length ∧ ((l.S.drop i).all fun s => decide ((s.size : Int) = w)) = M)
    (fun i => ⟨[(1, .sc (.int .i64 w)), (2, .pt 1 0 0), (5, .sc (.int .i64 i))], [(1, .bx (lstC false l))], 2⟩) (fun i => l.S.length - i) 0 ⟨Nat.zero_le _, hM⟩ ?_ ?_
  · simp -dsimp (disch := first | omega | (simp only [LR] <;> omega) | fail) only [push_cast, simprocAttr, -Nat.reduceSubDiff]
  rintro i ⟨hi, hy⟩ ih
  by_cases h : i < l.S.length
  · obtain ⟨x, hx⟩ := ex_get h
    rw [drop_step hx, List.all_cons] at hy
    by_cases e : (x.size : Int) = w
    · (simp -dsimp (disch := first | omega | (simp only [hx, e, LR] <;> omega) | fail) only [push_cast, hx, e, simprocAttr, -Nat.reduceSubDiff]) <;> (repeat (refine (aw_draw (by kernel_rfl)).2 ?_; simp -dsimp (disch := first | omega | (simp only [hx, e, LR] <;> omega) | fail) only [push_cast, hx, e, simprocAttr, -Nat.reduceSubDiff]))
      refine ih (i + 1) _ (by omega) ⟨h, by rw [← hy]; simp [e]⟩ ?_
      simp -dsimp (disch := first | omega | (simp only [wr_id, LR] <;> omega) | fail) only [push_cast, wr_id, simprocAttr, -Nat.reduceSubDiff]
    · have hy : false = M := by rw [← hy]; simp [e]
      (simp -dsimp (disch := first | omega | (simp only [hx, e, ← hy, LR] <;> omega) | fail) only [push_cast, hx, e, ← hy, simprocAttr, -Nat.reduceSubDiff]) <;> (repeat (refine (aw_draw (by kernel_rfl)).2 ?_; simp -dsimp (disch := first | omega | (simp only [hx, e, ← hy, LR] <;> omega) | fail) only [push_cast, hx, e, ← hy, simprocAttr, -Nat.reduceSubDiff]))
  · rw [List.drop_eq_nil_of_le (by omega)] at hy
    have hy : true = M := by rw [← hy]; rfl
    (simp -dsimp (disch := first | omega | (simp only [← hy, LR] <;> omega) | fail) only [push_cast, ← hy, simprocAttr, -Nat.reduceSubDiff]) <;> (repeat (refine (aw_draw (by kernel_rfl)).2 ?_; simp -dsimp (disch := first | omega | (simp only [← hy, LR] <;> omega) | fail) only [push_cast, ← hy, simprocAttr, -Nat.reduceSubDiff]))
theorem decD_len : ∀ n : Nat, (Lib.decDigits n).length ≤ n + 1 := by
  intro n
  induction n using Nat.strongRecOn with
  | _ n ih =>
    rw [Lib.decDigits]
    split
    · simp
    · have := ih (n / 10) (by omega)
      rw [List.length_append, List.length_cons, List.length_nil]; omega
def E107 : Env := { T := T0, kp := look [(0, [0]), (1, [0]), (2, [0]), (3, [0])], dp := look2 [(3, [[], [0], [0, 1], [], [3], [3, 4], [3, 4, 5], [3, 4, 5, 6], [3, 4, 5, 6, 7], [0, 1, 2, 3, 4, 5, 6, 7, 8], [0, 1, 2, 3, 4, 5, 6, 7, 8, 9]])] }
attribute [local push_cast] E107
set_option maxRecDepth 20000 in
set_option maxHeartbeats 1000000 in
theorem l3Dec_step (n : Nat) (hn : n ≤ 1000000) (ih : ∀ q : Nat, q < n → q ≤ 1000000 → Does Tryz.prog 107 [.sc (.int .i64 q)] (.sc (.string (stB (Lib.decDigits q))), [])) : Does Tryz.prog 107 [.sc (.int .i64 n)] (.sc (.string (stB (Lib.decDigits n))), []) := by
  refine does_of (E := E107) (rs := [.tmp 2]) (lent := []) tOk rfl Tryz.func107 rfl (by decide) rfl rfl (Nat.le_of_ble_eq_true rfl) (Nat.le_of_ble_eq_true rfl) ?_
  obtain ⟨R, hR⟩ : ∃ R, R = stB (Lib.decDigits n) := ⟨_, rfl⟩
  rw [← hR]
  by_cases h : n < 10
  · have e : (⟨#[UInt8.ofNat (wr .u8 (48 + (n : Int))).toNat]⟩ : ByteArray) = R := by
      rw [hR, Lib.decDigits, dif_pos h]
      have : (wr .u8 (48 + (n : Int))).toNat = 48 + n := by rw [wr_u8]; omega
      rw [this]; rfl
    clear hR ih
    (simp -dsimp (disch := first | omega | (simp only [h, wr_id, e, LR] <;> omega) | fail) only [push_cast, h, wr_id, e, simprocAttr, -Nat.reduceSubDiff]) <;> (repeat (refine (aw_draw (by kernel_rfl)).2 ?_; simp -dsimp (disch := first | omega | (simp only [h, wr_id, e, LR] <;> omega) | fail) only [push_cast, h, wr_id, e, simprocAttr, -Nat.reduceSubDiff]))
  · obtain ⟨q, hq⟩ : ∃ q, q = n / 10 := ⟨_, rfl⟩
    obtain ⟨r, hr⟩ : ∃ r, r = n % 10 := ⟨_, rfl⟩
    have e1 : (n : Int).tdiv 10 = (q : Int) := by rw [hq, Int.tdiv_eq_ediv_of_nonneg (by omega)]; rfl
    have e2 : (n : Int).tmod 10 = (r : Int) := by rw [hr, Int.tmod_eq_emod_of_nonneg (by omega)]; rfl
    have hr9 : r < 10 := by omega
    have hqn : q < n := by omega
    have hc := ih q hqn (by omega)
    have hdl := decD_len q
    obtain ⟨X, hX⟩ : ∃ X, X = stB (Lib.decDigits q) := ⟨_, rfl⟩
    have hXs : X.size ≤ q + 1 := by rw [hX, stB_size]; exact hdl
    have e : X ++ strN [wr .u8 (48 + (r : Int))] = R := by
      have : (wr .u8 (48 + (r : Int))).toNat = 48 + r := by rw [wr_u8]; omega
      rw [← strN_one, this, hR, hX, Lib.decDigits.eq_def n, dif_neg h, ← hq, ← hr, ← stB_app]; rfl
    have es : (strN [wr .u8 (48 + (r : Int))]).size = 1 := by rw [strN_size]; rfl
    rw [← hX] at hc
    clear hR hX ih hq hr hdl
    (simp -dsimp (disch := first | omega | (simp only [h, e1, wr_id, LR] <;> omega) | fail) only [push_cast, h, e1, wr_id, simprocAttr, -Nat.reduceSubDiff]) <;> (repeat (refine (aw_draw (by kernel_rfl)).2 ?_; simp -dsimp (disch := first | omega | (simp only [h, e1, wr_id, LR] <;> omega) | fail) only [push_cast, h, e1, wr_id, simprocAttr, -Nat.reduceSubDiff]))
    refine callC hc ?_
    (simp -dsimp (disch := first | omega | (simp only [h, e1, e2, wr_id, strN_one, e, es, LR] <;> omega) | fail) only [push_cast, h, e1, e2, wr_id, strN_one, e, es, simprocAttr, -Nat.reduceSubDiff]) <;> (repeat (refine (aw_draw (by kernel_rfl)).2 ?_; simp -dsimp (disch := first | omega | (simp only [h, e1, e2, wr_id, strN_one, e, es, LR] <;> omega) | fail) only [push_cast, h, e1, e2, wr_id, strN_one, e, es, simprocAttr, -Nat.reduceSubDiff]))
theorem l3Dec : ∀ n : Nat, n ≤ 1000000 → Does Tryz.prog 107 [.sc (.int .i64 n)] (.sc (.string (stB (Lib.decDigits n))), []) := by
  intro n
  induction n using Nat.strongRecOn with
  | _ n ih => exact fun hn => l3Dec_step n hn ih
theorem rep2 {α : Type} (a : α) : List.replicate 2 a = [a, a] := rfl
attribute [local push_cast] rep2
def E118 : Env := { T := T0, kp := look [(0, [0]), (1, [0]), (2, [0, 3]), (3, [0, 3, 4]), (4, [0, 3, 4, 5]), (5, [0, 3, 4, 5]), (6, [0, 3, 4, 5]), (7, [4])], dp := look2 [(6, [[], [], [], [], [2, 3], [2, 3, 4], [1, 2, 3, 4, 5], [], [], [], [8, 9], [8, 9, 10], [7, 8, 9, 10, 11], [1, 2, 3, 4, 5, 6, 7, 8, 9, 10, 11, 12], [0, 1, 2, 3, 4, 5, 6, 7, 8, 9, 10, 11, 12, 13], [0, 1, 2, 3, 4, 5, 6, 7, 8, 9, 10, 11, 12, 13, 14]])] }
attribute [local push_cast] E118
set_option maxRecDepth 20000 in
set_option maxHeartbeats 1000000 in
theorem l3Hex (s : Str) (hs : s.size ≤ 1000000) : Does Tryz.prog 118 [.sc (.string s)] (.sc (.string (stB (Lib.Hx.encode (bt s)))), []) := by
  refine does_of (E := E118) (rs := [.tmp 2]) (lent := []) tOk rfl Tryz.func118 rfl (by decide) rfl rfl (Nat.le_of_ble_eq_true rfl) (Nat.le_of_ble_eq_true rfl) ?_
  obtain ⟨T, hT⟩ : ∃ T : Str, T = ⟨#[48, 49, 50, 51, 52, 53, 54, 55, 56, 57, 97, 98, 99, 100, 101, 102]⟩ := ⟨_, rfl⟩
  (simp -dsimp (disch := first | omega | (simp only [LR] <;> omega) | fail) only [push_cast, simprocAttr, -Nat.reduceSubDiff]) <;> (repeat (refine (aw_draw (by kernel_rfl)).2 ?_; simp -dsimp (disch := first | omega | (simp only [LR] <;> omega) | fail) only [push_cast, simprocAttr, -Nat.reduceSubDiff]))
  refine loop_ind (α := Nat) (fun i => i ≤ s.size)
    (fun i => ⟨[(0, .sc (.string s)), (3, .sc (.string T)), (4, .ow 1 0 (Lib.Hx.encode ((bt s).take i)).length), (5, .sc (.int .i64 i))], [(1, .ar 1 0 ((Lib.Hx.encode ((bt s).take i)).map byteRow))], 2⟩) (fun i => s.size - i) 0 (Nat.zero_le _) ?_ ?_
  · simp -dsimp (disch := first | omega | (simp only [List.take_zero, LR] <;> omega) | fail) only [push_cast, List.take_zero, simprocAttr, -Nat.reduceSubDiff]
    rw [hT]
    rfl
  intro i hi ih
  have hlen : (Lib.Hx.encode ((bt s).take i)).length = 2 * i := by rw [Lib.Hx.encode_length, List.length_take, bt_len]; omega
  by_cases h : i < s.size
  · obtain ⟨u, hu⟩ := ex_get (by rw [bt_len]; exact h : i < (bt s).length)
    have hub : u.toNat < 256 := u.toNat_lt
    obtain ⟨q, hq⟩ : ∃ q, q = u.toNat / 16 := ⟨_, rfl⟩
    obtain ⟨r, hr⟩ : ∃ r, r = u.toNat % 16 := ⟨_, rfl⟩
    have e1 : wr .u8 ((u.toNat : Int).tdiv 16) = (q : Int) := by rw [wr_u8, hq, Int.tdiv_eq_ediv_of_nonneg (by omega)]; omega
    have e2 : (u.toNat : Int).tmod 16 = (r : Int) := by rw [hr, Int.tmod_eq_emod_of_nonneg (by omega)]; omega
    have g : ∀ d : Nat, d < 16 → (bt T)[d]? = some (Lib.Hx.digit d) := by
      intro d hd
      rw [hT]
      have hl : d < Lib.Hx.tab.data.toList.length := hd
      show Lib.Hx.tab.data.toList[d]? = some (Lib.Hx.tab.data.toList[d]?.getD 0)
      rw [List.getElem?_eq_getElem hl]; rfl
    have g1 := g q (by omega)
    have g2 := g r (by omega)
    have hq16 : q < 16 := by omega
    have hr16 : r < 16 := by omega
    have hTs : T.size = 16 := by rw [hT]; rfl
    (simp -dsimp (disch := first | omega | (simp only [hu, e1, e2, g1, g2, hTs, LR] <;> omega) | fail) only [push_cast, hu, e1, e2, g1, g2, hTs, simprocAttr, -Nat.reduceSubDiff]) <;> (repeat (refine (aw_draw (by kernel_rfl)).2 ?_; simp -dsimp (disch := first | omega | (simp only [hu, e1, e2, g1, g2, hTs, LR] <;> omega) | fail) only [push_cast, hu, e1, e2, g1, g2, hTs, simprocAttr, -Nat.reduceSubDiff]))
    refine ih (i + 1) _ (by omega) h ?_
    have e3 : Lib.Hx.encode ((bt s).take (i + 1)) = Lib.Hx.encode ((bt s).take i) ++ [Lib.Hx.digit q, Lib.Hx.digit r] := by
      rw [take_step hu, hq, hr]
      unfold Lib.Hx.encode
      rw [List.flatMap_append]; simp
    rw [e3]
    simp -dsimp (disch := first | omega | (simp only [wr_id, List.length_append, List.length_cons, List.length_nil, List.map_append, List.map_cons, List.map_nil, byteRow, LR] <;> omega) | fail) only [push_cast, wr_id, List.length_append, List.length_cons, List.length_nil, List.map_append, List.map_cons, List.map_nil, byteRow, simprocAttr, -Nat.reduceSubDiff]
    trace_state
  · have hl : (bt s).take i = bt s := List.take_of_length_le (by rw [bt_len]; omega)
    rw [hl] at hlen
    (simp -dsimp (disch := first | omega | (simp only [hl, LR] <;> omega) | fail) only [push_cast, hl, simprocAttr, -Nat.reduceSubDiff]) <;> (repeat (refine (aw_draw (by kernel_rfl)).2 ?_; simp -dsimp (disch := first | omega | (simp only [hl, LR] <;> omega) | fail) only [push_cast, hl, simprocAttr, -Nat.reduceSubDiff]))
    rfl
end Go.Proofs.YtkkmgjhfjhcdmaaGreatDoor.Mx

/- Lists' forms: FormList. -/
namespace Go.Proofs.YtkkmgjhfjhcdmaaGreatDoor.Mx
set_option linter.all false
open Go Go.RowKit Go.Proofs
set_option linter.unusedSimpArgs false
theorem enc_ne {s : Str} (h : 1 ≤ s.size) : bt s ≠ [] := fun e => by
  have : (bt s).length = s.size := bt_len
  rw [e] at this; simp at this; omega
theorem formB_step {l : List Str} {i : Nat} {x : Str} (h : l[i]? = some x) : (l.take (i + 1)).flatMap lineB = (l.take i).flatMap lineB ++ lineB x := by
  rw [take_step h, List.flatMap_append]; simp
def E71 : Env := { T := T0, kp := look [(0, [0, 1]), (1, [1, 2]), (2, []), (3, [2]), (4, [2, 5]), (5, [5, 18, 19, 20]), (6, [5, 18, 19, 20]), (7, [5, 7, 18, 19, 20]), (8, [5, 18, 19, 20]), (9, [5])] }
attribute [local push_cast] E71
set_option maxRecDepth 20000 in
set_option maxHeartbeats 1000000 in
theorem implFormList (l : Lst) (w : Int) (hl : l.S.length ≤ 2097152) : Does Tryz.prog 71 [.ag (lstC false l), .sc (.int .i64 w)] (.sc (.string (formL l w)), []) := by
  refine does_of (E := E71) (rs := [.tmp 4]) (lent := []) tOk rfl Tryz.func71 rfl (by decide) rfl rfl (Nat.le_of_ble_eq_true rfl) (Nat.le_of_ble_eq_true rfl) ?_
  obtain ⟨M, hM⟩ : ∃ M, M = formL l w := ⟨_, rfl⟩
  rw [← hM]
  unfold formL at hM
  (simp -dsimp (disch := first | omega | (simp only [LR] <;> omega) | fail) only [push_cast, simprocAttr, -Nat.reduceSubDiff]) <;> (repeat (refine (aw_draw (by kernel_rfl)).2 ?_; simp -dsimp (disch := first | omega | (simp only [LR] <;> omega) | fail) only [push_cast, simprocAttr, -Nat.reduceSubDiff]))
  refine callC (listOk l w hl) ?_
  cases ho : okLs l w with
  | false =>
    rw [ho, if_neg (by simp)] at hM
    have hM : M = ⟨#[]⟩ := hM
    (simp -dsimp (disch := first | omega | (simp only [hM, LR] <;> omega) | fail) only [push_cast, hM, simprocAttr, -Nat.reduceSubDiff]) <;> (repeat (refine (aw_draw (by kernel_rfl)).2 ?_; simp -dsimp (disch := first | omega | (simp only [hM, LR] <;> omega) | fail) only [push_cast, hM, simprocAttr, -Nat.reduceSubDiff]))
  | true =>
  rw [ho, if_pos rfl] at hM
  obtain ⟨w1, w8, s0, s3, hn, hsz⟩ := okLs_up ho
  obtain ⟨N, hN⟩ : ∃ N : Nat, l.sz = N := ⟨l.sz.toNat, by omega⟩
  have hit := itoa N (by omega)
  rw [← hN] at hit
  have hNt : l.sz.toNat = N := by omega
  have hdl := decD_len N
  obtain ⟨P, hP⟩ : ∃ P, P = sizB ++ Lib.decDigits N ++ [10] := ⟨_, rfl⟩
  have hPl : P.length ≤ 3010 := by rw [hP]; simp [sizB]; omega
  have hMf : M = stB (P ++ l.S.flatMap lineB) := by rw [hM, formB, hNt, hP]
  have z1 : (⟨#[115, 105, 122, 101, 32]⟩ : ByteArray) = stB sizB := rfl
  have z2 : (⟨#[10]⟩ : ByteArray) = stB [10] := rfl
  have z3 : stB sizB ++ stB (Lib.decDigits N) = stB (sizB ++ Lib.decDigits N) := stB_app _ _
  have z4 : stB (sizB ++ Lib.decDigits N) ++ stB [10] = stB P := by rw [stB_app, hP]
  have z5 : (stB sizB).size = 5 := rfl
  have z6 : (stB (Lib.decDigits N)).size ≤ 3001 := by rw [stB_size]; omega
  have z7 : (stB (sizB ++ Lib.decDigits N)).size ≤ 3006 := by rw [stB_size, List.length_append]; simp [sizB]; omega
  have z8 : (stB [10]).size = 1 := rfl
  have z9 : (stB P).size ≤ 3010 := by rw [stB_size]; exact hPl
  clear hM hP
  generalize stB (Lib.decDigits N) = D at *
  generalize stB (sizB ++ Lib.decDigits N) = D2 at *
  (simp -dsimp (disch := first | omega | (simp only [LR] <;> omega) | fail) only [push_cast, simprocAttr, -Nat.reduceSubDiff]) <;> (repeat (refine (aw_draw (by kernel_rfl)).2 ?_; simp -dsimp (disch := first | omega | (simp only [LR] <;> omega) | fail) only [push_cast, simprocAttr, -Nat.reduceSubDiff]))
  refine callC hit ?_
  (simp -dsimp (disch := first | omega | (simp only [z1, z2, z3, z4, z5, z8, LR] <;> omega) | fail) only [push_cast, z1, z2, z3, z4, z5, z8, simprocAttr, -Nat.reduceSubDiff]) <;> (repeat (refine (aw_draw (by kernel_rfl)).2 ?_; simp -dsimp (disch := first | omega | (simp only [z1, z2, z3, z4, z5, z8, LR] <;> omega) | fail) only [push_cast, z1, z2, z3, z4, z5, z8, simprocAttr, -Nat.reduceSubDiff]))
  refine loop_ind (α := Nat) (fun i => i ≤ l.S.length)
    (fun i => ⟨[(5, .sc (.string (stB (P ++ (l.S.take i).flatMap lineB)))), (18, .sl false 1 (l.S.map strR)), (19, .sc (.int .i64 l.S.length)), (20, .sc (.int .i64 i))], [], 1⟩) (fun i => l.S.length - i) 0 (Nat.zero_le _) ?_ ?_
  · simp -dsimp (disch := first | omega | (simp only [List.take_zero, List.flatMap_nil, List.append_nil, LR] <;> omega) | fail) only [push_cast, List.take_zero, List.flatMap_nil, List.append_nil, simprocAttr, -Nat.reduceSubDiff]
  intro i hi ih
  have hlt := lines_len (S := l.S.take i) (fun s hs => hsz s (List.mem_of_mem_take hs)) w8
  rw [List.length_take] at hlt
  by_cases h : i < l.S.length
  · obtain ⟨x, hx⟩ := ex_get h
    have hxs := hsz x (List.mem_of_getElem? hx)
    have y0 : (stB (P ++ (l.S.take i).flatMap lineB)).size ≤ 10000 := by rw [stB_size, List.length_append]; omega
    have y1 : stB (Lib.Hx.encode (bt x)) ++ stB [10] = stB (lineB x) := stB_app _ _
    have y2 : (stB (Lib.Hx.encode (bt x))).size ≤ 16 := by rw [stB_size, Lib.Hx.encode_length, bt_len]; omega
    have y3 : (stB (lineB x)).size ≤ 17 := by rw [stB_size, lineB_len]; omega
    have y4 : stB (P ++ (l.S.take i).flatMap lineB) ++ stB (lineB x) = stB (P ++ (l.S.take (i + 1)).flatMap lineB) := by rw [stB_app, formB_step hx, List.append_assoc]
    have hc := hexEnc (bt x) (enc_ne (by omega)) (by rw [bt_len]; omega)
    generalize stB (Lib.Hx.encode (bt x)) = H at *
    generalize stB (lineB x) = L at *
    generalize stB (P ++ (l.S.take i).flatMap lineB) = A at *
    have hx8 : (x.size ≤ 140737488355328) = True := eq_true (by omega)
    (simp -dsimp (disch := first | omega | (simp only [hx, hx8, LR] <;> omega) | fail) only [push_cast, hx, hx8, simprocAttr, -Nat.reduceSubDiff]) <;> (repeat (refine (aw_draw (by kernel_rfl)).2 ?_; simp -dsimp (disch := first | omega | (simp only [hx, hx8, LR] <;> omega) | fail) only [push_cast, hx, hx8, simprocAttr, -Nat.reduceSubDiff]))
    refine callC hc ?_
    (simp -dsimp (disch := first | omega | (simp only [z2, z8, y1, y4, LR] <;> omega) | fail) only [push_cast, z2, z8, y1, y4, simprocAttr, -Nat.reduceSubDiff]) <;> (repeat (refine (aw_draw (by kernel_rfl)).2 ?_; simp -dsimp (disch := first | omega | (simp only [z2, z8, y1, y4, LR] <;> omega) | fail) only [push_cast, z2, z8, y1, y4, simprocAttr, -Nat.reduceSubDiff]))
    refine ih (i + 1) _ (by omega) h ?_
    simp -dsimp (disch := first | omega | (simp only [wr_id, LR] <;> omega) | fail) only [push_cast, wr_id, simprocAttr, -Nat.reduceSubDiff]
  · have hi : i = l.S.length := by omega
    subst hi
    rw [List.take_length, ← hMf]
    (simp -dsimp (disch := first | omega | (simp only [LR] <;> omega) | fail) only [push_cast, simprocAttr, -Nat.reduceSubDiff]) <;> (repeat (refine (aw_draw (by kernel_rfl)).2 ?_; simp -dsimp (disch := first | omega | (simp only [LR] <;> omega) | fail) only [push_cast, simprocAttr, -Nat.reduceSubDiff]))
def E74 : Env := { T := T0, kp := look [(0, [0, 1]), (1, [1, 2]), (2, []), (3, [2]), (4, [2, 5]), (5, [2, 5, 6]), (6, [2, 5, 6]), (7, [2, 5, 6]), (8, [2, 5, 6]), (9, [5])] }
attribute [local push_cast] E74
set_option maxRecDepth 20000 in
set_option maxHeartbeats 1000000 in
theorem specFormList (l : Lst) (w : Int) (hl : l.S.length ≤ 2097152) : Does Tryz.prog 74 [.ag (lstC false l), .sc (.int .i64 w)] (.sc (.string (formL l w)), []) := by
  refine does_of (E := E74) (rs := [.tmp 4]) (lent := []) tOk rfl Tryz.func74 rfl (by decide) rfl rfl (Nat.le_of_ble_eq_true rfl) (Nat.le_of_ble_eq_true rfl) ?_
  obtain ⟨M, hM⟩ : ∃ M, M = formL l w := ⟨_, rfl⟩
  rw [← hM]
  unfold formL at hM
  (simp -dsimp (disch := first | omega | (simp only [LR] <;> omega) | fail) only [push_cast, simprocAttr, -Nat.reduceSubDiff]) <;> (repeat (refine (aw_draw (by kernel_rfl)).2 ?_; simp -dsimp (disch := first | omega | (simp only [LR] <;> omega) | fail) only [push_cast, simprocAttr, -Nat.reduceSubDiff]))
  refine callC (l3Ok l w hl) ?_
  cases ho : okLs l w with
  | false =>
    rw [ho, if_neg (by simp)] at hM
    have hM : M = ⟨#[]⟩ := hM
    (simp -dsimp (disch := first | omega | (simp only [hM, LR] <;> omega) | fail) only [push_cast, hM, simprocAttr, -Nat.reduceSubDiff]) <;> (repeat (refine (aw_draw (by kernel_rfl)).2 ?_; simp -dsimp (disch := first | omega | (simp only [hM, LR] <;> omega) | fail) only [push_cast, hM, simprocAttr, -Nat.reduceSubDiff]))
  | true =>
  rw [ho, if_pos rfl] at hM
  obtain ⟨w1, w8, s0, s3, hn, hsz⟩ := okLs_up ho
  obtain ⟨N, hN⟩ : ∃ N : Nat, l.sz = N := ⟨l.sz.toNat, by omega⟩
  have hit := l3Dec N (by omega)
  rw [← hN] at hit
  have hNt : l.sz.toNat = N := by omega
  have hdl := decD_len N
  obtain ⟨P, hP⟩ : ∃ P, P = sizB ++ Lib.decDigits N ++ [10] := ⟨_, rfl⟩
  have hPl : P.length ≤ 3010 := by rw [hP]; simp [sizB]; omega
  have hMf : M = stB (P ++ l.S.flatMap lineB) := by rw [hM, formB, hNt, hP]
  have z1 : (⟨#[115, 105, 122, 101, 32]⟩ : ByteArray) = stB sizB := rfl
  have z2 : (⟨#[10]⟩ : ByteArray) = stB [10] := rfl
  have z3 : stB sizB ++ stB (Lib.decDigits N) = stB (sizB ++ Lib.decDigits N) := stB_app _ _
  have z4 : stB (sizB ++ Lib.decDigits N) ++ stB [10] = stB P := by rw [stB_app, hP]
  have z5 : (stB sizB).size = 5 := rfl
  have z6 : (stB (Lib.decDigits N)).size ≤ 3001 := by rw [stB_size]; omega
  have z7 : (stB (sizB ++ Lib.decDigits N)).size ≤ 3006 := by rw [stB_size, List.length_append]; simp [sizB]; omega
  have z8 : (stB [10]).size = 1 := rfl
  have z9 : (stB P).size = P.length := stB_size P
  have z10 : bt (stB P) = P := bt_stB P
  clear hM hP
  generalize stB (Lib.decDigits N) = D at *
  generalize stB (sizB ++ Lib.decDigits N) = D2 at *
  (simp -dsimp (disch := first | omega | (simp only [LR] <;> omega) | fail) only [push_cast, simprocAttr, -Nat.reduceSubDiff]) <;> (repeat (refine (aw_draw (by kernel_rfl)).2 ?_; simp -dsimp (disch := first | omega | (simp only [LR] <;> omega) | fail) only [push_cast, simprocAttr, -Nat.reduceSubDiff]))
  refine callC hit ?_
  (simp -dsimp (disch := first | omega | (simp only [z1, z2, z3, z4, z5, z8, z9, z10, LR] <;> omega) | fail) only [push_cast, z1, z2, z3, z4, z5, z8, z9, z10, simprocAttr, -Nat.reduceSubDiff]) <;> (repeat (refine (aw_draw (by kernel_rfl)).2 ?_; simp -dsimp (disch := first | omega | (simp only [z1, z2, z3, z4, z5, z8, z9, z10, LR] <;> omega) | fail) only [push_cast, z1, z2, z3, z4, z5, z8, z9, z10, simprocAttr, -Nat.reduceSubDiff]))
  refine loop_ind (α := Nat) (fun i => i ≤ l.S.length)
    (fun i => ⟨[(2, .pt 1 0 0), (5, .ow 2 0 (P ++ (l.S.take i).flatMap lineB).length), (6, .sc (.int .i64 i))], [(1, .bx (lstC false l)), (2, .ar 1 0 ((P ++ (l.S.take i).flatMap lineB).map byteRow))], 3⟩) (fun i => l.S.length - i) 0 (Nat.zero_le _) ?_ ?_
  · simp -dsimp (disch := first | omega | (simp only [List.take_zero, List.flatMap_nil, List.append_nil, LR] <;> omega) | fail) only [push_cast, List.take_zero, List.flatMap_nil, List.append_nil, simprocAttr, -Nat.reduceSubDiff]
  intro i hi ih
  have hlt := lines_len (S := l.S.take i) (fun s hs => hsz s (List.mem_of_mem_take hs)) w8
  rw [List.length_take] at hlt
  have y0 : (P ++ (l.S.take i).flatMap lineB).length ≤ 10000 := by rw [List.length_append]; omega
  by_cases h : i < l.S.length
  · obtain ⟨x, hx⟩ := ex_get h
    have hxs := hsz x (List.mem_of_getElem? hx)
    have y4 : P ++ (l.S.take (i + 1)).flatMap lineB = P ++ (l.S.take i).flatMap lineB ++ Lib.Hx.encode (bt x) ++ [10] := by rw [formB_step hx, lineB]; simp
    have y5 : bt (stB (Lib.Hx.encode (bt x))) = Lib.Hx.encode (bt x) := bt_stB _
    have y6 : (Lib.Hx.encode (bt x)).length ≤ 16 := by rw [Lib.Hx.encode_length, bt_len]; omega
    have hc := l3Hex x (by omega)
    have y7 : ∀ B : List UInt8, (B ++ Lib.Hx.encode (bt x) ++ [10]).map byteRow = B.map byteRow ++ (Lib.Hx.encode (bt x)).map byteRow ++ [[.sc (.int .u8 10)]] := fun B => by rw [List.map_append, List.map_append]; rfl
    (simp -dsimp (disch := first | omega | (simp only [hx, LR] <;> omega) | fail) only [push_cast, hx, simprocAttr, -Nat.reduceSubDiff]) <;> (repeat (refine (aw_draw (by kernel_rfl)).2 ?_; simp -dsimp (disch := first | omega | (simp only [hx, LR] <;> omega) | fail) only [push_cast, hx, simprocAttr, -Nat.reduceSubDiff]))
    refine callC hc ?_
    (simp -dsimp (disch := first | omega | (simp only [y5, LR] <;> omega) | fail) only [push_cast, y5, simprocAttr, -Nat.reduceSubDiff]) <;> (repeat (refine (aw_draw (by kernel_rfl)).2 ?_; simp -dsimp (disch := first | omega | (simp only [y5, LR] <;> omega) | fail) only [push_cast, y5, simprocAttr, -Nat.reduceSubDiff]))
    refine ih (i + 1) _ (by omega) h ?_
    rw [y4, y7]
    simp -dsimp (disch := first | omega | (simp only [wr_id, List.length_append, List.length_cons, List.length_nil, LR] <;> omega) | fail) only [push_cast, wr_id, List.length_append, List.length_cons, List.length_nil, simprocAttr, -Nat.reduceSubDiff]
  · have hi : i = l.S.length := by omega
    subst hi
    rw [List.take_length] at y0 ⊢
    have e : (⟨(P ++ l.S.flatMap lineB).toArray⟩ : ByteArray) = M := hMf.symm
    (simp -dsimp (disch := first | omega | (simp only [e, LR] <;> omega) | fail) only [push_cast, e, simprocAttr, -Nat.reduceSubDiff]) <;> (repeat (refine (aw_draw (by kernel_rfl)).2 ?_; simp -dsimp (disch := first | omega | (simp only [e, LR] <;> omega) | fail) only [push_cast, e, simprocAttr, -Nat.reduceSubDiff]))
end Go.Proofs.YtkkmgjhfjhcdmaaGreatDoor.Mx

/- Pieces, descriptions and names: the program's; descriptions and names: the reference's. -/
namespace Go.Proofs.YtkkmgjhfjhcdmaaGreatDoor.Mx
set_option linter.all false
open Go Go.RowKit Go.Proofs
set_option linter.unusedSimpArgs false
theorem formL_len {l : Lst} {w : Int} : (formL l w).size ≤ 7000 := by
  unfold formL
  split
  · rename_i h
    obtain ⟨_, w8, s0, s3, hn, hsz⟩ := okLs_up h
    have h1 := lines_len hsz w8
    have h2 := decD_len l.sz.toNat
    rw [stB_size]
    unfold formB
    have h3 : sizB.length = 5 := rfl
    rw [List.length_append, List.length_append, List.length_append]
    simp only [List.length_cons, List.length_nil]
    have h4 : (Lib.decDigits l.sz.toNat).length ≤ 619 := by
      have : (Lib.decDigits l.sz.toNat).length = Lib.nDigits l.sz.toNat := Lib.decDigits_length _
      have h5 : Lib.nDigits l.sz.toNat ≤ 5 := by
        apply Classical.byContradiction
        intro hc
        have hq : ∀ k u : Nat, u < 10 ^ (k + 1) → Lib.nDigits u ≤ k + 1 := by
          intro k
          induction k with
          | zero => intro u hu; rw [Lib.nDigits_small (by simpa using hu)]; exact Nat.le_refl _
          | succ k ih =>
            intro u hu
            by_cases h : u < 10
            · rw [Lib.nDigits_small h]; omega
            · rw [Lib.nDigits_big h]
              have := ih (u / 10) (by rw [Nat.pow_succ] at hu; omega)
              omega
        have := hq 4 l.sz.toNat (by omega)
        omega
      omega
    omega
  · exact Nat.zero_le _
end Go.Proofs.YtkkmgjhfjhcdmaaGreatDoor.Mx

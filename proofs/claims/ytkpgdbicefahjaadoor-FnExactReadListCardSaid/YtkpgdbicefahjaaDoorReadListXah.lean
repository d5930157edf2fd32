/- A machine over values for Go functions, proved sound, and functions run on it: texts B1, J1, V3b, V4, VL, Ty, B5, VR, VS, B6, J2, F1, F2. -/
import Derived.Below
import Derived.Deep.Slices
import Derived.ChangeArms
import Derived.WideShapes
import Derived.Lib.ItoaNum
import Derived.Lib.HexFns
import Derived.Test.YtkpgdbicefahjaaDoorProg
import Derived.Shelf.LaysM
import Derived.Shelf.Strconv.Itoa3
import Derived.Shelf.Hex.More
import Derived.Test.YtkpgdbicefahjaaDoorShD
import Derived.Test.YtkpgdbicefahjaaDoorShE
import Derived.Lib.Split
import Derived.Lib.HexFns2
import Derived.Lib.AtoiAll
import Derived.Lib.ShelfFacts
import Derived.Lib.Atoi
import Derived.Shelf.Hex.Decode
import Derived.Shelf.Strings.Split
import Derived.Shelf.Small.Wraps
import Derived.Shelf.Strconv.Atoi
import Derived.Shelf.Strconv.AtoiErr
import Derived.Test.YtkpgdbicefahjaaDoorShF
import Derived.Test.YtkpgdbicefahjaaDoorShG
import Derived.Test.YtkpgdbicefahjaaDoorShH
import Derived.Test.YtkpgdbicefahjaaDoorShI
import Derived.Lib.LaidTab
import Derived.Stop.LaidErr
import Derived.MakeChecks
import Derived.Test.YtkpgdbicefahjaaDoorRows
import Derived.SizedLaws
import Derived.HandedShaped
import Derived.Test.YtkpgdbicefahjaaDoorReadListXag
/- Out of the library's contracts: what only reads. -/
namespace Go.Proofs.YtkpgdbicefahjaaDoor.Mx
set_option linter.all false
open Go Go.RowKit Go.Proofs
theorem does_pure {P : Program} {f : FuncId} {fn : Func} {c : Code} {avs : List AV} {v : Value} (hf : P.funcs[f]? = some fn) (hb : fn.body = some c) (hn : (fn.name == "runtime.NumGoroutine") = false) (hv : plain v = true)
    (H : ∀ (w : Go.World) (ok : Nat → Prop) (G : Fp) (args : List Value), ArgsRep w ok G args avs → Calls P f args.toArray w fun e w' => e = .returned v ∧ Below w.heap.size w w') : Does P f avs (.sc v, []) := by
  constructor
  intro w ok G args hA
  left
  have h1 : fn.name ≠ "runtime.NumGoroutine" := by simpa using hn
  refine ⟨by simp [callFunc, hf, h1, hb], (H w ok G args hA).mono fun e w' h => ?_⟩
  obtain ⟨rfl, hB⟩ := h
  refine ⟨fun _ _ => False, ⟨⟨hB.os, hB.tape, hB.output, hB.size, fun k hk _ => hB.block k hk⟩, Kp.old hB.block, fun _ _ _ h => h.elim, fun _ _ h => h.elim, ?_, fun i t h => by simp at h⟩⟩
  exact Own.rd _ _ _ (by intro z r h; cases h) (by intro cs h; cases h) (.sc v hv)
theorem rep_str {w : Go.World} {ok : Nat → Prop} {v : Value} {x : Str} (h : Rep w ok v (.sc (.string x))) : v = .string x := by cases h; rfl
theorem rep_int {w : Go.World} {ok : Nat → Prop} {v : Value} {k : IntKind} {x : Int} (h : Rep w ok v (.sc (.int k x))) : v = .int k x := by cases h; rfl
theorem own_rep {w : Go.World} {ok F : Nat → Prop} {v : Value} {x : AV} (h : Own w ok F v x) (h1 : ∀ z r, x ≠ .sl true z r) (h2 : ∀ cs, x ≠ .pb true cs) : Rep w ok v x := by
  cases h with
  | rd _ _ _ _ _ h => exact h
  | nil => exact (h1 _ _ rfl).elim
  | emp => exact (h1 _ _ rfl).elim
  | sl => exact (h1 _ _ rfl).elim
  | pb => exact (h2 _ rfl).elim
theorem args2 {w : Go.World} {ok : Nat → Prop} {G : Fp} {args : List Value} {x y : AV} (h : ArgsRep w ok G args [x, y]) : ∃ u v, args = [u, v] ∧ OwnA w ok (G 0) u x ∧ OwnA w ok (G 1) v y := by
  match args, h.len with
  | [u, v], _ => exact ⟨u, v, rfl, h.own 0 u x rfl rfl, h.own 1 v y rfl rfl⟩
end Go.Proofs.YtkpgdbicefahjaaDoor.Mx

/- Arguments: whatever reads as data at a type is what the machine takes it for. -/
namespace Go.Proofs.YtkpgdbicefahjaaDoor.Mx
set_option linter.all false
open Go Go.RowKit
open Go.ChangeShapes Go.WideShapes Go.Deep
set_option linter.unusedVariables false
section
variable {H : Type} {enc : TypeId × Value → H} {P : Program} {W : Go.World} {base b0 : Nat} {spare : Nat → Bool} {held : Bool} {t : TypeId} {v : Value} {D : DataW H} {ps : List MemPlace} {r : Reach}
end
/-- a promise, as a call -/
theorem does_calls {P : Program} {f : FuncId} {fn : Func} {c : Code} {avs : List AV} {u : Value} (h : Does P f avs (.sc u, [])) (hf : P.funcs[f]? = some fn) (hb : fn.body = some c) (hn : (fn.name == "runtime.NumGoroutine") = false) {W : Go.World} {args : List Value}
    (hg : NG ≤ W.heap.size) (hw : GP W) (hl : args.length = avs.length) (ha : ∀ (i : Nat) (v : Value) (x : AV), args[i]? = some v → avs[i]? = some x → OwnA W (fun b => b < W.heap.size) (fun _ => False) v x) :
    Calls P f args.toArray W fun e W' => e = .returned u ∧ Below W.heap.size W W' := by
  have h1 : fn.name ≠ "runtime.NumGoroutine" := by simpa using hn
  rcases h.m W (fun b => b < W.heap.size) (fun _ _ => False) args ⟨hl, ha, fun _ _ _ h => h.elim, fun _ _ h => h.elim, fun _ h => h, fun b hb => Nat.lt_of_lt_of_le hb hg, hw⟩ with ⟨_, hc⟩ | ⟨v, w', H, hr, _⟩
  · refine hc.mono fun e W' he => ?_
    cases e with
    | returned v =>
      obtain ⟨H, hp⟩ := he
      have hv := hp.res
      have : v = u := by
        have := own_rep (show Own _ _ _ v (.sc u) from hv) (by intro z r h; cases h) (by intro c h; cases h)
        cases this; rfl
      exact ⟨by rw [this], ⟨hp.fr.os, hp.fr.tape, hp.fr.output, hp.fr.size, fun k hk => hp.fr.block k hk (by rintro ⟨_, h⟩; exact h)⟩⟩
    | _ => exact he.elim
  · simp [callFunc, hf, h1, hb] at hr
end Go.Proofs.YtkpgdbicefahjaaDoor.Mx

/- The laws' data: as values; sizes, marks. (By fam.py of this session.) -/
namespace Go.Proofs.YtkpgdbicefahjaaDoor.Mx
set_option linter.all false
open Go Go.RowKit
structure Lst where
  sz : Int
  S : List Str
  deriving DecidableEq
@[push_cast] def lstC (o : Bool) (x : Lst) : Row := [.sc (.int .i64 x.sz), .sl o 1 (x.S.map strR)]
def okLst (x : Lst) : Prop := okL okStr x.S
@[push_cast] theorem own_Lst (l : List Lst) : (l.map (lstC true)).all (fun row => row.all own2) = true := by simp [lstC, own2, flat_String]
@[push_cast] theorem rd_Lst (o : Bool) (l : List Lst) : rdR (l.map (lstC o)) = l.map (lstC false) := by simp [rdR, lstC, rdC]
def smkLst (a : Lst) (k : Int) : Lst := ⟨a.sz, mkG mkStr c1 a.S (k)⟩
def scnLst (a : Lst) : Int := cnG c1 a.S
def shdLst (a : Lst) (k : Int) : Bool := hdOk hdStr c1 a.S (k)
theorem scnLst_nn (a : Lst) : 0 ≤ scnLst a := by
  have := cnG_nn (c := c1) c1_nn a.S
  unfold scnLst; omega
theorem scnmk_Lst (a : Lst) (k : Int) : scnLst (smkLst a k) = scnLst a := by simp [scnLst, smkLst, cn1_mk]
theorem shdmk_Lst (a : Lst) (k : Int) (hk : 0 ≤ k) : shdLst (smkLst a k) k = true := by
  have := cnG_nn (c := c1) c1_nn a.S
  simp only [shdLst, smkLst, Bool.and_eq_true, decide_eq_true_eq, true_and, and_true, beq_self_eq_true, cn1_mk]
  exact (hdOk_mk hdmk_Str (fun _ _ => rfl) c1_nn _ _ (by omega))
theorem scnLst_le (a : Lst) (h : okLst a) : scnLst a ≤ 2097152 := by
  unfold okLst at h
  have := cnG_ok (c := c1) (B := 1) (by decide) c1_le h
  unfold scnLst; omega
end Go.Proofs.YtkpgdbicefahjaaDoor.Mx

/- Stores: what they mean. -/
namespace Go.Proofs.YtkpgdbicefahjaaDoor.Mx
set_option linter.all false
open Go Go.RowKit
def bytes : List Item → Int
  | [] => 0
  | x :: r => x.t.size + bytes r
/-- where a text belongs in an ascending list -/
def rk : List Str → Str → Nat
  | [], _ => 0
  | y :: r, s => bif lts y s then rk r s + 1 else 0
end Go.Proofs.YtkpgdbicefahjaaDoor.Mx

/- Lists of sums, their form. -/
namespace Go.Proofs.YtkpgdbicefahjaaDoor.Mx
set_option linter.all false
open Go Go.RowKit
def stB (l : List UInt8) : Str := ⟨l.toArray⟩
def sizB : List UInt8 := [115, 105, 122, 101, 32]
def lineB (x : Str) : List UInt8 := Lib.Hx.encode (bt x) ++ [10]
def formB (l : Lst) : List UInt8 := sizB ++ Lib.decDigits l.sz.toNat ++ [10] ++ l.S.flatMap lineB
def okLs (l : Lst) (w : Int) : Bool := inB w 1 8 && inB l.sz 0 3000 && decide (l.S.length ≤ 375) && l.S.all fun s => decide ((s.size : Int) = w)
def formL (l : Lst) (w : Int) : Str := if okLs l w = true then stB (formB l) else em
theorem bt_stB (l : List UInt8) : bt (stB l) = l := by simp [bt, stB]
theorem stB_bt (s : Str) : stB (bt s) = s := by simp [bt, stB]
theorem stB_size (l : List UInt8) : (stB l).size = l.length := by simp [stB, ByteArray.size]
theorem stB_app (a b : List UInt8) : stB a ++ stB b = stB (a ++ b) := by
  unfold stB
  apply ByteArray.ext
  simp
theorem app_stB (s : Str) (b : List UInt8) : s ++ stB b = stB (bt s ++ b) := by rw [← stB_app, stB_bt]
theorem bytesOf_byte (l : List UInt8) : bytesOf (l.map byteRow) = some l := by
  induction l with
  | nil => rfl
  | cons x r ih =>
    rw [List.map_cons]
    unfold bytesOf
    rw [show byteOf (byteRow x) = some x by simp [byteOf, byteRow]]
    simp only []
    rw [ih]
theorem flat_byte (l : List UInt8) : flatR (l.map byteRow) = true := by simp [flatR, byteRow, isSc]
theorem rd_byte (l : List UInt8) : rdR (l.map byteRow) = l.map byteRow := by simp [rdR, byteRow, rdC]
theorem own_byte (l : List UInt8) : (l.map byteRow).all (fun row => row.all own2) = true := by simp [byteRow, own2]
attribute [push_cast] bytesOf_byte flat_byte rd_byte own_byte
theorem lineB_len (x : Str) : (lineB x).length = 2 * x.size + 1 := by
  unfold lineB
  rw [List.length_append, Lib.Hx.encode_length, bt_len]; rfl
theorem lines_len {w : Int} : ∀ {S : List Str}, (∀ s ∈ S, (s.size : Int) = w) → w ≤ 8 → (S.flatMap lineB).length ≤ 17 * S.length
  | [], _, _ => Nat.zero_le _
  | x :: r, h, hw => by
    have := lines_len (S := r) (fun s hs => h s (by simp [hs])) hw
    have h2 := h x (by simp)
    rw [List.flatMap_cons, List.length_append, lineB_len, List.length_cons]
    omega
theorem okLs_up {l : Lst} {w : Int} (h : okLs l w = true) : 1 ≤ w ∧ w ≤ 8 ∧ 0 ≤ l.sz ∧ l.sz ≤ 3000 ∧ l.S.length ≤ 375 ∧ ∀ s ∈ l.S, (s.size : Int) = w := by
  unfold okLs at h
  simp only [Bool.and_eq_true, decide_eq_true_eq, inB, List.all_eq_true] at h
  exact ⟨h.1.1.1.1, h.1.1.1.2, h.1.1.2.1, h.1.1.2.2, h.1.2, h.2⟩
end Go.Proofs.YtkpgdbicefahjaaDoor.Mx

/- The types that the texts use: as the machine asks. -/
namespace Go.Proofs.YtkpgdbicefahjaaDoor.Mx
set_option linter.all false
open Go Go.RowKit Go.Proofs
def T0 : Ty
  | 3 => some { kind := .int .i64, size := 1, bytes := 8, zero := [.int .i64 0], cz := [] }
  | 4 => some { kind := .bool, size := 1, bytes := 1, zero := [.bool false], cz := [] }
  | 5 => some { kind := .int .u8, size := 1, bytes := 1, zero := [.int .u8 0], cz := [] }
  | 9 => some { kind := .str, size := 1, bytes := 16, zero := [.string ⟨#[]⟩], cz := [] }
  | 22 => some { kind := .slice 9, size := 1, bytes := 24, zero := [.slice none 0 0], cz := [] }
  | 24 => some { kind := .struct [(0, 3), (1, 22)], size := 2, bytes := 32, zero := [.int .i64 0, .slice none 0 0], cz := [none, some 1] }
  | 27 => some { kind := .struct [(0, 3), (1, 22)], size := 2, bytes := 32, zero := [.int .i64 0, .slice none 0 0], cz := [none, some 1] }
  | 33 => some { kind := .slice 5, size := 1, bytes := 24, zero := [.slice none 0 0], cz := [] }
  | 57 => some { kind := .map 9 4, size := 1, bytes := 8, zero := [.map none], cz := [] }
  | 65 => some { kind := .iface, size := 1, bytes := 16, zero := [.nilIface], cz := [] }
  | 75 => some { kind := .int .u64, size := 1, bytes := 8, zero := [.int .u64 0], cz := [] }
  | 78 => some { kind := .struct [(0, 33), (1, 3)], size := 2, bytes := 32, zero := [.slice none 0 0, .int .i64 0], cz := [some 1, none] }
  | _ => none
@[push_cast] theorem T0_3 : T0 3 = some { kind := .int .i64, size := 1, bytes := 8, zero := [.int .i64 0], cz := [] } := rfl
@[push_cast] theorem T0_4 : T0 4 = some { kind := .bool, size := 1, bytes := 1, zero := [.bool false], cz := [] } := rfl
@[push_cast] theorem T0_5 : T0 5 = some { kind := .int .u8, size := 1, bytes := 1, zero := [.int .u8 0], cz := [] } := rfl
@[push_cast] theorem T0_9 : T0 9 = some { kind := .str, size := 1, bytes := 16, zero := [.string ⟨#[]⟩], cz := [] } := rfl
@[push_cast] theorem T0_22 : T0 22 = some { kind := .slice 9, size := 1, bytes := 24, zero := [.slice none 0 0], cz := [] } := rfl
@[push_cast] theorem T0_24 : T0 24 = some { kind := .struct [(0, 3), (1, 22)], size := 2, bytes := 32, zero := [.int .i64 0, .slice none 0 0], cz := [none, some 1] } := rfl
@[push_cast] theorem T0_27 : T0 27 = some { kind := .struct [(0, 3), (1, 22)], size := 2, bytes := 32, zero := [.int .i64 0, .slice none 0 0], cz := [none, some 1] } := rfl
@[push_cast] theorem T0_33 : T0 33 = some { kind := .slice 5, size := 1, bytes := 24, zero := [.slice none 0 0], cz := [] } := rfl
@[push_cast] theorem T0_57 : T0 57 = some { kind := .map 9 4, size := 1, bytes := 8, zero := [.map none], cz := [] } := rfl
@[push_cast] theorem T0_65 : T0 65 = some { kind := .iface, size := 1, bytes := 16, zero := [.nilIface], cz := [] } := rfl
@[push_cast] theorem T0_75 : T0 75 = some { kind := .int .u64, size := 1, bytes := 8, zero := [.int .u64 0], cz := [] } := rfl
@[push_cast] theorem T0_78 : T0 78 = some { kind := .struct [(0, 33), (1, 3)], size := 2, bytes := 32, zero := [.slice none 0 0, .int .i64 0], cz := [some 1, none] } := rfl
theorem tOk : TOk Tryd.prog T0 := by
  intro t ti h
  unfold T0 at h
  split at h <;> cases h
  · exact tyOk_one Tryd.type3 rfl rfl rfl rfl rfl (by decide) rfl Tryd.underlying3 rfl rfl rfl rfl
  · exact tyOk_one Tryd.type4 rfl rfl rfl rfl rfl (by decide) rfl Tryd.underlying4 rfl rfl rfl rfl
  · exact tyOk_one Tryd.type5 rfl rfl rfl rfl rfl (by decide) rfl Tryd.underlying5 rfl rfl rfl rfl
  · exact tyOk_one Tryd.type9 rfl rfl rfl rfl rfl (by decide) rfl Tryd.underlying9 rfl rfl rfl rfl
  · exact tyOk_one Tryd.type22 rfl rfl rfl rfl rfl (by decide) rfl Tryd.underlying22 rfl rfl rfl rfl
  · exact tyOk_str (info_of Tryd.type24) rfl rfl rfl rfl rfl rfl ⟨_, Tryd.underlying24, rfl⟩ rfl (flds_ok (by kernel_rfl)) rfl rfl rfl
  · exact tyOk_str (info_of Tryd.type27) rfl rfl rfl rfl rfl rfl ⟨_, Tryd.underlying27, rfl⟩ rfl (flds_ok (by kernel_rfl)) rfl rfl rfl
  · exact tyOk_one Tryd.type33 rfl rfl rfl rfl rfl (by decide) rfl Tryd.underlying33 rfl rfl rfl rfl
  · exact tyOk_one Tryd.type57 rfl rfl rfl rfl rfl (by decide) rfl Tryd.underlying57 rfl rfl rfl rfl
  · exact tyOk_one Tryd.type65 rfl rfl rfl rfl rfl (by decide) rfl ⟨_, Tryd.underlying65⟩ rfl rfl rfl rfl
  · exact tyOk_one Tryd.type75 rfl rfl rfl rfl rfl (by decide) rfl Tryd.underlying75 rfl rfl rfl rfl
  · exact tyOk_str (info_of Tryd.type78) rfl rfl rfl rfl rfl rfl ⟨_, Tryd.underlying78, rfl⟩ rfl (flds_ok (by kernel_rfl)) rfl rfl rfl
end Go.Proofs.YtkpgdbicefahjaaDoor.Mx

/- strconv.Itoa, hex.EncodeToString. -/
namespace Go.Proofs.YtkpgdbicefahjaaDoor.Mx
set_option linter.all false
open Go Go.RowKit Go.Proofs Go.Sort
theorem rep_bytes {w : Go.World} {ok : Nat → Prop} {v : Value} {o : Bool} {l : List UInt8} (h : Rep w ok v (.sl o 1 (l.map byteRow))) (hne : l ≠ []) :
    ∃ b off cap, v = .slice (some ⟨b, off, none⟩) l.length cap ∧ l.length ≤ cap ∧ ok b ∧ ∀ i (h : i < l.length), w.cell? ⟨b, off + i, none⟩ = some (.int .u8 ((l[i]'h).toNat : Int)) := by
  generalize hr : l.map byteRow = rows at h
  cases h with
  | nil => exact (hne (by simpa using hr)).elim
  | emp => exact (hne (by simpa using hr)).elim
  | sl _ _ b off cap _ vs h1 h2 h3 h4 h5 =>
    subst hr
    refine ⟨b, off, cap, by rw [List.length_map], by simpa using h2, h1, fun i hi => ?_⟩
    have hi' : (l.map byteRow)[i]? = some [.sc (.int .u8 (l[i].toNat : Int))] := by rw [List.getElem?_map, List.getElem?_eq_getElem hi]; rfl
    have a := (h4 i _ 0 _ hi' rfl).1
    have b := h5 i _ 0 _ hi' rfl
    generalize vs i 0 = z at a b
    have b : z = .int .u8 (l[i].toNat : Int) := by cases b; rfl
    rw [b] at a
    simpa using a
theorem args1' {w : Go.World} {ok : Nat → Prop} {G : Fp} {args : List Value} {x : AV} (h : ArgsRep w ok G args [x]) : ∃ u, args = [u] ∧ OwnA w ok (G 0) u x := by
  match args, h.len with
  | [u], _ => exact ⟨u, rfl, h.own 0 u x rfl rfl⟩
theorem below_grow (w : Go.World) (k : Nat) (os) : Below w.heap.size w (grow (w.drewN k) os) :=
  ⟨rfl, rfl, rfl, by simp [grow], fun n hn => by simp only [grow]; rw [Array.getElem?_append_left (by simpa using hn)]; rfl⟩
theorem itoa (n : Nat) (hn : n < 4611686018427387904) : Does Tryd.prog 28 [.sc (.int .i64 n)] (.sc (.string (stB (Lib.decDigits n))), []) := by
  refine does_pure Tryd.func28 rfl rfl rfl fun w ok G args hA => ?_
  obtain ⟨u, rfl, h0⟩ := args1' hA
  obtain rfl := rep_int (own_rep h0 (by intro z r h; cases h) (by intro cs h; cases h))
  have ht : Lib.TabIs Tryd.prog w "internal/strconv.uint64pow10" .u64 Lib.pow10Tab := by
    unfold Lib.TabIs World.var?
    rw [Tryd.laysM171.m17]
    have hg : GP w := hA.gw
    unfold GP at hg
    first
    | (obtain ⟨e, fr, h3⟩ := hg
       show (match w.heap[3]? with | some (.cells cs _ _) => some cs | _ => none) = _
       rw [h3])
    | (obtain ⟨⟨e, fr, h3⟩, _⟩ := hg
       show (match w.heap[3]? with | some (.cells cs _ _) => some cs | _ => none) = _
       rw [h3])
  refine (Any.strconv_Itoa Tryd.laysM171 (n : Int) (by omega) (by omega) w ht).mono fun e w' hh => ?_
  obtain ⟨rfl, k, os, rfl⟩ := hh
  refine ⟨?_, below_grow w k os⟩
  have : Lib.itoa (n : Int) = Lib.decDigits n := by unfold Lib.itoa; rw [if_neg (by omega)]; simp
  rw [this]; rfl
theorem hexEnc (l : List UInt8) (hne : l ≠ []) (hl : l.length ≤ 100000) : Does Tryd.prog 29 [.sl false 1 (l.map byteRow)] (.sc (.string (stB (Lib.Hx.encode l))), []) := by
  refine does_pure Tryd.func29 rfl rfl rfl fun w ok G args hA => ?_
  obtain ⟨u, rfl, h0⟩ := args1' hA
  obtain ⟨b, off, cap, rfl, hc, hb, hcell⟩ := rep_bytes (own_rep h0 (by intro z r h; cases h) (by intro cs h; cases h)) hne
  exact Any.hex_EncodeToString_bytes Tryd.hexE b off cap l w hcell (hA.inn b hb) (by omega)
end Go.Proofs.YtkpgdbicefahjaaDoor.Mx

/- Texts cut into lines; what a list's form is read as. -/
namespace Go.Proofs.YtkpgdbicefahjaaDoor.Mx
set_option linter.all false
open Go Go.RowKit
def cutF (c : UInt8) : List (List UInt8) → List UInt8 → List UInt8 → List (List UInt8)
  | acc, cur, [] => acc ++ [cur]
  | acc, cur, x :: r => if x = c then cutF c (acc ++ [cur]) [] r else cutF c acc (cur ++ [x]) r
def cutL (c : UInt8) (s : List UInt8) : List (List UInt8) := cutF c [] [] s
theorem cutF_acc (c : UInt8) : ∀ (s : List UInt8) (acc : List (List UInt8)) (cur : List UInt8), cutF c acc cur s = acc ++ cutF c [] cur s
  | [], acc, cur => by simp [cutF]
  | x :: r, acc, cur => by
    rw [cutF, cutF]
    split
    · rw [cutF_acc c r (acc ++ [cur]), cutF_acc c r ([] ++ [cur])]; simp
    · rw [cutF_acc c r acc]
theorem cutF_skip {c : UInt8} : ∀ {a : List UInt8}, c ∉ a → ∀ (s : List UInt8) (acc : List (List UInt8)) (cur : List UInt8), cutF c acc cur (a ++ s) = cutF c acc (cur ++ a) s
  | [], _, s, acc, cur => by simp
  | x :: r, h, s, acc, cur => by
    have hx : ¬ x = c := fun e => h (by simp [e])
    rw [List.cons_append, cutF, if_neg hx, cutF_skip (fun q => h (by simp [q]))]
    simp
theorem cutL_none {c : UInt8} {a : List UInt8} (h : c ∉ a) : cutL c a = [a] := by
  have := cutF_skip h [] [] []
  rw [List.append_nil] at this
  unfold cutL; rw [this]; simp [cutF]
theorem cutL_one {c : UInt8} {a : List UInt8} (h : c ∉ a) (s : List UInt8) : cutL c (a ++ c :: s) = a :: cutL c s := by
  unfold cutL
  rw [cutF_skip h, cutF, if_pos rfl, cutF_acc]; simp
/-- lines, each with its end -/
theorem cutL_lines {c : UInt8} : ∀ {L : List (List UInt8)}, (∀ a ∈ L, c ∉ a) → cutL c (L.flatMap fun a => a ++ [c]) = L ++ [[]]
  | [], _ => by simp [cutL, cutF]
  | a :: r, h => by
    rw [List.flatMap_cons, List.append_assoc, List.singleton_append, cutL_one (h a (by simp)), cutL_lines fun b hb => h b (by simp [hb])]
    rfl
theorem cutF_ne (c : UInt8) : ∀ (s : List UInt8) (acc : List (List UInt8)) (cur : List UInt8), cutF c acc cur s ≠ []
  | [], acc, cur => by simp [cutF]
  | x :: r, acc, cur => by
    rw [cutF]
    split
    · exact cutF_ne c r _ _
    · exact cutF_ne c r _ _
theorem cutF_len (c : UInt8) : ∀ (s : List UInt8) (acc : List (List UInt8)) (cur : List UInt8), (cutF c acc cur s).length ≤ acc.length + 1 + s.length
  | [], acc, cur => by simp [cutF]
  | x :: r, acc, cur => by
    rw [cutF]
    split
    · have := cutF_len c r (acc ++ [cur]) []
      rw [List.length_append, List.length_cons, List.length_nil] at this
      rw [List.length_cons]; omega
    · have := cutF_len c r acc (cur ++ [x])
      rw [List.length_cons]; omega
theorem cutF_sz (c : UInt8) : ∀ (s : List UInt8) (acc : List (List UInt8)) (cur : List UInt8) (n : Nat), (∀ a ∈ acc, a.length ≤ n) → cur.length + s.length ≤ n → ∀ a ∈ cutF c acc cur s, a.length ≤ n
  | [], acc, cur, n, h, hc, a, ha => by
    rw [cutF, List.mem_append, List.mem_singleton] at ha
    rcases ha with ha | rfl
    · exact h a ha
    · simpa using hc
  | x :: r, acc, cur, n, h, hc, a, ha => by
    rw [cutF] at ha
    rw [List.length_cons] at hc
    split at ha
    · refine cutF_sz c r (acc ++ [cur]) [] n (fun b hb => ?_) (by simp; omega) a ha
      rcases List.mem_append.1 hb with hb | hb
      · exact h b hb
      · rw [List.mem_singleton.1 hb]; omega
    · exact cutF_sz c r acc (cur ++ [x]) n h (by rw [List.length_append, List.length_cons, List.length_nil]; omega) a ha
/-! the library's cut -/
theorem split_cut (c : UInt8) : ∀ (n : Nat) (s : List UInt8), s.length ≤ n → Lib.splitK [c] 0 (Lib.count s [c]) s = cutL c s := by
  intro n
  induction n with
  | zero =>
    intro s hs
    have : s = [] := List.length_eq_zero_iff.1 (by omega)
    subst this
    have hi : Lib.index [] [c] = -1 := by simp [Lib.index]
    rw [Lib.count_miss hi]
    simp [Lib.splitK, cutL, cutF]
  | succ n ih =>
    intro s hs
    rcases Lib.index_spec s [c] with ⟨h1, h2⟩ | ⟨i, h1, h2, h3, h4⟩
    · rw [Lib.count_miss h1, Lib.splitK]
      have hn : c ∉ s := fun hc => by
        obtain ⟨j, hj⟩ := List.mem_iff_getElem?.1 hc
        have hjl := (List.getElem?_eq_some_iff.1 hj).1
        have := h2 j (by omega)
        rw [Lib.occAt_iff_take s [c] j (by simp; omega)] at this
        have hd : s.drop j = c :: s.drop (j + 1) := by
          rw [List.drop_eq_getElem_cons hjl]
          rw [List.getElem?_eq_getElem hjl] at hj
          rw [Option.some.inj hj]
        rw [hd] at this
        simp at this
      rw [cutL_none hn]
    · rw [Lib.count_hit (by simp) h1, Nat.add_comm, Lib.splitK]
      have hne : ¬ (Lib.index s [c] == -1) = true := by rw [h1]; simp
      rw [if_neg hne, h1]
      have ei : ((i : Nat) : Int).toNat = i := by omega
      rw [ei]
      have hci := Lib.occAt_head (t := []) rfl h3
      have hil := (List.getElem?_eq_some_iff.1 hci).1
      have hd : s.drop i = c :: s.drop (i + 1) := by
        rw [List.drop_eq_getElem_cons hil]
        rw [List.getElem?_eq_getElem hil] at hci
        rw [Option.some.inj hci]
      have hn : c ∉ s.take i := fun hc => by
        obtain ⟨j, hj⟩ := List.mem_iff_getElem?.1 hc
        have hjl := (List.getElem?_eq_some_iff.1 hj).1
        rw [List.length_take] at hjl
        rw [List.getElem?_take_of_lt (by omega)] at hj
        have := h4 j (by omega)
        rw [Lib.occAt_iff_take s [c] j (by simp; omega)] at this
        have hd : s.drop j = c :: s.drop (j + 1) := by
          rw [List.drop_eq_getElem_cons (by omega)]
          rw [List.getElem?_eq_getElem (by omega)] at hj
          rw [Option.some.inj hj]
        rw [hd] at this
        simp at this
      have hs2 : s = s.take i ++ c :: s.drop (i + 1) := by rw [← hd, List.take_append_drop]
      conv => rhs; rw [hs2]
      rw [cutL_one hn]
      simp only [List.length_cons, List.length_nil, Nat.add_zero]
      rw [ih (s.drop (i + 1)) (by rw [List.length_drop]; omega)]
end Go.Proofs.YtkpgdbicefahjaaDoor.Mx

/- A list's form read again. -/
namespace Go.Proofs.YtkpgdbicefahjaaDoor.Mx
set_option linter.all false
open Go Go.RowKit
theorem dec_digit : ∀ (n : Nat), ∀ b ∈ Lib.decDigits n, 48 ≤ b.toNat ∧ b.toNat ≤ 57 := by
  intro n
  induction n using Nat.strongRecOn with
  | _ n ih =>
    intro b hb
    rw [Lib.decDigits] at hb
    split at hb
    · rw [List.mem_singleton.1 hb]
      rw [UInt8.toNat_ofNat']; omega
    · rcases List.mem_append.1 hb with hb | hb
      · exact ih (n / 10) (by omega) b hb
      · rw [List.mem_singleton.1 hb, UInt8.toNat_ofNat']; omega
theorem decFrom_app : ∀ (a b : List UInt8) (acc : Nat), Lib.decFrom acc (a ++ b) = (Lib.decFrom acc a).bind fun m => Lib.decFrom m b
  | [], b, acc => rfl
  | x :: r, b, acc => by
    rw [List.cons_append, Lib.decFrom, Lib.decFrom]
    cases Lib.digitVal x with
    | none => rfl
    | some d => exact decFrom_app r b _
theorem decFrom_dec : ∀ n : Nat, Lib.decFrom 0 (Lib.decDigits n) = some n := by
  intro n
  induction n using Nat.strongRecOn with
  | _ n ih =>
    have hv : ∀ d : Nat, d < 10 → Lib.digitVal (UInt8.ofNat (48 + d)) = some d := by
      intro d hd
      unfold Lib.digitVal
      have : (UInt8.ofNat (48 + d)).toNat = 48 + d := by rw [UInt8.toNat_ofNat']; omega
      rw [this, if_pos (by omega)]
      congr 1; omega
    rw [Lib.decDigits]
    split
    · rename_i h
      rw [Lib.decFrom, hv n h]
      simp [Lib.decFrom]
    · rename_i h
      rw [decFrom_app, ih (n / 10) (by omega), Option.bind_some, Lib.decFrom, hv (n % 10) (by omega)]
      simp only [Lib.decFrom]
      congr 1; omega
theorem dec_ne (n : Nat) : Lib.decDigits n ≠ [] := by
  rw [Lib.decDigits]
  split <;> simp
theorem dec_len4 {n : Nat} (h : n ≤ 9999) : (Lib.decDigits n).length ≤ 4 := by
  rw [Lib.decDigits]
  split
  · simp
  · rw [List.length_append, Lib.decDigits]
    split
    · simp
    · rw [List.length_append, Lib.decDigits]
      split
      · simp
      · rw [List.length_append, Lib.decDigits]
        split
        · simp
        · omega
theorem atoi_dec {n : Nat} : Lib.atoi (Lib.decDigits n) = some (n : Int) := by
  have h1 := decFrom_dec n
  cases hd : Lib.decDigits n with
  | nil => exact (dec_ne n hd).elim
  | cons b r =>
    have hb := dec_digit n b (by rw [hd]; simp)
    have n1 : (b == 45) = false := by
      cases e : b == 45 with
      | false => rfl
      | true => have := beq_iff_eq.1 e; subst this; simp at hb
    have n2 : (b == 43) = false := by
      cases e : b == 43 with
      | false => rfl
      | true => have := beq_iff_eq.1 e; subst this; simp at hb
    rw [hd] at h1
    unfold Lib.atoi
    simp only [n1, n2, Bool.false_eq_true, if_false]
    unfold Lib.decNat
    rw [h1]; rfl
/-- the number that a short decimal is, -1 if it is none -/
def numB (s : List UInt8) : Int := if s.length < 1 ∨ 4 < s.length then -1 else match Lib.decFrom 0 s with
  | some m => if Lib.decDigits m = s then (m : Int) else -1
  | none => -1
theorem numB_dec {n : Nat} (h : n ≤ 9999) : numB (Lib.decDigits n) = n := by
  unfold numB
  have h1 := dec_ne n
  have h2 := dec_len4 h
  have h3 : 0 < (Lib.decDigits n).length := List.length_pos_iff.2 h1
  rw [if_neg (by omega), decFrom_dec]
  simp
def digI (b : UInt8) : Int := if 48 ≤ b.toNat ∧ b.toNat ≤ 57 then (b.toNat : Int) - 48 else (b.toNat : Int) - 97 + 10
def unhex : List UInt8 → List UInt8
  | a :: b :: r => UInt8.ofNat ((16 * digI a + digI b) % 256).toNat :: unhex r
  | _ => []
theorem digit_fin : ∀ d : _root_.Fin 16, digI (Lib.Hx.digit d.val) = (d.val : Int) ∧ 48 ≤ (Lib.Hx.digit d.val).toNat := by decide +kernel
theorem unhex_encode : ∀ l : List UInt8, unhex (Lib.Hx.encode l) = l
  | [] => rfl
  | b :: r => by
    have hb : b.toNat < 256 := b.toNat_lt
    rw [Lib.Hx.encode_cons, unhex, unhex_encode r]
    have h1 := (digit_fin ⟨b.toNat / 16, by omega⟩).1
    have h2 := (digit_fin ⟨b.toNat % 16, by omega⟩).1
    simp only at h1 h2
    rw [h1, h2]
    have : ((16 * ((b.toNat / 16 : Nat) : Int) + ((b.toNat % 16 : Nat) : Int)) % 256).toNat = b.toNat := by omega
    rw [this]; simp
theorem encode_ge : ∀ (l : List UInt8), ∀ c ∈ Lib.Hx.encode l, 48 ≤ c.toNat
  | [], c, h => by simp [Lib.Hx.encode] at h
  | b :: r, c, h => by
    have hb : b.toNat < 256 := b.toNat_lt
    rw [Lib.Hx.encode_cons] at h
    rcases List.mem_cons.1 h with rfl | h
    · exact (digit_fin ⟨b.toNat / 16, by omega⟩).2
    · rcases List.mem_cons.1 h with rfl | h
      · exact (digit_fin ⟨b.toNat % 16, by omega⟩).2
      · exact encode_ge r c h
def hexL (S : List Str) : List (List UInt8) := S.map fun x => Lib.Hx.encode (bt x)
theorem lines_hex (S : List Str) : S.flatMap lineB = (hexL S).flatMap fun a => a ++ [10] := by
  unfold hexL
  induction S with
  | nil => rfl
  | cons x r ih => rw [List.flatMap_cons, List.map_cons, List.flatMap_cons, ih]; rfl
theorem ten_hex {S : List Str} : ∀ a ∈ hexL S, (10 : UInt8) ∉ a := by
  intro a ha hc
  unfold hexL at ha
  obtain ⟨x, _, rfl⟩ := List.mem_map.1 ha
  have := encode_ge _ _ hc
  simp at this
theorem ten_head (n : Nat) : (10 : UInt8) ∉ sizB ++ Lib.decDigits n := by
  intro hc
  rcases List.mem_append.1 hc with hc | hc
  · revert hc; decide
  · have := dec_digit n 10 hc
    simp at this
/-- a form's lines -/
theorem cut_form (l : Lst) : cutL 10 (formB l) = (sizB ++ Lib.decDigits l.sz.toNat) :: (hexL l.S ++ [[]]) := by
  unfold formB
  rw [List.append_assoc, List.singleton_append, cutL_one (ten_head _), lines_hex, cutL_lines ten_hex]
/-- what the reference reads, loosely -/
def parseL (s : Str) : Lst := ⟨numB (((cutL 10 (bt s)).getD 0 []).drop 5), (((cutL 10 (bt s)).drop 1).take ((cutL 10 (bt s)).length - 2)).map fun x => stB (unhex x)⟩
theorem parse_form {l : Lst} {w : Int} (h : okLs l w = true) : parseL (stB (formB l)) = l := by
  obtain ⟨_, _, s0, s3, _, _⟩ := okLs_up h
  unfold parseL
  rw [bt_stB, cut_form]
  have e1 : ((((sizB ++ Lib.decDigits l.sz.toNat) :: (hexL l.S ++ [[]])).getD 0 []).drop 5) = Lib.decDigits l.sz.toNat := by
    show (sizB ++ Lib.decDigits l.sz.toNat).drop 5 = _
    exact List.drop_left' rfl
  have e2 : ((((sizB ++ Lib.decDigits l.sz.toNat) :: (hexL l.S ++ [[]])).drop 1).take (((sizB ++ Lib.decDigits l.sz.toNat) :: (hexL l.S ++ [[]])).length - 2)) = hexL l.S := by
    rw [List.drop_succ_cons, List.drop_zero, List.length_cons, List.length_append, List.length_cons, List.length_nil]
    exact List.take_left' (by omega)
  rw [e1, e2, numB_dec (by omega)]
  have e3 : (hexL l.S).map (fun x => stB (unhex x)) = l.S := by
    unfold hexL
    rw [List.map_map]
    conv => rhs; rw [← List.map_id l.S]
    apply List.map_congr_left
    intro x _
    show stB (unhex (Lib.Hx.encode (bt x))) = x
    rw [unhex_encode, stB_bt]
  rw [e3]
  obtain ⟨sz, S⟩ := l
  simp only at s0 ⊢
  congr 1
  omega
open Classical in
/-- what a text is read as: the list whose form it is -/
noncomputable def readL (s : Str) (w : Int) : Lst × Bool := if h : ∃ l, okLs l w = true ∧ stB (formB l) = s then (Classical.choose h, true) else (⟨0, []⟩, false)
theorem read_of {l : Lst} {s : Str} {w : Int} (h : okLs l w = true) (hs : stB (formB l) = s) : readL s w = (l, true) := by
  have hx : ∃ l, okLs l w = true ∧ stB (formB l) = s := ⟨l, h, hs⟩
  unfold readL
  rw [dif_pos hx]
  have := Classical.choose_spec hx
  have e : Classical.choose hx = l := by rw [← parse_form this.1, this.2, ← hs, parse_form h]
  rw [e]
theorem read_no {s : Str} {w : Int} (h : ∀ l, okLs l w = true → stB (formB l) ≠ s) : readL s w = (⟨0, []⟩, false) := by
  unfold readL
  rw [dif_neg]
  rintro ⟨l, h1, h2⟩
  exact h l h1 h2
theorem read_ok {s : Str} {w : Int} (h : (readL s w).2 = true) : okLs (readL s w).1 w = true ∧ stB (formB (readL s w).1) = s := by
  unfold readL at h ⊢
  split
  · rename_i hx
    exact Classical.choose_spec hx
  · rename_i hx
    rw [dif_neg hx] at h; cases h
theorem read_fst {s : Str} {w : Int} (h : (readL s w).2 = false) : (readL s w).1 = ⟨0, []⟩ := by
  unfold readL at h ⊢
  split
  · rename_i hx
    rw [dif_pos hx] at h; cases h
  · rfl
theorem formL_ok {l : Lst} {w : Int} {s : Str} (h : formL l w = s) (hs : 1 ≤ s.size) : okLs l w = true ∧ stB (formB l) = s := by
  unfold formL at h
  split at h
  · rename_i ho; exact ⟨ho, h⟩
  · rw [← h] at hs; exact absurd hs (by decide)
theorem formB_len {l : Lst} {w : Int} (h : okLs l w = true) : 7 ≤ (formB l).length ∧ (formB l).length ≤ 6385 ∧ (formB l).take 5 = sizB := by
  obtain ⟨_, w8, s0, s3, hn, hsz⟩ := okLs_up h
  have h1 := lines_len hsz w8
  have h2 := dec_len4 (n := l.sz.toNat) (by omega)
  have h3 : 0 < (Lib.decDigits l.sz.toNat).length := List.length_pos_iff.2 (dec_ne _)
  have h4 : sizB.length = 5 := rfl
  unfold formB
  refine ⟨?_, ?_, ?_⟩
  · simp only [List.length_append, List.length_cons, List.length_nil]; omega
  · simp only [List.length_append, List.length_cons, List.length_nil]; omega
  · rw [List.append_assoc, List.append_assoc]
    exact List.take_left' rfl
/-- the reference's way -/
theorem read_spec {s : Str} {w : Int} (hs : 1 ≤ s.size) : readL s w = if formL (parseL s) w = s then (parseL s, true) else (⟨0, []⟩, false) := by
  split
  · rename_i h
    obtain ⟨h1, h2⟩ := formL_ok h hs
    exact read_of h1 h2
  · rename_i h
    refine read_no fun l h1 h2 => h ?_
    rw [← h2, parse_form h1]
    unfold formL; rw [if_pos h1]
theorem read_out {s : Str} {w : Int} (h : s.size < 6 ∨ 7000 < s.size ∨ (bt s).take 5 ≠ sizB) : readL s w = (⟨0, []⟩, false) := by
  refine read_no fun l h1 h2 => ?_
  obtain ⟨a, b, c⟩ := formB_len h1
  rw [← h2, stB_size, bt_stB] at h
  rcases h with h | h | h
  · omega
  · omega
  · exact h c
end Go.Proofs.YtkpgdbicefahjaaDoor.Mx

/- strconv.Atoi, hex.DecodeString, strings.Split, strings.CutPrefix. -/
namespace Go.Proofs.YtkpgdbicefahjaaDoor.Mx
set_option linter.all false
open Go Go.RowKit Go.Proofs
/-- a callee that makes what it answers -/
theorem does_new {P : Program} {f : FuncId} {fn : Func} {c : Code} {avs : List AV} {r : AV} (hf : P.funcs[f]? = some fn) (hb : fn.body = some c) (hn : (fn.name == "runtime.NumGoroutine") = false)
    (H : ∀ (w : Go.World) (ok : Nat → Prop) (G : Fp) (args : List Value), ArgsRep w ok G args avs → Calls P f args.toArray w fun e w' => ∃ (v : Value) (F : Nat → Prop), e = .returned v ∧ Below w.heap.size w w' ∧ (∀ b, F b → w.heap.size ≤ b ∧ b < w'.heap.size) ∧ OwnV w' (fun _ => False) F v r) : Does P f avs (r, []) := by
  constructor
  intro w ok G args hA
  left
  have h1 : fn.name ≠ "runtime.NumGoroutine" := by simpa using hn
  refine ⟨by simp [callFunc, hf, h1, hb], (H w ok G args hA).mono fun e w' h => ?_⟩
  obtain ⟨v, F, rfl, hB, hF, hV⟩ := h
  refine ⟨fun i b => i = 0 ∧ F b, ⟨⟨hB.os, hB.tape, hB.output, hB.size, fun k hk _ => hB.block k hk⟩, Kp.old hB.block, fun i j b h h' => h.1.trans h'.1.symm, fun i b h => ⟨(hF b h.2).2, .inl (hF b h.2).1⟩, ?_, fun i t h => by simp at h⟩⟩
  exact OwnV.mono (fun b hb => hb.elim) hV _ fun b hb => ⟨⟨rfl, hb⟩, rfl⟩
theorem own_sc {w : Go.World} {ok F : Nat → Prop} {v : Value} (h : plain v = true) : OwnA w ok F v (.sc v) := Own.rd _ _ _ (by intro z r h; cases h) (by intro cs h; cases h) (.sc v h)
theorem own_er {w : Go.World} {ok F : Nat → Prop} {t : TypeId} {v : Value} : OwnA w ok F (.iface t v) .er := Own.rd _ _ _ (by intro z r h; cases h) (by intro cs h; cases h) (.er t v)
/-- a pair -/
theorem own_two {w : Go.World} {ok F : Nat → Prop} {u v : Value} {x y : AV} (h1 : OwnA w ok F u x) (h2 : OwnA w ok (fun _ => False) v y) : OwnV w ok F (.tuple #[u, v]) (.tu [x, y]) := by
  refine ⟨[u, v], fun i b => i = 0 ∧ F b, rfl, rfl, fun j b h => h.2, fun i j b h h' => h.1.trans h'.1.symm, fun j a z ha hz => ?_⟩
  match j, ha, hz with
  | 0, ha, hz => cases ha; cases hz; exact h1.mono (fun b hb => ⟨hb, rfl⟩) _ fun b hb => ⟨⟨rfl, hb⟩, rfl⟩
  | 1, ha, hz => cases ha; cases hz; exact h2.mono (fun b hb => ⟨hb, rfl⟩) _ fun b hb => hb.elim
  | j + 2, ha, hz => simp at ha
/-- a new row of plain cells -/
theorem own_row {w : Go.World} {b len cap : Nat} {cur : Array Value} {t : TypeId} {rows : List Row} (hb : w.heap[b]? = some (.cells cur t (0, 0))) (hr : rows.length = len) (hc : len ≤ cap) (hs : cap ≤ cur.size) (hm : cap ≤ maxLen)
    (h : ∀ (i : Nat) (row : Row), rows[i]? = some row → ∃ v : Value, row = ([.sc v] : Row) ∧ cur[i]? = some v ∧ plain v = true ∧ v.oneCell' = true) : OwnA w (fun _ => False) (fun k => k = b) (.slice (some ⟨b, 0, none⟩) len cap) (.sl true 1 rows) := by
  subst hr
  have hx : ∀ (i : Nat) (row : Row) (j : Nat) (x : AV), rows[i]? = some row → row[j]? = some x → ∃ v, cur.getD (0 + (i * 1 + j)) undef = v ∧ x = .sc v ∧ plain v = true ∧ v.oneCell' = true := by
    intro i row j x hi hj
    obtain ⟨v, rfl, h1, h2, h3⟩ := h i row hi
    cases j with
    | succ j => simp at hj
    | zero =>
      cases hj
      exact ⟨v, by simp [Array.getD_eq_getD_getElem?, h1], rfl, h2, h3⟩
  refine Own.sl _ 1 b 0 cap rows cur t (0, 0) (fun _ _ _ => False) rfl hb (fun o _ h => by have := h.2; simp at this) hc (by omega) hm (fun _ _ _ h => h.elim) (fun _ _ _ _ _ h => h.elim) (fun i row hi => ?_) (fun i row j x hi hj => ?_) (fun i row j x hi hj => ?_)
  · obtain ⟨v, rfl, _⟩ := h i row hi; rfl
  · obtain ⟨v, h1, _, _, h3⟩ := hx i row j x hi hj; rw [h1]; exact h3
  · obtain ⟨v, h1, rfl, h2, _⟩ := hx i row j x hi hj
    rw [h1]; exact Own.rd _ _ _ (by intro z r h; cases h) (by intro cs h; cases h) (.sc v h2)
theorem cutPrefix (s p : Str) : Does Tryd.prog 46 [.sc (.string s), .sc (.string p)] (.tu [.sc (.string (stB (Lib.trimPrefix (bt s) (bt p)))), .sc (.bool (Lib.hasPrefix (bt s) (bt p)))], []) := by
  refine does_new Tryd.func46 rfl rfl fun w ok G args hA => ?_
  obtain ⟨u, v, rfl, h0, h1⟩ := args2 hA
  obtain rfl := rep_str (own_rep h0 (by intro z r h; cases h) (by intro cs h; cases h))
  obtain rfl := rep_str (own_rep h1 (by intro z r h; cases h) (by intro cs h; cases h))
  refine (Any.strings_CutPrefix Tryd.cutP s p w).mono fun e w' hh => ?_
  obtain ⟨rfl, rfl⟩ := hh
  exact ⟨_, fun _ => False, rfl, Below.refl _ _, fun b h => h.elim, own_two (own_sc rfl) (own_sc rfl)⟩
theorem atoi_yes (s : Str) (n : Int) (hs : s.size ≤ 18) (h : Lib.atoi (bt s) = some n) : Does Tryd.prog 47 [.sc (.string s)] (.tu [.sc (.int .i64 n), .sc .nilIface], []) := by
  refine does_new Tryd.func47 rfl rfl fun w ok G args hA => ?_
  obtain ⟨u, rfl, h0⟩ := args1' hA
  obtain rfl := rep_str (own_rep h0 (by intro z r h; cases h) (by intro cs h; cases h))
  refine (Any.strconv_Atoi { Tryd.atoiL with } s n hs h w).mono fun e w' hh => ?_
  obtain ⟨rfl, t, rfl⟩ := hh
  exact ⟨_, fun _ => False, rfl, Lib.bytesWorld_below _ _ _, fun b h => h.elim, own_two (own_sc rfl) (own_sc rfl)⟩
theorem atoi_no (s : Str) (hs : s.size ≤ 18) (h : Lib.atoi (bt s) = none) : Does Tryd.prog 47 [.sc (.string s)] (.tu [.sc (.int .i64 0), .er], []) := by
  refine does_new Tryd.func47 rfl rfl fun w ok G args hA => ?_
  obtain ⟨u, rfl, h0⟩ := args1' hA
  obtain rfl := rep_str (own_rep h0 (by intro z r h; cases h) (by intro cs h; cases h))
  have hg : GP w := hA.gw
  obtain ⟨_, _, ⟨t, p, e1, fr, h1⟩, _⟩ := hg
  have hv : w.cell? ⟨(Tryd.atoiL_ren.g 15), 0, none⟩ = some (.iface t p) := by
    show w.cell? ⟨1, 0, none⟩ = _
    simp [World.cell?, h1]
  refine (Any.strconv_Atoi_err Tryd.atoiL s hs h (.iface t p) w hv (.inr ⟨_, _, rfl⟩)).mono fun e w' hh => ?_
  obtain ⟨N, rfl, _, _, hB⟩ := hh
  exact ⟨_, fun _ => False, rfl, hB, fun b h => h.elim, own_two (own_sc rfl) own_er⟩
/-- what DecodeString answers -/
def decA (l : List UInt8) : AV := match (Lib.Hx.decode l).2 with | .ok => .sc .nilIface | _ => .er
theorem hexDec (s : Str) (hs : s.size ≤ 10000000) : Does Tryd.prog 48 [.sc (.string s)] (.tu [.sl true 1 ((Lib.Hx.decode (bt s)).1.map byteRow), decA (bt s)], []) := by
  refine does_new Tryd.func48 rfl rfl fun w ok G args hA => ?_
  obtain ⟨u, rfl, h0⟩ := args1' hA
  obtain rfl := rep_str (own_rep h0 (by intro z r h; cases h) (by intro cs h; cases h))
  have hg : GP w := hA.gw
  obtain ⟨_, ⟨t, p, e1, fr, h1⟩, _, _⟩ := hg
  have hv : w.cell? ⟨(Tryd.hexD_ren.g 0), 0, none⟩ = some (.iface t p) := by
    show w.cell? ⟨0, 0, none⟩ = _
    simp [World.cell?, h1]
  have hdl := Lib.Hx.decode_len (bt s)
  rw [bt_len] at hdl
  refine (Any.hex_DecodeString Tryd.hexD s w (.iface t p) hv (by omega)).mono fun e w' hh => ?_
  obtain ⟨rfl, ⟨c, hc, hcs, hci⟩, hB⟩ := hh
  have hlt := (Array.getElem?_eq_some_iff.1 hc).1
  change (Lib.Hx.decode s.data.toList).1.length ≤ s.size / 2 at hdl
  refine ⟨_, fun k => k = w.heap.size, rfl, hB, fun b h => ⟨by rw [h]; exact Nat.le_refl _, by rw [h]; exact hlt⟩, own_two (own_row hc (by rw [List.length_map]; rfl) hdl (by omega) (by show _ ≤ 9223372036854775807; omega) fun i row hi => ?_) ?_⟩
  · rw [List.getElem?_map] at hi
    cases hq : (Lib.Hx.decode (bt s)).1[i]? with
    | none => rw [hq] at hi; cases hi
    | some x =>
      rw [hq] at hi; cases hi
      have hil := (List.getElem?_eq_some_iff.1 hq).1
      have := hci i (by have : (Lib.Hx.decode (bt s)).1.length ≤ s.size / 2 := hdl; omega)
      refine ⟨_, rfl, ?_, rfl, rfl⟩
      rw [this]
      unfold Lib.Hx.rowP
      rw [if_pos ⟨Nat.zero_le _, by rw [Nat.zero_add]; exact hil⟩, Nat.sub_zero]
      have hq' : (Lib.Hx.decode s.data.toList).1[i]? = some x := hq
      rw [hq']; rfl
  · unfold decA
    show OwnA _ _ _ (Lib.Hx.errVal _ _ (Lib.Hx.decode (bt s)).2) _
    cases (Lib.Hx.decode (bt s)).2 with
    | ok => exact own_sc rfl
    | bad c => exact own_er
    | odd => exact own_er
theorem splitNl (s : Str) (hs : s.size ≤ 10000000) : Does Tryd.prog 45 [.sc (.string s), .sc (.string ⟨#[10]⟩)] (.sl true 1 (((cutL 10 (bt s)).map stB).map strR), []) := by
  refine does_new Tryd.func45 rfl rfl fun w ok G args hA => ?_
  obtain ⟨u, v, rfl, h0, h1⟩ := args2 hA
  obtain rfl := rep_str (own_rep h0 (by intro z r h; cases h) (by intro cs h; cases h))
  obtain rfl := rep_str (own_rep h1 (by intro z r h; cases h) (by intro cs h; cases h))
  have hg : GP w := hA.gw
  obtain ⟨_, _, _, m, hm⟩ := hg
  refine (Any.strings_Split { Tryd.splitL with } Tryd.splitL.i9 s ⟨#[10]⟩ m w (by omega) hm (by decide)).mono fun e w' hh => ?_
  obtain ⟨rfl, rfl⟩ := hh
  have hdat := Lib.splitB_data ⟨#[10]⟩ 0 (Lib.countB s ⟨#[10]⟩) s
  have hcut := split_cut 10 _ (bt s) (Nat.le_refl _)
  have e1 : Lib.splitB ⟨#[10]⟩ 0 (Lib.countB s ⟨#[10]⟩) s = (cutL 10 (bt s)).map stB := by
    have : (Lib.splitB ⟨#[10]⟩ 0 (Lib.countB s ⟨#[10]⟩) s).map bt = cutL 10 (bt s) := hdat.trans hcut
    rw [← this, List.map_map]
    conv => lhs; rw [← List.map_id (Lib.splitB ⟨#[10]⟩ 0 (Lib.countB s ⟨#[10]⟩) s)]
    apply List.map_congr_left
    intro x _
    exact (stB_bt x).symm
  have hlen := Lib.splitB_all ⟨#[10]⟩ (by decide) 0 _ s rfl
  have hcl := cutF_len 10 (bt s) [] []
  rw [bt_len] at hcl
  have hl2 : ((cutL 10 (bt s)).map stB).length = Lib.countB s ⟨#[10]⟩ + 1 := by rw [← e1]; exact hlen
  have hl3 : (cutL 10 (bt s)).length = Lib.countB s ⟨#[10]⟩ + 1 := by rw [← hl2, List.length_map]
  have hl4 : (cutL 10 (bt s)).length ≤ 1 + s.size := by unfold cutL; simpa using hcl
  rw [e1]
  obtain ⟨w2, hw2⟩ : ∃ w2, w2 = w.alloc (.cells (((cutL 10 (bt s)).map stB).map Value.string).toArray (Tryd.splitL_ren.t 9)) := ⟨_, rfl⟩
  have hal : w2.heap[w.heap.size]? = some (.cells (((cutL 10 (bt s)).map stB).map Value.string).toArray (Tryd.splitL_ren.t 9) (0, 0)) := by rw [hw2]; exact (MapKept.heap_alloc w _).1
  have hsz : w2.heap.size = w.heap.size + 1 := by rw [hw2]; show (w.heap.push _).size = _; simp
  have hold : ∀ k, k < w.heap.size → w2.heap[k]? = w.heap[k]? := by rw [hw2]; exact (MapKept.heap_alloc w _).2
  rw [← hw2]
  refine ⟨_, fun k => k = w.heap.size, rfl, ?_, fun b h => ⟨by rw [h]; exact Nat.le_refl _, by rw [h, hsz]; omega⟩, ?_⟩
  · exact ⟨by rw [hw2]; rfl, by rw [hw2]; rfl, by rw [hw2]; rfl, by rw [hsz]; omega, hold⟩
  · rw [← hl3]
    refine (show OwnA _ _ _ _ _ from own_row hal (by rw [List.length_map, List.length_map]) (Nat.le_refl _) (by simp) (by show _ ≤ 9223372036854775807; omega) fun i row hi => ?_)
    rw [List.getElem?_map] at hi
    cases hq : ((cutL 10 (bt s)).map stB)[i]? with
    | none => rw [hq] at hi; cases hi
    | some x =>
      rw [hq] at hi; cases hi
      refine ⟨_, rfl, ?_, rfl, rfl⟩
      rw [List.getElem?_toArray, List.getElem?_map, hq]; rfl
end Go.Proofs.YtkpgdbicefahjaaDoor.Mx

/- From the variables that a row lists to what the machine takes of the first blocks. -/
namespace Go.Proofs.YtkpgdbicefahjaaDoor.Mx
set_option linter.all false
open Go Go.RowKit Go.Proofs Go.Proofs.YtkpgdbicefahjaaDoor
theorem pow_of_laid {n1 n2 : String} {D1 D2 : DataW Unit} {rest : List (String × DataW Unit)} {W : Go.World} (h : laidMet Tryd.prog ((n1, D1) :: (n2, D2) :: ("internal/strconv.uint64pow10", Rows.laid_internal_strconv_uint64pow10) :: rest) W) :
    ∃ e fr, W.heap[3]? = some (.cells (Lib.pow10Tab.map fun z => Value.int .u64 z).toArray e fr) := by
  have h3 := h.tail.tail
  have e : (Rows.laid_internal_strconv_uint64pow10 : DataW Unit) = Lib.tabData .u64 Lib.pow10Tab := by kernel_rfl
  rw [e] at h3
  have ht := Lib.tabIs_of_head (k := .u64) (zs := Lib.pow10Tab) (n := 20) (t := 109) (e := 75) (show Tryd.prog.globalNamed "internal/strconv.uint64pow10" = some 3 by kernel_rfl) (by kernel_rfl) Tryd.underlying109 Tryd.underlying75 (by kernel_rfl) (by kernel_rfl) h3
  unfold Lib.TabIs World.var? at ht
  rw [show Tryd.prog.globalNamed "internal/strconv.uint64pow10" = some 3 by kernel_rfl] at ht
  simp only [Option.bind_some] at ht
  split at ht
  · rename_i cs e fr hc
    cases ht
    exact ⟨e, fr, hc⟩
  · cases ht
theorem sent_laid {P : Program} {n nm : String} {d : DataW Unit} {r : List (String × DataW Unit)} {W : Go.World} {g : Nat} {ti : TypeId} {ms : Array (String × TypeId)}
    (h : laidMet P ((n, .iface nm d) :: r) W) (hg : P.globalNamed n = some g) (ht : (P.globals[g]?).map (·.type) = some ti) (hi : P.underlying ti = some (.interface ms)) :
    ∃ t p e fr, W.heap[g]? = some (.cells #[.iface t p] e fr) := by
  obtain ⟨ps, ⟨g0, t0, cs0, f0, p0, q0, hg0, ht0, hv0, hd0, _, e0⟩, _, hrows⟩ := h
  obtain rfl := Option.some.inj (hg.symm.trans hg0)
  obtain rfl := Option.some.inj (ht.symm.trans ht0)
  obtain ⟨f1, u, v, hcs, _, _⟩ := iface_of_trod hi hd0
  have hcs' : cs0 = #[.iface u v] := by
    cases cs0; simp_all
  subst hcs'
  unfold World.var? at hv0
  rw [hg] at hv0
  simp only [Option.bind_some] at hv0
  split at hv0
  · rename_i cs e fr hc
    cases hv0
    exact ⟨u, v, e, fr, hc⟩
  · cases hv0
theorem gp_of_laid {n1 n2 n4 n5 n8 : String} {D1 D2 D4 D5 D8 : DataW Unit} {W : Go.World} (h : laidMetH Tryd.prog [(n1, D1), (n2, D2), ("internal/strconv.uint64pow10", Rows.laid_internal_strconv_uint64pow10), (n4, D4), (n5, D5), ("strconv.ErrSyntax", Rows.laid_strconv_ErrSyntax), ("encoding/hex.ErrLength", Rows.laid_encoding_hex_ErrLength), (n8, D8)] W)
    (hp : ([(n1, D1), (n2, D2), ("internal/strconv.uint64pow10", Rows.laid_internal_strconv_uint64pow10), (n4, D4), (n5, D5), ("strconv.ErrSyntax", Rows.laid_strconv_ErrSyntax), ("encoding/hex.ErrLength", Rows.laid_encoding_hex_ErrLength), (n8, D8)].all fun x => x.2.handleName?.isNone) = true)
    (hsh : W.ShapedOpen Tryd.prog) : NG ≤ W.heap.size ∧ GP W := by
  rw [MakeChecks.laidMetH_plain _ _ _ hp] at h
  obtain ⟨e, fr, h3⟩ := pow_of_laid h
  have h1 := sent_laid h.tail.tail.tail.tail.tail (g := 1) (by kernel_rfl) (by kernel_rfl) Tryd.underlying65
  have h0 := sent_laid h.tail.tail.tail.tail.tail.tail (g := 0) (by kernel_rfl) (by kernel_rfl) Tryd.underlying65
  obtain ⟨m, hm⟩ := Tryd.splitL.s1_3 W hsh
  have hm : W.cell? ⟨4, 0, none⟩ = some (.int .i64 m) := hm
  refine ⟨?_, ⟨e, fr, h3⟩, h0, h1, m, hm⟩
  show 5 ≤ _
  apply Classical.byContradiction
  intro hc
  have : W.heap[4]? = none := Array.getElem?_eq_none (by omega)
  simp [World.cell?, this] at hm
theorem rih_shaped {H : Type} {enc : TypeId × Value → H} {a : Assume} {C : Checked} {os : Os} {f : FuncId} {fn : Func} {s : ChangeSpec} {conds : List PathCond} {apart fresh handsOn again : Bool} {X : Go.World → Array Value → Prop}
    (hX : ∀ (w w' : Go.World) (args : Array Value), w.heap = w'.heap → X w args → X w' args)
    (own : ownKnob C.prog.godebug = none) (started : os.Started) (noInit : C.prog.inits.idxOf? f = none) (hfn : C.prog.funcs[f]? = some fn)
    (witness : ∃ (w : Go.World) (tape : Tape) (i : Input), w.os = os ∧ (w.forCall tape i).Shaped C.prog ∧ i.vars = [] ∧ Input.okWide C.prog (w.forCall tape i) .any w.heap.size f i ∧
      ((s.pre enc C.prog fn conds apart (w.forCall tape i).memory i.args ∧ X (w.forCall tape i).memory i.args) ∧ sizedMet enc C.prog fn (OpenSpec.ofChange s) apart (w.forCall tape i).memory i.args) ∧ a.holds C.prog (lone (Frame.enter C.prog f i.args .normal) [] (w.forCall tape i)))
    (contract : ∀ (W : Go.World) (base : Nat) (args : Array Value) (ds gs : List (DataW H)) (before : List MemPlace),
      (∀ (j : Nat) t v, fn.params[j]? = some t → args[j]? = some v → Value.okWide C.prog W .any base t v) →
      DataW.Whole enc C.prog fn.params.toList s.vars apart W args.toList ds gs before → X W args → W.ShapedOpen C.prog →
      Calls C.prog f args W fun e W' => ∃ v, e = .returned v ∧ s.post enc C.prog fn apart fresh handsOn again W args v W') :
    ReturnsInHanded a C os f .any (fun w args => (s.pre enc C.prog fn conds apart w args ∧ X w args) ∧ sizedMet enc C.prog fn (OpenSpec.ofChange s) apart w args) (s.post enc C.prog fn apart fresh handsOn again) := by
  refine returnsInHanded_of_calls own started noInit witness ?_
  intro w tape i _ hs _ hok hp _
  obtain ⟨_, _, _, g, hg, _, _, _, _, hv⟩ := hok
  obtain rfl : g = fn := Option.some.inj (hg.symm.trans hfn)
  obtain ⟨⟨⟨ds, gs, before, hw, _⟩, hx⟩, _⟩ := hp
  refine (contract (w.forCall tape i) w.heap.size i.args ds gs before hv (DataW.Whole.of_heap (w' := w.forCall tape i) (by rfl) hw) (hX _ _ _ (by rfl) hx) hs).mono fun e W' k => ?_
  obtain ⟨v, he, hq⟩ := k
  subst he
  exact ChangeSpec.post_blind hq
end Go.Proofs.YtkpgdbicefahjaaDoor.Mx

/- Sums. -/
namespace Go.Proofs.YtkpgdbicefahjaaDoor.Mx
set_option linter.all false
open Go Go.RowKit Go.Proofs
def E53 : Env := { T := T0, kp := look [(0, [0]), (1, [0])] }
attribute [local push_cast] E53
theorem widthOk (n : Int) : Does Tryd.prog 53 [.sc (.int .i64 n)] (.sc (.bool (inB n 1 8)), []) := by
  refine does_of (E := E53) (rs := [.tmp 2]) (lent := []) tOk rfl Tryd.func53 rfl (by decide) rfl rfl (Nat.le_of_ble_eq_true rfl) (Nat.le_of_ble_eq_true rfl) ?_
  by_cases h : 1 ≤ n <;> by_cases h2 : n ≤ 8 <;> first | (exfalso; omega) | (simp -dsimp (disch := first | omega | (simp only [h, h2, inB, List.length_cons, List.length_nil, List.length_map, List.length_append, List.length_take, List.length_drop, List.length_replicate, List.length_set, mkG_len] <;> omega) | fail) only [push_cast, if_pos, decide_eq_true, decide_eq_false, h, h2, inB, Nat.reduceAdd, Nat.reduceSub, Nat.reduceMul, Nat.reduceBEq, Nat.reduceEqDiff, Nat.reduceLT, Nat.reduceLeDiff, Int.reduceToNat, Int.reduceLE, Int.reduceLT, Int.reduceAdd, Int.reduceSub, Int.reduceMul, Int.reduceEq, Int.reduceNeg, ↓reduceIte, reduceCtorEq])
def E52 : Env := { T := T0, kp := look [(0, [0, 1, 2]), (1, [0, 1, 2])] }
attribute [local push_cast] E52
theorem l1In (a b c : Int) : Does Tryd.prog 52 [.sc (.int .i64 a), .sc (.int .i64 b), .sc (.int .i64 c)] (.sc (.bool (inB a b c)), []) := by
  refine does_of (E := E52) (rs := [.tmp 6]) (lent := []) tOk rfl Tryd.func52 rfl (by decide) rfl rfl (Nat.le_of_ble_eq_true rfl) (Nat.le_of_ble_eq_true rfl) ?_
  by_cases h : b ≤ a <;> by_cases h2 : a ≤ c <;> simp -dsimp (disch := first | omega | (simp only [h, h2, inB, List.length_cons, List.length_nil, List.length_map, List.length_append, List.length_take, List.length_drop, List.length_replicate, List.length_set, mkG_len] <;> omega) | fail) only [push_cast, if_pos, decide_eq_true, decide_eq_false, h, h2, inB, Nat.reduceAdd, Nat.reduceSub, Nat.reduceMul, Nat.reduceBEq, Nat.reduceEqDiff, Nat.reduceLT, Nat.reduceLeDiff, Int.reduceToNat, Int.reduceLE, Int.reduceLT, Int.reduceAdd, Int.reduceSub, Int.reduceMul, Int.reduceEq, Int.reduceNeg, ↓reduceIte, reduceCtorEq]
def E51 : Env := { T := T0, kp := look [(0, [0]), (1, [0])] }
attribute [local push_cast] E51
theorem l1Width (n : Int) : Does Tryd.prog 51 [.sc (.int .i64 n)] (.sc (.bool (inB n 1 8)), []) := by
  refine does_of (E := E51) (rs := [.tmp 2]) (lent := []) tOk rfl Tryd.func51 rfl (by decide) rfl rfl (Nat.le_of_ble_eq_true rfl) (Nat.le_of_ble_eq_true rfl) ?_
  simp -dsimp (disch := first | omega | (simp only [List.length_cons, List.length_nil, List.length_map, List.length_append, List.length_take, List.length_drop, List.length_replicate, List.length_set, mkG_len] <;> omega) | fail) only [push_cast, if_pos, decide_eq_true, decide_eq_false, Nat.reduceAdd, Nat.reduceSub, Nat.reduceMul, Nat.reduceBEq, Nat.reduceEqDiff, Nat.reduceLT, Nat.reduceLeDiff, Int.reduceToNat, Int.reduceLE, Int.reduceLT, Int.reduceAdd, Int.reduceSub, Int.reduceMul, Int.reduceEq, Int.reduceNeg, ↓reduceIte, reduceCtorEq]
  refine callC (l1In ..) ?_
  simp -dsimp (disch := first | omega | (simp only [List.length_cons, List.length_nil, List.length_map, List.length_append, List.length_take, List.length_drop, List.length_replicate, List.length_set, mkG_len] <;> omega) | fail) only [push_cast, if_pos, decide_eq_true, decide_eq_false, Nat.reduceAdd, Nat.reduceSub, Nat.reduceMul, Nat.reduceBEq, Nat.reduceEqDiff, Nat.reduceLT, Nat.reduceLeDiff, Int.reduceToNat, Int.reduceLE, Int.reduceLT, Int.reduceAdd, Int.reduceSub, Int.reduceMul, Int.reduceEq, Int.reduceNeg, ↓reduceIte, reduceCtorEq]
end Go.Proofs.YtkpgdbicefahjaaDoor.Mx

/- Lists of texts: copied, measured, held against each other, marked. -/
namespace Go.Proofs.YtkpgdbicefahjaaDoor.Mx
set_option linter.all false
open Go Go.RowKit Go.Proofs
def E30 : Env := { T := T0, kp := look [(0, [0, 1]), (1, [0, 1]), (2, []), (3, [0, 1]), (4, [0, 1, 5]), (5, [0, 1, 5]), (6, [0, 1, 5]), (7, []), (8, [])], dp := look2 [(6, [[], [], [0, 1], [0, 1, 2], [], [], [4, 5], [4, 5, 6], [0, 1, 2, 3, 4, 5, 6, 7]])] }
attribute [local push_cast] E30
theorem eqStringS (a b : List Str) (hb : okL okStr b) : Does Tryd.prog 30 [.sl false 1 (a.map strR), .sl false 1 (b.map strR)] (.sc (.bool (decide (a = b))), []) := by
  refine does_of (E := E30) (rs := [.tmp 4]) (lent := []) tOk rfl Tryd.func30 rfl (by decide) rfl rfl (Nat.le_of_ble_eq_true rfl) (Nat.le_of_ble_eq_true rfl) ?_
  have hb1 := hb.1
  by_cases hl : a.length = b.length
  rotate_left
  · have : a ≠ b := fun h => hl (by rw [h])
    simp -dsimp (disch := first | omega | (simp only [this, List.length_cons, List.length_nil, List.length_map, List.length_append, List.length_take, List.length_drop, List.length_replicate, List.length_set, mkG_len] <;> omega) | fail) only [push_cast, if_pos, decide_eq_true, decide_eq_false, this, Nat.reduceAdd, Nat.reduceSub, Nat.reduceMul, Nat.reduceBEq, Nat.reduceEqDiff, Nat.reduceLT, Nat.reduceLeDiff, Int.reduceToNat, Int.reduceLE, Int.reduceLT, Int.reduceAdd, Int.reduceSub, Int.reduceMul, Int.reduceEq, Int.reduceNeg, ↓reduceIte, reduceCtorEq]
  simp -dsimp (disch := first | omega | (simp only [hl, List.length_cons, List.length_nil, List.length_map, List.length_append, List.length_take, List.length_drop, List.length_replicate, List.length_set, mkG_len] <;> omega) | fail) only [push_cast, if_pos, decide_eq_true, decide_eq_false, hl, Nat.reduceAdd, Nat.reduceSub, Nat.reduceMul, Nat.reduceBEq, Nat.reduceEqDiff, Nat.reduceLT, Nat.reduceLeDiff, Int.reduceToNat, Int.reduceLE, Int.reduceLT, Int.reduceAdd, Int.reduceSub, Int.reduceMul, Int.reduceEq, Int.reduceNeg, ↓reduceIte, reduceCtorEq]
  refine loop_ind (α := Nat) (fun i => i ≤ b.length ∧ a.take i = b.take i) (fun i => ⟨[(0, .sl false 1 (a.map strR)), (1, .sl false 1 (b.map strR)), (5, .sc (.int .i64 i))], [], 1⟩) (fun i => b.length - i) 0 ⟨Nat.zero_le _, rfl⟩ ?_ ?_
  · simp -dsimp (disch := first | omega | (simp only [List.length_cons, List.length_nil, List.length_map, List.length_append, List.length_take, List.length_drop, List.length_replicate, List.length_set, mkG_len] <;> omega) | fail) only [push_cast, if_pos, decide_eq_true, decide_eq_false, Nat.reduceAdd, Nat.reduceSub, Nat.reduceMul, Nat.reduceBEq, Nat.reduceEqDiff, Nat.reduceLT, Nat.reduceLeDiff, Int.reduceToNat, Int.reduceLE, Int.reduceLT, Int.reduceAdd, Int.reduceSub, Int.reduceMul, Int.reduceEq, Int.reduceNeg, ↓reduceIte, reduceCtorEq]
  intro i hi ih
  by_cases h : i < b.length
  · obtain ⟨x, hx⟩ := ex_get (hl ▸ h : i < a.length)
    obtain ⟨y, hy⟩ := ex_get h
    by_cases e : x = y
    · (simp -dsimp (disch := first | omega | (simp only [hx, hy, strR, e, List.length_cons, List.length_nil, List.length_map, List.length_append, List.length_take, List.length_drop, List.length_replicate, List.length_set, mkG_len] <;> omega) | fail) only [push_cast, if_pos, decide_eq_true, decide_eq_false, hx, hy, strR, e, Nat.reduceAdd, Nat.reduceSub, Nat.reduceMul, Nat.reduceBEq, Nat.reduceEqDiff, Nat.reduceLT, Nat.reduceLeDiff, Int.reduceToNat, Int.reduceLE, Int.reduceLT, Int.reduceAdd, Int.reduceSub, Int.reduceMul, Int.reduceEq, Int.reduceNeg, ↓reduceIte, reduceCtorEq]) <;> (repeat (refine (aw_draw (by kernel_rfl)).2 ?_; simp -dsimp (disch := first | omega | (simp only [hx, hy, strR, e, List.length_cons, List.length_nil, List.length_map, List.length_append, List.length_take, List.length_drop, List.length_replicate, List.length_set, mkG_len] <;> omega) | fail) only [push_cast, if_pos, decide_eq_true, decide_eq_false, hx, hy, strR, e, Nat.reduceAdd, Nat.reduceSub, Nat.reduceMul, Nat.reduceBEq, Nat.reduceEqDiff, Nat.reduceLT, Nat.reduceLeDiff, Int.reduceToNat, Int.reduceLE, Int.reduceLT, Int.reduceAdd, Int.reduceSub, Int.reduceMul, Int.reduceEq, Int.reduceNeg, ↓reduceIte, reduceCtorEq]))
      refine ih (i + 1) _ (by omega) ⟨h, by rw [take_step hx, take_step hy, hi.2, e]⟩ ?_
      simp -dsimp (disch := first | omega | (simp only [wr_id, List.length_cons, List.length_nil, List.length_map, List.length_append, List.length_take, List.length_drop, List.length_replicate, List.length_set, mkG_len] <;> omega) | fail) only [push_cast, if_pos, decide_eq_true, decide_eq_false, wr_id, Nat.reduceAdd, Nat.reduceSub, Nat.reduceMul, Nat.reduceBEq, Nat.reduceEqDiff, Nat.reduceLT, Nat.reduceLeDiff, Int.reduceToNat, Int.reduceLE, Int.reduceLT, Int.reduceAdd, Int.reduceSub, Int.reduceMul, Int.reduceEq, Int.reduceNeg, ↓reduceIte, reduceCtorEq]
    · have : a ≠ b := fun h' => e (by rw [h', hy] at hx; cases hx; rfl)
      (simp -dsimp (disch := first | omega | (simp only [hx, hy, strR, e, this, List.length_cons, List.length_nil, List.length_map, List.length_append, List.length_take, List.length_drop, List.length_replicate, List.length_set, mkG_len] <;> omega) | fail) only [push_cast, if_pos, decide_eq_true, decide_eq_false, hx, hy, strR, e, this, Nat.reduceAdd, Nat.reduceSub, Nat.reduceMul, Nat.reduceBEq, Nat.reduceEqDiff, Nat.reduceLT, Nat.reduceLeDiff, Int.reduceToNat, Int.reduceLE, Int.reduceLT, Int.reduceAdd, Int.reduceSub, Int.reduceMul, Int.reduceEq, Int.reduceNeg, ↓reduceIte, reduceCtorEq]) <;> (repeat (refine (aw_draw (by kernel_rfl)).2 ?_; simp -dsimp (disch := first | omega | (simp only [hx, hy, strR, e, this, List.length_cons, List.length_nil, List.length_map, List.length_append, List.length_take, List.length_drop, List.length_replicate, List.length_set, mkG_len] <;> omega) | fail) only [push_cast, if_pos, decide_eq_true, decide_eq_false, hx, hy, strR, e, this, Nat.reduceAdd, Nat.reduceSub, Nat.reduceMul, Nat.reduceBEq, Nat.reduceEqDiff, Nat.reduceLT, Nat.reduceLeDiff, Int.reduceToNat, Int.reduceLE, Int.reduceLT, Int.reduceAdd, Int.reduceSub, Int.reduceMul, Int.reduceEq, Int.reduceNeg, ↓reduceIte, reduceCtorEq]))
  · have : a = b := by
      have := hi.2
      rwa [List.take_of_length_le (by omega), List.take_of_length_le (by omega)] at this
    simp -dsimp (disch := first | omega | (simp only [this, List.length_cons, List.length_nil, List.length_map, List.length_append, List.length_take, List.length_drop, List.length_replicate, List.length_set, mkG_len] <;> omega) | fail) only [push_cast, if_pos, decide_eq_true, decide_eq_false, this, Nat.reduceAdd, Nat.reduceSub, Nat.reduceMul, Nat.reduceBEq, Nat.reduceEqDiff, Nat.reduceLT, Nat.reduceLeDiff, Int.reduceToNat, Int.reduceLE, Int.reduceLT, Int.reduceAdd, Int.reduceSub, Int.reduceMul, Int.reduceEq, Int.reduceNeg, ↓reduceIte, reduceCtorEq]
def E70 : Env := { T := T0, kp := look [(0, [0]), (1, [0]), (2, []), (3, [0]), (4, [0, 3]), (5, [0, 3]), (6, [0, 3]), (7, [3])] }
attribute [local push_cast] E70
theorem markText (k : Int) (hk : k < 2305843009213693952) : Does Tryd.prog 70 [.sc (.int .i64 k)] (.sc (.string (mtx k)), []) := by
  refine does_of (E := E70) (rs := [.tmp 2]) (lent := []) tOk rfl Tryd.func70 rfl (by decide) rfl rfl (Nat.le_of_ble_eq_true rfl) (Nat.le_of_ble_eq_true rfl) ?_
  by_cases h0 : k ≤ 0
  · simp -dsimp (disch := first | omega | (simp only [mtx, List.length_cons, List.length_nil, List.length_map, List.length_append, List.length_take, List.length_drop, List.length_replicate, List.length_set, mkG_len] <;> omega) | fail) only [push_cast, if_pos, decide_eq_true, decide_eq_false, mtx, Nat.reduceAdd, Nat.reduceSub, Nat.reduceMul, Nat.reduceBEq, Nat.reduceEqDiff, Nat.reduceLT, Nat.reduceLeDiff, Int.reduceToNat, Int.reduceLE, Int.reduceLT, Int.reduceAdd, Int.reduceSub, Int.reduceMul, Int.reduceEq, Int.reduceNeg, ↓reduceIte, reduceCtorEq]
    rfl
  obtain ⟨n, rfl⟩ : ∃ n : Nat, k = n := ⟨k.toNat, by omega⟩
  simp -dsimp (disch := first | omega | (simp only [List.length_cons, List.length_nil, List.length_map, List.length_append, List.length_take, List.length_drop, List.length_replicate, List.length_set, mkG_len] <;> omega) | fail) only [push_cast, if_pos, decide_eq_true, decide_eq_false, Nat.reduceAdd, Nat.reduceSub, Nat.reduceMul, Nat.reduceBEq, Nat.reduceEqDiff, Nat.reduceLT, Nat.reduceLeDiff, Int.reduceToNat, Int.reduceLE, Int.reduceLT, Int.reduceAdd, Int.reduceSub, Int.reduceMul, Int.reduceEq, Int.reduceNeg, ↓reduceIte, reduceCtorEq]
  refine loop_ind (α := Nat × List Int) (fun p => p.1 < 2305843009213693952 ∧ dig n = dig p.1 ++ p.2) (fun p => ⟨[(0, .sc (.int .i64 p.1)), (3, .sc (.string (strN p.2)))], [], 1⟩) (fun p => p.1) (n, []) ⟨by simp only []; omega, by simp⟩ ?_ ?_
  · simp -dsimp (disch := first | omega | (simp only [strN, List.length_cons, List.length_nil, List.length_map, List.length_append, List.length_take, List.length_drop, List.length_replicate, List.length_set, mkG_len] <;> omega) | fail) only [push_cast, if_pos, decide_eq_true, decide_eq_false, strN, Nat.reduceAdd, Nat.reduceSub, Nat.reduceMul, Nat.reduceBEq, Nat.reduceEqDiff, Nat.reduceLT, Nat.reduceLeDiff, Int.reduceToNat, Int.reduceLE, Int.reduceLT, Int.reduceAdd, Int.reduceSub, Int.reduceMul, Int.reduceEq, Int.reduceNeg, ↓reduceIte, reduceCtorEq]
  rintro ⟨m, l⟩ ⟨hm, hl⟩ ih
  dsimp only at hm hl
  have hn := dig_len n
  have hs : 1 + (l.length : Int) ≤ 4611686018427387904 := by rw [hl, List.length_append] at hn; omega
  by_cases h : m = 0
  · subst h
    rw [show dig 0 = [] by unfold dig; rfl] at hl
    have e : mtx n = strN [109] ++ strN l := by unfold mtx; rw [if_neg h0, Int.toNat_natCast, hl, strN_app]; rfl
    simp -dsimp (disch := first | omega | (simp only [e, show (⟨#[109]⟩ : ByteArray) = strN [109] from rfl, strN_size, List.length_cons, List.length_nil, List.length_map, List.length_append, List.length_take, List.length_drop, List.length_replicate, List.length_set, mkG_len] <;> omega) | fail) only [push_cast, if_pos, decide_eq_true, decide_eq_false, e, show (⟨#[109]⟩ : ByteArray) = strN [109] from rfl, strN_size, Nat.reduceAdd, Nat.reduceSub, Nat.reduceMul, Nat.reduceBEq, Nat.reduceEqDiff, Nat.reduceLT, Nat.reduceLeDiff, Int.reduceToNat, Int.reduceLE, Int.reduceLT, Int.reduceAdd, Int.reduceSub, Int.reduceMul, Int.reduceEq, Int.reduceNeg, ↓reduceIte, reduceCtorEq]
  · have e1 : ((m : Int).tmod 10) = (m : Int) % 10 := rfl
    have e2 : wr .u8 (48 + (m : Int) % 10) = 48 + (m : Int) % 10 := by rw [wr_u8]; omega
    have e3 : ((m : Int).tdiv 10) = (m : Int) / 10 := rfl
    simp -dsimp (disch := first | omega | (simp only [wr_id, e1, e2, e3, strN_one, strN_size, strN_app, List.length_cons, List.length_nil, List.length_map, List.length_append, List.length_take, List.length_drop, List.length_replicate, List.length_set, mkG_len] <;> omega) | fail) only [push_cast, if_pos, decide_eq_true, decide_eq_false, wr_id, e1, e2, e3, strN_one, strN_size, strN_app, Nat.reduceAdd, Nat.reduceSub, Nat.reduceMul, Nat.reduceBEq, Nat.reduceEqDiff, Nat.reduceLT, Nat.reduceLeDiff, Int.reduceToNat, Int.reduceLE, Int.reduceLT, Int.reduceAdd, Int.reduceSub, Int.reduceMul, Int.reduceEq, Int.reduceNeg, ↓reduceIte, reduceCtorEq]
    refine ih (m / 10, (48 + (m : Int) % 10) :: l) _ (by simp; omega) ⟨by simp only []; omega, ?_⟩ ?_
    · rw [hl]; conv => lhs; unfold dig; rw [dif_neg h]
      simp
    · simp -dsimp (disch := first | omega | (simp only [List.length_cons, List.length_nil, List.length_map, List.length_append, List.length_take, List.length_drop, List.length_replicate, List.length_set, mkG_len] <;> omega) | fail) only [push_cast, if_pos, decide_eq_true, decide_eq_false, Nat.reduceAdd, Nat.reduceSub, Nat.reduceMul, Nat.reduceBEq, Nat.reduceEqDiff, Nat.reduceLT, Nat.reduceLeDiff, Int.reduceToNat, Int.reduceLE, Int.reduceLT, Int.reduceAdd, Int.reduceSub, Int.reduceMul, Int.reduceEq, Int.reduceNeg, ↓reduceIte, reduceCtorEq]

def E49 : Env := { T := T0, kp := look [(0, [0, 1]), (1, [0, 1]), (2, [0, 1, 5]), (3, [0, 1, 5]), (4, [0, 1, 5]), (5, [0, 1, 5]), (6, [0, 1])] }
attribute [local push_cast] E49
theorem markStringS (l : List Str) (k : Int) (k0 : 0 ≤ k) (k1 : k + cnG c1 l < 2305843009213693952) : Does Tryd.prog 49 [.sl true 1 (l.map strR), .sc (.int .i64 k)] (.sc (.int .i64 (k + cnG c1 l)), [some (.sl true 1 ((mkG mkStr c1 l k).map strR))]) := by
  refine does_of (E := E49) (rs := [.tmp 4]) (lent := [true]) tOk rfl Tryd.func49 rfl (by decide) rfl rfl (Nat.le_of_ble_eq_true rfl) (Nat.le_of_ble_eq_true rfl) ?_
  have hM := mkG_len mkStr c1 l k
  generalize hm : mkG mkStr c1 l k = M at hM ⊢
  rw [cn1] at k1 ⊢
  simp -dsimp (disch := first | omega | (simp only [List.length_cons, List.length_nil, List.length_map, List.length_append, List.length_take, List.length_drop, List.length_replicate, List.length_set, mkG_len] <;> omega) | fail) only [push_cast, if_pos, decide_eq_true, decide_eq_false, Nat.reduceAdd, Nat.reduceSub, Nat.reduceMul, Nat.reduceBEq, Nat.reduceEqDiff, Nat.reduceLT, Nat.reduceLeDiff, Int.reduceToNat, Int.reduceLE, Int.reduceLT, Int.reduceAdd, Int.reduceSub, Int.reduceMul, Int.reduceEq, Int.reduceNeg, ↓reduceIte, reduceCtorEq]
  refine loop_ind (α := Nat) (fun i => i ≤ l.length) (fun i => ⟨[(0, .ow 1 0 l.length), (1, .sc (.int .i64 (k + i))), (5, .sc (.int .i64 i))], [(1, .ar 1 0 ((M.take i ++ l.drop i).map strR))], 2⟩) (fun i => l.length - i) 0 (Nat.zero_le _) ?_ ?_
  · simp -dsimp (disch := first | omega | (simp only [Int.add_zero, List.take_zero, List.drop_zero, List.length_cons, List.length_nil, List.length_map, List.length_append, List.length_take, List.length_drop, List.length_replicate, List.length_set, mkG_len] <;> omega) | fail) only [push_cast, if_pos, decide_eq_true, decide_eq_false, Int.add_zero, List.take_zero, List.drop_zero, Nat.reduceAdd, Nat.reduceSub, Nat.reduceMul, Nat.reduceBEq, Nat.reduceEqDiff, Nat.reduceLT, Nat.reduceLeDiff, Int.reduceToNat, Int.reduceLE, Int.reduceLT, Int.reduceAdd, Int.reduceSub, Int.reduceMul, Int.reduceEq, Int.reduceNeg, ↓reduceIte, reduceCtorEq]
  intro i hi ih
  by_cases h : i < l.length
  · obtain ⟨s, hx⟩ := ex_get h
    have hw := (get_over (a := M) (b := l) hM (by omega)).trans hx
    have hy : M[i]? = some (mtx (k + i)) := by rw [← hm, mkG_step hx, cn1, List.length_take, Nat.min_eq_left (by omega)]
    have ee := congrArg (List.map strR) (set_over hM hy)
    rw [List.map_set] at ee
    simp -dsimp (disch := first | omega | (simp only [List.length_cons, List.length_nil, List.length_map, List.length_append, List.length_take, List.length_drop, List.length_replicate, List.length_set, mkG_len] <;> omega) | fail) only [push_cast, if_pos, decide_eq_true, decide_eq_false, Nat.reduceAdd, Nat.reduceSub, Nat.reduceMul, Nat.reduceBEq, Nat.reduceEqDiff, Nat.reduceLT, Nat.reduceLeDiff, Int.reduceToNat, Int.reduceLE, Int.reduceLT, Int.reduceAdd, Int.reduceSub, Int.reduceMul, Int.reduceEq, Int.reduceNeg, ↓reduceIte, reduceCtorEq]
    refine callC (markText _ (by omega)) ?_
    simp -dsimp (disch := first | omega | (simp only [hw, List.length_cons, List.length_nil, List.length_map, List.length_append, List.length_take, List.length_drop, List.length_replicate, List.length_set, mkG_len] <;> omega) | fail) only [push_cast, if_pos, decide_eq_true, decide_eq_false, hw, Nat.reduceAdd, Nat.reduceSub, Nat.reduceMul, Nat.reduceBEq, Nat.reduceEqDiff, Nat.reduceLT, Nat.reduceLeDiff, Int.reduceToNat, Int.reduceLE, Int.reduceLT, Int.reduceAdd, Int.reduceSub, Int.reduceMul, Int.reduceEq, Int.reduceNeg, ↓reduceIte, reduceCtorEq]
    refine ih (i + 1) _ (by omega) h ?_
    unfold strR at ee ⊢
    simp -dsimp (disch := first | omega | (simp only [wr_id, ee, Int.add_assoc, List.length_cons, List.length_nil, List.length_map, List.length_append, List.length_take, List.length_drop, List.length_replicate, List.length_set, mkG_len] <;> omega) | fail) only [push_cast, if_pos, decide_eq_true, decide_eq_false, wr_id, ee, Int.add_assoc, Nat.reduceAdd, Nat.reduceSub, Nat.reduceMul, Nat.reduceBEq, Nat.reduceEqDiff, Nat.reduceLT, Nat.reduceLeDiff, Int.reduceToNat, Int.reduceLE, Int.reduceLT, Int.reduceAdd, Int.reduceSub, Int.reduceMul, Int.reduceEq, Int.reduceNeg, ↓reduceIte, reduceCtorEq]
  · have hn : i = l.length := by omega
    subst hn
    simp -dsimp (disch := first | omega | (simp only [List.take_of_length_le, List.drop_eq_nil_of_le, hM, Nat.le_refl, List.length_cons, List.length_nil, List.length_map, List.length_append, List.length_take, List.length_drop, List.length_replicate, List.length_set, mkG_len] <;> omega) | fail) only [push_cast, if_pos, decide_eq_true, decide_eq_false, List.take_of_length_le, List.drop_eq_nil_of_le, hM, Nat.le_refl, Nat.reduceAdd, Nat.reduceSub, Nat.reduceMul, Nat.reduceBEq, Nat.reduceEqDiff, Nat.reduceLT, Nat.reduceLeDiff, Int.reduceToNat, Int.reduceLE, Int.reduceLT, Int.reduceAdd, Int.reduceSub, Int.reduceMul, Int.reduceEq, Int.reduceNeg, ↓reduceIte, reduceCtorEq]
def E50 : Env := { T := T0, kp := look [(0, [0, 1]), (1, [0, 1]), (2, [0, 1, 5]), (3, [0, 1, 5]), (4, [0, 1, 5]), (5, []), (6, [0, 1, 5]), (7, [1])], dp := look2 [(4, [[], [], [0, 1], [0, 1, 2], [], [4], [0, 1, 2, 3, 4, 5]])] }
attribute [local push_cast] E50
theorem heldStringS (l : List Str) (k : Int) (k0 : 0 ≤ k) (k1 : k + cnG c1 l < 2305843009213693952) : Does Tryd.prog 50 [.sl false 1 (l.map strR), .sc (.int .i64 k)] (.sc (.int .i64 (hdG hdStr c1 l k)), []) := by
  refine does_of (E := E50) (rs := [.tmp 4]) (lent := []) tOk rfl Tryd.func50 rfl (by decide) rfl rfl (Nat.le_of_ble_eq_true rfl) (Nat.le_of_ble_eq_true rfl) ?_
  generalize hm : hdG hdStr c1 l k = M
  rw [cn1] at k1
  simp -dsimp (disch := first | omega | (simp only [List.length_cons, List.length_nil, List.length_map, List.length_append, List.length_take, List.length_drop, List.length_replicate, List.length_set, mkG_len] <;> omega) | fail) only [push_cast, if_pos, decide_eq_true, decide_eq_false, Nat.reduceAdd, Nat.reduceSub, Nat.reduceMul, Nat.reduceBEq, Nat.reduceEqDiff, Nat.reduceLT, Nat.reduceLeDiff, Int.reduceToNat, Int.reduceLE, Int.reduceLT, Int.reduceAdd, Int.reduceSub, Int.reduceMul, Int.reduceEq, Int.reduceNeg, ↓reduceIte, reduceCtorEq]
  refine loop_ind (α := Nat) (fun i => i ≤ l.length ∧ hdG hdStr c1 (l.drop i) (k + i) = M) (fun i => ⟨[(0, .sl false 1 (l.map strR)), (1, .sc (.int .i64 (k + i))), (5, .sc (.int .i64 i))], [], 1⟩) (fun i => l.length - i) 0 ⟨Nat.zero_le _, by simpa using hm⟩ ?_ ?_
  · simp -dsimp (disch := first | omega | (simp only [Int.add_zero, List.length_cons, List.length_nil, List.length_map, List.length_append, List.length_take, List.length_drop, List.length_replicate, List.length_set, mkG_len] <;> omega) | fail) only [push_cast, if_pos, decide_eq_true, decide_eq_false, Int.add_zero, Nat.reduceAdd, Nat.reduceSub, Nat.reduceMul, Nat.reduceBEq, Nat.reduceEqDiff, Nat.reduceLT, Nat.reduceLeDiff, Int.reduceToNat, Int.reduceLE, Int.reduceLT, Int.reduceAdd, Int.reduceSub, Int.reduceMul, Int.reduceEq, Int.reduceNeg, ↓reduceIte, reduceCtorEq]
  rintro i ⟨hi, hy⟩ ih
  by_cases h : i < l.length
  · obtain ⟨s, hx⟩ := ex_get h
    rw [drop_step hx, hdG] at hy
    (simp -dsimp (disch := first | omega | (simp only [hx, List.length_cons, List.length_nil, List.length_map, List.length_append, List.length_take, List.length_drop, List.length_replicate, List.length_set, mkG_len] <;> omega) | fail) only [push_cast, if_pos, decide_eq_true, decide_eq_false, hx, Nat.reduceAdd, Nat.reduceSub, Nat.reduceMul, Nat.reduceBEq, Nat.reduceEqDiff, Nat.reduceLT, Nat.reduceLeDiff, Int.reduceToNat, Int.reduceLE, Int.reduceLT, Int.reduceAdd, Int.reduceSub, Int.reduceMul, Int.reduceEq, Int.reduceNeg, ↓reduceIte, reduceCtorEq]) <;> (repeat (refine (aw_draw (by kernel_rfl)).2 ?_; simp -dsimp (disch := first | omega | (simp only [hx, List.length_cons, List.length_nil, List.length_map, List.length_append, List.length_take, List.length_drop, List.length_replicate, List.length_set, mkG_len] <;> omega) | fail) only [push_cast, if_pos, decide_eq_true, decide_eq_false, hx, Nat.reduceAdd, Nat.reduceSub, Nat.reduceMul, Nat.reduceBEq, Nat.reduceEqDiff, Nat.reduceLT, Nat.reduceLeDiff, Int.reduceToNat, Int.reduceLE, Int.reduceLT, Int.reduceAdd, Int.reduceSub, Int.reduceMul, Int.reduceEq, Int.reduceNeg, ↓reduceIte, reduceCtorEq]))
    refine callC (markText _ (by omega)) ?_
    by_cases e : s = mtx (k + i)
    · rw [if_pos (by simp [e])] at hy
      simp -dsimp (disch := first | omega | (simp only [e, List.length_cons, List.length_nil, List.length_map, List.length_append, List.length_take, List.length_drop, List.length_replicate, List.length_set, mkG_len] <;> omega) | fail) only [push_cast, if_pos, decide_eq_true, decide_eq_false, e, Nat.reduceAdd, Nat.reduceSub, Nat.reduceMul, Nat.reduceBEq, Nat.reduceEqDiff, Nat.reduceLT, Nat.reduceLeDiff, Int.reduceToNat, Int.reduceLE, Int.reduceLT, Int.reduceAdd, Int.reduceSub, Int.reduceMul, Int.reduceEq, Int.reduceNeg, ↓reduceIte, reduceCtorEq]
      refine ih (i + 1) _ (by omega) ⟨h, by rw [← hy, show k + ((i + 1 : Nat) : Int) = k + i + c1 s by show _ = k + i + 1; omega]⟩ ?_
      simp -dsimp (disch := first | omega | (simp only [wr_id, Int.add_assoc, List.length_cons, List.length_nil, List.length_map, List.length_append, List.length_take, List.length_drop, List.length_replicate, List.length_set, mkG_len] <;> omega) | fail) only [push_cast, if_pos, decide_eq_true, decide_eq_false, wr_id, Int.add_assoc, Nat.reduceAdd, Nat.reduceSub, Nat.reduceMul, Nat.reduceBEq, Nat.reduceEqDiff, Nat.reduceLT, Nat.reduceLeDiff, Int.reduceToNat, Int.reduceLE, Int.reduceLT, Int.reduceAdd, Int.reduceSub, Int.reduceMul, Int.reduceEq, Int.reduceNeg, ↓reduceIte, reduceCtorEq]
    · rw [if_neg (by simp [e])] at hy
      simp -dsimp (disch := first | omega | (simp only [e, ← hy, List.length_cons, List.length_nil, List.length_map, List.length_append, List.length_take, List.length_drop, List.length_replicate, List.length_set, mkG_len] <;> omega) | fail) only [push_cast, if_pos, decide_eq_true, decide_eq_false, e, ← hy, Nat.reduceAdd, Nat.reduceSub, Nat.reduceMul, Nat.reduceBEq, Nat.reduceEqDiff, Nat.reduceLT, Nat.reduceLeDiff, Int.reduceToNat, Int.reduceLE, Int.reduceLT, Int.reduceAdd, Int.reduceSub, Int.reduceMul, Int.reduceEq, Int.reduceNeg, ↓reduceIte, reduceCtorEq]
  · rw [List.drop_eq_nil_of_le (by omega), hdG] at hy
    simp -dsimp (disch := first | omega | (simp only [← hy, List.length_cons, List.length_nil, List.length_map, List.length_append, List.length_take, List.length_drop, List.length_replicate, List.length_set, mkG_len] <;> omega) | fail) only [push_cast, if_pos, decide_eq_true, decide_eq_false, ← hy, Nat.reduceAdd, Nat.reduceSub, Nat.reduceMul, Nat.reduceBEq, Nat.reduceEqDiff, Nat.reduceLT, Nat.reduceLeDiff, Int.reduceToNat, Int.reduceLE, Int.reduceLT, Int.reduceAdd, Int.reduceSub, Int.reduceMul, Int.reduceEq, Int.reduceNeg, ↓reduceIte, reduceCtorEq]
end Go.Proofs.YtkpgdbicefahjaaDoor.Mx

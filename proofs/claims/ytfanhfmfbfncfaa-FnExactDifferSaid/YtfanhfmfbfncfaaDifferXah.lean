/- A machine over values for Go functions, proved sound, and functions run on it: texts V2, V3, B1, J1, V4, V6, Ty, B4, V8, F1. -/
import Derived.Below
import Derived.Deep.Slices
import Derived.ChangeArms
import Derived.WideShapes
import Derived.Test.YtfanhfmfbfncfaaProg
import Derived.Test.YtfanhfmfbfncfaaShC
import Derived.Test.YtfanhfmfbfncfaaDifferXag
/- Values: sizes, marks, lists that are filled. -/
namespace Go.Proofs.Ytfanhfmfbfncfaa.Mx
set_option linter.all false
open Go Go.RowKit
theorem drop_step {α : Type} {a : List α} {i : Nat} {x : α} (h : a[i]? = some x) : a.drop i = x :: a.drop (i + 1) := by
  obtain ⟨h1, h2⟩ := List.getElem?_eq_some_iff.1 h
  rw [List.drop_eq_getElem_cons h1, h2]
/-! sizes -/
def szG {α : Type} (f : α → Int → Int) : List α → Int → Int
  | [], x => x
  | a :: r, x => if f a x < 0 then -1 else szG f r (f a x)
def szL {α : Type} (f : α → Int → Int) (l : List α) (x : Int) : Int := if x - l.length < 0 then -1 else szG f l (x - l.length)
def szStr (s : Str) (x : Int) : Int := x - s.size
theorem szG_ok {α : Type} {f : α → Int → Int} {ok : α → Prop} (hf : ∀ a x, 0 ≤ f a x → f a x ≤ x ∧ (x ≤ 2097152 → ok a)) : ∀ (l : List α) (x : Int), 0 ≤ szG f l x → szG f l x ≤ x ∧ (x ≤ 2097152 → ∀ a ∈ l, ok a)
  | [], x, h => ⟨Int.le_refl _, fun _ => by simp⟩
  | a :: r, x, h => by
    unfold szG at h ⊢
    split at h
    · omega
    · rename_i hn
      rw [if_neg hn]
      have := szG_ok hf r _ h
      have h2 := hf a x (by omega)
      refine ⟨by omega, fun hx b hb => ?_⟩
      rcases List.mem_cons.1 hb with rfl | hb
      · exact h2.2 hx
      · exact this.2 (by omega) b hb
/-! marks -/
def dig (n : Nat) : List Int := if h : n = 0 then [] else dig (n / 10) ++ [48 + ((n % 10 : Nat) : Int)]
  termination_by n
  decreasing_by omega
theorem dig_len (n : Nat) : (dig n).length ≤ n := by
  induction n using Nat.strongRecOn with
  | _ n ih =>
    unfold dig
    split
    · simp
    · have := ih (n / 10) (by omega)
      rw [List.length_append, List.length_cons, List.length_nil]
      omega
def mtx (k : Int) : Str := if k ≤ 0 then strN [109, 48] else strN (109 :: dig k.toNat)
/-- marked, from k on, each taking c -/
def mkG {α : Type} (f : α → Int → α) (c : α → Int) : List α → Int → List α
  | [], _ => []
  | a :: r, k => f a k :: mkG f c r (k + c a)
def cnG {α : Type} (c : α → Int) : List α → Int
  | [] => 0
  | a :: r => c a + cnG c r
def hdG {α : Type} (f : α → Int → Bool) (c : α → Int) : List α → Int → Int
  | [], k => k
  | a :: r, k => if f a k = true then hdG f c r (k + c a) else -1
theorem mkG_len {α : Type} (f : α → Int → α) (c : α → Int) : ∀ (l : List α) (k : Int), (mkG f c l k).length = l.length
  | [], _ => rfl
  | a :: r, k => by rw [mkG, List.length_cons, List.length_cons, mkG_len f c r]
theorem cnG_nn {α : Type} {c : α → Int} (hc : ∀ a, 0 ≤ c a) : ∀ l : List α, 0 ≤ cnG c l
  | [] => Int.le_refl _
  | a :: r => by have := cnG_nn hc r; have := hc a; rw [cnG]; omega
theorem cnG_le {α : Type} {c : α → Int} {B : Int} : ∀ l : List α, (∀ a ∈ l, c a ≤ B) → cnG c l ≤ B * l.length
  | [], _ => by simp [cnG]
  | a :: r, h => by
    have := cnG_le r fun x hx => h x (List.mem_cons_of_mem _ hx)
    have := h a (List.mem_cons_self ..)
    rw [cnG, List.length_cons, Int.natCast_add, Int.mul_add]
    omega
theorem hdG_mkG {α : Type} {f : α → Int → α} {c : α → Int} {g : α → Int → Bool} (hg : ∀ a k, 0 ≤ k → g (f a k) k = true) (hc : ∀ a k, c (f a k) = c a) (hn : ∀ a, 0 ≤ c a) : ∀ (l : List α) (k : Int), 0 ≤ k → hdG g c (mkG f c l k) k = k + cnG c l
  | [], k, _ => by simp [mkG, hdG, cnG]
  | a :: r, k, h => by
    rw [mkG, hdG, if_pos (hg a k h), hc, hdG_mkG hg hc hn r _ (by have := hn a; omega), cnG]
    omega
theorem hdG_val {α : Type} {g : α → Int → Bool} {c : α → Int} : ∀ (l : List α) (k : Int), hdG g c l k = k + cnG c l ∨ hdG g c l k = -1
  | [], k => by simp [hdG, cnG]
  | a :: r, k => by
    rw [hdG, cnG]
    split
    · rcases hdG_val r (k + c a) with h | h
      · rw [h]; omega
      · exact .inr h
    · exact .inr rfl
theorem mkG_step {α : Type} {f : α → Int → α} {c : α → Int} : ∀ {l : List α} {i : Nat} {x : α} {k : Int}, l[i]? = some x → (mkG f c l k)[i]? = some (f x (k + cnG c (l.take i)))
  | [], i, x, k, h => by simp at h
  | a :: r, 0, x, k, h => by simp at h; subst h; simp [mkG, cnG]
  | a :: r, i + 1, x, k, h => by
    rw [List.getElem?_cons_succ] at h
    rw [mkG, List.getElem?_cons_succ, mkG_step h, List.take_succ_cons, cnG]
    congr 2
    omega
/-- a list that is overwritten from the left -/
theorem set_over {α : Type} {a b : List α} {i : Nat} {x : α} (hl : a.length = b.length) (h : a[i]? = some x) : (a.take i ++ b.drop i).set i x = a.take (i + 1) ++ b.drop (i + 1) := by
  have hi := (List.getElem?_eq_some_iff.1 h).1
  obtain ⟨y, hy⟩ := ex_get (hl ▸ hi : i < b.length)
  rw [take_step h, List.set_append_right _ _ (by simp [List.length_take]; omega), drop_step hy]
  simp [List.length_take, Nat.min_eq_left (Nat.le_of_lt hi)]
theorem get_over {α : Type} {a b : List α} {i : Nat} (hl : a.length = b.length) (hi : i ≤ a.length) : (a.take i ++ b.drop i)[i]? = b[i]? := by
  rw [List.getElem?_append_right (by simp; omega)]
  simp [List.length_take, Nat.min_eq_left hi]
end Go.Proofs.Ytfanhfmfbfncfaa.Mx
namespace Go.Proofs.Ytfanhfmfbfncfaa.Mx
set_option linter.all false
def hdOk {α : Type} (g : α → Int → Bool) (c : α → Int) (l : List α) (k : Int) : Bool := decide (0 ≤ hdG g c l k)
theorem hdOk_mk {α : Type} {f : α → Int → α} {c : α → Int} {g : α → Int → Bool} (hg : ∀ a k, 0 ≤ k → g (f a k) k = true) (hc : ∀ a k, c (f a k) = c a) (hn : ∀ a, 0 ≤ c a) (l : List α) (k : Int) (hk : 0 ≤ k) : hdOk g c (mkG f c l k) k = true := by
  have := cnG_nn hn l
  unfold hdOk
  rw [hdG_mkG hg hc hn l k hk]
  exact decide_eq_true (by omega)
theorem hdOk_val {α : Type} {g : α → Int → Bool} {c : α → Int} {l : List α} {k : Int} (h : hdOk g c l k = true) : hdG g c l k = k + cnG c l := by
  rcases hdG_val l k with e | e
  · exact e
  · unfold hdOk at h; rw [e] at h; exact absurd h (by decide)
theorem hdOk_not {α : Type} {g : α → Int → Bool} {c : α → Int} {l : List α} {k : Int} (hc : ∀ a, 0 ≤ c a) (hk : 0 ≤ k) (h : hdOk g c l k = false) : hdG g c l k = -1 := by
  rcases hdG_val (g := g) (c := c) l k with e | e
  · have := cnG_nn hc l
    unfold hdOk at h; rw [e] at h; exact absurd h (by simp; omega)
  · exact e
abbrev c1 {α : Type} (_ : α) : Int := 1
def okStr (s : Str) : Prop := s.size ≤ 2097152
def okL {α : Type} (ok : α → Prop) (l : List α) : Prop := l.length ≤ 2097152 ∧ ∀ a ∈ l, ok a
@[push_cast] theorem rd_String (l : List Str) : rdR (l.map strR) = l.map strR := by simp [rdR, strR, rdC]
@[push_cast] theorem flat_String (l : List Str) : flatR (l.map strR) = true := by simp [flatR, strR, isSc]
@[push_cast] theorem flat_num (l : List Int) : flatR (l.map numR) = true := by simp [flatR, numR, isSc]
@[push_cast] theorem own_String (l : List Str) : (l.map strR).all (fun row => row.all own2) = true := by simp [strR, own2]
attribute [push_cast] strR
theorem szL_ok {α : Type} {f : α → Int → Int} {ok : α → Prop} (hf : ∀ a x, 0 ≤ f a x → f a x ≤ x ∧ (x ≤ 2097152 → ok a)) (l : List α) (x : Int) (h : 0 ≤ szL f l x) : szL f l x ≤ x ∧ (x ≤ 2097152 → okL ok l) := by
  unfold szL at h ⊢
  split at h
  · omega
  · rename_i hn
    rw [if_neg hn]
    have := szG_ok hf l _ h
    exact ⟨by omega, fun hx => ⟨by omega, this.2 (by omega)⟩⟩
theorem szStr_ok (s : Str) (x : Int) (h : 0 ≤ szStr s x) : szStr s x ≤ x ∧ (x ≤ 2097152 → okStr s) := by
  unfold szStr at h ⊢
  exact ⟨by omega, fun _ => by unfold okStr; omega⟩
/-! what the model itself bounds -/
theorem cnG_ok {α : Type} {c : α → Int} {ok : α → Prop} {B : Int} (hB : 0 ≤ B) (h : ∀ a, ok a → c a ≤ B) {l : List α} (hl : okL ok l) : cnG c l ≤ B * 2097152 := by
  have := cnG_le l fun a ha => h a (hl.2 a ha)
  have h2 : B * l.length ≤ B * 2097152 := Int.mul_le_mul_of_nonneg_left (by have := hl.1; omega) hB
  omega
theorem c1_le {α : Type} {ok : α → Prop} (a : α) (_ : ok a) : c1 a ≤ 1 := Int.le_refl _
def bdStr (s : Str) : Prop := s.size ≤ 9223372036854775807
def bdL {α : Type} (bd : α → Prop) (l : List α) : Prop := l.length ≤ 9223372036854775807 ∧ ∀ a ∈ l, bd a
abbrev mkStr (_ : Str) (k : Int) : Str := mtx k
abbrev hdStr (a : Str) (k : Int) : Bool := decide (a = mtx k)
theorem hdmk_Str (a : Str) (k : Int) (_ : 0 ≤ k) : hdStr (mkStr a k) k = true := by simp
theorem cn1 {α : Type} (l : List α) : cnG (c1 (α := α)) l = l.length := by
  induction l with
  | nil => rfl
  | cons a r ih => rw [cnG, ih]; simp [c1]; omega
theorem cn1_mk {α : Type} (f : α → Int → α) (l : List α) (k : Int) : cnG c1 (mkG f c1 l k) = cnG c1 l := by rw [cn1, cn1, mkG_len]
theorem c1_nn {α : Type} (a : α) : (0 : Int) ≤ c1 a := by show (0 : Int) ≤ 1; decide
end Go.Proofs.Ytfanhfmfbfncfaa.Mx

/- The laws' data: as values; sizes, marks. (By fam.py of this session.) -/
namespace Go.Proofs.Ytfanhfmfbfncfaa.Mx
set_option linter.all false
open Go Go.RowKit
structure Item where
  t : Str
  u : Int
  deriving DecidableEq
@[push_cast] def itemC (_ : Bool) (x : Item) : Row := [.sc (.string x.t), .sc (.int .i64 x.u)]
def okItem (x : Item) : Prop := okStr x.t
@[push_cast] theorem flat_Item (o : Bool) (l : List Item) : flatR (l.map (itemC o)) = true := by simp [flatR, itemC, isSc]
@[push_cast] theorem own_Item (l : List Item) : (l.map (itemC true)).all (fun row => row.all own2) = true := by simp [itemC, own2]
@[push_cast] theorem own_Itemf (l : List Item) : (l.map (itemC false)).all (fun row => row.all own2) = true := by simp [itemC, own2]
@[push_cast] theorem rd_Item (o : Bool) (l : List Item) : rdR (l.map (itemC o)) = l.map (itemC false) := by simp [rdR, itemC, rdC]
structure Store where
  w : Int
  r : Int
  I : List Item
  P : List Str
  deriving DecidableEq
@[push_cast] def storeC (o : Bool) (x : Store) : Row := [.sc (.int .i64 x.w), .sc (.int .i64 x.r), .sl o 2 (x.I.map (itemC o)), .sl o 1 (x.P.map strR)]
def okStore (x : Store) : Prop := okL okItem x.I ∧ okL okStr x.P
@[push_cast] theorem own_Store (l : List Store) : (l.map (storeC true)).all (fun row => row.all own2) = true := by simp [storeC, own2, flat_Item, flat_String]
@[push_cast] theorem rd_Store (o : Bool) (l : List Store) : rdR (l.map (storeC o)) = l.map (storeC false) := by simp [rdR, storeC, rdC, itemC]
structure Note where
  fr : Str
  to : Str
  n : Int
  mix : Str
  has : Bool
  S : List Str
  deriving DecidableEq
@[push_cast] def noteC (o : Bool) (x : Note) : Row := [.sc (.string x.fr), .sc (.string x.to), .sc (.int .i64 x.n), .sc (.string x.mix), .sc (.bool x.has), .sl o 1 (x.S.map strR)]
@[push_cast] theorem own_Note (l : List Note) : (l.map (noteC true)).all (fun row => row.all own2) = true := by simp [noteC, own2, flat_String]
@[push_cast] theorem rd_Note (o : Bool) (l : List Note) : rdR (l.map (noteC o)) = l.map (noteC false) := by simp [rdR, noteC, rdC]
structure Talk where
  code : Int
  notes : Int
  A : List Str
  B : List Str
  deriving DecidableEq
@[push_cast] def talkC (o : Bool) (x : Talk) : Row := [.sc (.int .i64 x.code), .sc (.int .i64 x.notes), .sl o 1 (x.A.map strR), .sl o 1 (x.B.map strR)]
def okTalk (x : Talk) : Prop := okL okStr x.A ∧ okL okStr x.B
@[push_cast] theorem own_Talk (l : List Talk) : (l.map (talkC true)).all (fun row => row.all own2) = true := by simp [talkC, own2, flat_String, flat_String]
@[push_cast] theorem rd_Talk (o : Bool) (l : List Talk) : rdR (l.map (talkC o)) = l.map (talkC false) := by simp [rdR, talkC, rdC]
def smkTalk (a : Talk) (k : Int) : Talk := ⟨a.code, a.notes, mkG mkStr c1 a.A (k), mkG mkStr c1 a.B (k + cnG c1 a.A)⟩
def scnTalk (a : Talk) : Int := cnG c1 a.A + cnG c1 a.B
def shdTalk (a : Talk) (k : Int) : Bool := hdOk hdStr c1 a.A (k) && hdOk hdStr c1 a.B (k + cnG c1 a.A)
theorem scnTalk_nn (a : Talk) : 0 ≤ scnTalk a := by
  have := cnG_nn (c := c1) c1_nn a.A
  have := cnG_nn (c := c1) c1_nn a.B
  unfold scnTalk; omega
theorem scnmk_Talk (a : Talk) (k : Int) : scnTalk (smkTalk a k) = scnTalk a := by simp [scnTalk, smkTalk, cn1_mk, cn1_mk]
theorem shdmk_Talk (a : Talk) (k : Int) (hk : 0 ≤ k) : shdTalk (smkTalk a k) k = true := by
  have := cnG_nn (c := c1) c1_nn a.A
  have := cnG_nn (c := c1) c1_nn a.B
  simp only [shdTalk, smkTalk, Bool.and_eq_true, decide_eq_true_eq, true_and, and_true, beq_self_eq_true, cn1_mk, cn1_mk]
  exact ⟨(hdOk_mk hdmk_Str (fun _ _ => rfl) c1_nn _ _ (by omega)), (hdOk_mk hdmk_Str (fun _ _ => rfl) c1_nn _ _ (by omega))⟩
theorem scnTalk_le (a : Talk) (h : okTalk a) : scnTalk a ≤ 4194304 := by
  unfold okTalk at h
  have := cnG_ok (c := c1) (B := 1) (by decide) c1_le h.1
  have := cnG_ok (c := c1) (B := 1) (by decide) c1_le h.2
  unfold scnTalk; omega
structure Peer where
  lies : Int
  wait : Int
  last : Int
  ask : Str
  N : List Str
  deriving DecidableEq
@[push_cast] def peerC (o : Bool) (x : Peer) : Row := [.sc (.int .i64 x.lies), .sc (.int .i64 x.wait), .sc (.int .i64 x.last), .sc (.string x.ask), .sl o 1 (x.N.map strR)]
@[push_cast] theorem own_Peer (l : List Peer) : (l.map (peerC true)).all (fun row => row.all own2) = true := by simp [peerC, own2, flat_String]
@[push_cast] theorem rd_Peer (o : Bool) (l : List Peer) : rdR (l.map (peerC o)) = l.map (peerC false) := by simp [rdR, peerC, rdC]
structure Fetch where
  nm : Str
  now : Int
  full : Bool
  st : Store
  Q : List Peer
  deriving DecidableEq
@[push_cast] def fetchC (o : Bool) (x : Fetch) : Row := [.sc (.string x.nm), .sc (.int .i64 x.now), .sc (.bool x.full), .sc (.int .i64 x.st.w), .sc (.int .i64 x.st.r), .sl o 2 (x.st.I.map (itemC o)), .sl o 1 (x.st.P.map strR), .sl o 5 (x.Q.map (peerC o))]
structure Message where
  fr : Int
  to : Int
  sum : Str
  has : Bool
  tx : Str
  deriving DecidableEq
@[push_cast] def messageC (_ : Bool) (x : Message) : Row := [.sc (.int .i64 x.fr), .sc (.int .i64 x.to), .sc (.string x.sum), .sc (.bool x.has), .sc (.string x.tx)]
@[push_cast] theorem flat_Message (o : Bool) (l : List Message) : flatR (l.map (messageC o)) = true := by simp [flatR, messageC, isSc]
@[push_cast] theorem own_Message (l : List Message) : (l.map (messageC true)).all (fun row => row.all own2) = true := by simp [messageC, own2]
@[push_cast] theorem own_Messagef (l : List Message) : (l.map (messageC false)).all (fun row => row.all own2) = true := by simp [messageC, own2]
@[push_cast] theorem rd_Message (o : Bool) (l : List Message) : rdR (l.map (messageC o)) = l.map (messageC false) := by simp [rdR, messageC, rdC]
structure World where
  f : Fetch
  up : List Bool
  ss : List Store
  fl : List Message
  wa : Int
  deriving DecidableEq
end Go.Proofs.Ytfanhfmfbfncfaa.Mx

/- Out of the library's contracts: what only reads. -/
namespace Go.Proofs.Ytfanhfmfbfncfaa.Mx
set_option linter.all false
open Go Go.RowKit Go.Proofs
theorem does_pure {P : Program} {f : FuncId} {fn : Func} {c : Code} {avs : List AV} {v : Value} (hf : P.funcs[f]? = some fn) (hb : fn.body = some c) (hn : (fn.name == "runtime.NumGoroutine") = false) (hv : plain v = true)
    (H : ∀ (w : Go.World) (ok : Nat → Prop) (G : Fp) (args : List Value), ArgsRep w ok G args avs → Calls P f args.toArray w fun e w' => e = .returned v ∧ Below w.heap.size w w') : Does P f avs (.sc v, []) := by
  constructor
  intro w ok G args hA
  left
  have h1 : fn.name ≠ "runtime.NumGoroutine" := by simpa using hn
  refine ⟨by simp [callFunc, hf, h1, hb], (H w ok G args hA).mono fun e w' h => ?_⟩
  obtain ⟨rfl, hB⟩ := h
  refine ⟨fun _ _ => False, ⟨⟨hB.os, hB.tape, hB.output, hB.size, fun k hk _ => hB.block k hk⟩, Kp.old hB.block, fun _ _ _ h => h.elim, fun _ _ h => h.elim, ?_, fun i t h => by simp at h⟩⟩
  exact Own.rd _ _ _ (by intro z r h; cases h) (by intro cs h; cases h) (.sc v hv)
theorem rep_str {w : Go.World} {ok : Nat → Prop} {v : Value} {x : Str} (h : Rep w ok v (.sc (.string x))) : v = .string x := by cases h; rfl
theorem rep_strs {w : Go.World} {ok : Nat → Prop} {v : Value} {o : Bool} {l : List Str} (h : Rep w ok v (.sl o 1 (l.map strR))) :
    (l = [] ∧ ∃ A c, v = .slice A 0 c) ∨ ∃ b off cap, v = .slice (some ⟨b, off, none⟩) l.length cap ∧ l.length ≤ cap ∧ ok b ∧ ∀ i x, l[i]? = some x → w.cell? ⟨b, off + i, none⟩ = some (.string x) := by
  generalize hr : l.map strR = rows at h
  cases h with
  | nil => left; exact ⟨by simpa using hr, _, _, rfl⟩
  | emp => left; exact ⟨by simpa using hr, _, _, rfl⟩
  | sl _ _ b off cap _ vs h1 h2 h3 h4 h5 =>
    right
    subst hr
    refine ⟨b, off, cap, by rw [List.length_map], by simpa using h2, h1, fun i x hx => ?_⟩
    have hi : (l.map strR)[i]? = some [.sc (.string x)] := by rw [List.getElem?_map, hx]; rfl
    have a := (h4 i _ 0 _ hi rfl).1
    have b := rep_str (h5 i _ 0 _ hi rfl)
    rw [b] at a
    simpa using a
theorem own_rep {w : Go.World} {ok F : Nat → Prop} {v : Value} {x : AV} (h : Own w ok F v x) (h1 : ∀ z r, x ≠ .sl true z r) (h2 : ∀ cs, x ≠ .pb true cs) : Rep w ok v x := by
  cases h with
  | rd _ _ _ _ _ h => exact h
  | nil => exact (h1 _ _ rfl).elim
  | emp => exact (h1 _ _ rfl).elim
  | sl => exact (h1 _ _ rfl).elim
  | pb => exact (h2 _ rfl).elim
theorem args2 {w : Go.World} {ok : Nat → Prop} {G : Fp} {args : List Value} {x y : AV} (h : ArgsRep w ok G args [x, y]) : ∃ u v, args = [u, v] ∧ OwnA w ok (G 0) u x ∧ OwnA w ok (G 1) v y := by
  match args, h.len with
  | [u, v], _ => exact ⟨u, v, rfl, h.own 0 u x rfl rfl, h.own 1 v y rfl rfl⟩
end Go.Proofs.Ytfanhfmfbfncfaa.Mx

/- Arguments: whatever reads as data at a type is what the machine takes it for. -/
namespace Go.Proofs.Ytfanhfmfbfncfaa.Mx
set_option linter.all false
open Go Go.RowKit
open Go.ChangeShapes Go.WideShapes Go.Deep
set_option linter.unusedVariables false
def CellsR (W : Go.World) (cs : List Value) (row : Row) : Prop :=
  cs.length = row.length ∧ ∀ (j : Nat) (v : Value) (a : AV), cs[j]? = some v → row[j]? = some a → Rep W (fun b => b < W.heap.size) v a ∧ v.oneCell' = true ∧ (∀ z r, a ≠ .sl true z r) ∧ ∀ c, a ≠ .pb true c
def OpnA (P : Program) {α : Type} (f : α → Row) (t : TypeId) (Q : α → Prop) : Prop :=
  ∀ (H : Type) (enc : TypeId × Value → H) (W : Go.World) (base : Nat) (spare : Nat → Bool) (held : Bool) (fuel : Nat) (cs : List Value) (x : DataW H × List MemPlace),
    DataW.trod enc P W base spare held fuel t cs = some x → ∃ y, CellsR W cs (f y) ∧ Q y
theorem cellsR_one {W : Go.World} {v : Value} {a : AV} (h : Rep W (fun b => b < W.heap.size) v a) (h1 : v.oneCell' = true) (h2 : ∀ z r, a ≠ .sl true z r) (h3 : ∀ c, a ≠ .pb true c) : CellsR W [v] [a] :=
  ⟨rfl, fun j u b hu hb => by
    cases j with
    | zero => simp at hu hb; subst hu; subst hb; exact ⟨h, h1, h2, h3⟩
    | succ j => simp at hu⟩
theorem opn_string {P : Program} {t : TypeId} (hu : P.underlying t = some .string) : OpnA P strR t bdStr := by
  intro H enc W base spare held fuel cs x h
  obtain ⟨s, rfl, _, h2⟩ := DataW.trod_string hu h
  exact ⟨s, cellsR_one (.sc _ rfl) rfl (by intro z r h; cases h) (by intro c h; cases h), h2⟩
theorem list_of {α : Type} {p : Nat → α → Prop} : ∀ (n : Nat), (∀ i, i < n → ∃ y, p i y) → ∃ l : List α, l.length = n ∧ ∀ i y, l[i]? = some y → p i y
  | 0, _ => ⟨[], rfl, fun i y h => by simp at h⟩
  | n + 1, h => by
    obtain ⟨l, h1, h2⟩ := list_of n (fun i hi => h i (by omega))
    obtain ⟨y, hy⟩ := h n (by omega)
    refine ⟨l ++ [y], by simp [h1], fun i z hz => ?_⟩
    by_cases e : i < n
    · rw [List.getElem?_append_left (by omega)] at hz; exact h2 i z hz
    · rw [List.getElem?_append_right (by omega)] at hz
      have : i = n := by
        have := (List.getElem?_eq_some_iff.1 hz).1
        simp at this; omega
      subst this
      rw [h1] at hz; simp at hz; subst hz; exact hy
theorem opn_slice {P : Program} {α : Type} {f : α → Row} {z : Nat} {t e : TypeId} {Q : α → Prop} (hu : P.underlying t = some (.slice e)) (hc : P.cellsOf e = z) (hz : 1 ≤ z) (hf : ∀ y, (f y).length = z) (h : OpnA P f e Q) :
    OpnA P (fun l : List α => [.sl false z (l.map f)]) t (bdL Q) := by
  intro H enc W base spare held fuel cs x hx
  rcases open_slice hu hx with ⟨rfl, rfl⟩ | ⟨a, len, cap, m, n, D, Pl, rfl, hb, hl, hm, hmm, rfl, hel⟩
  · exact ⟨[], cellsR_one (.nil _ _) rfl (by intro z r h; cases h) (by intro c h; cases h), by simp [bdL]⟩
  · have hlm : len ≤ m := by rw [hmm]; split <;> omega
    subst hc
    have each : ∀ i, i < len → ∃ y : α, (∃ c : List Value, W.cells? base (a.add (i * P.cellsOf e)) (P.cellsOf e) = some c ∧ CellsR W c (f y)) ∧ Q y := by
      intro i hi
      obtain ⟨c, h1, h2⟩ := hel i (by omega)
      obtain ⟨y, h3, h4⟩ := h H enc W base spare held n c _ h2
      exact ⟨y, ⟨c, h1, h3⟩, h4⟩
    obtain ⟨l, ll, hl2⟩ := list_of len each
    have hmx : maxLen = 9223372036854775807 := rfl
    have hQ : bdL Q l := ⟨by omega, fun y hy => by
      obtain ⟨i, hi⟩ := List.getElem?_of_mem hy
      exact (hl2 i y hi).2⟩
    refine ⟨l, ?_, hQ⟩
    rcases Nat.eq_zero_or_pos len with h0 | h0
    · subst h0
      obtain rfl := List.eq_nil_of_length_eq_zero ll
      exact cellsR_one (.emp _ _ a cap) rfl (by intro z r h; cases h) (by intro c h; cases h)
    · -- the first cell tells that the address is plain
      have cell : ∀ i y j v, l[i]? = some y → (∃ c : List Value, W.cells? base (a.add (i * P.cellsOf e)) (P.cellsOf e) = some c ∧ c[j]? = some v) → W.cell? (a.add (i * P.cellsOf e + j)) = some v := by
        intro i y j v hi ⟨c, h1, h2⟩
        obtain ⟨_, h3, h4⟩ := World.cells?_some h1
        have := (List.getElem?_eq_some_iff.1 h2).1
        rw [← Deep.add_add, h4 j (by omega)]; exact h2
      obtain ⟨y0, hy0⟩ := (⟨_, List.getElem?_eq_getElem (by omega : 0 < l.length)⟩ : ∃ y, l[0]? = some y)
      obtain ⟨⟨c0, k1, k2⟩, _⟩ := hl2 0 y0 hy0
      have hc0 : 0 < c0.length := by rw [k2.1, hf]; exact hz
      have w0 := cell 0 y0 0 _ hy0 ⟨c0, k1, List.getElem?_eq_getElem hc0⟩
      obtain ⟨b, off, sp⟩ := a
      have hsp : sp = none := by
        cases sp with
        | none => rfl
        | some q =>
          simp [Addr.add, World.cell?] at w0
          split at w0 <;> simp at w0
      subst hsp
      have hadd : ∀ k, (⟨b, off, none⟩ : Addr).add k = ⟨b, off + k, none⟩ := fun k => by unfold Addr.add; split <;> simp_all
      have hblk : b < W.heap.size := by
        rw [hadd] at w0
        simp only [World.cell?] at w0
        cases hb2 : W.heap[b]? with
        | none => rw [hb2] at w0; simp at w0
        | some o => exact (Array.getElem?_eq_some_iff.1 hb2).1
      have hlen : (l.map f).length = len := by rw [List.length_map, ll]
      have row : ∀ (i : Nat) (r : Row), (l.map f)[i]? = some r → ∃ y, l[i]? = some y ∧ r = f y := fun i r hr => by
        rw [List.getElem?_map] at hr
        cases hy : l[i]? with
        | none => rw [hy] at hr; cases hr
        | some y => rw [hy] at hr; cases hr; exact ⟨y, rfl, rfl⟩
      have val : ∀ (i : Nat) (r : Row) (j : Nat) (x : AV), (l.map f)[i]? = some r → r[j]? = some x → ∃ v, W.cell? ⟨b, off + (i * P.cellsOf e + j), none⟩ = some v ∧ v.oneCell' = true ∧ Rep W (fun b => b < W.heap.size) v x := fun i r j x hi hj => by
        obtain ⟨y, hy, rfl⟩ := row i r hi
        obtain ⟨⟨c, m1, m2⟩, _⟩ := hl2 i y hy
        have hjc : j < c.length := by rw [m2.1]; exact (List.getElem?_eq_some_iff.1 hj).1
        have w1 := cell i y j _ hy ⟨c, m1, List.getElem?_eq_getElem hjc⟩
        rw [hadd] at w1
        obtain ⟨q1, q2, _⟩ := m2.2 j _ x (List.getElem?_eq_getElem hjc) hj
        exact ⟨_, w1, q2, q1⟩
      have fin := Rep.sl (w := W) (ok := fun b => b < W.heap.size) false (P.cellsOf e) b off cap (l.map f) (fun i j => (W.cell? ⟨b, off + (i * P.cellsOf e + j), none⟩).getD undef) hblk (by omega)
        (fun i r hr => by obtain ⟨y, _, rfl⟩ := row i r hr; exact hf y)
        (fun i r j x hi hj => by obtain ⟨v, v1, v2, _⟩ := val i r j x hi hj; rw [v1]; exact ⟨rfl, v2⟩)
        (fun i r j x hi hj => by obtain ⟨v, v1, _, v3⟩ := val i r j x hi hj; rw [v1]; exact v3)
      rw [hlen] at fin
      exact cellsR_one fin rfl (by intro z r h; cases h) (by intro c h; cases h)
section
variable {H : Type} {enc : TypeId × Value → H} {P : Program} {W : Go.World} {base b0 : Nat} {spare : Nat → Bool} {held : Bool} {t : TypeId} {v : Value} {D : DataW H} {ps : List MemPlace} {r : Reach}
theorem arg_slice {β : Type} {g : β → Row} {e : TypeId} {z : Nat} {Q : List β → Prop} (hu : P.underlying t = some (.slice e)) (hv : Value.okWide P W r b0 t v) (ht : DataW.Trod enc P W base spare held t v D ps) (h : OpnA P (fun l : List β => [.sl false z (l.map g)]) t Q) :
    ∃ l, OwnA W (fun b => b < W.heap.size) (fun _ => False) v (.sl false z (l.map g)) ∧ Q l := by
  obtain ⟨a, n, c, rfl⟩ := okWide_slice hu hv
  obtain ⟨fuel, hf⟩ := ht
  obtain ⟨l, h1, h2⟩ := h H enc W base spare held fuel _ _ hf
  obtain ⟨a1, _, a3, a4⟩ := h1.2 0 _ _ rfl rfl
  exact ⟨l, .rd _ _ _ a3 a4 a1, h2⟩
end
/-- a promise, as a call -/
theorem does_calls {P : Program} {f : FuncId} {fn : Func} {c : Code} {avs : List AV} {u : Value} (h : Does P f avs (.sc u, [])) (hf : P.funcs[f]? = some fn) (hb : fn.body = some c) (hn : (fn.name == "runtime.NumGoroutine") = false) {W : Go.World} {args : List Value}
    (hl : args.length = avs.length) (ha : ∀ (i : Nat) (v : Value) (x : AV), args[i]? = some v → avs[i]? = some x → OwnA W (fun b => b < W.heap.size) (fun _ => False) v x) :
    Calls P f args.toArray W fun e W' => e = .returned u ∧ Below W.heap.size W W' := by
  have h1 : fn.name ≠ "runtime.NumGoroutine" := by simpa using hn
  rcases h.m W (fun b => b < W.heap.size) (fun _ _ => False) args ⟨hl, ha, fun _ _ _ h => h.elim, fun _ _ h => h.elim, fun _ h => h⟩ with ⟨_, hc⟩ | ⟨v, w', H, hr, _⟩
  · refine hc.mono fun e W' he => ?_
    cases e with
    | returned v =>
      obtain ⟨H, hp⟩ := he
      have hv := hp.res
      have : v = u := by
        have := own_rep (show Own _ _ _ v (.sc u) from hv) (by intro z r h; cases h) (by intro c h; cases h)
        cases this; rfl
      exact ⟨by rw [this], ⟨hp.fr.os, hp.fr.tape, hp.fr.output, hp.fr.size, fun k hk => hp.fr.block k hk (by rintro ⟨_, h⟩; exact h)⟩⟩
    | _ => exact he.elim
  · simp [callFunc, hf, h1, hb] at hr
end Go.Proofs.Ytfanhfmfbfncfaa.Mx

/- Stores: what they mean. -/
namespace Go.Proofs.Ytfanhfmfbfncfaa.Mx
set_option linter.all false
open Go Go.RowKit
def aft (p : Option Str) (s : Str) : Bool := match p with | none => true | some q => lts q s
def ascF (w : Int) : Option Str → List Str → Bool
  | _, [] => true
  | p, s :: r => decide ((s.size : Int) = w) && aft p s && ascF w (some s) r
def bytes : List Item → Int
  | [] => 0
  | x :: r => x.t.size + bytes r
def inL (l : List Str) (s : Str) : Bool := l.any fun y => decide (y = s)
/-- where a text belongs in an ascending list -/
def rk : List Str → Str → Nat
  | [], _ => 0
  | y :: r, s => bif lts y s then rk r s + 1 else 0
def hasS (l : List Str) (s : Str) : Bool := decide (l[rk l s]? = some s)
def addS (l : List Str) (s : Str) : List Str := bif hasS l s then l else l.take (rk l s) ++ s :: l.drop (rk l s)
theorem rk_le : ∀ (l : List Str) (s : Str), rk l s ≤ l.length
  | [], _ => Nat.le_refl _
  | y :: r, s => by
    have := rk_le r s
    rw [rk, List.length_cons]
    cases lts y s <;> simp only [cond_true, cond_false] <;> omega
theorem rk_step {s x : Str} : ∀ {l : List Str} {i : Nat}, i ≤ rk l s → l[i]? = some x → lts x s = true → i + 1 ≤ rk l s
  | [], i, _, hx, _ => by simp at hx
  | a :: r, 0, hi, hx, h => by
    simp only [List.getElem?_cons_zero, Option.some.injEq] at hx
    subst hx
    rw [rk, h, cond_true]; omega
  | a :: r, i + 1, hi, hx, h => by
    rw [rk] at hi ⊢
    cases ha : lts a s with
    | true =>
      rw [ha, cond_true] at hi
      have := rk_step (l := r) (i := i) (by omega) (by simpa using hx) h
      rw [cond_true]; omega
    | false => rw [ha, cond_false] at hi; omega
theorem rk_all {s : Str} : ∀ {l : List Str} {i : Nat}, i < rk l s → ∃ x, l[i]? = some x ∧ lts x s = true
  | [], i, h => by simp [rk] at h
  | a :: r, i, h => by
    rw [rk] at h
    cases ha : lts a s with
    | true =>
      rw [ha, cond_true] at h
      cases i with
      | zero => exact ⟨a, rfl, ha⟩
      | succ i => exact rk_all (l := r) (i := i) (by omega)
    | false => rw [ha, cond_false] at h; omega
end Go.Proofs.Ytfanhfmfbfncfaa.Mx

/- Sets that differ: what is there, notes. -/
namespace Go.Proofs.Ytfanhfmfbfncfaa.Mx
set_option linter.all false
open Go Go.RowKit
def inT (fr to x : Str) : Bool := !lts x fr && (decide (to = em) || lts x to)
def thr (l : List Str) (fr to : Str) : List Str := l.filter (inT fr to)
def minusS (a b : List Str) : List Str := a.filter fun x => !inL b x
def jb (l : List Str) : List UInt8 := l.flatMap bt
def mixS (l : List Str) (w : Int) : Str := sumS ⟨(jb l).toArray⟩ w
def setB (l : List Str) (w : Int) : Bool := inB w 1 8 && decide (l.length ≤ 500) && ascF w none l
def emN : Note := ⟨em, em, 0, em, false, []⟩
def tellN (l : List Str) (fr to : Str) (w : Int) : Note := if setB l w = true then ⟨fr, to, (thr l fr to).length, mixS (thr l fr to) w, false, []⟩ else emN
/-- is the note a right one? -/
def noteB (l : List Str) (n : Note) (w : Int) : Bool :=
  setB l w && (decide (n.to = em) || lts n.fr n.to) && decide (0 ≤ n.n) &&
  (bif n.has then decide (n.n = 0) && decide (n.mix = em) && setB n.S w && decide ((thr n.S n.fr n.to).length = n.S.length) else decide (n.S.length = 0))
def hearN (l : List Str) (n : Note) (w : Int) : List Note × List Str × List Str :=
  if noteB l n w = false then ([], [], []) else
  if n.has = true then ([], minusS n.S (thr l n.fr n.to), minusS (thr l n.fr n.to) n.S) else
  if (thr l n.fr n.to).length = n.n ∧ mixS (thr l n.fr n.to) w = n.mix then ([], [], []) else
  if n.n ≤ 4 ∨ (thr l n.fr n.to).length ≤ 4 then ([⟨n.fr, n.to, 0, em, true, thr l n.fr n.to⟩], [], []) else
  ([tellN l n.fr ((thr l n.fr n.to).getD ((thr l n.fr n.to).length / 2) em) w, tellN l ((thr l n.fr n.to).getD ((thr l n.fr n.to).length / 2) em) n.to w], [], [])
theorem filter_step {α : Type} {p : α → Bool} {l : List α} {i : Nat} {x : α} (h : l[i]? = some x) : (l.take (i + 1)).filter p = (l.take i).filter p ++ (bif p x then [x] else []) := by
  rw [take_step h, List.filter_append]
  cases hp : p x <;> simp [hp]
theorem thr_len (l : List Str) (fr to : Str) : (thr l fr to).length ≤ l.length := List.length_filter_le ..
theorem jb_app (a b : List Str) : jb (a ++ b) = jb a ++ jb b := List.flatMap_append ..
theorem jb_one (x : Str) : jb [x] = bt x := by simp [jb]
theorem jb_len {l : List Str} {B : Nat} (h : ∀ x ∈ l, x.size ≤ B) : (jb l).length ≤ l.length * B := by
  induction l with
  | nil => simp [jb]
  | cons a r ih =>
    have := ih fun x hx => h x (List.mem_cons_of_mem _ hx)
    have h2 := h a (List.mem_cons_self ..)
    show (bt a ++ jb r).length ≤ _
    rw [List.length_append, bt_len, List.length_cons, Nat.add_mul]
    omega
/-! a map that holds texts -/
def mset (l : List Str) : List (Value × Value) := l.foldl (fun es x => kset es (.string x) (.bool true)) []
theorem kget_kset (es : List (Value × Value)) (x y : Str) (u : Value) : kget (kset es (.string x) u) (.string y) = if x = y then some u else kget es (.string y) := by
  induction es with
  | nil => by_cases h : x = y <;> simp [kset, kget, keq, eqs, h, eq_comm]
  | cons e r ih =>
    obtain ⟨k, v⟩ := e
    rw [kset, kget]
    cases hk : keq k (.string x) with
    | true =>
      rw [cond_true, kget]
      cases k <;> simp only [keq] at hk <;> try (cases hk; done)
      rename_i a
      have : x = a := by simpa [eqs] using hk
      subst this
      by_cases h : x = y
      · subst h; simp [keq, eqs]
      · have h3 : ¬ y = x := fun e => h e.symm
        simp [keq, eqs, h, h3]
    | false =>
      rw [cond_false, kget, ih]
      by_cases h : x = y
      · subst h
        rw [hk]; simp
      · simp [h]
theorem mset_get (l : List Str) (y : Str) : kget (mset l) (.string y) = if inL l y = true then some (.bool true) else none := by
  unfold mset
  have : ∀ (l : List Str) (es : List (Value × Value)), kget (l.foldl (fun es x => kset es (.string x) (.bool true)) es) (.string y) = if inL l y = true then some (.bool true) else kget es (.string y) := fun l => by
    induction l with
    | nil => intro es; simp [inL]
    | cons a r ih =>
      intro es
      rw [List.foldl_cons, ih, kget_kset]
      by_cases h1 : inL r y = true
      · have : inL (a :: r) y = true := by unfold inL at h1 ⊢; rw [List.any_cons, h1]; simp
        rw [if_pos h1, if_pos this]
      · rw [if_neg h1]
        by_cases h2 : a = y
        · have : inL (a :: r) y = true := by unfold inL; rw [List.any_cons]; simp [h2]
          rw [if_pos h2, if_pos this]
        · have : ¬ inL (a :: r) y = true := by unfold inL at h1 ⊢; rw [List.any_cons]; simp [h2]; simpa using h1
          rw [if_neg h2, if_neg this]
  rw [this]; rfl
theorem mset_step {l : List Str} {i : Nat} {x : Str} (h : l[i]? = some x) : mset (l.take (i + 1)) = kset (mset (l.take i)) (.string x) (.bool true) := by
  unfold mset; rw [take_step h, List.foldl_append]; rfl
def mok (es : List (Value × Value)) : Bool := es.all fun e => (match e.1 with | .string _ => true | _ => false) && (match e.2 with | .bool _ => true | _ => false)
theorem mok_kset {es : List (Value × Value)} (h : mok es = true) (x : Str) (b : Bool) : mok (kset es (.string x) (.bool b)) = true := by
  induction es with
  | nil => rfl
  | cons e r ih =>
    obtain ⟨k, v⟩ := e
    unfold mok at h ih ⊢
    rw [List.all_cons, Bool.and_eq_true] at h
    rw [kset]
    cases hk : keq k (.string x) with
    | true => rw [cond_true, List.all_cons, h.2]; simp at h ⊢; exact h.1.1
    | false => rw [cond_false, List.all_cons, ih h.2, h.1]; rfl
theorem mset_mok (l : List Str) : mok (mset l) = true := by
  unfold mset
  have : ∀ (l : List Str) (es : List (Value × Value)), mok es = true → mok (l.foldl (fun es x => kset es (.string x) (.bool true)) es) = true := fun l => by
    induction l with
    | nil => intro es h; exact h
    | cons a r ih => intro es h; exact ih _ (mok_kset h a true)
  exact this l [] rfl
theorem mok_kok {es : List (Value × Value)} (h : mok es = true) : kok .str es = true ∧ es.all (fun e => plain e.2) = true := by
  unfold mok at h
  unfold kok
  rw [List.all_eq_true] at h ⊢
  rw [List.all_eq_true]
  constructor
  · intro e he
    have := h e he
    obtain ⟨k, v⟩ := e
    cases k <;> simp at this ⊢
    simp [kkey]
  · intro e he
    have := h e he
    obtain ⟨k, v⟩ := e
    cases v <;> simp at this ⊢
    simp [plain]
end Go.Proofs.Ytfanhfmfbfncfaa.Mx

/- The types that the texts use: as the machine asks. -/
namespace Go.Proofs.Ytfanhfmfbfncfaa.Mx
set_option linter.all false
open Go Go.RowKit Go.Proofs
def T0 : Ty
  | 3 => some { kind := .int .i64, size := 1, bytes := 8, zero := [.int .i64 0], cz := [] }
  | 4 => some { kind := .bool, size := 1, bytes := 1, zero := [.bool false], cz := [] }
  | 5 => some { kind := .int .u8, size := 1, bytes := 1, zero := [.int .u8 0], cz := [] }
  | 9 => some { kind := .str, size := 1, bytes := 16, zero := [.string ⟨#[]⟩], cz := [] }
  | 22 => some { kind := .slice 141, size := 1, bytes := 24, zero := [.slice none 0 0], cz := [] }
  | 23 => some { kind := .slice 9, size := 1, bytes := 24, zero := [.slice none 0 0], cz := [] }
  | 25 => some { kind := .struct [(0, 3), (1, 3), (2, 22), (3, 23)], size := 4, bytes := 64, zero := [.int .i64 0, .int .i64 0, .slice none 0 0, .slice none 0 0], cz := [none, none, some 2, some 1] }
  | 27 => some { kind := .slice 143, size := 1, bytes := 24, zero := [.slice none 0 0], cz := [] }
  | 29 => some { kind := .struct [(0, 3), (1, 3), (2, 27), (3, 23)], size := 4, bytes := 64, zero := [.int .i64 0, .int .i64 0, .slice none 0 0, .slice none 0 0], cz := [none, none, some 2, some 1] }
  | 37 => some { kind := .struct [(0, 9), (1, 9), (2, 3), (3, 9), (4, 4), (5, 23)], size := 6, bytes := 88, zero := [.string ⟨#[]⟩, .string ⟨#[]⟩, .int .i64 0, .string ⟨#[]⟩, .bool false, .slice none 0 0], cz := [none, none, none, none, none, some 1] }
  | 40 => some { kind := .slice 44, size := 1, bytes := 24, zero := [.slice none 0 0], cz := [] }
  | 44 => some { kind := .struct [(0, 9), (1, 9), (2, 3), (3, 9), (4, 4), (5, 23)], size := 6, bytes := 88, zero := [.string ⟨#[]⟩, .string ⟨#[]⟩, .int .i64 0, .string ⟨#[]⟩, .bool false, .slice none 0 0], cz := [none, none, none, none, none, some 1] }
  | 52 => some { kind := .slice 113, size := 1, bytes := 24, zero := [.slice none 0 0], cz := [] }
  | 54 => some { kind := .struct [(0, 9), (1, 3), (2, 4), (3, 29), (7, 52)], size := 8, bytes := 120, zero := [.string ⟨#[]⟩, .int .i64 0, .bool false, .int .i64 0, .int .i64 0, .slice none 0 0, .slice none 0 0, .slice none 0 0], cz := [none, none, none, none, none, some 2, some 1, some 5] }
  | 59 => some { kind := .slice 160, size := 1, bytes := 24, zero := [.slice none 0 0], cz := [] }
  | 61 => some { kind := .struct [(0, 9), (1, 3), (2, 4), (3, 25), (7, 59)], size := 8, bytes := 120, zero := [.string ⟨#[]⟩, .int .i64 0, .bool false, .int .i64 0, .int .i64 0, .slice none 0 0, .slice none 0 0, .slice none 0 0], cz := [none, none, none, none, none, some 2, some 1, some 5] }
  | 62 => some { kind := .slice 4, size := 1, bytes := 24, zero := [.slice none 0 0], cz := [] }
  | 63 => some { kind := .slice 25, size := 1, bytes := 24, zero := [.slice none 0 0], cz := [] }
  | 64 => some { kind := .slice 153, size := 1, bytes := 24, zero := [.slice none 0 0], cz := [] }
  | 66 => some { kind := .struct [(0, 61), (8, 62), (9, 63), (10, 64), (11, 3)], size := 12, bytes := 200, zero := [.string ⟨#[]⟩, .int .i64 0, .bool false, .int .i64 0, .int .i64 0, .slice none 0 0, .slice none 0 0, .slice none 0 0, .slice none 0 0, .slice none 0 0, .slice none 0 0, .int .i64 0], cz := [none, none, none, none, none, some 2, some 1, some 5, some 1, some 4, some 5, none] }
  | 69 => some { kind := .slice 29, size := 1, bytes := 24, zero := [.slice none 0 0], cz := [] }
  | 70 => some { kind := .slice 120, size := 1, bytes := 24, zero := [.slice none 0 0], cz := [] }
  | 72 => some { kind := .struct [(0, 54), (8, 62), (9, 69), (10, 70), (11, 3)], size := 12, bytes := 200, zero := [.string ⟨#[]⟩, .int .i64 0, .bool false, .int .i64 0, .int .i64 0, .slice none 0 0, .slice none 0 0, .slice none 0 0, .slice none 0 0, .slice none 0 0, .slice none 0 0, .int .i64 0], cz := [none, none, none, none, none, some 2, some 1, some 5, some 1, some 4, some 5, none] }
  | 77 => some { kind := .struct [(0, 3), (1, 3), (2, 23), (3, 23)], size := 4, bytes := 64, zero := [.int .i64 0, .int .i64 0, .slice none 0 0, .slice none 0 0], cz := [none, none, some 1, some 1] }
  | 82 => some { kind := .slice 5, size := 1, bytes := 24, zero := [.slice none 0 0], cz := [] }
  | 113 => some { kind := .struct [(0, 3), (1, 3), (2, 3), (3, 9), (4, 23)], size := 5, bytes := 64, zero := [.int .i64 0, .int .i64 0, .int .i64 0, .string ⟨#[]⟩, .slice none 0 0], cz := [none, none, none, none, some 1] }
  | 120 => some { kind := .struct [(0, 3), (1, 3), (2, 9), (3, 4), (4, 9)], size := 5, bytes := 56, zero := [.int .i64 0, .int .i64 0, .string ⟨#[]⟩, .bool false, .string ⟨#[]⟩], cz := [] }
  | 126 => some { kind := .struct [(0, 44), (6, 4)], size := 7, bytes := 96, zero := [.string ⟨#[]⟩, .string ⟨#[]⟩, .int .i64 0, .string ⟨#[]⟩, .bool false, .slice none 0 0, .bool false], cz := [none, none, none, none, none, some 1, none] }
  | 127 => some { kind := .slice 126, size := 1, bytes := 24, zero := [.slice none 0 0], cz := [] }
  | 128 => some { kind := .map 9 4, size := 1, bytes := 8, zero := [.map none], cz := [] }
  | 132 => some { kind := .slice 3, size := 1, bytes := 24, zero := [.slice none 0 0], cz := [] }
  | 141 => some { kind := .struct [(0, 9), (1, 3)], size := 2, bytes := 24, zero := [.string ⟨#[]⟩, .int .i64 0], cz := [] }
  | 143 => some { kind := .struct [(0, 9), (1, 3)], size := 2, bytes := 24, zero := [.string ⟨#[]⟩, .int .i64 0], cz := [] }
  | 153 => some { kind := .struct [(0, 3), (1, 3), (2, 9), (3, 4), (4, 9)], size := 5, bytes := 56, zero := [.int .i64 0, .int .i64 0, .string ⟨#[]⟩, .bool false, .string ⟨#[]⟩], cz := [] }
  | 158 => some { kind := .struct [(0, 82), (1, 3)], size := 2, bytes := 32, zero := [.slice none 0 0, .int .i64 0], cz := [some 1, none] }
  | 160 => some { kind := .struct [(0, 3), (1, 3), (2, 3), (3, 9), (4, 23)], size := 5, bytes := 64, zero := [.int .i64 0, .int .i64 0, .int .i64 0, .string ⟨#[]⟩, .slice none 0 0], cz := [none, none, none, none, some 1] }
  | 163 => some { kind := .int .u64, size := 1, bytes := 8, zero := [.int .u64 0], cz := [] }
  | _ => none
@[push_cast] theorem T0_3 : T0 3 = some { kind := .int .i64, size := 1, bytes := 8, zero := [.int .i64 0], cz := [] } := rfl
@[push_cast] theorem T0_4 : T0 4 = some { kind := .bool, size := 1, bytes := 1, zero := [.bool false], cz := [] } := rfl
@[push_cast] theorem T0_5 : T0 5 = some { kind := .int .u8, size := 1, bytes := 1, zero := [.int .u8 0], cz := [] } := rfl
@[push_cast] theorem T0_9 : T0 9 = some { kind := .str, size := 1, bytes := 16, zero := [.string ⟨#[]⟩], cz := [] } := rfl
@[push_cast] theorem T0_22 : T0 22 = some { kind := .slice 141, size := 1, bytes := 24, zero := [.slice none 0 0], cz := [] } := rfl
@[push_cast] theorem T0_23 : T0 23 = some { kind := .slice 9, size := 1, bytes := 24, zero := [.slice none 0 0], cz := [] } := rfl
@[push_cast] theorem T0_25 : T0 25 = some { kind := .struct [(0, 3), (1, 3), (2, 22), (3, 23)], size := 4, bytes := 64, zero := [.int .i64 0, .int .i64 0, .slice none 0 0, .slice none 0 0], cz := [none, none, some 2, some 1] } := rfl
@[push_cast] theorem T0_27 : T0 27 = some { kind := .slice 143, size := 1, bytes := 24, zero := [.slice none 0 0], cz := [] } := rfl
@[push_cast] theorem T0_29 : T0 29 = some { kind := .struct [(0, 3), (1, 3), (2, 27), (3, 23)], size := 4, bytes := 64, zero := [.int .i64 0, .int .i64 0, .slice none 0 0, .slice none 0 0], cz := [none, none, some 2, some 1] } := rfl
@[push_cast] theorem T0_37 : T0 37 = some { kind := .struct [(0, 9), (1, 9), (2, 3), (3, 9), (4, 4), (5, 23)], size := 6, bytes := 88, zero := [.string ⟨#[]⟩, .string ⟨#[]⟩, .int .i64 0, .string ⟨#[]⟩, .bool false, .slice none 0 0], cz := [none, none, none, none, none, some 1] } := rfl
@[push_cast] theorem T0_40 : T0 40 = some { kind := .slice 44, size := 1, bytes := 24, zero := [.slice none 0 0], cz := [] } := rfl
@[push_cast] theorem T0_44 : T0 44 = some { kind := .struct [(0, 9), (1, 9), (2, 3), (3, 9), (4, 4), (5, 23)], size := 6, bytes := 88, zero := [.string ⟨#[]⟩, .string ⟨#[]⟩, .int .i64 0, .string ⟨#[]⟩, .bool false, .slice none 0 0], cz := [none, none, none, none, none, some 1] } := rfl
@[push_cast] theorem T0_52 : T0 52 = some { kind := .slice 113, size := 1, bytes := 24, zero := [.slice none 0 0], cz := [] } := rfl
@[push_cast] theorem T0_54 : T0 54 = some { kind := .struct [(0, 9), (1, 3), (2, 4), (3, 29), (7, 52)], size := 8, bytes := 120, zero := [.string ⟨#[]⟩, .int .i64 0, .bool false, .int .i64 0, .int .i64 0, .slice none 0 0, .slice none 0 0, .slice none 0 0], cz := [none, none, none, none, none, some 2, some 1, some 5] } := rfl
@[push_cast] theorem T0_59 : T0 59 = some { kind := .slice 160, size := 1, bytes := 24, zero := [.slice none 0 0], cz := [] } := rfl
@[push_cast] theorem T0_61 : T0 61 = some { kind := .struct [(0, 9), (1, 3), (2, 4), (3, 25), (7, 59)], size := 8, bytes := 120, zero := [.string ⟨#[]⟩, .int .i64 0, .bool false, .int .i64 0, .int .i64 0, .slice none 0 0, .slice none 0 0, .slice none 0 0], cz := [none, none, none, none, none, some 2, some 1, some 5] } := rfl
@[push_cast] theorem T0_62 : T0 62 = some { kind := .slice 4, size := 1, bytes := 24, zero := [.slice none 0 0], cz := [] } := rfl
@[push_cast] theorem T0_63 : T0 63 = some { kind := .slice 25, size := 1, bytes := 24, zero := [.slice none 0 0], cz := [] } := rfl
@[push_cast] theorem T0_64 : T0 64 = some { kind := .slice 153, size := 1, bytes := 24, zero := [.slice none 0 0], cz := [] } := rfl
@[push_cast] theorem T0_66 : T0 66 = some { kind := .struct [(0, 61), (8, 62), (9, 63), (10, 64), (11, 3)], size := 12, bytes := 200, zero := [.string ⟨#[]⟩, .int .i64 0, .bool false, .int .i64 0, .int .i64 0, .slice none 0 0, .slice none 0 0, .slice none 0 0, .slice none 0 0, .slice none 0 0, .slice none 0 0, .int .i64 0], cz := [none, none, none, none, none, some 2, some 1, some 5, some 1, some 4, some 5, none] } := rfl
@[push_cast] theorem T0_69 : T0 69 = some { kind := .slice 29, size := 1, bytes := 24, zero := [.slice none 0 0], cz := [] } := rfl
@[push_cast] theorem T0_70 : T0 70 = some { kind := .slice 120, size := 1, bytes := 24, zero := [.slice none 0 0], cz := [] } := rfl
@[push_cast] theorem T0_72 : T0 72 = some { kind := .struct [(0, 54), (8, 62), (9, 69), (10, 70), (11, 3)], size := 12, bytes := 200, zero := [.string ⟨#[]⟩, .int .i64 0, .bool false, .int .i64 0, .int .i64 0, .slice none 0 0, .slice none 0 0, .slice none 0 0, .slice none 0 0, .slice none 0 0, .slice none 0 0, .int .i64 0], cz := [none, none, none, none, none, some 2, some 1, some 5, some 1, some 4, some 5, none] } := rfl
@[push_cast] theorem T0_77 : T0 77 = some { kind := .struct [(0, 3), (1, 3), (2, 23), (3, 23)], size := 4, bytes := 64, zero := [.int .i64 0, .int .i64 0, .slice none 0 0, .slice none 0 0], cz := [none, none, some 1, some 1] } := rfl
@[push_cast] theorem T0_82 : T0 82 = some { kind := .slice 5, size := 1, bytes := 24, zero := [.slice none 0 0], cz := [] } := rfl
@[push_cast] theorem T0_113 : T0 113 = some { kind := .struct [(0, 3), (1, 3), (2, 3), (3, 9), (4, 23)], size := 5, bytes := 64, zero := [.int .i64 0, .int .i64 0, .int .i64 0, .string ⟨#[]⟩, .slice none 0 0], cz := [none, none, none, none, some 1] } := rfl
@[push_cast] theorem T0_120 : T0 120 = some { kind := .struct [(0, 3), (1, 3), (2, 9), (3, 4), (4, 9)], size := 5, bytes := 56, zero := [.int .i64 0, .int .i64 0, .string ⟨#[]⟩, .bool false, .string ⟨#[]⟩], cz := [] } := rfl
@[push_cast] theorem T0_126 : T0 126 = some { kind := .struct [(0, 44), (6, 4)], size := 7, bytes := 96, zero := [.string ⟨#[]⟩, .string ⟨#[]⟩, .int .i64 0, .string ⟨#[]⟩, .bool false, .slice none 0 0, .bool false], cz := [none, none, none, none, none, some 1, none] } := rfl
@[push_cast] theorem T0_127 : T0 127 = some { kind := .slice 126, size := 1, bytes := 24, zero := [.slice none 0 0], cz := [] } := rfl
@[push_cast] theorem T0_128 : T0 128 = some { kind := .map 9 4, size := 1, bytes := 8, zero := [.map none], cz := [] } := rfl
@[push_cast] theorem T0_132 : T0 132 = some { kind := .slice 3, size := 1, bytes := 24, zero := [.slice none 0 0], cz := [] } := rfl
@[push_cast] theorem T0_141 : T0 141 = some { kind := .struct [(0, 9), (1, 3)], size := 2, bytes := 24, zero := [.string ⟨#[]⟩, .int .i64 0], cz := [] } := rfl
@[push_cast] theorem T0_143 : T0 143 = some { kind := .struct [(0, 9), (1, 3)], size := 2, bytes := 24, zero := [.string ⟨#[]⟩, .int .i64 0], cz := [] } := rfl
@[push_cast] theorem T0_153 : T0 153 = some { kind := .struct [(0, 3), (1, 3), (2, 9), (3, 4), (4, 9)], size := 5, bytes := 56, zero := [.int .i64 0, .int .i64 0, .string ⟨#[]⟩, .bool false, .string ⟨#[]⟩], cz := [] } := rfl
@[push_cast] theorem T0_158 : T0 158 = some { kind := .struct [(0, 82), (1, 3)], size := 2, bytes := 32, zero := [.slice none 0 0, .int .i64 0], cz := [some 1, none] } := rfl
@[push_cast] theorem T0_160 : T0 160 = some { kind := .struct [(0, 3), (1, 3), (2, 3), (3, 9), (4, 23)], size := 5, bytes := 64, zero := [.int .i64 0, .int .i64 0, .int .i64 0, .string ⟨#[]⟩, .slice none 0 0], cz := [none, none, none, none, some 1] } := rfl
@[push_cast] theorem T0_163 : T0 163 = some { kind := .int .u64, size := 1, bytes := 8, zero := [.int .u64 0], cz := [] } := rfl
theorem tOk : TOk Try.prog T0 := by
  intro t ti h
  unfold T0 at h
  split at h <;> cases h
  · exact tyOk_one Try.type3 rfl rfl rfl rfl rfl (by decide) rfl Try.underlying3 rfl rfl rfl rfl
  · exact tyOk_one Try.type4 rfl rfl rfl rfl rfl (by decide) rfl Try.underlying4 rfl rfl rfl rfl
  · exact tyOk_one Try.type5 rfl rfl rfl rfl rfl (by decide) rfl Try.underlying5 rfl rfl rfl rfl
  · exact tyOk_one Try.type9 rfl rfl rfl rfl rfl (by decide) rfl Try.underlying9 rfl rfl rfl rfl
  · exact tyOk_one Try.type22 rfl rfl rfl rfl rfl (by decide) rfl Try.underlying22 rfl rfl rfl rfl
  · exact tyOk_one Try.type23 rfl rfl rfl rfl rfl (by decide) rfl Try.underlying23 rfl rfl rfl rfl
  · exact tyOk_str (info_of Try.type25) rfl rfl rfl rfl rfl rfl ⟨_, Try.underlying25, rfl⟩ rfl (flds_ok (by kernel_rfl)) rfl rfl rfl
  · exact tyOk_one Try.type27 rfl rfl rfl rfl rfl (by decide) rfl Try.underlying27 rfl rfl rfl rfl
  · exact tyOk_str (info_of Try.type29) rfl rfl rfl rfl rfl rfl ⟨_, Try.underlying29, rfl⟩ rfl (flds_ok (by kernel_rfl)) rfl rfl rfl
  · exact tyOk_str (info_of Try.type37) rfl rfl rfl rfl rfl rfl ⟨_, Try.underlying37, rfl⟩ rfl (flds_ok (by kernel_rfl)) rfl rfl rfl
  · exact tyOk_one Try.type40 rfl rfl rfl rfl rfl (by decide) rfl Try.underlying40 rfl rfl rfl rfl
  · exact tyOk_str (info_of Try.type44) rfl rfl rfl rfl rfl rfl ⟨_, Try.underlying44, rfl⟩ rfl (flds_ok (by kernel_rfl)) rfl rfl rfl
  · exact tyOk_one Try.type52 rfl rfl rfl rfl rfl (by decide) rfl Try.underlying52 rfl rfl rfl rfl
  · exact tyOk_str (info_of Try.type54) rfl rfl rfl rfl rfl rfl ⟨_, Try.underlying54, rfl⟩ rfl (flds_ok (by kernel_rfl)) rfl rfl rfl
  · exact tyOk_one Try.type59 rfl rfl rfl rfl rfl (by decide) rfl Try.underlying59 rfl rfl rfl rfl
  · exact tyOk_str (info_of Try.type61) rfl rfl rfl rfl rfl rfl ⟨_, Try.underlying61, rfl⟩ rfl (flds_ok (by kernel_rfl)) rfl rfl rfl
  · exact tyOk_one Try.type62 rfl rfl rfl rfl rfl (by decide) rfl Try.underlying62 rfl rfl rfl rfl
  · exact tyOk_one Try.type63 rfl rfl rfl rfl rfl (by decide) rfl Try.underlying63 rfl rfl rfl rfl
  · exact tyOk_one Try.type64 rfl rfl rfl rfl rfl (by decide) rfl Try.underlying64 rfl rfl rfl rfl
  · exact tyOk_str (info_of Try.type66) rfl rfl rfl rfl rfl rfl ⟨_, Try.underlying66, rfl⟩ rfl (flds_ok (by kernel_rfl)) rfl rfl rfl
  · exact tyOk_one Try.type69 rfl rfl rfl rfl rfl (by decide) rfl Try.underlying69 rfl rfl rfl rfl
  · exact tyOk_one Try.type70 rfl rfl rfl rfl rfl (by decide) rfl Try.underlying70 rfl rfl rfl rfl
  · exact tyOk_str (info_of Try.type72) rfl rfl rfl rfl rfl rfl ⟨_, Try.underlying72, rfl⟩ rfl (flds_ok (by kernel_rfl)) rfl rfl rfl
  · exact tyOk_str (info_of Try.type77) rfl rfl rfl rfl rfl rfl ⟨_, Try.underlying77, rfl⟩ rfl (flds_ok (by kernel_rfl)) rfl rfl rfl
  · exact tyOk_one Try.type82 rfl rfl rfl rfl rfl (by decide) rfl Try.underlying82 rfl rfl rfl rfl
  · exact tyOk_str (info_of Try.type113) rfl rfl rfl rfl rfl rfl ⟨_, Try.underlying113, rfl⟩ rfl (flds_ok (by kernel_rfl)) rfl rfl rfl
  · exact tyOk_str (info_of Try.type120) rfl rfl rfl rfl rfl rfl ⟨_, Try.underlying120, rfl⟩ rfl (flds_ok (by kernel_rfl)) rfl rfl rfl
  · exact tyOk_str (info_of Try.type126) rfl rfl rfl rfl rfl rfl ⟨_, Try.underlying126, rfl⟩ rfl (flds_ok (by kernel_rfl)) rfl rfl rfl
  · exact tyOk_one Try.type127 rfl rfl rfl rfl rfl (by decide) rfl Try.underlying127 rfl rfl rfl rfl
  · exact tyOk_one Try.type128 rfl rfl rfl rfl rfl (by decide) rfl Try.underlying128 rfl rfl rfl rfl
  · exact tyOk_one Try.type132 rfl rfl rfl rfl rfl (by decide) rfl Try.underlying132 rfl rfl rfl rfl
  · exact tyOk_str (info_of Try.type141) rfl rfl rfl rfl rfl rfl ⟨_, Try.underlying141, rfl⟩ rfl (flds_ok (by kernel_rfl)) rfl rfl rfl
  · exact tyOk_str (info_of Try.type143) rfl rfl rfl rfl rfl rfl ⟨_, Try.underlying143, rfl⟩ rfl (flds_ok (by kernel_rfl)) rfl rfl rfl
  · exact tyOk_str (info_of Try.type153) rfl rfl rfl rfl rfl rfl ⟨_, Try.underlying153, rfl⟩ rfl (flds_ok (by kernel_rfl)) rfl rfl rfl
  · exact tyOk_str (info_of Try.type158) rfl rfl rfl rfl rfl rfl ⟨_, Try.underlying158, rfl⟩ rfl (flds_ok (by kernel_rfl)) rfl rfl rfl
  · exact tyOk_str (info_of Try.type160) rfl rfl rfl rfl rfl rfl ⟨_, Try.underlying160, rfl⟩ rfl (flds_ok (by kernel_rfl)) rfl rfl rfl
  · exact tyOk_one Try.type163 rfl rfl rfl rfl rfl (by decide) rfl Try.underlying163 rfl rfl rfl rfl
end Go.Proofs.Ytfanhfmfbfncfaa.Mx

/- sort.Strings. -/
namespace Go.Proofs.Ytfanhfmfbfncfaa.Mx
set_option linter.all false
open Go Go.RowKit Go.Proofs Go.Sort
/-- names in their order -/
def srtB (l : List Str) : List (List UInt8) := (l.map (·.data.toList)).mergeSort fun x y => decide (x ≤ y)
def srt (l : List Str) : List Str := (srtB l).map fun b => ⟨b.toArray⟩
theorem srt_nil : srt [] = [] := by simp [srt, srtB]
theorem srtB_len (l : List Str) : (srtB l).length = l.length := by simp [srtB]
theorem srt_len (l : List Str) : (srt l).length = l.length := by simp [srt, srtB_len]
theorem args1 {w : Go.World} {ok : Nat → Prop} {G : Fp} {args : List Value} {x : AV} (h : ArgsRep w ok G args [x]) : ∃ u, args = [u] ∧ OwnA w ok (G 0) u x := by
  match args, h.len with
  | [u], _ => exact ⟨u, rfl, h.own 0 u x rfl rfl⟩
theorem post_same {w : Go.World} {ok : Nat → Prop} {G : Fp} {u : Value} {x : AV} (h : ∀ w' ok', Own w' ok' (fun _ => False) u x) : ∃ H, Post w ok G [u] (.tu [], [some x]) (.tuple #[]) w H := by
  refine ⟨fun _ _ => False, ⟨⟨rfl, rfl, rfl, Nat.le_refl _, fun _ _ _ => rfl⟩, Kp.refl _, fun _ _ _ h => h.elim, fun _ _ h => h.elim, ?_, fun i t hi => ?_⟩⟩
  · exact ⟨[], fun _ _ => False, rfl, rfl, fun _ _ h => h, fun _ _ _ h => h.elim, fun j v x hv => by simp at hv⟩
  · cases i with
    | zero =>
      simp at hi; subst hi
      refine ⟨u, rfl, ?_⟩
      cases x with
      | ag cs => have := h w (fun _ => True); cases this with | rd _ _ _ _ _ hr => cases hr
      | _ => exact h _ _
    | succ i => simp at hi
theorem doesSort (l : List Str) (hl : l.length < 4611686018427387904) : Does Try.prog 124 [.sl true 1 (l.map strR)] (.tu [], [some (.sl true 1 ((srt l).map strR))]) := by
  constructor
  intro w ok G args hA
  left
  refine ⟨by simp [callFunc, Try.func124]; rfl, ?_⟩
  obtain ⟨u, rfl, h0⟩ := args1 hA
  have h0' : Own w ok (G 0) u (.sl true 1 (l.map strR)) := h0
  generalize hr : l.map strR = rows at h0'
  cases h0' with
  | rd _ _ _ h1 => exact (h1 _ _ rfl).elim
  | nil =>
    have : l = [] := by simpa using hr
    subst this
    refine (Any.sort_Strings_none Try.lays192 none 0 w).mono fun e w' hh => ?_
    obtain ⟨rfl, rfl⟩ := hh
    rw [srt_nil]; exact post_same fun w ok => Own.nil _ _
  | emp _ _ b off =>
    have : l = [] := by simpa using hr
    subst this
    refine (Any.sort_Strings_none Try.lays192 (some ⟨b, off, none⟩) 0 w).mono fun e w' hh => ?_
    obtain ⟨rfl, rfl⟩ := hh
    rw [srt_nil]; exact post_same fun w ok => Own.emp _ _ _ _
  | sl _ _ b off cap _ cur e fr Fs f1 f2 f3 f4 f5 f6 f7 f8 f9 f10 f11 =>
    subst hr
    simp only [List.length_map] at *
    have hcell : ∀ i x, l[i]? = some x → cur.getD (off + i) undef = .string x := by
      intro i x hx
      have hi : (l.map strR)[i]? = some [.sc (.string x)] := by rw [List.getElem?_map, hx]; rfl
      have a := f11 i _ 0 _ hi rfl
      simp only [Nat.mul_one, Nat.add_zero] at a
      exact rep_str (own_rep a (by intro z r h; cases h) (by intro cs h; cases h))
    have hH : Holds encStr w b off (l.map (·.data.toList)).toArray := by
      intro j hj
      simp only [List.size_toArray, List.length_map] at hj
      refine ⟨?_, frozen_at f2 f3 (by omega)⟩
      rw [cell_some f2 (by omega), hcell j l[j] (List.getElem?_eq_getElem hj)]
      simp [encStr, hj]
    have z := Any.sort_Strings Try.lays192 b off cap (l.map (·.data.toList)) w hH (Array.getElem?_eq_some_iff.1 f2).1 (by simpa using hl)
    rw [List.length_map] at z
    change Calls _ _ _ _ (fun e w' => e = _ ∧ ∃ n os, w' = grow (putRow encStr (Sort.ahead w n) b off (srtB l).toArray) os) at z
    refine z.mono fun e' w' hh => ?_
    obtain ⟨rfl, n, os, rfl⟩ := hh
    have hsz : (grow (putRow encStr (Sort.ahead w n) b off (srtB l).toArray) os).heap.size = w.heap.size + os.size := by simp
    have hbw := (Array.getElem?_eq_some_iff.1 f2).1
    have hb' : (grow (putRow encStr (Sort.ahead w n) b off (srtB l).toArray) os).heap[b]? = some (.cells (putCells encStr off (srtB l).toArray cur) e fr) := by
      simp only [grow]
      rw [Array.getElem?_append_left (by simpa using hbw)]
      simp [putRow, mapBlock, Array.getElem?_modify, f2, onCells, Sort.ahead]
    have hoth : ∀ k, k < w.heap.size → k ≠ b → (grow (putRow encStr (Sort.ahead w n) b off (srtB l).toArray) os).heap[k]? = w.heap[k]? := by
      intro k hk hkb
      simp only [grow]
      rw [Array.getElem?_append_left (by simpa using hk)]
      simp [putRow, mapBlock, Sort.ahead, Array.getElem?_modify, Ne.symm hkb]
    have hcs : (putCells encStr off (srtB l).toArray cur).size = cur.size := by simp [putCells]
    refine ⟨fun i k => i = 1 ∧ k = b, ⟨⟨rfl, rfl, rfl, by rw [hsz]; omega, fun k hk hm => hoth k hk fun hkb => hm ⟨0, hkb ▸ f1⟩⟩, ?_, fun i j _ h h' => h.1.trans h'.1.symm, fun i k h => ⟨by rw [hsz, h.2]; omega, .inr ⟨0, h.2 ▸ f1⟩⟩, ?_, fun i t hi => ?_⟩⟩
    · intro k c e1 fr1 hk
      by_cases hkb : k = b
      · subst hkb
        rw [f2] at hk; cases hk
        exact ⟨_, hb', hcs⟩
      · exact ⟨c, (hoth k (Array.getElem?_eq_some_iff.1 hk).1 hkb).trans hk, rfl⟩
    · exact ⟨[], fun _ _ => False, rfl, rfl, fun _ _ h => h.elim, fun _ _ _ h => h.elim, fun j v x hv => by simp at hv⟩
    · cases i with
      | succ i => simp at hi
      | zero =>
        simp at hi; subst hi
        refine ⟨_, rfl, ?_⟩
        show Own _ _ _ _ _
        have hlen : ((srt l).map strR).length = l.length := by rw [List.length_map, srt_len]
        have hget : ∀ (i : Nat) (row : Row) (j : Nat) (x : AV), ((srt l).map strR)[i]? = some row → row[j]? = some x → ∃ s, (putCells encStr off (srtB l).toArray cur).getD (off + (i * 1 + j)) undef = .string s ∧ x = .sc (.string s) := by
          intro i row j x hi hj
          have hil : i < l.length := by have := idx_lt hi; rw [hlen] at this; exact this
          rw [List.getElem?_map, srt, List.getElem?_map] at hi
          have hiB : i < (srtB l).length := by rw [srtB_len]; exact hil
          rw [List.getElem?_eq_getElem hiB] at hi
          cases hi
          cases j with
          | succ j => simp [strR] at hj
          | zero =>
            cases hj
            refine ⟨_, ?_, rfl⟩
            have hc : off + i < cur.size := by omega
            simp [putCells, hc, hiB, encStr]
        rw [← hlen]
        refine Own.sl _ 1 b off cap _ (putCells encStr off (srtB l).toArray cur) e fr (fun _ _ _ => False) ⟨rfl, rfl⟩ hb' (by unfold Thawed; rw [hcs]; exact f3) (by rw [hlen]; exact f4) (by rw [hcs]; exact f5) f6 (fun _ _ _ h => h.elim) (fun _ _ _ _ _ h => h.elim) ?_ ?_ ?_
        · intro i row hi
          rw [List.getElem?_map] at hi
          cases hq : (srt l)[i]? with
          | none => rw [hq] at hi; cases hi
          | some s => rw [hq] at hi; cases hi; rfl
        · intro i row j x hi hj
          obtain ⟨s, h1, rfl⟩ := hget i row j x hi hj
          rw [h1]; rfl
        · intro i row j x hi hj
          obtain ⟨s, h1, rfl⟩ := hget i row j x hi hj
          rw [h1]
          exact Own.rd _ _ _ (by intro z r h; cases h) (by intro cs h; cases h) (.sc _ rfl)
end Go.Proofs.Ytfanhfmfbfncfaa.Mx

/- Sets of texts: how they grow, their keys in order. -/
namespace Go.Proofs.Ytfanhfmfbfncfaa.Mx
set_option linter.all false
open Go Go.RowKit
attribute [local instance 100000] instBEqOfDecidableEq
def pT (s : Str) : Value × Value := (.string s, .bool true)
def ins (l : List Str) (s : Str) : List Str := if s ∈ l then l else l ++ [s]
theorem kset_ins (l : List Str) (s : Str) : kset (l.map pT) (.string s) (.bool true) = (ins l s).map pT := by
  unfold ins
  induction l with
  | nil => simp [kset, pT]
  | cons a r ih =>
    rw [List.map_cons]
    by_cases h : a = s
    · subst h; simp [kset, pT, keq, eqs]
    · have h2 : ¬ s = a := fun e => h e.symm
      show kset ((Value.string a, Value.bool true) :: r.map pT) _ _ = _
      rw [kset]
      have hk : keq (.string a) (.string s) = false := by simp [keq, eqs, h2]
      rw [hk, cond_false, ih]
      by_cases h3 : s ∈ r <;> simp [h3, h2, pT]
theorem ins_mem {l : List Str} {s x : Str} : x ∈ ins l s ↔ x ∈ l ∨ x = s := by
  unfold ins
  split <;> simp
  rename_i h
  intro e; subst e; exact h
def insL (l r : List Str) : List Str := r.foldl ins l
theorem insL_mem {l r : List Str} {x : Str} : x ∈ insL l r ↔ x ∈ l ∨ x ∈ r := by
  unfold insL
  induction r generalizing l with
  | nil => simp
  | cons a r ih => rw [List.foldl_cons, ih, ins_mem]; simp [or_assoc]
theorem pT_plain (l : List Str) : ((l.map pT).all fun e => plain e.1 && plain e.2) = true := by
  rw [List.all_eq_true]; intro e he
  obtain ⟨s, _, rfl⟩ := List.mem_map.1 he
  rfl
/-- the lot in order is the order of the lot -/
theorem srt_perm {l m : List Str} (h : l.Perm m) : srt l = srt m := by
  unfold srt srtB
  congr 1
  have hp : ((l.map (·.data.toList)).mergeSort fun x y => decide (x ≤ y)).Perm ((m.map (·.data.toList)).mergeSort fun x y => decide (x ≤ y)) :=
    (List.mergeSort_perm _ _).trans ((h.map _).trans (List.mergeSort_perm _ _).symm)
  have tr : ∀ a b c : List UInt8, decide (a ≤ b) = true → decide (b ≤ c) = true → decide (a ≤ c) = true := by
    intro a b c h1 h2; simp at *; exact List.le_trans h1 h2
  have to : ∀ a b : List UInt8, (decide (a ≤ b) || decide (b ≤ a)) = true := by
    intro a b; simp; exact List.le_total a b
  exact hp.eq_of_pairwise (le := fun x y => decide (x ≤ y) = true) (fun a b _ _ h1 h2 => by simp at h1 h2; exact List.le_antisymm h1 h2) (List.pairwise_mergeSort tr to _) (List.pairwise_mergeSort tr to _)
theorem map_pT_perm {rem : List Str} {kv : Value × Value} {r : List (Value × Value)} (h : (rem.map pT).Perm (kv :: r)) : ∃ s q, kv = pT s ∧ r = q.map pT ∧ rem.Perm (s :: q) := by
  have hk : kv ∈ rem.map pT := h.mem_iff.2 (by simp)
  obtain ⟨s, hs, rfl⟩ := List.mem_map.1 hk
  have h2 : (r.map fun e => match e.1 with | .string s => s | _ => s).map pT = r := by
    rw [List.map_map]
    conv => rhs; rw [← List.map_id r]
    apply List.map_congr_left
    intro e he
    have : e ∈ rem.map pT := h.mem_iff.2 (by simp [he])
    obtain ⟨z, _, rfl⟩ := List.mem_map.1 this
    rfl
  refine ⟨s, r.map fun e => match e.1 with | .string s => s | _ => s, rfl, h2.symm, ?_⟩
  have h3 := h.map fun e => match e.1 with | .string s => s | _ => s
  rw [List.map_map, List.map_cons] at h3
  have h4 : (rem.map ((fun e : Value × Value => match e.1 with | .string s => s | _ => s) ∘ pT)) = rem := by
    conv => rhs; rw [← List.map_id rem]
    apply List.map_congr_left
    intro e he; rfl
  rw [h4] at h3
  exact h3
end Go.Proofs.Ytfanhfmfbfncfaa.Mx

/- Sums. -/
namespace Go.Proofs.Ytfanhfmfbfncfaa.Mx
set_option linter.all false
open Go Go.RowKit Go.Proofs
def E111 : Env := { T := T0, kp := look [(0, [0]), (1, [0])] }
attribute [local push_cast] E111
theorem widthOk (n : Int) : Does Try.prog 111 [.sc (.int .i64 n)] (.sc (.bool (inB n 1 8)), []) := by
  refine does_of (E := E111) (rs := [.tmp 2]) (lent := []) tOk rfl Try.func111 rfl (by decide) rfl rfl (Nat.le_of_ble_eq_true rfl) (Nat.le_of_ble_eq_true rfl) ?_
  by_cases h : 1 ≤ n <;> by_cases h2 : n ≤ 8 <;> first | (exfalso; omega) | (simp -dsimp (disch := first | omega | (simp only [h, h2, inB, List.length_cons, List.length_nil, List.length_map, List.length_append, List.length_take, List.length_drop, List.length_replicate, List.length_set, mkG_len] <;> omega) | fail) only [push_cast, if_pos, decide_eq_true, decide_eq_false, h, h2, inB, Nat.reduceAdd, Nat.reduceSub, Nat.reduceMul, Nat.reduceBEq, Nat.reduceEqDiff, Nat.reduceLT, Nat.reduceLeDiff, Int.reduceToNat, Int.reduceLE, Int.reduceLT, Int.reduceAdd, Int.reduceSub, Int.reduceMul, Int.reduceEq, Int.reduceNeg, ↓reduceIte, reduceCtorEq])
def E80 : Env := { T := T0, kp := look [(0, [0, 1, 2]), (1, [0, 1, 2])] }
attribute [local push_cast] E80
theorem l1In (a b c : Int) : Does Try.prog 80 [.sc (.int .i64 a), .sc (.int .i64 b), .sc (.int .i64 c)] (.sc (.bool (inB a b c)), []) := by
  refine does_of (E := E80) (rs := [.tmp 6]) (lent := []) tOk rfl Try.func80 rfl (by decide) rfl rfl (Nat.le_of_ble_eq_true rfl) (Nat.le_of_ble_eq_true rfl) ?_
  by_cases h : b ≤ a <;> by_cases h2 : a ≤ c <;> simp -dsimp (disch := first | omega | (simp only [h, h2, inB, List.length_cons, List.length_nil, List.length_map, List.length_append, List.length_take, List.length_drop, List.length_replicate, List.length_set, mkG_len] <;> omega) | fail) only [push_cast, if_pos, decide_eq_true, decide_eq_false, h, h2, inB, Nat.reduceAdd, Nat.reduceSub, Nat.reduceMul, Nat.reduceBEq, Nat.reduceEqDiff, Nat.reduceLT, Nat.reduceLeDiff, Int.reduceToNat, Int.reduceLE, Int.reduceLT, Int.reduceAdd, Int.reduceSub, Int.reduceMul, Int.reduceEq, Int.reduceNeg, ↓reduceIte, reduceCtorEq]
def E107 : Env := { T := T0, kp := look [(0, [0]), (1, [0])] }
attribute [local push_cast] E107
theorem l1Width (n : Int) : Does Try.prog 107 [.sc (.int .i64 n)] (.sc (.bool (inB n 1 8)), []) := by
  refine does_of (E := E107) (rs := [.tmp 2]) (lent := []) tOk rfl Try.func107 rfl (by decide) rfl rfl (Nat.le_of_ble_eq_true rfl) (Nat.le_of_ble_eq_true rfl) ?_
  simp -dsimp (disch := first | omega | (simp only [List.length_cons, List.length_nil, List.length_map, List.length_append, List.length_take, List.length_drop, List.length_replicate, List.length_set, mkG_len] <;> omega) | fail) only [push_cast, if_pos, decide_eq_true, decide_eq_false, Nat.reduceAdd, Nat.reduceSub, Nat.reduceMul, Nat.reduceBEq, Nat.reduceEqDiff, Nat.reduceLT, Nat.reduceLeDiff, Int.reduceToNat, Int.reduceLE, Int.reduceLT, Int.reduceAdd, Int.reduceSub, Int.reduceMul, Int.reduceEq, Int.reduceNeg, ↓reduceIte, reduceCtorEq]
  refine callC (l1In ..) ?_
  simp -dsimp (disch := first | omega | (simp only [List.length_cons, List.length_nil, List.length_map, List.length_append, List.length_take, List.length_drop, List.length_replicate, List.length_set, mkG_len] <;> omega) | fail) only [push_cast, if_pos, decide_eq_true, decide_eq_false, Nat.reduceAdd, Nat.reduceSub, Nat.reduceMul, Nat.reduceBEq, Nat.reduceEqDiff, Nat.reduceLT, Nat.reduceLeDiff, Int.reduceToNat, Int.reduceLE, Int.reduceLT, Int.reduceAdd, Int.reduceSub, Int.reduceMul, Int.reduceEq, Int.reduceNeg, ↓reduceIte, reduceCtorEq]
def E129 : Env := { T := T0, kp := look [(0, [0]), (1, [0]), (2, [0, 3]), (3, [0, 3, 4]), (4, [0, 3, 4]), (5, [0, 3, 4]), (6, [3])] }
attribute [local push_cast] E129
theorem sum64 (t : Str) (ht : t.size < 4611686018427387904) : Does Try.prog 129 [.sc (.string t)] (.sc (.int .u64 (hash64 (bt t))), []) := by
  refine does_of (E := E129) (rs := [.tmp 2]) (lent := []) tOk rfl Try.func129 rfl (by decide) rfl rfl (Nat.le_of_ble_eq_true rfl) (Nat.le_of_ble_eq_true rfl) ?_
  simp -dsimp (disch := first | omega | (simp only [List.length_cons, List.length_nil, List.length_map, List.length_append, List.length_take, List.length_drop, List.length_replicate, List.length_set, mkG_len] <;> omega) | fail) only [push_cast, if_pos, decide_eq_true, decide_eq_false, Nat.reduceAdd, Nat.reduceSub, Nat.reduceMul, Nat.reduceBEq, Nat.reduceEqDiff, Nat.reduceLT, Nat.reduceLeDiff, Int.reduceToNat, Int.reduceLE, Int.reduceLT, Int.reduceAdd, Int.reduceSub, Int.reduceMul, Int.reduceEq, Int.reduceNeg, ↓reduceIte, reduceCtorEq]
  refine loop_ind (α := Nat) (fun i => i ≤ t.size) (fun i => ⟨[(0, .sc (.string t)), (3, .sc (.int .u64 (((bt t).take i).foldl step64 14695981039346656037))), (4, .sc (.int .i64 i))], [], 1⟩) (fun i => t.size - i) 0 (Nat.zero_le _) ?_ ?_
  · simp -dsimp (disch := first | omega | (simp only [List.foldl_nil, List.length_cons, List.length_nil, List.length_map, List.length_append, List.length_take, List.length_drop, List.length_replicate, List.length_set, mkG_len] <;> omega) | fail) only [push_cast, if_pos, decide_eq_true, decide_eq_false, List.foldl_nil, Nat.reduceAdd, Nat.reduceSub, Nat.reduceMul, Nat.reduceBEq, Nat.reduceEqDiff, Nat.reduceLT, Nat.reduceLeDiff, Int.reduceToNat, Int.reduceLE, Int.reduceLT, Int.reduceAdd, Int.reduceSub, Int.reduceMul, Int.reduceEq, Int.reduceNeg, ↓reduceIte, reduceCtorEq]
  intro i hi ih
  by_cases h : i < t.size
  · obtain ⟨u, hu⟩ := ex_get (by rw [bt_len]; exact h : i < (bt t).length)
    simp -dsimp (disch := first | omega | (simp only [h, hu, List.length_cons, List.length_nil, List.length_map, List.length_append, List.length_take, List.length_drop, List.length_replicate, List.length_set, mkG_len] <;> omega) | fail) only [push_cast, if_pos, decide_eq_true, decide_eq_false, h, hu, Nat.reduceAdd, Nat.reduceSub, Nat.reduceMul, Nat.reduceBEq, Nat.reduceEqDiff, Nat.reduceLT, Nat.reduceLeDiff, Int.reduceToNat, Int.reduceLE, Int.reduceLT, Int.reduceAdd, Int.reduceSub, Int.reduceMul, Int.reduceEq, Int.reduceNeg, ↓reduceIte, reduceCtorEq]
    refine ih (i + 1) _ (by omega) h ?_
    simp -dsimp (disch := first | omega | (simp only [wr_id, take_step hu, List.foldl_append, List.foldl_cons, List.foldl_nil, step64, List.length_cons, List.length_nil, List.length_map, List.length_append, List.length_take, List.length_drop, List.length_replicate, List.length_set, mkG_len] <;> omega) | fail) only [push_cast, if_pos, decide_eq_true, decide_eq_false, wr_id, take_step hu, List.foldl_append, List.foldl_cons, List.foldl_nil, step64, Nat.reduceAdd, Nat.reduceSub, Nat.reduceMul, Nat.reduceBEq, Nat.reduceEqDiff, Nat.reduceLT, Nat.reduceLeDiff, Int.reduceToNat, Int.reduceLE, Int.reduceLT, Int.reduceAdd, Int.reduceSub, Int.reduceMul, Int.reduceEq, Int.reduceNeg, ↓reduceIte, reduceCtorEq]
  · have hl : (bt t).take i = bt t := List.take_of_length_le (by rw [bt_len]; omega)
    simp -dsimp (disch := first | omega | (simp only [h, hl, hash64, List.length_cons, List.length_nil, List.length_map, List.length_append, List.length_take, List.length_drop, List.length_replicate, List.length_set, mkG_len] <;> omega) | fail) only [push_cast, if_pos, decide_eq_true, decide_eq_false, h, hl, hash64, Nat.reduceAdd, Nat.reduceSub, Nat.reduceMul, Nat.reduceBEq, Nat.reduceEqDiff, Nat.reduceLT, Nat.reduceLeDiff, Int.reduceToNat, Int.reduceLE, Int.reduceLT, Int.reduceAdd, Int.reduceSub, Int.reduceMul, Int.reduceEq, Int.reduceNeg, ↓reduceIte, reduceCtorEq]
def E128 : Env := { T := T0, kp := look [(0, [0]), (1, [0]), (2, [0, 3]), (3, [0, 3, 4]), (4, [0, 3, 4]), (5, [0, 3, 4]), (6, [3])] }
attribute [local push_cast] E128
theorem l1Sum64 (t : Str) (ht : t.size < 4611686018427387904) : Does Try.prog 128 [.sc (.string t)] (.sc (.int .u64 (hash64 (bt t))), []) := by
  refine does_of (E := E128) (rs := [.tmp 2]) (lent := []) tOk rfl Try.func128 rfl (by decide) rfl rfl (Nat.le_of_ble_eq_true rfl) (Nat.le_of_ble_eq_true rfl) ?_
  simp -dsimp (disch := first | omega | (simp only [List.length_cons, List.length_nil, List.length_map, List.length_append, List.length_take, List.length_drop, List.length_replicate, List.length_set, mkG_len] <;> omega) | fail) only [push_cast, if_pos, decide_eq_true, decide_eq_false, Nat.reduceAdd, Nat.reduceSub, Nat.reduceMul, Nat.reduceBEq, Nat.reduceEqDiff, Nat.reduceLT, Nat.reduceLeDiff, Int.reduceToNat, Int.reduceLE, Int.reduceLT, Int.reduceAdd, Int.reduceSub, Int.reduceMul, Int.reduceEq, Int.reduceNeg, ↓reduceIte, reduceCtorEq]
  refine loop_ind (α := Nat) (fun i => i ≤ t.size) (fun i => ⟨[(0, .sc (.string t)), (3, .sc (.int .u64 (((bt t).take i).foldl step64 14695981039346656037))), (4, .sc (.int .i64 i))], [], 1⟩) (fun i => t.size - i) 0 (Nat.zero_le _) ?_ ?_
  · simp -dsimp (disch := first | omega | (simp only [List.foldl_nil, List.length_cons, List.length_nil, List.length_map, List.length_append, List.length_take, List.length_drop, List.length_replicate, List.length_set, mkG_len] <;> omega) | fail) only [push_cast, if_pos, decide_eq_true, decide_eq_false, List.foldl_nil, Nat.reduceAdd, Nat.reduceSub, Nat.reduceMul, Nat.reduceBEq, Nat.reduceEqDiff, Nat.reduceLT, Nat.reduceLeDiff, Int.reduceToNat, Int.reduceLE, Int.reduceLT, Int.reduceAdd, Int.reduceSub, Int.reduceMul, Int.reduceEq, Int.reduceNeg, ↓reduceIte, reduceCtorEq]
  intro i hi ih
  by_cases h : i < t.size
  · obtain ⟨u, hu⟩ := ex_get (by rw [bt_len]; exact h : i < (bt t).length)
    simp -dsimp (disch := first | omega | (simp only [h, hu, List.length_cons, List.length_nil, List.length_map, List.length_append, List.length_take, List.length_drop, List.length_replicate, List.length_set, mkG_len] <;> omega) | fail) only [push_cast, if_pos, decide_eq_true, decide_eq_false, h, hu, Nat.reduceAdd, Nat.reduceSub, Nat.reduceMul, Nat.reduceBEq, Nat.reduceEqDiff, Nat.reduceLT, Nat.reduceLeDiff, Int.reduceToNat, Int.reduceLE, Int.reduceLT, Int.reduceAdd, Int.reduceSub, Int.reduceMul, Int.reduceEq, Int.reduceNeg, ↓reduceIte, reduceCtorEq]
    refine ih (i + 1) _ (by omega) h ?_
    simp -dsimp (disch := first | omega | (simp only [wr_id, take_step hu, List.foldl_append, List.foldl_cons, List.foldl_nil, step64, List.length_cons, List.length_nil, List.length_map, List.length_append, List.length_take, List.length_drop, List.length_replicate, List.length_set, mkG_len] <;> omega) | fail) only [push_cast, if_pos, decide_eq_true, decide_eq_false, wr_id, take_step hu, List.foldl_append, List.foldl_cons, List.foldl_nil, step64, Nat.reduceAdd, Nat.reduceSub, Nat.reduceMul, Nat.reduceBEq, Nat.reduceEqDiff, Nat.reduceLT, Nat.reduceLeDiff, Int.reduceToNat, Int.reduceLE, Int.reduceLT, Int.reduceAdd, Int.reduceSub, Int.reduceMul, Int.reduceEq, Int.reduceNeg, ↓reduceIte, reduceCtorEq]
  · have hl : (bt t).take i = bt t := List.take_of_length_le (by rw [bt_len]; omega)
    simp -dsimp (disch := first | omega | (simp only [h, hl, hash64, List.length_cons, List.length_nil, List.length_map, List.length_append, List.length_take, List.length_drop, List.length_replicate, List.length_set, mkG_len] <;> omega) | fail) only [push_cast, if_pos, decide_eq_true, decide_eq_false, h, hl, hash64, Nat.reduceAdd, Nat.reduceSub, Nat.reduceMul, Nat.reduceBEq, Nat.reduceEqDiff, Nat.reduceLT, Nat.reduceLeDiff, Int.reduceToNat, Int.reduceLE, Int.reduceLT, Int.reduceAdd, Int.reduceSub, Int.reduceMul, Int.reduceEq, Int.reduceNeg, ↓reduceIte, reduceCtorEq]
def E127 : Env := { T := T0, kp := look [(0, [0, 1]), (1, [0, 1]), (2, [0, 1, 5]), (3, [0, 1, 5, 6]), (4, [0, 1, 5, 6]), (5, [0, 1, 5, 6]), (6, [0, 1, 5, 6]), (7, [5])] }
attribute [local push_cast] E127
theorem l1Bytes (h w : Int) (h0 : 0 ≤ h) (h1 : h < 18446744073709551616) (w0 : 0 ≤ w) (w8 : w ≤ 8) : Does Try.prog 127 [.sc (.int .u64 h), .sc (.int .i64 w)] (.sc (.string (strN (be w.toNat h))), []) := by
  refine does_of (E := E127) (rs := [.tmp 4]) (lent := []) tOk rfl Try.func127 rfl (by decide) rfl rfl (Nat.le_of_ble_eq_true rfl) (Nat.le_of_ble_eq_true rfl) ?_
  simp -dsimp (disch := first | omega | (simp only [List.length_cons, List.length_nil, List.length_map, List.length_append, List.length_take, List.length_drop, List.length_replicate, List.length_set, mkG_len] <;> omega) | fail) only [push_cast, if_pos, decide_eq_true, decide_eq_false, Nat.reduceAdd, Nat.reduceSub, Nat.reduceMul, Nat.reduceBEq, Nat.reduceEqDiff, Nat.reduceLT, Nat.reduceLeDiff, Int.reduceToNat, Int.reduceLE, Int.reduceLT, Int.reduceAdd, Int.reduceSub, Int.reduceMul, Int.reduceEq, Int.reduceNeg, ↓reduceIte, reduceCtorEq]
  refine loop_ind (α := Nat) (fun i => i ≤ w.toNat) (fun i => ⟨[(0, .sc (.int .u64 (h / 256 ^ i))), (1, .sc (.int .i64 w)), (5, .sc (.string (strN (be i h)))), (6, .sc (.int .i64 i))], [], 1⟩) (fun i => w.toNat - i) 0 (Nat.zero_le _) ?_ ?_
  · simp -dsimp (disch := first | omega | (simp only [be, strN, Int.pow_zero, Int.ediv_one, List.length_cons, List.length_nil, List.length_map, List.length_append, List.length_take, List.length_drop, List.length_replicate, List.length_set, mkG_len] <;> omega) | fail) only [push_cast, if_pos, decide_eq_true, decide_eq_false, be, strN, Int.pow_zero, Int.ediv_one, Nat.reduceAdd, Nat.reduceSub, Nat.reduceMul, Nat.reduceBEq, Nat.reduceEqDiff, Nat.reduceLT, Nat.reduceLeDiff, Int.reduceToNat, Int.reduceLE, Int.reduceLT, Int.reduceAdd, Int.reduceSub, Int.reduceMul, Int.reduceEq, Int.reduceNeg, ↓reduceIte, reduceCtorEq]
    trace_state
  intro i hi ih
  by_cases h2 : (i : Int) < w
  · have e1 : 0 ≤ h / 256 ^ i := Int.ediv_nonneg h0 (Int.pow_nonneg (by decide))
    have e2 : h / 256 ^ i < 18446744073709551616 := Int.lt_of_le_of_lt (Int.ediv_le_self _ h0) h1
    have e3 : wr .u8 ((h / 256 ^ i).tmod 256) = h / 256 ^ i % 256 := by rw [wr_u8, Int.tmod_eq_emod_of_nonneg e1]; omega
    have e4 : wr .u64 ((h / 256 ^ i).tdiv 256) = h / 256 ^ (i + 1) := by
      rw [wr_u64, Int.tdiv_eq_ediv_of_nonneg e1, Int.pow_succ, ← Int.ediv_ediv_of_nonneg (Int.pow_nonneg (by decide))]
      have := Int.ediv_nonneg e1 (by decide : (0 : Int) ≤ 256)
      have := Int.ediv_le_self 256 e1
      omega
    simp -dsimp (disch := first | omega | (simp only [h2, e3, e4, strN_one, strN_size, be_len, strN_app, List.length_cons, List.length_nil, List.length_map, List.length_append, List.length_take, List.length_drop, List.length_replicate, List.length_set, mkG_len] <;> omega) | fail) only [push_cast, if_pos, decide_eq_true, decide_eq_false, h2, e3, e4, strN_one, strN_size, be_len, strN_app, Nat.reduceAdd, Nat.reduceSub, Nat.reduceMul, Nat.reduceBEq, Nat.reduceEqDiff, Nat.reduceLT, Nat.reduceLeDiff, Int.reduceToNat, Int.reduceLE, Int.reduceLT, Int.reduceAdd, Int.reduceSub, Int.reduceMul, Int.reduceEq, Int.reduceNeg, ↓reduceIte, reduceCtorEq]
    refine ih (i + 1) _ (by omega) (by omega) ?_
    simp -dsimp (disch := first | omega | (simp only [wr_id, be, List.length_cons, List.length_nil, List.length_map, List.length_append, List.length_take, List.length_drop, List.length_replicate, List.length_set, mkG_len] <;> omega) | fail) only [push_cast, if_pos, decide_eq_true, decide_eq_false, wr_id, be, Nat.reduceAdd, Nat.reduceSub, Nat.reduceMul, Nat.reduceBEq, Nat.reduceEqDiff, Nat.reduceLT, Nat.reduceLeDiff, Int.reduceToNat, Int.reduceLE, Int.reduceLT, Int.reduceAdd, Int.reduceSub, Int.reduceMul, Int.reduceEq, Int.reduceNeg, ↓reduceIte, reduceCtorEq]
  · have : w.toNat = i := by omega
    simp -dsimp (disch := first | omega | (simp only [h2, this, List.length_cons, List.length_nil, List.length_map, List.length_append, List.length_take, List.length_drop, List.length_replicate, List.length_set, mkG_len] <;> omega) | fail) only [push_cast, if_pos, decide_eq_true, decide_eq_false, h2, this, Nat.reduceAdd, Nat.reduceSub, Nat.reduceMul, Nat.reduceBEq, Nat.reduceEqDiff, Nat.reduceLT, Nat.reduceLeDiff, Int.reduceToNat, Int.reduceLE, Int.reduceLT, Int.reduceAdd, Int.reduceSub, Int.reduceMul, Int.reduceEq, Int.reduceNeg, ↓reduceIte, reduceCtorEq]
def E108 : Env := { T := T0, kp := look [(0, [0, 1]), (1, [0, 1]), (2, []), (3, [0, 1])] }
attribute [local push_cast] E108
theorem specSum (t : Str) (w : Int) (ht : t.size < 4611686018427387904) : Does Try.prog 108 [.sc (.string t), .sc (.int .i64 w)] (.sc (.string (sumS t w)), []) := by
  refine does_of (E := E108) (rs := [.tmp 4]) (lent := []) tOk rfl Try.func108 rfl (by decide) rfl rfl (Nat.le_of_ble_eq_true rfl) (Nat.le_of_ble_eq_true rfl) ?_
  simp -dsimp (disch := first | omega | (simp only [List.length_cons, List.length_nil, List.length_map, List.length_append, List.length_take, List.length_drop, List.length_replicate, List.length_set, mkG_len] <;> omega) | fail) only [push_cast, if_pos, decide_eq_true, decide_eq_false, Nat.reduceAdd, Nat.reduceSub, Nat.reduceMul, Nat.reduceBEq, Nat.reduceEqDiff, Nat.reduceLT, Nat.reduceLeDiff, Int.reduceToNat, Int.reduceLE, Int.reduceLT, Int.reduceAdd, Int.reduceSub, Int.reduceMul, Int.reduceEq, Int.reduceNeg, ↓reduceIte, reduceCtorEq]
  refine callC (l1Width ..) ?_
  by_cases h : 1 ≤ w ∧ w ≤ 8
  · simp -dsimp (disch := first | omega | (simp only [inB, h, sumS, and_self, List.length_cons, List.length_nil, List.length_map, List.length_append, List.length_take, List.length_drop, List.length_replicate, List.length_set, mkG_len] <;> omega) | fail) only [push_cast, if_pos, decide_eq_true, decide_eq_false, inB, h, sumS, and_self, Nat.reduceAdd, Nat.reduceSub, Nat.reduceMul, Nat.reduceBEq, Nat.reduceEqDiff, Nat.reduceLT, Nat.reduceLeDiff, Int.reduceToNat, Int.reduceLE, Int.reduceLT, Int.reduceAdd, Int.reduceSub, Int.reduceMul, Int.reduceEq, Int.reduceNeg, ↓reduceIte, reduceCtorEq]
    refine callC (l1Sum64 _ ht) ?_
    simp -dsimp (disch := first | omega | (simp only [List.length_cons, List.length_nil, List.length_map, List.length_append, List.length_take, List.length_drop, List.length_replicate, List.length_set, mkG_len] <;> omega) | fail) only [push_cast, if_pos, decide_eq_true, decide_eq_false, Nat.reduceAdd, Nat.reduceSub, Nat.reduceMul, Nat.reduceBEq, Nat.reduceEqDiff, Nat.reduceLT, Nat.reduceLeDiff, Int.reduceToNat, Int.reduceLE, Int.reduceLT, Int.reduceAdd, Int.reduceSub, Int.reduceMul, Int.reduceEq, Int.reduceNeg, ↓reduceIte, reduceCtorEq]
    have := hash64_r (bt t)
    refine callC (l1Bytes _ _ this.1 this.2 (by omega) h.2) ?_
    simp -dsimp (disch := first | omega | (simp only [sumS, List.length_cons, List.length_nil, List.length_map, List.length_append, List.length_take, List.length_drop, List.length_replicate, List.length_set, mkG_len] <;> omega) | fail) only [push_cast, if_pos, decide_eq_true, decide_eq_false, sumS, Nat.reduceAdd, Nat.reduceSub, Nat.reduceMul, Nat.reduceBEq, Nat.reduceEqDiff, Nat.reduceLT, Nat.reduceLeDiff, Int.reduceToNat, Int.reduceLE, Int.reduceLT, Int.reduceAdd, Int.reduceSub, Int.reduceMul, Int.reduceEq, Int.reduceNeg, ↓reduceIte, reduceCtorEq]
  · simp -dsimp (disch := first | omega | (simp only [inB, h, sumS, em, List.length_cons, List.length_nil, List.length_map, List.length_append, List.length_take, List.length_drop, List.length_replicate, List.length_set, mkG_len] <;> omega) | fail) only [push_cast, if_pos, decide_eq_true, decide_eq_false, inB, h, sumS, em, Nat.reduceAdd, Nat.reduceSub, Nat.reduceMul, Nat.reduceBEq, Nat.reduceEqDiff, Nat.reduceLT, Nat.reduceLeDiff, Int.reduceToNat, Int.reduceLE, Int.reduceLT, Int.reduceAdd, Int.reduceSub, Int.reduceMul, Int.reduceEq, Int.reduceNeg, ↓reduceIte, reduceCtorEq]
def E113 : Env := { T := T0, kp := look [(0, [0, 1]), (1, [0, 1]), (2, []), (3, [0, 1]), (4, [1, 5]), (5, [1, 5, 6]), (6, [1, 5, 6, 16, 17]), (7, [1, 5, 6, 16, 17]), (8, [1, 5, 6, 7, 16, 17]), (9, [1, 5, 6, 16, 17]), (10, [6])] }
attribute [local push_cast] E113
theorem implSum (t : Str) (w : Int) (ht : t.size < 4611686018427387904) : Does Try.prog 113 [.sc (.string t), .sc (.int .i64 w)] (.sc (.string (sumS t w)), []) := by
  by_cases h : 1 ≤ w ∧ w ≤ 8
  rotate_left
  · refine does_of (E := E113) (rs := [.tmp 4]) (lent := []) tOk rfl Try.func113 rfl (by decide) rfl rfl (Nat.le_of_ble_eq_true rfl) (Nat.le_of_ble_eq_true rfl) ?_
    simp -dsimp (disch := first | omega | (simp only [List.length_cons, List.length_nil, List.length_map, List.length_append, List.length_take, List.length_drop, List.length_replicate, List.length_set, mkG_len] <;> omega) | fail) only [push_cast, if_pos, decide_eq_true, decide_eq_false, Nat.reduceAdd, Nat.reduceSub, Nat.reduceMul, Nat.reduceBEq, Nat.reduceEqDiff, Nat.reduceLT, Nat.reduceLeDiff, Int.reduceToNat, Int.reduceLE, Int.reduceLT, Int.reduceAdd, Int.reduceSub, Int.reduceMul, Int.reduceEq, Int.reduceNeg, ↓reduceIte, reduceCtorEq]
    refine callC (widthOk ..) ?_
    simp -dsimp (disch := first | omega | (simp only [inB, h, sumS, em, List.length_cons, List.length_nil, List.length_map, List.length_append, List.length_take, List.length_drop, List.length_replicate, List.length_set, mkG_len] <;> omega) | fail) only [push_cast, if_pos, decide_eq_true, decide_eq_false, inB, h, sumS, em, Nat.reduceAdd, Nat.reduceSub, Nat.reduceMul, Nat.reduceBEq, Nat.reduceEqDiff, Nat.reduceLT, Nat.reduceLeDiff, Int.reduceToNat, Int.reduceLE, Int.reduceLT, Int.reduceAdd, Int.reduceSub, Int.reduceMul, Int.reduceEq, Int.reduceNeg, ↓reduceIte, reduceCtorEq]
  obtain ⟨n, rfl⟩ : ∃ n : Nat, w = n := ⟨w.toNat, by omega⟩
  rw [show sumS t n = strN (be n (hash64 (bt t))) by unfold sumS; rw [if_pos h]; rfl]
  refine does_of (E := E113) (rs := [.tmp 4]) (lent := []) tOk rfl Try.func113 rfl (by decide) rfl rfl (Nat.le_of_ble_eq_true rfl) (Nat.le_of_ble_eq_true rfl) ?_
  simp -dsimp (disch := first | omega | (simp only [List.length_cons, List.length_nil, List.length_map, List.length_append, List.length_take, List.length_drop, List.length_replicate, List.length_set, mkG_len] <;> omega) | fail) only [push_cast, if_pos, decide_eq_true, decide_eq_false, Nat.reduceAdd, Nat.reduceSub, Nat.reduceMul, Nat.reduceBEq, Nat.reduceEqDiff, Nat.reduceLT, Nat.reduceLeDiff, Int.reduceToNat, Int.reduceLE, Int.reduceLT, Int.reduceAdd, Int.reduceSub, Int.reduceMul, Int.reduceEq, Int.reduceNeg, ↓reduceIte, reduceCtorEq]
  refine callC (widthOk ..) ?_
  simp -dsimp (disch := first | omega | (simp only [inB, h, and_self, List.length_cons, List.length_nil, List.length_map, List.length_append, List.length_take, List.length_drop, List.length_replicate, List.length_set, mkG_len] <;> omega) | fail) only [push_cast, if_pos, decide_eq_true, decide_eq_false, inB, h, and_self, Nat.reduceAdd, Nat.reduceSub, Nat.reduceMul, Nat.reduceBEq, Nat.reduceEqDiff, Nat.reduceLT, Nat.reduceLeDiff, Int.reduceToNat, Int.reduceLE, Int.reduceLT, Int.reduceAdd, Int.reduceSub, Int.reduceMul, Int.reduceEq, Int.reduceNeg, ↓reduceIte, reduceCtorEq]
  refine callC (sum64 _ ht) ?_
  have hr := hash64_r (bt t)
  generalize hash64 (bt t) = H at hr ⊢
  simp -dsimp (disch := first | omega | (simp only [List.length_cons, List.length_nil, List.length_map, List.length_append, List.length_take, List.length_drop, List.length_replicate, List.length_set, mkG_len] <;> omega) | fail) only [push_cast, if_pos, decide_eq_true, decide_eq_false, Nat.reduceAdd, Nat.reduceSub, Nat.reduceMul, Nat.reduceBEq, Nat.reduceEqDiff, Nat.reduceLT, Nat.reduceLeDiff, Int.reduceToNat, Int.reduceLE, Int.reduceLT, Int.reduceAdd, Int.reduceSub, Int.reduceMul, Int.reduceEq, Int.reduceNeg, ↓reduceIte, reduceCtorEq]
  refine loop_ind (α := Nat) (fun i => i ≤ n) (fun i => ⟨[(1, .sc (.int .i64 n)), (5, .sc (.int .u64 H)), (6, .ow 1 0 n), (16, .sc (.int .i64 n)), (17, .sc (.int .i64 i))], [(1, .ar 1 0 (((be n H).take i ++ List.replicate (n - i) 0).map numR))], 2⟩) (fun i => n - i) 0 (Nat.zero_le _) ?_ ?_
  · simp -dsimp (disch := first | omega | (simp only [List.map_replicate, numR, Nat.sub_zero, List.length_cons, List.length_nil, List.length_map, List.length_append, List.length_take, List.length_drop, List.length_replicate, List.length_set, mkG_len] <;> omega) | fail) only [push_cast, if_pos, decide_eq_true, decide_eq_false, List.map_replicate, numR, Nat.sub_zero, Nat.reduceAdd, Nat.reduceSub, Nat.reduceMul, Nat.reduceBEq, Nat.reduceEqDiff, Nat.reduceLT, Nat.reduceLeDiff, Int.reduceToNat, Int.reduceLE, Int.reduceLT, Int.reduceAdd, Int.reduceSub, Int.reduceMul, Int.reduceEq, Int.reduceNeg, ↓reduceIte, reduceCtorEq]
  intro i hi ih
  by_cases h2 : i < n
  · obtain ⟨x, hx⟩ := ex_get (show i < ((be n H).take i ++ List.replicate (n - i) 0).length by simp [be_len]; omega)
    have e : wr .u8 (H.fdiv (2 ^ (min (8 * ((n : Int) - 1 - i)).toNat IntKind.u64.bits))) = H / 256 ^ (n - 1 - i) % 256 := by
      rw [show (8 * ((n : Int) - 1 - i)).toNat = 8 * (n - 1 - i) by omega,
        show IntKind.u64.bits = 64 from rfl, Nat.min_eq_left (by omega), Int.pow_mul, wr_u8, Int.fdiv_eq_ediv_of_nonneg _ (Int.pow_nonneg (by decide))]
      rfl
    simp -dsimp (disch := first | omega | (simp only [wr_id, e, hx, numR, List.length_cons, List.length_nil, List.length_map, List.length_append, List.length_take, List.length_drop, List.length_replicate, List.length_set, mkG_len] <;> omega) | fail) only [push_cast, if_pos, decide_eq_true, decide_eq_false, wr_id, e, hx, numR, Nat.reduceAdd, Nat.reduceSub, Nat.reduceMul, Nat.reduceBEq, Nat.reduceEqDiff, Nat.reduceLT, Nat.reduceLeDiff, Int.reduceToNat, Int.reduceLE, Int.reduceLT, Int.reduceAdd, Int.reduceSub, Int.reduceMul, Int.reduceEq, Int.reduceNeg, ↓reduceIte, reduceCtorEq]
    refine ih (i + 1) _ (by omega) h2 ?_
    have ee : (((be n H).take i ++ List.replicate (n - i) 0).map numR).set i [.sc (.int .u8 (H / 256 ^ (n - 1 - i) % 256))] = ((be n H).take (i + 1) ++ List.replicate (n - (i + 1)) 0).map numR := by
      rw [show ([.sc (.int .u8 (H / 256 ^ (n - 1 - i) % 256))] : Row) = numR (H / 256 ^ (n - 1 - i) % 256) from rfl, ← List.map_set, take_step (be_get n H i h2), List.set_append_right _ _ (by simp [be_len]; omega), show n - i = n - (i + 1) + 1 by omega, List.replicate_succ]
      simp [be_len, Nat.min_eq_left hi]
    simp -dsimp (disch := first | omega | (simp only [wr_id, ee, List.length_cons, List.length_nil, List.length_map, List.length_append, List.length_take, List.length_drop, List.length_replicate, List.length_set, mkG_len] <;> omega) | fail) only [push_cast, if_pos, decide_eq_true, decide_eq_false, wr_id, ee, Nat.reduceAdd, Nat.reduceSub, Nat.reduceMul, Nat.reduceBEq, Nat.reduceEqDiff, Nat.reduceLT, Nat.reduceLeDiff, Int.reduceToNat, Int.reduceLE, Int.reduceLT, Int.reduceAdd, Int.reduceSub, Int.reduceMul, Int.reduceEq, Int.reduceNeg, ↓reduceIte, reduceCtorEq]
  · have hn : i = n := by omega
    subst hn
    have e : (be i H).take i ++ List.replicate (i - i) 0 = be i H := by rw [List.take_of_length_le (by rw [be_len]; omega)]; simp
    simp -dsimp (disch := first | omega | (simp only [e, be_len, bytesOf_num, strN, List.length_cons, List.length_nil, List.length_map, List.length_append, List.length_take, List.length_drop, List.length_replicate, List.length_set, mkG_len] <;> omega) | fail) only [push_cast, if_pos, decide_eq_true, decide_eq_false, e, be_len, bytesOf_num, strN, Nat.reduceAdd, Nat.reduceSub, Nat.reduceMul, Nat.reduceBEq, Nat.reduceEqDiff, Nat.reduceLT, Nat.reduceLeDiff, Int.reduceToNat, Int.reduceLE, Int.reduceLT, Int.reduceAdd, Int.reduceSub, Int.reduceMul, Int.reduceEq, Int.reduceNeg, ↓reduceIte, reduceCtorEq]
end Go.Proofs.Ytfanhfmfbfncfaa.Mx

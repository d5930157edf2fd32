/- A machine over values for Go functions, proved sound, and functions run on it: texts V2, V3, B1, J1, Ty, F1. -/
import Derived.Below
import Derived.Deep.Slices
import Derived.ChangeArms
import Derived.WideShapes
import Derived.Test.YtfanhfmfbfncfaaProg
import Derived.Test.YtfanhfmfbfncfaaNewWorldXag
/- Values: sizes, marks, lists that are filled. -/
namespace Go.Proofs.Ytfanhfmfbfncfaa.Mx
set_option linter.all false
open Go Go.RowKit
theorem drop_step {α : Type} {a : List α} {i : Nat} {x : α} (h : a[i]? = some x) : a.drop i = x :: a.drop (i + 1) := by
  obtain ⟨h1, h2⟩ := List.getElem?_eq_some_iff.1 h
  rw [List.drop_eq_getElem_cons h1, h2]
/-! sizes -/
def szG {α : Type} (f : α → Int → Int) : List α → Int → Int
  | [], x => x
  | a :: r, x => if f a x < 0 then -1 else szG f r (f a x)
def szL {α : Type} (f : α → Int → Int) (l : List α) (x : Int) : Int := if x - l.length < 0 then -1 else szG f l (x - l.length)
def szStr (s : Str) (x : Int) : Int := x - s.size
theorem szG_ok {α : Type} {f : α → Int → Int} {ok : α → Prop} (hf : ∀ a x, 0 ≤ f a x → f a x ≤ x ∧ (x ≤ 2097152 → ok a)) : ∀ (l : List α) (x : Int), 0 ≤ szG f l x → szG f l x ≤ x ∧ (x ≤ 2097152 → ∀ a ∈ l, ok a)
  | [], x, h => ⟨Int.le_refl _, fun _ => by simp⟩
  | a :: r, x, h => by
    unfold szG at h ⊢
    split at h
    · omega
    · rename_i hn
      rw [if_neg hn]
      have := szG_ok hf r _ h
      have h2 := hf a x (by omega)
      refine ⟨by omega, fun hx b hb => ?_⟩
      rcases List.mem_cons.1 hb with rfl | hb
      · exact h2.2 hx
      · exact this.2 (by omega) b hb
/-! marks -/
def dig (n : Nat) : List Int := if h : n = 0 then [] else dig (n / 10) ++ [48 + ((n % 10 : Nat) : Int)]
  termination_by n
  decreasing_by omega
theorem dig_len (n : Nat) : (dig n).length ≤ n := by
  induction n using Nat.strongRecOn with
  | _ n ih =>
    unfold dig
    split
    · simp
    · have := ih (n / 10) (by omega)
      rw [List.length_append, List.length_cons, List.length_nil]
      omega
def mtx (k : Int) : Str := if k ≤ 0 then strN [109, 48] else strN (109 :: dig k.toNat)
/-- marked, from k on, each taking c -/
def mkG {α : Type} (f : α → Int → α) (c : α → Int) : List α → Int → List α
  | [], _ => []
  | a :: r, k => f a k :: mkG f c r (k + c a)
def cnG {α : Type} (c : α → Int) : List α → Int
  | [] => 0
  | a :: r => c a + cnG c r
def hdG {α : Type} (f : α → Int → Bool) (c : α → Int) : List α → Int → Int
  | [], k => k
  | a :: r, k => if f a k = true then hdG f c r (k + c a) else -1
theorem mkG_len {α : Type} (f : α → Int → α) (c : α → Int) : ∀ (l : List α) (k : Int), (mkG f c l k).length = l.length
  | [], _ => rfl
  | a :: r, k => by rw [mkG, List.length_cons, List.length_cons, mkG_len f c r]
theorem cnG_nn {α : Type} {c : α → Int} (hc : ∀ a, 0 ≤ c a) : ∀ l : List α, 0 ≤ cnG c l
  | [] => Int.le_refl _
  | a :: r => by have := cnG_nn hc r; have := hc a; rw [cnG]; omega
theorem cnG_len {α : Type} {c : α → Int} (hc : ∀ a, 1 ≤ c a) : ∀ l : List α, (l.length : Int) ≤ cnG c l
  | [] => Int.le_refl _
  | a :: r => by have := cnG_len hc r; have := hc a; rw [cnG, List.length_cons]; omega
theorem cnG_le {α : Type} {c : α → Int} {B : Int} : ∀ l : List α, (∀ a ∈ l, c a ≤ B) → cnG c l ≤ B * l.length
  | [], _ => by simp [cnG]
  | a :: r, h => by
    have := cnG_le r fun x hx => h x (List.mem_cons_of_mem _ hx)
    have := h a (List.mem_cons_self ..)
    rw [cnG, List.length_cons, Int.natCast_add, Int.mul_add]
    omega
theorem cnG_mkG {α : Type} {f : α → Int → α} {c : α → Int} (hc : ∀ a k, c (f a k) = c a) : ∀ (l : List α) (k : Int), cnG c (mkG f c l k) = cnG c l
  | [], k => rfl
  | a :: r, k => by rw [mkG, cnG, cnG, hc, cnG_mkG hc r]
theorem hdG_mkG {α : Type} {f : α → Int → α} {c : α → Int} {g : α → Int → Bool} (hg : ∀ a k, 0 ≤ k → g (f a k) k = true) (hc : ∀ a k, c (f a k) = c a) (hn : ∀ a, 0 ≤ c a) : ∀ (l : List α) (k : Int), 0 ≤ k → hdG g c (mkG f c l k) k = k + cnG c l
  | [], k, _ => by simp [mkG, hdG, cnG]
  | a :: r, k, h => by
    rw [mkG, hdG, if_pos (hg a k h), hc, hdG_mkG hg hc hn r _ (by have := hn a; omega), cnG]
    omega
theorem hdG_val {α : Type} {g : α → Int → Bool} {c : α → Int} : ∀ (l : List α) (k : Int), hdG g c l k = k + cnG c l ∨ hdG g c l k = -1
  | [], k => by simp [hdG, cnG]
  | a :: r, k => by
    rw [hdG, cnG]
    split
    · rcases hdG_val r (k + c a) with h | h
      · rw [h]; omega
      · exact .inr h
    · exact .inr rfl
theorem cnG_app {α : Type} (c : α → Int) (a b : List α) : cnG c (a ++ b) = cnG c a + cnG c b := by
  induction a with
  | nil => simp [cnG]
  | cons x r ih => rw [List.cons_append, cnG, cnG, ih]; omega
theorem mkG_step {α : Type} {f : α → Int → α} {c : α → Int} : ∀ {l : List α} {i : Nat} {x : α} {k : Int}, l[i]? = some x → (mkG f c l k)[i]? = some (f x (k + cnG c (l.take i)))
  | [], i, x, k, h => by simp at h
  | a :: r, 0, x, k, h => by simp at h; subst h; simp [mkG, cnG]
  | a :: r, i + 1, x, k, h => by
    rw [List.getElem?_cons_succ] at h
    rw [mkG, List.getElem?_cons_succ, mkG_step h, List.take_succ_cons, cnG]
    congr 2
    omega
/-- a list that is overwritten from the left -/
theorem set_over {α : Type} {a b : List α} {i : Nat} {x : α} (hl : a.length = b.length) (h : a[i]? = some x) : (a.take i ++ b.drop i).set i x = a.take (i + 1) ++ b.drop (i + 1) := by
  have hi := (List.getElem?_eq_some_iff.1 h).1
  obtain ⟨y, hy⟩ := ex_get (hl ▸ hi : i < b.length)
  rw [take_step h, List.set_append_right _ _ (by simp [List.length_take]; omega), drop_step hy]
  simp [List.length_take, Nat.min_eq_left (Nat.le_of_lt hi)]
theorem get_over {α : Type} {a b : List α} {i : Nat} (hl : a.length = b.length) (hi : i ≤ a.length) : (a.take i ++ b.drop i)[i]? = b[i]? := by
  rw [List.getElem?_append_right (by simp; omega)]
  simp [List.length_take, Nat.min_eq_left hi]
end Go.Proofs.Ytfanhfmfbfncfaa.Mx
namespace Go.Proofs.Ytfanhfmfbfncfaa.Mx
set_option linter.all false
def hdOk {α : Type} (g : α → Int → Bool) (c : α → Int) (l : List α) (k : Int) : Bool := decide (0 ≤ hdG g c l k)
theorem hdOk_mk {α : Type} {f : α → Int → α} {c : α → Int} {g : α → Int → Bool} (hg : ∀ a k, 0 ≤ k → g (f a k) k = true) (hc : ∀ a k, c (f a k) = c a) (hn : ∀ a, 0 ≤ c a) (l : List α) (k : Int) (hk : 0 ≤ k) : hdOk g c (mkG f c l k) k = true := by
  have := cnG_nn hn l
  unfold hdOk
  rw [hdG_mkG hg hc hn l k hk]
  exact decide_eq_true (by omega)
theorem hdOk_val {α : Type} {g : α → Int → Bool} {c : α → Int} {l : List α} {k : Int} (h : hdOk g c l k = true) : hdG g c l k = k + cnG c l := by
  rcases hdG_val l k with e | e
  · exact e
  · unfold hdOk at h; rw [e] at h; exact absurd h (by decide)
theorem hdOk_not {α : Type} {g : α → Int → Bool} {c : α → Int} {l : List α} {k : Int} (hc : ∀ a, 0 ≤ c a) (hk : 0 ≤ k) (h : hdOk g c l k = false) : hdG g c l k = -1 := by
  rcases hdG_val (g := g) (c := c) l k with e | e
  · have := cnG_nn hc l
    unfold hdOk at h; rw [e] at h; exact absurd h (by simp; omega)
  · exact e
abbrev c1 {α : Type} (_ : α) : Int := 1
def okStr (s : Str) : Prop := s.size ≤ 2097152
def okBool (_ : Bool) : Prop := True
def okL {α : Type} (ok : α → Prop) (l : List α) : Prop := l.length ≤ 2097152 ∧ ∀ a ∈ l, ok a
@[push_cast] theorem rd_String (l : List Str) : rdR (l.map strR) = l.map strR := by simp [rdR, strR, rdC]
@[push_cast] theorem flat_String (l : List Str) : flatR (l.map strR) = true := by simp [flatR, strR, isSc]
@[push_cast] theorem flat_Bool (l : List Bool) : flatR (l.map boolR) = true := by simp [flatR, boolR, isSc]
@[push_cast] theorem flat_num (l : List Int) : flatR (l.map numR) = true := by simp [flatR, numR, isSc]
@[push_cast] theorem own_String (l : List Str) : (l.map strR).all (fun row => row.all own2) = true := by simp [strR, own2]
@[push_cast] theorem own_Bool (l : List Bool) : (l.map boolR).all (fun row => row.all own2) = true := by simp [boolR, own2]
@[push_cast] theorem rd_Bool (l : List Bool) : rdR (l.map boolR) = l.map boolR := by simp [rdR, boolR, rdC]
attribute [push_cast] strR boolR
abbrev mkBool (_ : Bool) (k : Int) : Bool := decide (k % 3 = 0)
abbrev hdBool (a : Bool) (k : Int) : Bool := a == decide (k % 3 = 0)
theorem szL_ok {α : Type} {f : α → Int → Int} {ok : α → Prop} (hf : ∀ a x, 0 ≤ f a x → f a x ≤ x ∧ (x ≤ 2097152 → ok a)) (l : List α) (x : Int) (h : 0 ≤ szL f l x) : szL f l x ≤ x ∧ (x ≤ 2097152 → okL ok l) := by
  unfold szL at h ⊢
  split at h
  · omega
  · rename_i hn
    rw [if_neg hn]
    have := szG_ok hf l _ h
    exact ⟨by omega, fun hx => ⟨by omega, this.2 (by omega)⟩⟩
theorem szStr_ok (s : Str) (x : Int) (h : 0 ≤ szStr s x) : szStr s x ≤ x ∧ (x ≤ 2097152 → okStr s) := by
  unfold szStr at h ⊢
  exact ⟨by omega, fun _ => by unfold okStr; omega⟩
/-! what the model itself bounds -/
theorem cnG_ok {α : Type} {c : α → Int} {ok : α → Prop} {B : Int} (hB : 0 ≤ B) (h : ∀ a, ok a → c a ≤ B) {l : List α} (hl : okL ok l) : cnG c l ≤ B * 2097152 := by
  have := cnG_le l fun a ha => h a (hl.2 a ha)
  have h2 : B * l.length ≤ B * 2097152 := Int.mul_le_mul_of_nonneg_left (by have := hl.1; omega) hB
  omega
theorem c1_le {α : Type} {ok : α → Prop} (a : α) (_ : ok a) : c1 a ≤ 1 := Int.le_refl _
def bdStr (s : Str) : Prop := s.size ≤ 9223372036854775807
def bdBool (_ : Bool) : Prop := True
def bdL {α : Type} (bd : α → Prop) (l : List α) : Prop := l.length ≤ 9223372036854775807 ∧ ∀ a ∈ l, bd a
abbrev mkStr (_ : Str) (k : Int) : Str := mtx k
abbrev hdStr (a : Str) (k : Int) : Bool := decide (a = mtx k)
theorem hdmk_Str (a : Str) (k : Int) (_ : 0 ≤ k) : hdStr (mkStr a k) k = true := by simp
theorem hdmk_Bool (a : Bool) (k : Int) (_ : 0 ≤ k) : hdBool (mkBool a k) k = true := by simp
theorem cn1 {α : Type} (l : List α) : cnG (c1 (α := α)) l = l.length := by
  induction l with
  | nil => rfl
  | cons a r ih => rw [cnG, ih]; simp [c1]; omega
theorem cn1_mk {α : Type} (f : α → Int → α) (l : List α) (k : Int) : cnG c1 (mkG f c1 l k) = cnG c1 l := by rw [cn1, cn1, mkG_len]
theorem c1_nn {α : Type} (a : α) : (0 : Int) ≤ c1 a := by show (0 : Int) ≤ 1; decide
end Go.Proofs.Ytfanhfmfbfncfaa.Mx

/- The laws' data: as values; sizes, marks. (By fam.py of this session.) -/
namespace Go.Proofs.Ytfanhfmfbfncfaa.Mx
set_option linter.all false
open Go Go.RowKit
structure Item where
  t : Str
  u : Int
  deriving DecidableEq
@[push_cast] def itemC (_ : Bool) (x : Item) : Row := [.sc (.string x.t), .sc (.int .i64 x.u)]
def okItem (x : Item) : Prop := okStr x.t
@[push_cast] theorem flat_Item (o : Bool) (l : List Item) : flatR (l.map (itemC o)) = true := by simp [flatR, itemC, isSc]
@[push_cast] theorem own_Item (l : List Item) : (l.map (itemC true)).all (fun row => row.all own2) = true := by simp [itemC, own2]
@[push_cast] theorem own_Itemf (l : List Item) : (l.map (itemC false)).all (fun row => row.all own2) = true := by simp [itemC, own2]
@[push_cast] theorem rd_Item (o : Bool) (l : List Item) : rdR (l.map (itemC o)) = l.map (itemC false) := by simp [rdR, itemC, rdC]
def bdItem (x : Item) : Prop := bdStr x.t
def szItem (a : Item) (x : Int) : Int := if x - a.t.size < 0 then -1 else (x - a.t.size)
theorem szItem_ok (a : Item) (x : Int) (h : 0 ≤ szItem a x) : szItem a x ≤ x ∧ (x ≤ 2097152 → okItem a) := by
  unfold szItem at h ⊢
  split at h
  · omega
  rename_i n0
  rw [if_neg n0]
  have q_t := szStr_ok a.t (x) (by unfold szStr; omega); unfold szStr at q_t
  exact ⟨by omega, fun hx => q_t.2 (by omega)⟩
def mkItem (a : Item) (k : Int) : Item := ⟨mtx (k), k + 1⟩
def cnItem (a : Item) : Int := 1 + 1
def hdItem (a : Item) (k : Int) : Bool := decide (a.t = mtx (k)) && decide (a.u = k + 1)
theorem cnItem_nn (a : Item) : 0 ≤ cnItem a := by
  unfold cnItem; omega
theorem cnItem_1 (a : Item) : 1 ≤ cnItem a := by
  unfold cnItem; omega
theorem cnmk_Item (a : Item) (k : Int) : cnItem (mkItem a k) = cnItem a := by simp [cnItem, mkItem]
theorem hdmk_Item (a : Item) (k : Int) (hk : 0 ≤ k) : hdItem (mkItem a k) k = true := by
  simp [hdItem, mkItem]
theorem cnItem_le (a : Item) (h : okItem a) : cnItem a ≤ 2 := by
  unfold okItem at h
  unfold cnItem; omega
structure Store where
  w : Int
  r : Int
  I : List Item
  P : List Str
  deriving DecidableEq
@[push_cast] def storeC (o : Bool) (x : Store) : Row := [.sc (.int .i64 x.w), .sc (.int .i64 x.r), .sl o 2 (x.I.map (itemC o)), .sl o 1 (x.P.map strR)]
def okStore (x : Store) : Prop := okL okItem x.I ∧ okL okStr x.P
@[push_cast] theorem own_Store (l : List Store) : (l.map (storeC true)).all (fun row => row.all own2) = true := by simp [storeC, own2, flat_Item, flat_String]
@[push_cast] theorem rd_Store (o : Bool) (l : List Store) : rdR (l.map (storeC o)) = l.map (storeC false) := by simp [rdR, storeC, rdC, itemC]
def bdStore (x : Store) : Prop := bdL bdItem x.I ∧ bdL bdStr x.P
def szStore (a : Store) (x : Int) : Int := if szL szItem a.I (x) < 0 then -1 else (if szL szStr a.P (szL szItem a.I (x)) < 0 then -1 else (szL szStr a.P (szL szItem a.I (x))))
theorem szStore_ok (a : Store) (x : Int) (h : 0 ≤ szStore a x) : szStore a x ≤ x ∧ (x ≤ 2097152 → okStore a) := by
  unfold szStore at h ⊢
  split at h
  · omega
  rename_i n0
  rw [if_neg n0]
  split at h
  · omega
  rename_i n1
  rw [if_neg n1]
  have q_I := szL_ok szItem_ok a.I (x) (by omega)
  have q_P := szL_ok szStr_ok a.P (szL szItem a.I (x)) (by omega)
  exact ⟨by omega, fun hx => ⟨q_I.2 (by omega), q_P.2 (by omega)⟩⟩
def mkStore (a : Store) (k : Int) : Store := ⟨k, k + 1, mkG mkItem cnItem a.I (k + 1 + 1), mkG mkStr c1 a.P (k + 1 + 1 + cnG cnItem a.I)⟩
def cnStore (a : Store) : Int := 1 + 1 + cnG cnItem a.I + cnG c1 a.P
def hdStore (a : Store) (k : Int) : Bool := decide (a.w = k) && decide (a.r = k + 1) && hdOk hdItem cnItem a.I (k + 1 + 1) && hdOk hdStr c1 a.P (k + 1 + 1 + cnG cnItem a.I)
theorem cnStore_nn (a : Store) : 0 ≤ cnStore a := by
  have := cnG_nn (c := cnItem) cnItem_nn a.I
  have := cnG_nn (c := c1) c1_nn a.P
  unfold cnStore; omega
theorem cnStore_1 (a : Store) : 1 ≤ cnStore a := by
  have := cnG_nn (c := cnItem) cnItem_nn a.I
  have := cnG_nn (c := c1) c1_nn a.P
  unfold cnStore; omega
theorem cnmk_Store (a : Store) (k : Int) : cnStore (mkStore a k) = cnStore a := by simp [cnStore, mkStore, cnG_mkG cnmk_Item, cn1_mk]
theorem hdmk_Store (a : Store) (k : Int) (hk : 0 ≤ k) : hdStore (mkStore a k) k = true := by
  have := cnG_nn (c := cnItem) cnItem_nn a.I
  have := cnG_nn (c := c1) c1_nn a.P
  simp only [hdStore, mkStore, Bool.and_eq_true, decide_eq_true_eq, true_and, and_true, beq_self_eq_true, cnG_mkG cnmk_Item, cn1_mk]
  exact ⟨(hdOk_mk hdmk_Item cnmk_Item cnItem_nn _ _ (by omega)), (hdOk_mk hdmk_Str (fun _ _ => rfl) c1_nn _ _ (by omega))⟩
def smkStore (a : Store) (k : Int) : Store := ⟨a.w, a.r, mkG mkItem cnItem a.I (k), mkG mkStr c1 a.P (k + cnG cnItem a.I)⟩
def scnStore (a : Store) : Int := cnG cnItem a.I + cnG c1 a.P
def shdStore (a : Store) (k : Int) : Bool := hdOk hdItem cnItem a.I (k) && hdOk hdStr c1 a.P (k + cnG cnItem a.I)
theorem scnStore_nn (a : Store) : 0 ≤ scnStore a := by
  have := cnG_nn (c := cnItem) cnItem_nn a.I
  have := cnG_nn (c := c1) c1_nn a.P
  unfold scnStore; omega
theorem scnmk_Store (a : Store) (k : Int) : scnStore (smkStore a k) = scnStore a := by simp [scnStore, smkStore, cnG_mkG cnmk_Item, cn1_mk]
theorem shdmk_Store (a : Store) (k : Int) (hk : 0 ≤ k) : shdStore (smkStore a k) k = true := by
  have := cnG_nn (c := cnItem) cnItem_nn a.I
  have := cnG_nn (c := c1) c1_nn a.P
  simp only [shdStore, smkStore, Bool.and_eq_true, decide_eq_true_eq, true_and, and_true, beq_self_eq_true, cnG_mkG cnmk_Item, cn1_mk]
  exact ⟨(hdOk_mk hdmk_Item cnmk_Item cnItem_nn _ _ (by omega)), (hdOk_mk hdmk_Str (fun _ _ => rfl) c1_nn _ _ (by omega))⟩
theorem cnStore_le (a : Store) (h : okStore a) : cnStore a ≤ 6291458 := by
  unfold okStore at h
  have := cnG_ok (c := cnItem) (B := 2) (by decide) cnItem_le h.1
  have := cnG_ok (c := c1) (B := 1) (by decide) c1_le h.2
  unfold cnStore; omega
theorem scnStore_le (a : Store) (h : okStore a) : scnStore a ≤ 6291456 := by
  unfold okStore at h
  have := cnG_ok (c := cnItem) (B := 2) (by decide) cnItem_le h.1
  have := cnG_ok (c := c1) (B := 1) (by decide) c1_le h.2
  unfold scnStore; omega
structure Peer where
  lies : Int
  wait : Int
  last : Int
  ask : Str
  N : List Str
  deriving DecidableEq
@[push_cast] def peerC (o : Bool) (x : Peer) : Row := [.sc (.int .i64 x.lies), .sc (.int .i64 x.wait), .sc (.int .i64 x.last), .sc (.string x.ask), .sl o 1 (x.N.map strR)]
def okPeer (x : Peer) : Prop := okStr x.ask ∧ okL okStr x.N
@[push_cast] theorem own_Peer (l : List Peer) : (l.map (peerC true)).all (fun row => row.all own2) = true := by simp [peerC, own2, flat_String]
@[push_cast] theorem rd_Peer (o : Bool) (l : List Peer) : rdR (l.map (peerC o)) = l.map (peerC false) := by simp [rdR, peerC, rdC]
def bdPeer (x : Peer) : Prop := bdStr x.ask ∧ bdL bdStr x.N
def szPeer (a : Peer) (x : Int) : Int := if x - a.ask.size < 0 then -1 else (if szL szStr a.N (x - a.ask.size) < 0 then -1 else (szL szStr a.N (x - a.ask.size)))
theorem szPeer_ok (a : Peer) (x : Int) (h : 0 ≤ szPeer a x) : szPeer a x ≤ x ∧ (x ≤ 2097152 → okPeer a) := by
  unfold szPeer at h ⊢
  split at h
  · omega
  rename_i n0
  rw [if_neg n0]
  split at h
  · omega
  rename_i n1
  rw [if_neg n1]
  have q_ask := szStr_ok a.ask (x) (by unfold szStr; omega); unfold szStr at q_ask
  have q_N := szL_ok szStr_ok a.N (x - a.ask.size) (by omega)
  exact ⟨by omega, fun hx => ⟨q_ask.2 (by omega), q_N.2 (by omega)⟩⟩
def mkPeer (a : Peer) (k : Int) : Peer := ⟨k, k + 1, k + 1 + 1, mtx (k + 1 + 1 + 1), mkG mkStr c1 a.N (k + 1 + 1 + 1 + 1)⟩
def cnPeer (a : Peer) : Int := 1 + 1 + 1 + 1 + cnG c1 a.N
def hdPeer (a : Peer) (k : Int) : Bool := decide (a.lies = k) && decide (a.wait = k + 1) && decide (a.last = k + 1 + 1) && decide (a.ask = mtx (k + 1 + 1 + 1)) && hdOk hdStr c1 a.N (k + 1 + 1 + 1 + 1)
theorem cnPeer_nn (a : Peer) : 0 ≤ cnPeer a := by
  have := cnG_nn (c := c1) c1_nn a.N
  unfold cnPeer; omega
theorem cnPeer_1 (a : Peer) : 1 ≤ cnPeer a := by
  have := cnG_nn (c := c1) c1_nn a.N
  unfold cnPeer; omega
theorem cnmk_Peer (a : Peer) (k : Int) : cnPeer (mkPeer a k) = cnPeer a := by simp [cnPeer, mkPeer, cn1_mk]
theorem hdmk_Peer (a : Peer) (k : Int) (hk : 0 ≤ k) : hdPeer (mkPeer a k) k = true := by
  have := cnG_nn (c := c1) c1_nn a.N
  simp only [hdPeer, mkPeer, Bool.and_eq_true, decide_eq_true_eq, true_and, and_true, beq_self_eq_true, cn1_mk]
  exact (hdOk_mk hdmk_Str (fun _ _ => rfl) c1_nn _ _ (by omega))
theorem cnPeer_le (a : Peer) (h : okPeer a) : cnPeer a ≤ 2097156 := by
  unfold okPeer at h
  have := cnG_ok (c := c1) (B := 1) (by decide) c1_le h.2
  unfold cnPeer; omega
structure Fetch where
  nm : Str
  now : Int
  full : Bool
  st : Store
  Q : List Peer
  deriving DecidableEq
@[push_cast] def fetchC (o : Bool) (x : Fetch) : Row := [.sc (.string x.nm), .sc (.int .i64 x.now), .sc (.bool x.full), .sc (.int .i64 x.st.w), .sc (.int .i64 x.st.r), .sl o 2 (x.st.I.map (itemC o)), .sl o 1 (x.st.P.map strR), .sl o 5 (x.Q.map (peerC o))]
def okFetch (x : Fetch) : Prop := okStr x.nm ∧ okStore x.st ∧ okL okPeer x.Q
def bdFetch (x : Fetch) : Prop := bdStr x.nm ∧ bdStore x.st ∧ bdL bdPeer x.Q
def szFetch (a : Fetch) (x : Int) : Int := if x - a.nm.size < 0 then -1 else (if szStore a.st (x - a.nm.size) < 0 then -1 else (if szL szPeer a.Q (szStore a.st (x - a.nm.size)) < 0 then -1 else (szL szPeer a.Q (szStore a.st (x - a.nm.size)))))
theorem szFetch_ok (a : Fetch) (x : Int) (h : 0 ≤ szFetch a x) : szFetch a x ≤ x ∧ (x ≤ 2097152 → okFetch a) := by
  unfold szFetch at h ⊢
  split at h
  · omega
  rename_i n0
  rw [if_neg n0]
  split at h
  · omega
  rename_i n1
  rw [if_neg n1]
  split at h
  · omega
  rename_i n2
  rw [if_neg n2]
  have q_nm := szStr_ok a.nm (x) (by unfold szStr; omega); unfold szStr at q_nm
  have q_st := szStore_ok a.st (x - a.nm.size) (by omega)
  have q_Q := szL_ok szPeer_ok a.Q (szStore a.st (x - a.nm.size)) (by omega)
  exact ⟨by omega, fun hx => ⟨q_nm.2 (by omega), q_st.2 (by omega), q_Q.2 (by omega)⟩⟩
def smkFetch (a : Fetch) (k : Int) : Fetch := ⟨a.nm, a.now, a.full, smkStore a.st (k), mkG mkPeer cnPeer a.Q (k + scnStore a.st)⟩
def scnFetch (a : Fetch) : Int := scnStore a.st + cnG cnPeer a.Q
def shdFetch (a : Fetch) (k : Int) : Bool := shdStore a.st (k) && hdOk hdPeer cnPeer a.Q (k + scnStore a.st)
theorem scnFetch_nn (a : Fetch) : 0 ≤ scnFetch a := by
  have := scnStore_nn a.st
  have := cnG_nn (c := cnPeer) cnPeer_nn a.Q
  unfold scnFetch; omega
theorem scnmk_Fetch (a : Fetch) (k : Int) : scnFetch (smkFetch a k) = scnFetch a := by simp [scnFetch, smkFetch, scnmk_Store, cnG_mkG cnmk_Peer]
theorem shdmk_Fetch (a : Fetch) (k : Int) (hk : 0 ≤ k) : shdFetch (smkFetch a k) k = true := by
  have := scnStore_nn a.st
  have := cnG_nn (c := cnPeer) cnPeer_nn a.Q
  simp only [shdFetch, smkFetch, Bool.and_eq_true, decide_eq_true_eq, true_and, and_true, beq_self_eq_true, scnmk_Store, cnG_mkG cnmk_Peer]
  exact ⟨(shdmk_Store _ _ (by omega)), (hdOk_mk hdmk_Peer cnmk_Peer cnPeer_nn _ _ (by omega))⟩
theorem scnFetch_le (a : Fetch) (h : okFetch a) : scnFetch a ≤ 4398061191168 := by
  unfold okFetch at h
  have := scnStore_le a.st h.2.1
  have := cnG_ok (c := cnPeer) (B := 2097156) (by decide) cnPeer_le h.2.2
  unfold scnFetch; omega
structure Message where
  fr : Int
  to : Int
  sum : Str
  has : Bool
  tx : Str
  deriving DecidableEq
@[push_cast] def messageC (_ : Bool) (x : Message) : Row := [.sc (.int .i64 x.fr), .sc (.int .i64 x.to), .sc (.string x.sum), .sc (.bool x.has), .sc (.string x.tx)]
def okMessage (x : Message) : Prop := okStr x.sum ∧ okStr x.tx
@[push_cast] theorem flat_Message (o : Bool) (l : List Message) : flatR (l.map (messageC o)) = true := by simp [flatR, messageC, isSc]
@[push_cast] theorem own_Message (l : List Message) : (l.map (messageC true)).all (fun row => row.all own2) = true := by simp [messageC, own2]
@[push_cast] theorem own_Messagef (l : List Message) : (l.map (messageC false)).all (fun row => row.all own2) = true := by simp [messageC, own2]
@[push_cast] theorem rd_Message (o : Bool) (l : List Message) : rdR (l.map (messageC o)) = l.map (messageC false) := by simp [rdR, messageC, rdC]
def mkMessage (a : Message) (k : Int) : Message := ⟨k, k + 1, mtx (k + 1 + 1), decide ((k + 1 + 1 + 1) % 3 = 0), mtx (k + 1 + 1 + 1 + 1)⟩
def cnMessage (a : Message) : Int := 1 + 1 + 1 + 1 + 1
def hdMessage (a : Message) (k : Int) : Bool := decide (a.fr = k) && decide (a.to = k + 1) && decide (a.sum = mtx (k + 1 + 1)) && (a.has == decide ((k + 1 + 1 + 1) % 3 = 0)) && decide (a.tx = mtx (k + 1 + 1 + 1 + 1))
theorem cnMessage_nn (a : Message) : 0 ≤ cnMessage a := by
  unfold cnMessage; omega
theorem cnMessage_1 (a : Message) : 1 ≤ cnMessage a := by
  unfold cnMessage; omega
theorem cnmk_Message (a : Message) (k : Int) : cnMessage (mkMessage a k) = cnMessage a := by simp [cnMessage, mkMessage]
theorem hdmk_Message (a : Message) (k : Int) (hk : 0 ≤ k) : hdMessage (mkMessage a k) k = true := by
  simp [hdMessage, mkMessage]
theorem cnMessage_le (a : Message) (h : okMessage a) : cnMessage a ≤ 5 := by
  unfold okMessage at h
  unfold cnMessage; omega
structure World where
  f : Fetch
  up : List Bool
  ss : List Store
  fl : List Message
  wa : Int
  deriving DecidableEq
@[push_cast] def worldC (o : Bool) (x : World) : Row := [.sc (.string x.f.nm), .sc (.int .i64 x.f.now), .sc (.bool x.f.full), .sc (.int .i64 x.f.st.w), .sc (.int .i64 x.f.st.r), .sl o 2 (x.f.st.I.map (itemC o)), .sl o 1 (x.f.st.P.map strR), .sl o 5 (x.f.Q.map (peerC o)), .sl o 1 (x.up.map boolR), .sl o 4 (x.ss.map (storeC o)), .sl o 5 (x.fl.map (messageC o)), .sc (.int .i64 x.wa)]
def okWorld (x : World) : Prop := okFetch x.f ∧ okL okBool x.up ∧ okL okStore x.ss ∧ okL okMessage x.fl
def smkWorld (a : World) (k : Int) : World := ⟨smkFetch a.f (k), mkG mkBool c1 a.up (k + scnFetch a.f), mkG mkStore cnStore a.ss (k + scnFetch a.f + cnG c1 a.up), mkG mkMessage cnMessage a.fl (k + scnFetch a.f + cnG c1 a.up + cnG cnStore a.ss), a.wa⟩
def scnWorld (a : World) : Int := scnFetch a.f + cnG c1 a.up + cnG cnStore a.ss + cnG cnMessage a.fl
def shdWorld (a : World) (k : Int) : Bool := shdFetch a.f (k) && hdOk hdBool c1 a.up (k + scnFetch a.f) && hdOk hdStore cnStore a.ss (k + scnFetch a.f + cnG c1 a.up) && hdOk hdMessage cnMessage a.fl (k + scnFetch a.f + cnG c1 a.up + cnG cnStore a.ss)
theorem scnWorld_nn (a : World) : 0 ≤ scnWorld a := by
  have := scnFetch_nn a.f
  have := cnG_nn (c := c1) c1_nn a.up
  have := cnG_nn (c := cnStore) cnStore_nn a.ss
  have := cnG_nn (c := cnMessage) cnMessage_nn a.fl
  unfold scnWorld; omega
theorem scnmk_World (a : World) (k : Int) : scnWorld (smkWorld a k) = scnWorld a := by simp [scnWorld, smkWorld, scnmk_Fetch, cn1_mk, cnG_mkG cnmk_Store, cnG_mkG cnmk_Message]
theorem shdmk_World (a : World) (k : Int) (hk : 0 ≤ k) : shdWorld (smkWorld a k) k = true := by
  have := scnFetch_nn a.f
  have := cnG_nn (c := c1) c1_nn a.up
  have := cnG_nn (c := cnStore) cnStore_nn a.ss
  have := cnG_nn (c := cnMessage) cnMessage_nn a.fl
  simp only [shdWorld, smkWorld, Bool.and_eq_true, decide_eq_true_eq, true_and, and_true, beq_self_eq_true, scnmk_Fetch, cn1_mk, cnG_mkG cnmk_Store, cnG_mkG cnmk_Message]
  exact ⟨⟨⟨(shdmk_Fetch _ _ (by omega)), (hdOk_mk hdmk_Bool (fun _ _ => rfl) c1_nn _ _ (by omega))⟩, (hdOk_mk hdmk_Store cnmk_Store cnStore_nn _ _ (by omega))⟩, (hdOk_mk hdmk_Message cnmk_Message cnMessage_nn _ _ (by omega))⟩
theorem scnWorld_le (a : World) (h : okWorld a) : scnWorld a ≤ 17592217501696 := by
  unfold okWorld at h
  have := scnFetch_le a.f h.1
  have := cnG_ok (c := c1) (B := 1) (by decide) c1_le h.2.1
  have := cnG_ok (c := cnStore) (B := 6291458) (by decide) cnStore_le h.2.2.1
  have := cnG_ok (c := cnMessage) (B := 5) (by decide) cnMessage_le h.2.2.2
  unfold scnWorld; omega
end Go.Proofs.Ytfanhfmfbfncfaa.Mx

/- Out of the library's contracts: what only reads. -/
namespace Go.Proofs.Ytfanhfmfbfncfaa.Mx
set_option linter.all false
open Go Go.RowKit Go.Proofs
theorem does_pure {P : Program} {f : FuncId} {fn : Func} {c : Code} {avs : List AV} {v : Value} (hf : P.funcs[f]? = some fn) (hb : fn.body = some c) (hn : (fn.name == "runtime.NumGoroutine") = false) (hv : plain v = true)
    (H : ∀ (w : Go.World) (ok : Nat → Prop) (G : Fp) (args : List Value), ArgsRep w ok G args avs → Calls P f args.toArray w fun e w' => e = .returned v ∧ Below w.heap.size w w') : Does P f avs (.sc v, []) := by
  constructor
  intro w ok G args hA
  left
  have h1 : fn.name ≠ "runtime.NumGoroutine" := by simpa using hn
  refine ⟨by simp [callFunc, hf, h1, hb], (H w ok G args hA).mono fun e w' h => ?_⟩
  obtain ⟨rfl, hB⟩ := h
  refine ⟨fun _ _ => False, ⟨⟨hB.os, hB.tape, hB.output, hB.size, fun k hk _ => hB.block k hk⟩, Kp.old hB.block, fun _ _ _ h => h.elim, fun _ _ h => h.elim, ?_, fun i t h => by simp at h⟩⟩
  exact Own.rd _ _ _ (by intro z r h; cases h) (by intro cs h; cases h) (.sc v hv)
theorem rep_str {w : Go.World} {ok : Nat → Prop} {v : Value} {x : Str} (h : Rep w ok v (.sc (.string x))) : v = .string x := by cases h; rfl
theorem rep_strs {w : Go.World} {ok : Nat → Prop} {v : Value} {o : Bool} {l : List Str} (h : Rep w ok v (.sl o 1 (l.map strR))) :
    (l = [] ∧ ∃ A c, v = .slice A 0 c) ∨ ∃ b off cap, v = .slice (some ⟨b, off, none⟩) l.length cap ∧ l.length ≤ cap ∧ ok b ∧ ∀ i x, l[i]? = some x → w.cell? ⟨b, off + i, none⟩ = some (.string x) := by
  generalize hr : l.map strR = rows at h
  cases h with
  | nil => left; exact ⟨by simpa using hr, _, _, rfl⟩
  | emp => left; exact ⟨by simpa using hr, _, _, rfl⟩
  | sl _ _ b off cap _ vs h1 h2 h3 h4 h5 =>
    right
    subst hr
    refine ⟨b, off, cap, by rw [List.length_map], by simpa using h2, h1, fun i x hx => ?_⟩
    have hi : (l.map strR)[i]? = some [.sc (.string x)] := by rw [List.getElem?_map, hx]; rfl
    have a := (h4 i _ 0 _ hi rfl).1
    have b := rep_str (h5 i _ 0 _ hi rfl)
    rw [b] at a
    simpa using a
theorem own_rep {w : Go.World} {ok F : Nat → Prop} {v : Value} {x : AV} (h : Own w ok F v x) (h1 : ∀ z r, x ≠ .sl true z r) (h2 : ∀ cs, x ≠ .pb true cs) : Rep w ok v x := by
  cases h with
  | rd _ _ _ _ _ h => exact h
  | nil => exact (h1 _ _ rfl).elim
  | emp => exact (h1 _ _ rfl).elim
  | sl => exact (h1 _ _ rfl).elim
  | pb => exact (h2 _ rfl).elim
theorem args2 {w : Go.World} {ok : Nat → Prop} {G : Fp} {args : List Value} {x y : AV} (h : ArgsRep w ok G args [x, y]) : ∃ u v, args = [u, v] ∧ OwnA w ok (G 0) u x ∧ OwnA w ok (G 1) v y := by
  match args, h.len with
  | [u, v], _ => exact ⟨u, v, rfl, h.own 0 u x rfl rfl, h.own 1 v y rfl rfl⟩
end Go.Proofs.Ytfanhfmfbfncfaa.Mx

/- Arguments: whatever reads as data at a type is what the machine takes it for. -/
namespace Go.Proofs.Ytfanhfmfbfncfaa.Mx
set_option linter.all false
open Go Go.RowKit
open Go.ChangeShapes Go.WideShapes Go.Deep
set_option linter.unusedVariables false
def CellsR (W : Go.World) (cs : List Value) (row : Row) : Prop :=
  cs.length = row.length ∧ ∀ (j : Nat) (v : Value) (a : AV), cs[j]? = some v → row[j]? = some a → Rep W (fun b => b < W.heap.size) v a ∧ v.oneCell' = true ∧ (∀ z r, a ≠ .sl true z r) ∧ ∀ c, a ≠ .pb true c
def OpnA (P : Program) {α : Type} (f : α → Row) (t : TypeId) (Q : α → Prop) : Prop :=
  ∀ (H : Type) (enc : TypeId × Value → H) (W : Go.World) (base : Nat) (spare : Nat → Bool) (held : Bool) (fuel : Nat) (cs : List Value) (x : DataW H × List MemPlace),
    DataW.trod enc P W base spare held fuel t cs = some x → ∃ y, CellsR W cs (f y) ∧ Q y
theorem cellsR_one {W : Go.World} {v : Value} {a : AV} (h : Rep W (fun b => b < W.heap.size) v a) (h1 : v.oneCell' = true) (h2 : ∀ z r, a ≠ .sl true z r) (h3 : ∀ c, a ≠ .pb true c) : CellsR W [v] [a] :=
  ⟨rfl, fun j u b hu hb => by
    cases j with
    | zero => simp at hu hb; subst hu; subst hb; exact ⟨h, h1, h2, h3⟩
    | succ j => simp at hu⟩
theorem cellsR_app {W : Go.World} {a b : List Value} {r q : Row} (h : CellsR W a r) (k : CellsR W b q) : CellsR W (a ++ b) (r ++ q) := by
  refine ⟨by rw [List.length_append, List.length_append, h.1, k.1], fun j v x hv hx => ?_⟩
  by_cases hj : j < a.length
  · rw [List.getElem?_append_left hj] at hv
    rw [List.getElem?_append_left (by rw [← h.1]; exact hj)] at hx
    exact h.2 j v x hv hx
  · rw [List.getElem?_append_right (by omega)] at hv
    rw [List.getElem?_append_right (by rw [← h.1]; omega), ← h.1] at hx
    exact k.2 _ v x hv hx
theorem opn_int {P : Program} {t : TypeId} {k : IntKind} (hu : P.underlying t = some (.int k)) : OpnA P (fun n : Int => [.sc (.int k n)]) t (fun _ => True) := by
  intro H enc W base spare held fuel cs x h
  obtain ⟨n, rfl, _, h2⟩ := DataW.trod_int hu h
  exact ⟨n, cellsR_one (.sc _ rfl) rfl (by intro z r h; cases h) (by intro c h; cases h), trivial⟩
theorem opn_bool {P : Program} {t : TypeId} (hu : P.underlying t = some .bool) : OpnA P boolR t bdBool := by
  intro H enc W base spare held fuel cs x h
  obtain ⟨b, rfl, _⟩ := DataW.trod_bool hu h
  exact ⟨b, cellsR_one (.sc _ rfl) rfl (by intro z r h; cases h) (by intro c h; cases h), trivial⟩
theorem opn_string {P : Program} {t : TypeId} (hu : P.underlying t = some .string) : OpnA P strR t bdStr := by
  intro H enc W base spare held fuel cs x h
  obtain ⟨s, rfl, _, h2⟩ := DataW.trod_string hu h
  exact ⟨s, cellsR_one (.sc _ rfl) rfl (by intro z r h; cases h) (by intro c h; cases h), h2⟩
theorem list_of {α : Type} {p : Nat → α → Prop} : ∀ (n : Nat), (∀ i, i < n → ∃ y, p i y) → ∃ l : List α, l.length = n ∧ ∀ i y, l[i]? = some y → p i y
  | 0, _ => ⟨[], rfl, fun i y h => by simp at h⟩
  | n + 1, h => by
    obtain ⟨l, h1, h2⟩ := list_of n (fun i hi => h i (by omega))
    obtain ⟨y, hy⟩ := h n (by omega)
    refine ⟨l ++ [y], by simp [h1], fun i z hz => ?_⟩
    by_cases e : i < n
    · rw [List.getElem?_append_left (by omega)] at hz; exact h2 i z hz
    · rw [List.getElem?_append_right (by omega)] at hz
      have : i = n := by
        have := (List.getElem?_eq_some_iff.1 hz).1
        simp at this; omega
      subst this
      rw [h1] at hz; simp at hz; subst hz; exact hy
theorem opn_slice {P : Program} {α : Type} {f : α → Row} {z : Nat} {t e : TypeId} {Q : α → Prop} (hu : P.underlying t = some (.slice e)) (hc : P.cellsOf e = z) (hz : 1 ≤ z) (hf : ∀ y, (f y).length = z) (h : OpnA P f e Q) :
    OpnA P (fun l : List α => [.sl false z (l.map f)]) t (bdL Q) := by
  intro H enc W base spare held fuel cs x hx
  rcases open_slice hu hx with ⟨rfl, rfl⟩ | ⟨a, len, cap, m, n, D, Pl, rfl, hb, hl, hm, hmm, rfl, hel⟩
  · exact ⟨[], cellsR_one (.nil _ _) rfl (by intro z r h; cases h) (by intro c h; cases h), by simp [bdL]⟩
  · have hlm : len ≤ m := by rw [hmm]; split <;> omega
    subst hc
    have each : ∀ i, i < len → ∃ y : α, (∃ c : List Value, W.cells? base (a.add (i * P.cellsOf e)) (P.cellsOf e) = some c ∧ CellsR W c (f y)) ∧ Q y := by
      intro i hi
      obtain ⟨c, h1, h2⟩ := hel i (by omega)
      obtain ⟨y, h3, h4⟩ := h H enc W base spare held n c _ h2
      exact ⟨y, ⟨c, h1, h3⟩, h4⟩
    obtain ⟨l, ll, hl2⟩ := list_of len each
    have hmx : maxLen = 9223372036854775807 := rfl
    have hQ : bdL Q l := ⟨by omega, fun y hy => by
      obtain ⟨i, hi⟩ := List.getElem?_of_mem hy
      exact (hl2 i y hi).2⟩
    refine ⟨l, ?_, hQ⟩
    rcases Nat.eq_zero_or_pos len with h0 | h0
    · subst h0
      obtain rfl := List.eq_nil_of_length_eq_zero ll
      exact cellsR_one (.emp _ _ a cap) rfl (by intro z r h; cases h) (by intro c h; cases h)
    · -- the first cell tells that the address is plain
      have cell : ∀ i y j v, l[i]? = some y → (∃ c : List Value, W.cells? base (a.add (i * P.cellsOf e)) (P.cellsOf e) = some c ∧ c[j]? = some v) → W.cell? (a.add (i * P.cellsOf e + j)) = some v := by
        intro i y j v hi ⟨c, h1, h2⟩
        obtain ⟨_, h3, h4⟩ := World.cells?_some h1
        have := (List.getElem?_eq_some_iff.1 h2).1
        rw [← Deep.add_add, h4 j (by omega)]; exact h2
      obtain ⟨y0, hy0⟩ := (⟨_, List.getElem?_eq_getElem (by omega : 0 < l.length)⟩ : ∃ y, l[0]? = some y)
      obtain ⟨⟨c0, k1, k2⟩, _⟩ := hl2 0 y0 hy0
      have hc0 : 0 < c0.length := by rw [k2.1, hf]; exact hz
      have w0 := cell 0 y0 0 _ hy0 ⟨c0, k1, List.getElem?_eq_getElem hc0⟩
      obtain ⟨b, off, sp⟩ := a
      have hsp : sp = none := by
        cases sp with
        | none => rfl
        | some q =>
          simp [Addr.add, World.cell?] at w0
          split at w0 <;> simp at w0
      subst hsp
      have hadd : ∀ k, (⟨b, off, none⟩ : Addr).add k = ⟨b, off + k, none⟩ := fun k => by unfold Addr.add; split <;> simp_all
      have hblk : b < W.heap.size := by
        rw [hadd] at w0
        simp only [World.cell?] at w0
        cases hb2 : W.heap[b]? with
        | none => rw [hb2] at w0; simp at w0
        | some o => exact (Array.getElem?_eq_some_iff.1 hb2).1
      have hlen : (l.map f).length = len := by rw [List.length_map, ll]
      have row : ∀ (i : Nat) (r : Row), (l.map f)[i]? = some r → ∃ y, l[i]? = some y ∧ r = f y := fun i r hr => by
        rw [List.getElem?_map] at hr
        cases hy : l[i]? with
        | none => rw [hy] at hr; cases hr
        | some y => rw [hy] at hr; cases hr; exact ⟨y, rfl, rfl⟩
      have val : ∀ (i : Nat) (r : Row) (j : Nat) (x : AV), (l.map f)[i]? = some r → r[j]? = some x → ∃ v, W.cell? ⟨b, off + (i * P.cellsOf e + j), none⟩ = some v ∧ v.oneCell' = true ∧ Rep W (fun b => b < W.heap.size) v x := fun i r j x hi hj => by
        obtain ⟨y, hy, rfl⟩ := row i r hi
        obtain ⟨⟨c, m1, m2⟩, _⟩ := hl2 i y hy
        have hjc : j < c.length := by rw [m2.1]; exact (List.getElem?_eq_some_iff.1 hj).1
        have w1 := cell i y j _ hy ⟨c, m1, List.getElem?_eq_getElem hjc⟩
        rw [hadd] at w1
        obtain ⟨q1, q2, _⟩ := m2.2 j _ x (List.getElem?_eq_getElem hjc) hj
        exact ⟨_, w1, q2, q1⟩
      have fin := Rep.sl (w := W) (ok := fun b => b < W.heap.size) false (P.cellsOf e) b off cap (l.map f) (fun i j => (W.cell? ⟨b, off + (i * P.cellsOf e + j), none⟩).getD undef) hblk (by omega)
        (fun i r hr => by obtain ⟨y, _, rfl⟩ := row i r hr; exact hf y)
        (fun i r j x hi hj => by obtain ⟨v, v1, v2, _⟩ := val i r j x hi hj; rw [v1]; exact ⟨rfl, v2⟩)
        (fun i r j x hi hj => by obtain ⟨v, v1, _, v3⟩ := val i r j x hi hj; rw [v1]; exact v3)
      rw [hlen] at fin
      exact cellsR_one fin rfl (by intro z r h; cases h) (by intro c h; cases h)
/-- Field by field: the cells are cut into those of types ts, each reads as data. -/
def Reads {H : Type} (enc : TypeId × Value → H) (P : Program) (W : Go.World) (base : Nat) (spare : Nat → Bool) (held : Bool) : List TypeId → List Value → Prop
  | [], cs => cs = []
  | t :: ts, cs => ∃ c0 c1, cs = c0 ++ c1 ∧ (∃ n x, DataW.trod enc P W base spare held n t c0 = some x) ∧ Reads enc P W base spare held ts c1
def OpnF (P : Program) {α : Type} (f : α → Row) (ts : List TypeId) (Q : α → Prop) : Prop :=
  ∀ (H : Type) (enc : TypeId × Value → H) (W : Go.World) (base : Nat) (spare : Nat → Bool) (held : Bool) (cs : List Value), Reads enc P W base spare held ts cs → ∃ y, CellsR W cs (f y) ∧ Q y
theorem opnF_one {P : Program} {α : Type} {f : α → Row} {t : TypeId} {Q : α → Prop} (h : OpnA P f t Q) : OpnF P f [t] Q := by
  intro H enc W base spare held cs hr
  obtain ⟨c0, c1, rfl, ⟨n, x, hx⟩, h1⟩ := hr
  obtain rfl : c1 = [] := h1
  rw [List.append_nil]
  exact h H enc W base spare held n c0 x hx
theorem opnF_cons {P : Program} {α β : Type} {f : α → Row} {g : β → Row} {t : TypeId} {ts : List TypeId} {Q : α → Prop} {R : β → Prop} (h : OpnA P f t Q) (k : OpnF P g ts R) : OpnF P (fun y : α × β => f y.1 ++ g y.2) (t :: ts) (fun y => Q y.1 ∧ R y.2) := by
  intro H enc W base spare held cs hr
  obtain ⟨c0, c1, rfl, ⟨n, x, hx⟩, h1⟩ := hr
  obtain ⟨y, h2, h3⟩ := h H enc W base spare held n c0 x hx
  obtain ⟨z, h4, h5⟩ := k H enc W base spare held c1 h1
  exact ⟨(y, z), cellsR_app h2 h4, h3, h5⟩
/-- The fields lie one behind the other. -/
def laidFields (P : Program) : Nat → List Field → Nat → Bool
  | o, [], n => decide (o = n)
  | o, f :: fs, n => decide (f.offset = o) && laidFields P (o + P.cellsOf f.type) fs n
theorem laid_le (P : Program) : ∀ (fs : List Field) (o n : Nat), laidFields P o fs n = true → o ≤ n
  | [], o, n, h => by simp [laidFields] at h; omega
  | f :: fs, o, n, h => by
    simp [laidFields] at h
    have := laid_le P fs _ n h.2; omega
theorem reads_fields {H : Type} {enc : TypeId × Value → H} {P : Program} {W : Go.World} {base : Nat} {spare : Nat → Bool} {held : Bool} (n : Nat) (cs : List Value) (xs : List (DataW H × List MemPlace)) :
    ∀ (fs : List Field) (o j : Nat), laidFields P o fs cs.length = true → j + fs.length = xs.length → (∀ (i : Nat) (f : Field), fs[i]? = some f → DataW.trod enc P W base spare held n f.type ((cs.drop f.offset).take (P.cellsOf f.type)) = xs[j + i]?) →
      Reads enc P W base spare held (fs.map (·.type)) (cs.drop o)
  | [], o, j, h, _, _ => by
    simp [laidFields] at h
    exact List.drop_eq_nil_of_le (by omega)
  | f :: fs, o, j, h, hl, hx => by
    simp [laidFields] at h
    have le := laid_le P fs _ _ h.2
    refine ⟨(cs.drop o).take (P.cellsOf f.type), cs.drop (o + P.cellsOf f.type), by rw [← List.drop_drop, List.take_append_drop], ?_, reads_fields n cs xs fs _ (j + 1) h.2 (by simp at hl; omega) (fun i g hg => ?_)⟩
    · have := hx 0 f rfl
      rw [h.1] at this
      have hj : j < xs.length := by simp at hl; omega
      rw [Nat.add_zero, List.getElem?_eq_getElem hj] at this
      exact ⟨n, _, this⟩
    · rw [show j + 1 + i = j + (i + 1) by omega]
      exact hx (i + 1) g (by simpa using hg)
theorem opn_struct {P : Program} {α β : Type} {f : α → Row} {g : β → Row} {t : TypeId} {fs : Array Field} {ts : List TypeId} {Q : α → Prop} {R : β → Prop} (hu : P.underlying t = some (.struct fs)) (hl : laidFields P 0 fs.toList (P.cellsOf t) = true) (ht : fs.toList.map (·.type) = ts)
    (h : OpnF P f ts Q) (to : α → β) (he : ∀ x, f x = g (to x)) (hq : ∀ x, Q x → R (to x)) : OpnA P g t R := by
  intro H enc W base spare held fuel cs x hx
  obtain ⟨xs, n, _, _, h1, h2, h3⟩ := DataW.trod_struct hu hx
  subst ht
  have := reads_fields (enc := enc) (W := W) (base := base) (spare := spare) (held := held) n cs xs fs.toList 0 0 (by rw [h1]; exact hl) (by rw [Array.length_toList]; omega) (fun i f hf => by rw [Nat.zero_add]; exact h3 i f (by simpa using hf))
  obtain ⟨y, h4, h5⟩ := h H enc W base spare held cs (by simpa using this)
  exact ⟨to y, by rw [← he]; exact h4, hq y h5⟩
section
variable {H : Type} {enc : TypeId × Value → H} {P : Program} {W : Go.World} {base b0 : Nat} {spare : Nat → Bool} {held : Bool} {t : TypeId} {v : Value} {D : DataW H} {ps : List MemPlace} {r : Reach}
theorem arg_struct {β : Type} {g : β → Row} {fs : Array Field} {Q : β → Prop} (hu : P.underlying t = some (.struct fs)) (hv : Value.okWide P W r b0 t v) (ht : DataW.Trod enc P W base spare held t v D ps) (h : OpnA P g t Q) :
    ∃ y, OwnA W (fun b => b < W.heap.size) (fun _ => False) v (.ag (g y)) ∧ Q y := by
  obtain ⟨cs, rfl, _⟩ := okWide_struct hu hv
  obtain ⟨fuel, hf⟩ := ht
  obtain ⟨y, h1, h2⟩ := h H enc W base spare held fuel _ _ hf
  refine ⟨y, ⟨cs.toList, fun _ _ => False, by simp, h1.1, fun _ _ h => h.elim, fun _ _ _ h => h.elim, fun j v x hv hx => ?_⟩, h2⟩
  obtain ⟨a1, a2, a3, a4⟩ := h1.2 j v x hv hx
  exact ⟨.rd _ _ _ a3 a4 a1, a2⟩
theorem arg_slice {β : Type} {g : β → Row} {e : TypeId} {z : Nat} {Q : List β → Prop} (hu : P.underlying t = some (.slice e)) (hv : Value.okWide P W r b0 t v) (ht : DataW.Trod enc P W base spare held t v D ps) (h : OpnA P (fun l : List β => [.sl false z (l.map g)]) t Q) :
    ∃ l, OwnA W (fun b => b < W.heap.size) (fun _ => False) v (.sl false z (l.map g)) ∧ Q l := by
  obtain ⟨a, n, c, rfl⟩ := okWide_slice hu hv
  obtain ⟨fuel, hf⟩ := ht
  obtain ⟨l, h1, h2⟩ := h H enc W base spare held fuel _ _ hf
  obtain ⟨a1, _, a3, a4⟩ := h1.2 0 _ _ rfl rfl
  exact ⟨l, .rd _ _ _ a3 a4 a1, h2⟩
end
/-- a promise, as a call -/
theorem does_calls {P : Program} {f : FuncId} {fn : Func} {c : Code} {avs : List AV} {u : Value} (h : Does P f avs (.sc u, [])) (hf : P.funcs[f]? = some fn) (hb : fn.body = some c) (hn : (fn.name == "runtime.NumGoroutine") = false) {W : Go.World} {args : List Value}
    (hl : args.length = avs.length) (ha : ∀ (i : Nat) (v : Value) (x : AV), args[i]? = some v → avs[i]? = some x → OwnA W (fun b => b < W.heap.size) (fun _ => False) v x) :
    Calls P f args.toArray W fun e W' => e = .returned u ∧ Below W.heap.size W W' := by
  have h1 : fn.name ≠ "runtime.NumGoroutine" := by simpa using hn
  rcases h.m W (fun b => b < W.heap.size) (fun _ _ => False) args ⟨hl, ha, fun _ _ _ h => h.elim, fun _ _ h => h.elim, fun _ h => h⟩ with ⟨_, hc⟩ | ⟨v, w', H, hr, _⟩
  · refine hc.mono fun e W' he => ?_
    cases e with
    | returned v =>
      obtain ⟨H, hp⟩ := he
      have hv := hp.res
      have : v = u := by
        have := own_rep (show Own _ _ _ v (.sc u) from hv) (by intro z r h; cases h) (by intro c h; cases h)
        cases this; rfl
      exact ⟨by rw [this], ⟨hp.fr.os, hp.fr.tape, hp.fr.output, hp.fr.size, fun k hk => hp.fr.block k hk (by rintro ⟨_, h⟩; exact h)⟩⟩
    | _ => exact he.elim
  · simp [callFunc, hf, h1, hb] at hr
end Go.Proofs.Ytfanhfmfbfncfaa.Mx

/- The types that the texts use: as the machine asks. -/
namespace Go.Proofs.Ytfanhfmfbfncfaa.Mx
set_option linter.all false
open Go Go.RowKit Go.Proofs
def T0 : Ty
  | 3 => some { kind := .int .i64, size := 1, bytes := 8, zero := [.int .i64 0], cz := [] }
  | 4 => some { kind := .bool, size := 1, bytes := 1, zero := [.bool false], cz := [] }
  | 5 => some { kind := .int .u8, size := 1, bytes := 1, zero := [.int .u8 0], cz := [] }
  | 9 => some { kind := .str, size := 1, bytes := 16, zero := [.string ⟨#[]⟩], cz := [] }
  | 22 => some { kind := .slice 141, size := 1, bytes := 24, zero := [.slice none 0 0], cz := [] }
  | 23 => some { kind := .slice 9, size := 1, bytes := 24, zero := [.slice none 0 0], cz := [] }
  | 25 => some { kind := .struct [(0, 3), (1, 3), (2, 22), (3, 23)], size := 4, bytes := 64, zero := [.int .i64 0, .int .i64 0, .slice none 0 0, .slice none 0 0], cz := [none, none, some 2, some 1] }
  | 27 => some { kind := .slice 143, size := 1, bytes := 24, zero := [.slice none 0 0], cz := [] }
  | 29 => some { kind := .struct [(0, 3), (1, 3), (2, 27), (3, 23)], size := 4, bytes := 64, zero := [.int .i64 0, .int .i64 0, .slice none 0 0, .slice none 0 0], cz := [none, none, some 2, some 1] }
  | 37 => some { kind := .struct [(0, 9), (1, 9), (2, 3), (3, 9), (4, 4), (5, 23)], size := 6, bytes := 88, zero := [.string ⟨#[]⟩, .string ⟨#[]⟩, .int .i64 0, .string ⟨#[]⟩, .bool false, .slice none 0 0], cz := [none, none, none, none, none, some 1] }
  | 40 => some { kind := .slice 44, size := 1, bytes := 24, zero := [.slice none 0 0], cz := [] }
  | 44 => some { kind := .struct [(0, 9), (1, 9), (2, 3), (3, 9), (4, 4), (5, 23)], size := 6, bytes := 88, zero := [.string ⟨#[]⟩, .string ⟨#[]⟩, .int .i64 0, .string ⟨#[]⟩, .bool false, .slice none 0 0], cz := [none, none, none, none, none, some 1] }
  | 52 => some { kind := .slice 113, size := 1, bytes := 24, zero := [.slice none 0 0], cz := [] }
  | 54 => some { kind := .struct [(0, 9), (1, 3), (2, 4), (3, 29), (7, 52)], size := 8, bytes := 120, zero := [.string ⟨#[]⟩, .int .i64 0, .bool false, .int .i64 0, .int .i64 0, .slice none 0 0, .slice none 0 0, .slice none 0 0], cz := [none, none, none, none, none, some 2, some 1, some 5] }
  | 59 => some { kind := .slice 160, size := 1, bytes := 24, zero := [.slice none 0 0], cz := [] }
  | 61 => some { kind := .struct [(0, 9), (1, 3), (2, 4), (3, 25), (7, 59)], size := 8, bytes := 120, zero := [.string ⟨#[]⟩, .int .i64 0, .bool false, .int .i64 0, .int .i64 0, .slice none 0 0, .slice none 0 0, .slice none 0 0], cz := [none, none, none, none, none, some 2, some 1, some 5] }
  | 62 => some { kind := .slice 4, size := 1, bytes := 24, zero := [.slice none 0 0], cz := [] }
  | 63 => some { kind := .slice 25, size := 1, bytes := 24, zero := [.slice none 0 0], cz := [] }
  | 64 => some { kind := .slice 153, size := 1, bytes := 24, zero := [.slice none 0 0], cz := [] }
  | 66 => some { kind := .struct [(0, 61), (8, 62), (9, 63), (10, 64), (11, 3)], size := 12, bytes := 200, zero := [.string ⟨#[]⟩, .int .i64 0, .bool false, .int .i64 0, .int .i64 0, .slice none 0 0, .slice none 0 0, .slice none 0 0, .slice none 0 0, .slice none 0 0, .slice none 0 0, .int .i64 0], cz := [none, none, none, none, none, some 2, some 1, some 5, some 1, some 4, some 5, none] }
  | 69 => some { kind := .slice 29, size := 1, bytes := 24, zero := [.slice none 0 0], cz := [] }
  | 70 => some { kind := .slice 120, size := 1, bytes := 24, zero := [.slice none 0 0], cz := [] }
  | 72 => some { kind := .struct [(0, 54), (8, 62), (9, 69), (10, 70), (11, 3)], size := 12, bytes := 200, zero := [.string ⟨#[]⟩, .int .i64 0, .bool false, .int .i64 0, .int .i64 0, .slice none 0 0, .slice none 0 0, .slice none 0 0, .slice none 0 0, .slice none 0 0, .slice none 0 0, .int .i64 0], cz := [none, none, none, none, none, some 2, some 1, some 5, some 1, some 4, some 5, none] }
  | 77 => some { kind := .struct [(0, 3), (1, 3), (2, 23), (3, 23)], size := 4, bytes := 64, zero := [.int .i64 0, .int .i64 0, .slice none 0 0, .slice none 0 0], cz := [none, none, some 1, some 1] }
  | 82 => some { kind := .slice 5, size := 1, bytes := 24, zero := [.slice none 0 0], cz := [] }
  | 113 => some { kind := .struct [(0, 3), (1, 3), (2, 3), (3, 9), (4, 23)], size := 5, bytes := 64, zero := [.int .i64 0, .int .i64 0, .int .i64 0, .string ⟨#[]⟩, .slice none 0 0], cz := [none, none, none, none, some 1] }
  | 120 => some { kind := .struct [(0, 3), (1, 3), (2, 9), (3, 4), (4, 9)], size := 5, bytes := 56, zero := [.int .i64 0, .int .i64 0, .string ⟨#[]⟩, .bool false, .string ⟨#[]⟩], cz := [] }
  | 126 => some { kind := .struct [(0, 44), (6, 4)], size := 7, bytes := 96, zero := [.string ⟨#[]⟩, .string ⟨#[]⟩, .int .i64 0, .string ⟨#[]⟩, .bool false, .slice none 0 0, .bool false], cz := [none, none, none, none, none, some 1, none] }
  | 127 => some { kind := .slice 126, size := 1, bytes := 24, zero := [.slice none 0 0], cz := [] }
  | 128 => some { kind := .map 9 4, size := 1, bytes := 8, zero := [.map none], cz := [] }
  | 132 => some { kind := .slice 3, size := 1, bytes := 24, zero := [.slice none 0 0], cz := [] }
  | 141 => some { kind := .struct [(0, 9), (1, 3)], size := 2, bytes := 24, zero := [.string ⟨#[]⟩, .int .i64 0], cz := [] }
  | 143 => some { kind := .struct [(0, 9), (1, 3)], size := 2, bytes := 24, zero := [.string ⟨#[]⟩, .int .i64 0], cz := [] }
  | 153 => some { kind := .struct [(0, 3), (1, 3), (2, 9), (3, 4), (4, 9)], size := 5, bytes := 56, zero := [.int .i64 0, .int .i64 0, .string ⟨#[]⟩, .bool false, .string ⟨#[]⟩], cz := [] }
  | 158 => some { kind := .struct [(0, 82), (1, 3)], size := 2, bytes := 32, zero := [.slice none 0 0, .int .i64 0], cz := [some 1, none] }
  | 160 => some { kind := .struct [(0, 3), (1, 3), (2, 3), (3, 9), (4, 23)], size := 5, bytes := 64, zero := [.int .i64 0, .int .i64 0, .int .i64 0, .string ⟨#[]⟩, .slice none 0 0], cz := [none, none, none, none, some 1] }
  | 163 => some { kind := .int .u64, size := 1, bytes := 8, zero := [.int .u64 0], cz := [] }
  | _ => none
@[push_cast] theorem T0_3 : T0 3 = some { kind := .int .i64, size := 1, bytes := 8, zero := [.int .i64 0], cz := [] } := rfl
@[push_cast] theorem T0_4 : T0 4 = some { kind := .bool, size := 1, bytes := 1, zero := [.bool false], cz := [] } := rfl
@[push_cast] theorem T0_5 : T0 5 = some { kind := .int .u8, size := 1, bytes := 1, zero := [.int .u8 0], cz := [] } := rfl
@[push_cast] theorem T0_9 : T0 9 = some { kind := .str, size := 1, bytes := 16, zero := [.string ⟨#[]⟩], cz := [] } := rfl
@[push_cast] theorem T0_22 : T0 22 = some { kind := .slice 141, size := 1, bytes := 24, zero := [.slice none 0 0], cz := [] } := rfl
@[push_cast] theorem T0_23 : T0 23 = some { kind := .slice 9, size := 1, bytes := 24, zero := [.slice none 0 0], cz := [] } := rfl
@[push_cast] theorem T0_25 : T0 25 = some { kind := .struct [(0, 3), (1, 3), (2, 22), (3, 23)], size := 4, bytes := 64, zero := [.int .i64 0, .int .i64 0, .slice none 0 0, .slice none 0 0], cz := [none, none, some 2, some 1] } := rfl
@[push_cast] theorem T0_27 : T0 27 = some { kind := .slice 143, size := 1, bytes := 24, zero := [.slice none 0 0], cz := [] } := rfl
@[push_cast] theorem T0_29 : T0 29 = some { kind := .struct [(0, 3), (1, 3), (2, 27), (3, 23)], size := 4, bytes := 64, zero := [.int .i64 0, .int .i64 0, .slice none 0 0, .slice none 0 0], cz := [none, none, some 2, some 1] } := rfl
@[push_cast] theorem T0_37 : T0 37 = some { kind := .struct [(0, 9), (1, 9), (2, 3), (3, 9), (4, 4), (5, 23)], size := 6, bytes := 88, zero := [.string ⟨#[]⟩, .string ⟨#[]⟩, .int .i64 0, .string ⟨#[]⟩, .bool false, .slice none 0 0], cz := [none, none, none, none, none, some 1] } := rfl
@[push_cast] theorem T0_40 : T0 40 = some { kind := .slice 44, size := 1, bytes := 24, zero := [.slice none 0 0], cz := [] } := rfl
@[push_cast] theorem T0_44 : T0 44 = some { kind := .struct [(0, 9), (1, 9), (2, 3), (3, 9), (4, 4), (5, 23)], size := 6, bytes := 88, zero := [.string ⟨#[]⟩, .string ⟨#[]⟩, .int .i64 0, .string ⟨#[]⟩, .bool false, .slice none 0 0], cz := [none, none, none, none, none, some 1] } := rfl
@[push_cast] theorem T0_52 : T0 52 = some { kind := .slice 113, size := 1, bytes := 24, zero := [.slice none 0 0], cz := [] } := rfl
@[push_cast] theorem T0_54 : T0 54 = some { kind := .struct [(0, 9), (1, 3), (2, 4), (3, 29), (7, 52)], size := 8, bytes := 120, zero := [.string ⟨#[]⟩, .int .i64 0, .bool false, .int .i64 0, .int .i64 0, .slice none 0 0, .slice none 0 0, .slice none 0 0], cz := [none, none, none, none, none, some 2, some 1, some 5] } := rfl
@[push_cast] theorem T0_59 : T0 59 = some { kind := .slice 160, size := 1, bytes := 24, zero := [.slice none 0 0], cz := [] } := rfl
@[push_cast] theorem T0_61 : T0 61 = some { kind := .struct [(0, 9), (1, 3), (2, 4), (3, 25), (7, 59)], size := 8, bytes := 120, zero := [.string ⟨#[]⟩, .int .i64 0, .bool false, .int .i64 0, .int .i64 0, .slice none 0 0, .slice none 0 0, .slice none 0 0], cz := [none, none, none, none, none, some 2, some 1, some 5] } := rfl
@[push_cast] theorem T0_62 : T0 62 = some { kind := .slice 4, size := 1, bytes := 24, zero := [.slice none 0 0], cz := [] } := rfl
@[push_cast] theorem T0_63 : T0 63 = some { kind := .slice 25, size := 1, bytes := 24, zero := [.slice none 0 0], cz := [] } := rfl
@[push_cast] theorem T0_64 : T0 64 = some { kind := .slice 153, size := 1, bytes := 24, zero := [.slice none 0 0], cz := [] } := rfl
@[push_cast] theorem T0_66 : T0 66 = some { kind := .struct [(0, 61), (8, 62), (9, 63), (10, 64), (11, 3)], size := 12, bytes := 200, zero := [.string ⟨#[]⟩, .int .i64 0, .bool false, .int .i64 0, .int .i64 0, .slice none 0 0, .slice none 0 0, .slice none 0 0, .slice none 0 0, .slice none 0 0, .slice none 0 0, .int .i64 0], cz := [none, none, none, none, none, some 2, some 1, some 5, some 1, some 4, some 5, none] } := rfl
@[push_cast] theorem T0_69 : T0 69 = some { kind := .slice 29, size := 1, bytes := 24, zero := [.slice none 0 0], cz := [] } := rfl
@[push_cast] theorem T0_70 : T0 70 = some { kind := .slice 120, size := 1, bytes := 24, zero := [.slice none 0 0], cz := [] } := rfl
@[push_cast] theorem T0_72 : T0 72 = some { kind := .struct [(0, 54), (8, 62), (9, 69), (10, 70), (11, 3)], size := 12, bytes := 200, zero := [.string ⟨#[]⟩, .int .i64 0, .bool false, .int .i64 0, .int .i64 0, .slice none 0 0, .slice none 0 0, .slice none 0 0, .slice none 0 0, .slice none 0 0, .slice none 0 0, .int .i64 0], cz := [none, none, none, none, none, some 2, some 1, some 5, some 1, some 4, some 5, none] } := rfl
@[push_cast] theorem T0_77 : T0 77 = some { kind := .struct [(0, 3), (1, 3), (2, 23), (3, 23)], size := 4, bytes := 64, zero := [.int .i64 0, .int .i64 0, .slice none 0 0, .slice none 0 0], cz := [none, none, some 1, some 1] } := rfl
@[push_cast] theorem T0_82 : T0 82 = some { kind := .slice 5, size := 1, bytes := 24, zero := [.slice none 0 0], cz := [] } := rfl
@[push_cast] theorem T0_113 : T0 113 = some { kind := .struct [(0, 3), (1, 3), (2, 3), (3, 9), (4, 23)], size := 5, bytes := 64, zero := [.int .i64 0, .int .i64 0, .int .i64 0, .string ⟨#[]⟩, .slice none 0 0], cz := [none, none, none, none, some 1] } := rfl
@[push_cast] theorem T0_120 : T0 120 = some { kind := .struct [(0, 3), (1, 3), (2, 9), (3, 4), (4, 9)], size := 5, bytes := 56, zero := [.int .i64 0, .int .i64 0, .string ⟨#[]⟩, .bool false, .string ⟨#[]⟩], cz := [] } := rfl
@[push_cast] theorem T0_126 : T0 126 = some { kind := .struct [(0, 44), (6, 4)], size := 7, bytes := 96, zero := [.string ⟨#[]⟩, .string ⟨#[]⟩, .int .i64 0, .string ⟨#[]⟩, .bool false, .slice none 0 0, .bool false], cz := [none, none, none, none, none, some 1, none] } := rfl
@[push_cast] theorem T0_127 : T0 127 = some { kind := .slice 126, size := 1, bytes := 24, zero := [.slice none 0 0], cz := [] } := rfl
@[push_cast] theorem T0_128 : T0 128 = some { kind := .map 9 4, size := 1, bytes := 8, zero := [.map none], cz := [] } := rfl
@[push_cast] theorem T0_132 : T0 132 = some { kind := .slice 3, size := 1, bytes := 24, zero := [.slice none 0 0], cz := [] } := rfl
@[push_cast] theorem T0_141 : T0 141 = some { kind := .struct [(0, 9), (1, 3)], size := 2, bytes := 24, zero := [.string ⟨#[]⟩, .int .i64 0], cz := [] } := rfl
@[push_cast] theorem T0_143 : T0 143 = some { kind := .struct [(0, 9), (1, 3)], size := 2, bytes := 24, zero := [.string ⟨#[]⟩, .int .i64 0], cz := [] } := rfl
@[push_cast] theorem T0_153 : T0 153 = some { kind := .struct [(0, 3), (1, 3), (2, 9), (3, 4), (4, 9)], size := 5, bytes := 56, zero := [.int .i64 0, .int .i64 0, .string ⟨#[]⟩, .bool false, .string ⟨#[]⟩], cz := [] } := rfl
@[push_cast] theorem T0_158 : T0 158 = some { kind := .struct [(0, 82), (1, 3)], size := 2, bytes := 32, zero := [.slice none 0 0, .int .i64 0], cz := [some 1, none] } := rfl
@[push_cast] theorem T0_160 : T0 160 = some { kind := .struct [(0, 3), (1, 3), (2, 3), (3, 9), (4, 23)], size := 5, bytes := 64, zero := [.int .i64 0, .int .i64 0, .int .i64 0, .string ⟨#[]⟩, .slice none 0 0], cz := [none, none, none, none, some 1] } := rfl
@[push_cast] theorem T0_163 : T0 163 = some { kind := .int .u64, size := 1, bytes := 8, zero := [.int .u64 0], cz := [] } := rfl
theorem tOk : TOk Try.prog T0 := by
  intro t ti h
  unfold T0 at h
  split at h <;> cases h
  · exact tyOk_one Try.type3 rfl rfl rfl rfl rfl (by decide) rfl Try.underlying3 rfl rfl rfl rfl
  · exact tyOk_one Try.type4 rfl rfl rfl rfl rfl (by decide) rfl Try.underlying4 rfl rfl rfl rfl
  · exact tyOk_one Try.type5 rfl rfl rfl rfl rfl (by decide) rfl Try.underlying5 rfl rfl rfl rfl
  · exact tyOk_one Try.type9 rfl rfl rfl rfl rfl (by decide) rfl Try.underlying9 rfl rfl rfl rfl
  · exact tyOk_one Try.type22 rfl rfl rfl rfl rfl (by decide) rfl Try.underlying22 rfl rfl rfl rfl
  · exact tyOk_one Try.type23 rfl rfl rfl rfl rfl (by decide) rfl Try.underlying23 rfl rfl rfl rfl
  · exact tyOk_str (info_of Try.type25) rfl rfl rfl rfl rfl rfl ⟨_, Try.underlying25, rfl⟩ rfl (flds_ok (by kernel_rfl)) rfl rfl rfl
  · exact tyOk_one Try.type27 rfl rfl rfl rfl rfl (by decide) rfl Try.underlying27 rfl rfl rfl rfl
  · exact tyOk_str (info_of Try.type29) rfl rfl rfl rfl rfl rfl ⟨_, Try.underlying29, rfl⟩ rfl (flds_ok (by kernel_rfl)) rfl rfl rfl
  · exact tyOk_str (info_of Try.type37) rfl rfl rfl rfl rfl rfl ⟨_, Try.underlying37, rfl⟩ rfl (flds_ok (by kernel_rfl)) rfl rfl rfl
  · exact tyOk_one Try.type40 rfl rfl rfl rfl rfl (by decide) rfl Try.underlying40 rfl rfl rfl rfl
  · exact tyOk_str (info_of Try.type44) rfl rfl rfl rfl rfl rfl ⟨_, Try.underlying44, rfl⟩ rfl (flds_ok (by kernel_rfl)) rfl rfl rfl
  · exact tyOk_one Try.type52 rfl rfl rfl rfl rfl (by decide) rfl Try.underlying52 rfl rfl rfl rfl
  · exact tyOk_str (info_of Try.type54) rfl rfl rfl rfl rfl rfl ⟨_, Try.underlying54, rfl⟩ rfl (flds_ok (by kernel_rfl)) rfl rfl rfl
  · exact tyOk_one Try.type59 rfl rfl rfl rfl rfl (by decide) rfl Try.underlying59 rfl rfl rfl rfl
  · exact tyOk_str (info_of Try.type61) rfl rfl rfl rfl rfl rfl ⟨_, Try.underlying61, rfl⟩ rfl (flds_ok (by kernel_rfl)) rfl rfl rfl
  · exact tyOk_one Try.type62 rfl rfl rfl rfl rfl (by decide) rfl Try.underlying62 rfl rfl rfl rfl
  · exact tyOk_one Try.type63 rfl rfl rfl rfl rfl (by decide) rfl Try.underlying63 rfl rfl rfl rfl
  · exact tyOk_one Try.type64 rfl rfl rfl rfl rfl (by decide) rfl Try.underlying64 rfl rfl rfl rfl
  · exact tyOk_str (info_of Try.type66) rfl rfl rfl rfl rfl rfl ⟨_, Try.underlying66, rfl⟩ rfl (flds_ok (by kernel_rfl)) rfl rfl rfl
  · exact tyOk_one Try.type69 rfl rfl rfl rfl rfl (by decide) rfl Try.underlying69 rfl rfl rfl rfl
  · exact tyOk_one Try.type70 rfl rfl rfl rfl rfl (by decide) rfl Try.underlying70 rfl rfl rfl rfl
  · exact tyOk_str (info_of Try.type72) rfl rfl rfl rfl rfl rfl ⟨_, Try.underlying72, rfl⟩ rfl (flds_ok (by kernel_rfl)) rfl rfl rfl
  · exact tyOk_str (info_of Try.type77) rfl rfl rfl rfl rfl rfl ⟨_, Try.underlying77, rfl⟩ rfl (flds_ok (by kernel_rfl)) rfl rfl rfl
  · exact tyOk_one Try.type82 rfl rfl rfl rfl rfl (by decide) rfl Try.underlying82 rfl rfl rfl rfl
  · exact tyOk_str (info_of Try.type113) rfl rfl rfl rfl rfl rfl ⟨_, Try.underlying113, rfl⟩ rfl (flds_ok (by kernel_rfl)) rfl rfl rfl
  · exact tyOk_str (info_of Try.type120) rfl rfl rfl rfl rfl rfl ⟨_, Try.underlying120, rfl⟩ rfl (flds_ok (by kernel_rfl)) rfl rfl rfl
  · exact tyOk_str (info_of Try.type126) rfl rfl rfl rfl rfl rfl ⟨_, Try.underlying126, rfl⟩ rfl (flds_ok (by kernel_rfl)) rfl rfl rfl
  · exact tyOk_one Try.type127 rfl rfl rfl rfl rfl (by decide) rfl Try.underlying127 rfl rfl rfl rfl
  · exact tyOk_one Try.type128 rfl rfl rfl rfl rfl (by decide) rfl Try.underlying128 rfl rfl rfl rfl
  · exact tyOk_one Try.type132 rfl rfl rfl rfl rfl (by decide) rfl Try.underlying132 rfl rfl rfl rfl
  · exact tyOk_str (info_of Try.type141) rfl rfl rfl rfl rfl rfl ⟨_, Try.underlying141, rfl⟩ rfl (flds_ok (by kernel_rfl)) rfl rfl rfl
  · exact tyOk_str (info_of Try.type143) rfl rfl rfl rfl rfl rfl ⟨_, Try.underlying143, rfl⟩ rfl (flds_ok (by kernel_rfl)) rfl rfl rfl
  · exact tyOk_str (info_of Try.type153) rfl rfl rfl rfl rfl rfl ⟨_, Try.underlying153, rfl⟩ rfl (flds_ok (by kernel_rfl)) rfl rfl rfl
  · exact tyOk_str (info_of Try.type158) rfl rfl rfl rfl rfl rfl ⟨_, Try.underlying158, rfl⟩ rfl (flds_ok (by kernel_rfl)) rfl rfl rfl
  · exact tyOk_str (info_of Try.type160) rfl rfl rfl rfl rfl rfl ⟨_, Try.underlying160, rfl⟩ rfl (flds_ok (by kernel_rfl)) rfl rfl rfl
  · exact tyOk_one Try.type163 rfl rfl rfl rfl rfl (by decide) rfl Try.underlying163 rfl rfl rfl rfl
end Go.Proofs.Ytfanhfmfbfncfaa.Mx

/- Sums. -/
namespace Go.Proofs.Ytfanhfmfbfncfaa.Mx
set_option linter.all false
open Go Go.RowKit Go.Proofs
def E111 : Env := { T := T0, kp := look [(0, [0]), (1, [0])] }
attribute [local push_cast] E111
theorem widthOk (n : Int) : Does Try.prog 111 [.sc (.int .i64 n)] (.sc (.bool (inB n 1 8)), []) := by
  refine does_of (E := E111) (rs := [.tmp 2]) (lent := []) tOk rfl Try.func111 rfl (by decide) rfl rfl (Nat.le_of_ble_eq_true rfl) (Nat.le_of_ble_eq_true rfl) ?_
  by_cases h : 1 ≤ n <;> by_cases h2 : n ≤ 8 <;> first | (exfalso; omega) | (simp -dsimp (disch := first | omega | (simp only [h, h2, inB, List.length_cons, List.length_nil, List.length_map, List.length_append, List.length_take, List.length_drop, List.length_replicate, List.length_set, mkG_len] <;> omega) | fail) only [push_cast, if_pos, decide_eq_true, decide_eq_false, h, h2, inB, Nat.reduceAdd, Nat.reduceSub, Nat.reduceMul, Nat.reduceBEq, Nat.reduceEqDiff, Nat.reduceLT, Nat.reduceLeDiff, Int.reduceToNat, Int.reduceLE, Int.reduceLT, Int.reduceAdd, Int.reduceSub, Int.reduceMul, Int.reduceEq, Int.reduceNeg, ↓reduceIte, reduceCtorEq])
def E80 : Env := { T := T0, kp := look [(0, [0, 1, 2]), (1, [0, 1, 2])] }
attribute [local push_cast] E80
theorem l1In (a b c : Int) : Does Try.prog 80 [.sc (.int .i64 a), .sc (.int .i64 b), .sc (.int .i64 c)] (.sc (.bool (inB a b c)), []) := by
  refine does_of (E := E80) (rs := [.tmp 6]) (lent := []) tOk rfl Try.func80 rfl (by decide) rfl rfl (Nat.le_of_ble_eq_true rfl) (Nat.le_of_ble_eq_true rfl) ?_
  by_cases h : b ≤ a <;> by_cases h2 : a ≤ c <;> simp -dsimp (disch := first | omega | (simp only [h, h2, inB, List.length_cons, List.length_nil, List.length_map, List.length_append, List.length_take, List.length_drop, List.length_replicate, List.length_set, mkG_len] <;> omega) | fail) only [push_cast, if_pos, decide_eq_true, decide_eq_false, h, h2, inB, Nat.reduceAdd, Nat.reduceSub, Nat.reduceMul, Nat.reduceBEq, Nat.reduceEqDiff, Nat.reduceLT, Nat.reduceLeDiff, Int.reduceToNat, Int.reduceLE, Int.reduceLT, Int.reduceAdd, Int.reduceSub, Int.reduceMul, Int.reduceEq, Int.reduceNeg, ↓reduceIte, reduceCtorEq]
def E107 : Env := { T := T0, kp := look [(0, [0]), (1, [0])] }
attribute [local push_cast] E107
theorem l1Width (n : Int) : Does Try.prog 107 [.sc (.int .i64 n)] (.sc (.bool (inB n 1 8)), []) := by
  refine does_of (E := E107) (rs := [.tmp 2]) (lent := []) tOk rfl Try.func107 rfl (by decide) rfl rfl (Nat.le_of_ble_eq_true rfl) (Nat.le_of_ble_eq_true rfl) ?_
  simp -dsimp (disch := first | omega | (simp only [List.length_cons, List.length_nil, List.length_map, List.length_append, List.length_take, List.length_drop, List.length_replicate, List.length_set, mkG_len] <;> omega) | fail) only [push_cast, if_pos, decide_eq_true, decide_eq_false, Nat.reduceAdd, Nat.reduceSub, Nat.reduceMul, Nat.reduceBEq, Nat.reduceEqDiff, Nat.reduceLT, Nat.reduceLeDiff, Int.reduceToNat, Int.reduceLE, Int.reduceLT, Int.reduceAdd, Int.reduceSub, Int.reduceMul, Int.reduceEq, Int.reduceNeg, ↓reduceIte, reduceCtorEq]
  refine callC (l1In ..) ?_
  simp -dsimp (disch := first | omega | (simp only [List.length_cons, List.length_nil, List.length_map, List.length_append, List.length_take, List.length_drop, List.length_replicate, List.length_set, mkG_len] <;> omega) | fail) only [push_cast, if_pos, decide_eq_true, decide_eq_false, Nat.reduceAdd, Nat.reduceSub, Nat.reduceMul, Nat.reduceBEq, Nat.reduceEqDiff, Nat.reduceLT, Nat.reduceLeDiff, Int.reduceToNat, Int.reduceLE, Int.reduceLT, Int.reduceAdd, Int.reduceSub, Int.reduceMul, Int.reduceEq, Int.reduceNeg, ↓reduceIte, reduceCtorEq]
def E129 : Env := { T := T0, kp := look [(0, [0]), (1, [0]), (2, [0, 3]), (3, [0, 3, 4]), (4, [0, 3, 4]), (5, [0, 3, 4]), (6, [3])] }
attribute [local push_cast] E129
theorem sum64 (t : Str) (ht : t.size < 4611686018427387904) : Does Try.prog 129 [.sc (.string t)] (.sc (.int .u64 (hash64 (bt t))), []) := by
  refine does_of (E := E129) (rs := [.tmp 2]) (lent := []) tOk rfl Try.func129 rfl (by decide) rfl rfl (Nat.le_of_ble_eq_true rfl) (Nat.le_of_ble_eq_true rfl) ?_
  simp -dsimp (disch := first | omega | (simp only [List.length_cons, List.length_nil, List.length_map, List.length_append, List.length_take, List.length_drop, List.length_replicate, List.length_set, mkG_len] <;> omega) | fail) only [push_cast, if_pos, decide_eq_true, decide_eq_false, Nat.reduceAdd, Nat.reduceSub, Nat.reduceMul, Nat.reduceBEq, Nat.reduceEqDiff, Nat.reduceLT, Nat.reduceLeDiff, Int.reduceToNat, Int.reduceLE, Int.reduceLT, Int.reduceAdd, Int.reduceSub, Int.reduceMul, Int.reduceEq, Int.reduceNeg, ↓reduceIte, reduceCtorEq]
  refine loop_ind (α := Nat) (fun i => i ≤ t.size) (fun i => ⟨[(0, .sc (.string t)), (3, .sc (.int .u64 (((bt t).take i).foldl step64 14695981039346656037))), (4, .sc (.int .i64 i))], [], 1⟩) (fun i => t.size - i) 0 (Nat.zero_le _) ?_ ?_
  · simp -dsimp (disch := first | omega | (simp only [List.foldl_nil, List.length_cons, List.length_nil, List.length_map, List.length_append, List.length_take, List.length_drop, List.length_replicate, List.length_set, mkG_len] <;> omega) | fail) only [push_cast, if_pos, decide_eq_true, decide_eq_false, List.foldl_nil, Nat.reduceAdd, Nat.reduceSub, Nat.reduceMul, Nat.reduceBEq, Nat.reduceEqDiff, Nat.reduceLT, Nat.reduceLeDiff, Int.reduceToNat, Int.reduceLE, Int.reduceLT, Int.reduceAdd, Int.reduceSub, Int.reduceMul, Int.reduceEq, Int.reduceNeg, ↓reduceIte, reduceCtorEq]
  intro i hi ih
  by_cases h : i < t.size
  · obtain ⟨u, hu⟩ := ex_get (by rw [bt_len]; exact h : i < (bt t).length)
    simp -dsimp (disch := first | omega | (simp only [h, hu, List.length_cons, List.length_nil, List.length_map, List.length_append, List.length_take, List.length_drop, List.length_replicate, List.length_set, mkG_len] <;> omega) | fail) only [push_cast, if_pos, decide_eq_true, decide_eq_false, h, hu, Nat.reduceAdd, Nat.reduceSub, Nat.reduceMul, Nat.reduceBEq, Nat.reduceEqDiff, Nat.reduceLT, Nat.reduceLeDiff, Int.reduceToNat, Int.reduceLE, Int.reduceLT, Int.reduceAdd, Int.reduceSub, Int.reduceMul, Int.reduceEq, Int.reduceNeg, ↓reduceIte, reduceCtorEq]
    refine ih (i + 1) _ (by omega) h ?_
    simp -dsimp (disch := first | omega | (simp only [wr_id, take_step hu, List.foldl_append, List.foldl_cons, List.foldl_nil, step64, List.length_cons, List.length_nil, List.length_map, List.length_append, List.length_take, List.length_drop, List.length_replicate, List.length_set, mkG_len] <;> omega) | fail) only [push_cast, if_pos, decide_eq_true, decide_eq_false, wr_id, take_step hu, List.foldl_append, List.foldl_cons, List.foldl_nil, step64, Nat.reduceAdd, Nat.reduceSub, Nat.reduceMul, Nat.reduceBEq, Nat.reduceEqDiff, Nat.reduceLT, Nat.reduceLeDiff, Int.reduceToNat, Int.reduceLE, Int.reduceLT, Int.reduceAdd, Int.reduceSub, Int.reduceMul, Int.reduceEq, Int.reduceNeg, ↓reduceIte, reduceCtorEq]
  · have hl : (bt t).take i = bt t := List.take_of_length_le (by rw [bt_len]; omega)
    simp -dsimp (disch := first | omega | (simp only [h, hl, hash64, List.length_cons, List.length_nil, List.length_map, List.length_append, List.length_take, List.length_drop, List.length_replicate, List.length_set, mkG_len] <;> omega) | fail) only [push_cast, if_pos, decide_eq_true, decide_eq_false, h, hl, hash64, Nat.reduceAdd, Nat.reduceSub, Nat.reduceMul, Nat.reduceBEq, Nat.reduceEqDiff, Nat.reduceLT, Nat.reduceLeDiff, Int.reduceToNat, Int.reduceLE, Int.reduceLT, Int.reduceAdd, Int.reduceSub, Int.reduceMul, Int.reduceEq, Int.reduceNeg, ↓reduceIte, reduceCtorEq]
def E128 : Env := { T := T0, kp := look [(0, [0]), (1, [0]), (2, [0, 3]), (3, [0, 3, 4]), (4, [0, 3, 4]), (5, [0, 3, 4]), (6, [3])] }
attribute [local push_cast] E128
theorem l1Sum64 (t : Str) (ht : t.size < 4611686018427387904) : Does Try.prog 128 [.sc (.string t)] (.sc (.int .u64 (hash64 (bt t))), []) := by
  refine does_of (E := E128) (rs := [.tmp 2]) (lent := []) tOk rfl Try.func128 rfl (by decide) rfl rfl (Nat.le_of_ble_eq_true rfl) (Nat.le_of_ble_eq_true rfl) ?_
  simp -dsimp (disch := first | omega | (simp only [List.length_cons, List.length_nil, List.length_map, List.length_append, List.length_take, List.length_drop, List.length_replicate, List.length_set, mkG_len] <;> omega) | fail) only [push_cast, if_pos, decide_eq_true, decide_eq_false, Nat.reduceAdd, Nat.reduceSub, Nat.reduceMul, Nat.reduceBEq, Nat.reduceEqDiff, Nat.reduceLT, Nat.reduceLeDiff, Int.reduceToNat, Int.reduceLE, Int.reduceLT, Int.reduceAdd, Int.reduceSub, Int.reduceMul, Int.reduceEq, Int.reduceNeg, ↓reduceIte, reduceCtorEq]
  refine loop_ind (α := Nat) (fun i => i ≤ t.size) (fun i => ⟨[(0, .sc (.string t)), (3, .sc (.int .u64 (((bt t).take i).foldl step64 14695981039346656037))), (4, .sc (.int .i64 i))], [], 1⟩) (fun i => t.size - i) 0 (Nat.zero_le _) ?_ ?_
  · simp -dsimp (disch := first | omega | (simp only [List.foldl_nil, List.length_cons, List.length_nil, List.length_map, List.length_append, List.length_take, List.length_drop, List.length_replicate, List.length_set, mkG_len] <;> omega) | fail) only [push_cast, if_pos, decide_eq_true, decide_eq_false, List.foldl_nil, Nat.reduceAdd, Nat.reduceSub, Nat.reduceMul, Nat.reduceBEq, Nat.reduceEqDiff, Nat.reduceLT, Nat.reduceLeDiff, Int.reduceToNat, Int.reduceLE, Int.reduceLT, Int.reduceAdd, Int.reduceSub, Int.reduceMul, Int.reduceEq, Int.reduceNeg, ↓reduceIte, reduceCtorEq]
  intro i hi ih
  by_cases h : i < t.size
  · obtain ⟨u, hu⟩ := ex_get (by rw [bt_len]; exact h : i < (bt t).length)
    simp -dsimp (disch := first | omega | (simp only [h, hu, List.length_cons, List.length_nil, List.length_map, List.length_append, List.length_take, List.length_drop, List.length_replicate, List.length_set, mkG_len] <;> omega) | fail) only [push_cast, if_pos, decide_eq_true, decide_eq_false, h, hu, Nat.reduceAdd, Nat.reduceSub, Nat.reduceMul, Nat.reduceBEq, Nat.reduceEqDiff, Nat.reduceLT, Nat.reduceLeDiff, Int.reduceToNat, Int.reduceLE, Int.reduceLT, Int.reduceAdd, Int.reduceSub, Int.reduceMul, Int.reduceEq, Int.reduceNeg, ↓reduceIte, reduceCtorEq]
    refine ih (i + 1) _ (by omega) h ?_
    simp -dsimp (disch := first | omega | (simp only [wr_id, take_step hu, List.foldl_append, List.foldl_cons, List.foldl_nil, step64, List.length_cons, List.length_nil, List.length_map, List.length_append, List.length_take, List.length_drop, List.length_replicate, List.length_set, mkG_len] <;> omega) | fail) only [push_cast, if_pos, decide_eq_true, decide_eq_false, wr_id, take_step hu, List.foldl_append, List.foldl_cons, List.foldl_nil, step64, Nat.reduceAdd, Nat.reduceSub, Nat.reduceMul, Nat.reduceBEq, Nat.reduceEqDiff, Nat.reduceLT, Nat.reduceLeDiff, Int.reduceToNat, Int.reduceLE, Int.reduceLT, Int.reduceAdd, Int.reduceSub, Int.reduceMul, Int.reduceEq, Int.reduceNeg, ↓reduceIte, reduceCtorEq]
  · have hl : (bt t).take i = bt t := List.take_of_length_le (by rw [bt_len]; omega)
    simp -dsimp (disch := first | omega | (simp only [h, hl, hash64, List.length_cons, List.length_nil, List.length_map, List.length_append, List.length_take, List.length_drop, List.length_replicate, List.length_set, mkG_len] <;> omega) | fail) only [push_cast, if_pos, decide_eq_true, decide_eq_false, h, hl, hash64, Nat.reduceAdd, Nat.reduceSub, Nat.reduceMul, Nat.reduceBEq, Nat.reduceEqDiff, Nat.reduceLT, Nat.reduceLeDiff, Int.reduceToNat, Int.reduceLE, Int.reduceLT, Int.reduceAdd, Int.reduceSub, Int.reduceMul, Int.reduceEq, Int.reduceNeg, ↓reduceIte, reduceCtorEq]
def E127 : Env := { T := T0, kp := look [(0, [0, 1]), (1, [0, 1]), (2, [0, 1, 5]), (3, [0, 1, 5, 6]), (4, [0, 1, 5, 6]), (5, [0, 1, 5, 6]), (6, [0, 1, 5, 6]), (7, [5])] }
attribute [local push_cast] E127
theorem l1Bytes (h w : Int) (h0 : 0 ≤ h) (h1 : h < 18446744073709551616) (w0 : 0 ≤ w) (w8 : w ≤ 8) : Does Try.prog 127 [.sc (.int .u64 h), .sc (.int .i64 w)] (.sc (.string (strN (be w.toNat h))), []) := by
  refine does_of (E := E127) (rs := [.tmp 4]) (lent := []) tOk rfl Try.func127 rfl (by decide) rfl rfl (Nat.le_of_ble_eq_true rfl) (Nat.le_of_ble_eq_true rfl) ?_
  simp -dsimp (disch := first | omega | (simp only [List.length_cons, List.length_nil, List.length_map, List.length_append, List.length_take, List.length_drop, List.length_replicate, List.length_set, mkG_len] <;> omega) | fail) only [push_cast, if_pos, decide_eq_true, decide_eq_false, Nat.reduceAdd, Nat.reduceSub, Nat.reduceMul, Nat.reduceBEq, Nat.reduceEqDiff, Nat.reduceLT, Nat.reduceLeDiff, Int.reduceToNat, Int.reduceLE, Int.reduceLT, Int.reduceAdd, Int.reduceSub, Int.reduceMul, Int.reduceEq, Int.reduceNeg, ↓reduceIte, reduceCtorEq]
  refine loop_ind (α := Nat) (fun i => i ≤ w.toNat) (fun i => ⟨[(0, .sc (.int .u64 (h / 256 ^ i))), (1, .sc (.int .i64 w)), (5, .sc (.string (strN (be i h)))), (6, .sc (.int .i64 i))], [], 1⟩) (fun i => w.toNat - i) 0 (Nat.zero_le _) ?_ ?_
  · simp -dsimp (disch := first | omega | (simp only [be, strN, Int.pow_zero, Int.ediv_one, List.length_cons, List.length_nil, List.length_map, List.length_append, List.length_take, List.length_drop, List.length_replicate, List.length_set, mkG_len] <;> omega) | fail) only [push_cast, if_pos, decide_eq_true, decide_eq_false, be, strN, Int.pow_zero, Int.ediv_one, Nat.reduceAdd, Nat.reduceSub, Nat.reduceMul, Nat.reduceBEq, Nat.reduceEqDiff, Nat.reduceLT, Nat.reduceLeDiff, Int.reduceToNat, Int.reduceLE, Int.reduceLT, Int.reduceAdd, Int.reduceSub, Int.reduceMul, Int.reduceEq, Int.reduceNeg, ↓reduceIte, reduceCtorEq]
    trace_state
  intro i hi ih
  by_cases h2 : (i : Int) < w
  · have e1 : 0 ≤ h / 256 ^ i := Int.ediv_nonneg h0 (Int.pow_nonneg (by decide))
    have e2 : h / 256 ^ i < 18446744073709551616 := Int.lt_of_le_of_lt (Int.ediv_le_self _ h0) h1
    have e3 : wr .u8 ((h / 256 ^ i).tmod 256) = h / 256 ^ i % 256 := by rw [wr_u8, Int.tmod_eq_emod_of_nonneg e1]; omega
    have e4 : wr .u64 ((h / 256 ^ i).tdiv 256) = h / 256 ^ (i + 1) := by
      rw [wr_u64, Int.tdiv_eq_ediv_of_nonneg e1, Int.pow_succ, ← Int.ediv_ediv_of_nonneg (Int.pow_nonneg (by decide))]
      have := Int.ediv_nonneg e1 (by decide : (0 : Int) ≤ 256)
      have := Int.ediv_le_self 256 e1
      omega
    simp -dsimp (disch := first | omega | (simp only [h2, e3, e4, strN_one, strN_size, be_len, strN_app, List.length_cons, List.length_nil, List.length_map, List.length_append, List.length_take, List.length_drop, List.length_replicate, List.length_set, mkG_len] <;> omega) | fail) only [push_cast, if_pos, decide_eq_true, decide_eq_false, h2, e3, e4, strN_one, strN_size, be_len, strN_app, Nat.reduceAdd, Nat.reduceSub, Nat.reduceMul, Nat.reduceBEq, Nat.reduceEqDiff, Nat.reduceLT, Nat.reduceLeDiff, Int.reduceToNat, Int.reduceLE, Int.reduceLT, Int.reduceAdd, Int.reduceSub, Int.reduceMul, Int.reduceEq, Int.reduceNeg, ↓reduceIte, reduceCtorEq]
    refine ih (i + 1) _ (by omega) (by omega) ?_
    simp -dsimp (disch := first | omega | (simp only [wr_id, be, List.length_cons, List.length_nil, List.length_map, List.length_append, List.length_take, List.length_drop, List.length_replicate, List.length_set, mkG_len] <;> omega) | fail) only [push_cast, if_pos, decide_eq_true, decide_eq_false, wr_id, be, Nat.reduceAdd, Nat.reduceSub, Nat.reduceMul, Nat.reduceBEq, Nat.reduceEqDiff, Nat.reduceLT, Nat.reduceLeDiff, Int.reduceToNat, Int.reduceLE, Int.reduceLT, Int.reduceAdd, Int.reduceSub, Int.reduceMul, Int.reduceEq, Int.reduceNeg, ↓reduceIte, reduceCtorEq]
  · have : w.toNat = i := by omega
    simp -dsimp (disch := first | omega | (simp only [h2, this, List.length_cons, List.length_nil, List.length_map, List.length_append, List.length_take, List.length_drop, List.length_replicate, List.length_set, mkG_len] <;> omega) | fail) only [push_cast, if_pos, decide_eq_true, decide_eq_false, h2, this, Nat.reduceAdd, Nat.reduceSub, Nat.reduceMul, Nat.reduceBEq, Nat.reduceEqDiff, Nat.reduceLT, Nat.reduceLeDiff, Int.reduceToNat, Int.reduceLE, Int.reduceLT, Int.reduceAdd, Int.reduceSub, Int.reduceMul, Int.reduceEq, Int.reduceNeg, ↓reduceIte, reduceCtorEq]
def E108 : Env := { T := T0, kp := look [(0, [0, 1]), (1, [0, 1]), (2, []), (3, [0, 1])] }
attribute [local push_cast] E108
theorem specSum (t : Str) (w : Int) (ht : t.size < 4611686018427387904) : Does Try.prog 108 [.sc (.string t), .sc (.int .i64 w)] (.sc (.string (sumS t w)), []) := by
  refine does_of (E := E108) (rs := [.tmp 4]) (lent := []) tOk rfl Try.func108 rfl (by decide) rfl rfl (Nat.le_of_ble_eq_true rfl) (Nat.le_of_ble_eq_true rfl) ?_
  simp -dsimp (disch := first | omega | (simp only [List.length_cons, List.length_nil, List.length_map, List.length_append, List.length_take, List.length_drop, List.length_replicate, List.length_set, mkG_len] <;> omega) | fail) only [push_cast, if_pos, decide_eq_true, decide_eq_false, Nat.reduceAdd, Nat.reduceSub, Nat.reduceMul, Nat.reduceBEq, Nat.reduceEqDiff, Nat.reduceLT, Nat.reduceLeDiff, Int.reduceToNat, Int.reduceLE, Int.reduceLT, Int.reduceAdd, Int.reduceSub, Int.reduceMul, Int.reduceEq, Int.reduceNeg, ↓reduceIte, reduceCtorEq]
  refine callC (l1Width ..) ?_
  by_cases h : 1 ≤ w ∧ w ≤ 8
  · simp -dsimp (disch := first | omega | (simp only [inB, h, sumS, and_self, List.length_cons, List.length_nil, List.length_map, List.length_append, List.length_take, List.length_drop, List.length_replicate, List.length_set, mkG_len] <;> omega) | fail) only [push_cast, if_pos, decide_eq_true, decide_eq_false, inB, h, sumS, and_self, Nat.reduceAdd, Nat.reduceSub, Nat.reduceMul, Nat.reduceBEq, Nat.reduceEqDiff, Nat.reduceLT, Nat.reduceLeDiff, Int.reduceToNat, Int.reduceLE, Int.reduceLT, Int.reduceAdd, Int.reduceSub, Int.reduceMul, Int.reduceEq, Int.reduceNeg, ↓reduceIte, reduceCtorEq]
    refine callC (l1Sum64 _ ht) ?_
    simp -dsimp (disch := first | omega | (simp only [List.length_cons, List.length_nil, List.length_map, List.length_append, List.length_take, List.length_drop, List.length_replicate, List.length_set, mkG_len] <;> omega) | fail) only [push_cast, if_pos, decide_eq_true, decide_eq_false, Nat.reduceAdd, Nat.reduceSub, Nat.reduceMul, Nat.reduceBEq, Nat.reduceEqDiff, Nat.reduceLT, Nat.reduceLeDiff, Int.reduceToNat, Int.reduceLE, Int.reduceLT, Int.reduceAdd, Int.reduceSub, Int.reduceMul, Int.reduceEq, Int.reduceNeg, ↓reduceIte, reduceCtorEq]
    have := hash64_r (bt t)
    refine callC (l1Bytes _ _ this.1 this.2 (by omega) h.2) ?_
    simp -dsimp (disch := first | omega | (simp only [sumS, List.length_cons, List.length_nil, List.length_map, List.length_append, List.length_take, List.length_drop, List.length_replicate, List.length_set, mkG_len] <;> omega) | fail) only [push_cast, if_pos, decide_eq_true, decide_eq_false, sumS, Nat.reduceAdd, Nat.reduceSub, Nat.reduceMul, Nat.reduceBEq, Nat.reduceEqDiff, Nat.reduceLT, Nat.reduceLeDiff, Int.reduceToNat, Int.reduceLE, Int.reduceLT, Int.reduceAdd, Int.reduceSub, Int.reduceMul, Int.reduceEq, Int.reduceNeg, ↓reduceIte, reduceCtorEq]
  · simp -dsimp (disch := first | omega | (simp only [inB, h, sumS, em, List.length_cons, List.length_nil, List.length_map, List.length_append, List.length_take, List.length_drop, List.length_replicate, List.length_set, mkG_len] <;> omega) | fail) only [push_cast, if_pos, decide_eq_true, decide_eq_false, inB, h, sumS, em, Nat.reduceAdd, Nat.reduceSub, Nat.reduceMul, Nat.reduceBEq, Nat.reduceEqDiff, Nat.reduceLT, Nat.reduceLeDiff, Int.reduceToNat, Int.reduceLE, Int.reduceLT, Int.reduceAdd, Int.reduceSub, Int.reduceMul, Int.reduceEq, Int.reduceNeg, ↓reduceIte, reduceCtorEq]
def E113 : Env := { T := T0, kp := look [(0, [0, 1]), (1, [0, 1]), (2, []), (3, [0, 1]), (4, [1, 5]), (5, [1, 5, 6]), (6, [1, 5, 6, 16, 17]), (7, [1, 5, 6, 16, 17]), (8, [1, 5, 6, 7, 16, 17]), (9, [1, 5, 6, 16, 17]), (10, [6])] }
attribute [local push_cast] E113
theorem implSum (t : Str) (w : Int) (ht : t.size < 4611686018427387904) : Does Try.prog 113 [.sc (.string t), .sc (.int .i64 w)] (.sc (.string (sumS t w)), []) := by
  by_cases h : 1 ≤ w ∧ w ≤ 8
  rotate_left
  · refine does_of (E := E113) (rs := [.tmp 4]) (lent := []) tOk rfl Try.func113 rfl (by decide) rfl rfl (Nat.le_of_ble_eq_true rfl) (Nat.le_of_ble_eq_true rfl) ?_
    simp -dsimp (disch := first | omega | (simp only [List.length_cons, List.length_nil, List.length_map, List.length_append, List.length_take, List.length_drop, List.length_replicate, List.length_set, mkG_len] <;> omega) | fail) only [push_cast, if_pos, decide_eq_true, decide_eq_false, Nat.reduceAdd, Nat.reduceSub, Nat.reduceMul, Nat.reduceBEq, Nat.reduceEqDiff, Nat.reduceLT, Nat.reduceLeDiff, Int.reduceToNat, Int.reduceLE, Int.reduceLT, Int.reduceAdd, Int.reduceSub, Int.reduceMul, Int.reduceEq, Int.reduceNeg, ↓reduceIte, reduceCtorEq]
    refine callC (widthOk ..) ?_
    simp -dsimp (disch := first | omega | (simp only [inB, h, sumS, em, List.length_cons, List.length_nil, List.length_map, List.length_append, List.length_take, List.length_drop, List.length_replicate, List.length_set, mkG_len] <;> omega) | fail) only [push_cast, if_pos, decide_eq_true, decide_eq_false, inB, h, sumS, em, Nat.reduceAdd, Nat.reduceSub, Nat.reduceMul, Nat.reduceBEq, Nat.reduceEqDiff, Nat.reduceLT, Nat.reduceLeDiff, Int.reduceToNat, Int.reduceLE, Int.reduceLT, Int.reduceAdd, Int.reduceSub, Int.reduceMul, Int.reduceEq, Int.reduceNeg, ↓reduceIte, reduceCtorEq]
  obtain ⟨n, rfl⟩ : ∃ n : Nat, w = n := ⟨w.toNat, by omega⟩
  rw [show sumS t n = strN (be n (hash64 (bt t))) by unfold sumS; rw [if_pos h]; rfl]
  refine does_of (E := E113) (rs := [.tmp 4]) (lent := []) tOk rfl Try.func113 rfl (by decide) rfl rfl (Nat.le_of_ble_eq_true rfl) (Nat.le_of_ble_eq_true rfl) ?_
  simp -dsimp (disch := first | omega | (simp only [List.length_cons, List.length_nil, List.length_map, List.length_append, List.length_take, List.length_drop, List.length_replicate, List.length_set, mkG_len] <;> omega) | fail) only [push_cast, if_pos, decide_eq_true, decide_eq_false, Nat.reduceAdd, Nat.reduceSub, Nat.reduceMul, Nat.reduceBEq, Nat.reduceEqDiff, Nat.reduceLT, Nat.reduceLeDiff, Int.reduceToNat, Int.reduceLE, Int.reduceLT, Int.reduceAdd, Int.reduceSub, Int.reduceMul, Int.reduceEq, Int.reduceNeg, ↓reduceIte, reduceCtorEq]
  refine callC (widthOk ..) ?_
  simp -dsimp (disch := first | omega | (simp only [inB, h, and_self, List.length_cons, List.length_nil, List.length_map, List.length_append, List.length_take, List.length_drop, List.length_replicate, List.length_set, mkG_len] <;> omega) | fail) only [push_cast, if_pos, decide_eq_true, decide_eq_false, inB, h, and_self, Nat.reduceAdd, Nat.reduceSub, Nat.reduceMul, Nat.reduceBEq, Nat.reduceEqDiff, Nat.reduceLT, Nat.reduceLeDiff, Int.reduceToNat, Int.reduceLE, Int.reduceLT, Int.reduceAdd, Int.reduceSub, Int.reduceMul, Int.reduceEq, Int.reduceNeg, ↓reduceIte, reduceCtorEq]
  refine callC (sum64 _ ht) ?_
  have hr := hash64_r (bt t)
  generalize hash64 (bt t) = H at hr ⊢
  simp -dsimp (disch := first | omega | (simp only [List.length_cons, List.length_nil, List.length_map, List.length_append, List.length_take, List.length_drop, List.length_replicate, List.length_set, mkG_len] <;> omega) | fail) only [push_cast, if_pos, decide_eq_true, decide_eq_false, Nat.reduceAdd, Nat.reduceSub, Nat.reduceMul, Nat.reduceBEq, Nat.reduceEqDiff, Nat.reduceLT, Nat.reduceLeDiff, Int.reduceToNat, Int.reduceLE, Int.reduceLT, Int.reduceAdd, Int.reduceSub, Int.reduceMul, Int.reduceEq, Int.reduceNeg, ↓reduceIte, reduceCtorEq]
  refine loop_ind (α := Nat) (fun i => i ≤ n) (fun i => ⟨[(1, .sc (.int .i64 n)), (5, .sc (.int .u64 H)), (6, .ow 1 0 n), (16, .sc (.int .i64 n)), (17, .sc (.int .i64 i))], [(1, .ar 1 0 (((be n H).take i ++ List.replicate (n - i) 0).map numR))], 2⟩) (fun i => n - i) 0 (Nat.zero_le _) ?_ ?_
  · simp -dsimp (disch := first | omega | (simp only [List.map_replicate, numR, Nat.sub_zero, List.length_cons, List.length_nil, List.length_map, List.length_append, List.length_take, List.length_drop, List.length_replicate, List.length_set, mkG_len] <;> omega) | fail) only [push_cast, if_pos, decide_eq_true, decide_eq_false, List.map_replicate, numR, Nat.sub_zero, Nat.reduceAdd, Nat.reduceSub, Nat.reduceMul, Nat.reduceBEq, Nat.reduceEqDiff, Nat.reduceLT, Nat.reduceLeDiff, Int.reduceToNat, Int.reduceLE, Int.reduceLT, Int.reduceAdd, Int.reduceSub, Int.reduceMul, Int.reduceEq, Int.reduceNeg, ↓reduceIte, reduceCtorEq]
  intro i hi ih
  by_cases h2 : i < n
  · obtain ⟨x, hx⟩ := ex_get (show i < ((be n H).take i ++ List.replicate (n - i) 0).length by simp [be_len]; omega)
    have e : wr .u8 (H.fdiv (2 ^ (min (8 * ((n : Int) - 1 - i)).toNat IntKind.u64.bits))) = H / 256 ^ (n - 1 - i) % 256 := by
      rw [show (8 * ((n : Int) - 1 - i)).toNat = 8 * (n - 1 - i) by omega,
        show IntKind.u64.bits = 64 from rfl, Nat.min_eq_left (by omega), Int.pow_mul, wr_u8, Int.fdiv_eq_ediv_of_nonneg _ (Int.pow_nonneg (by decide))]
      rfl
    simp -dsimp (disch := first | omega | (simp only [wr_id, e, hx, numR, List.length_cons, List.length_nil, List.length_map, List.length_append, List.length_take, List.length_drop, List.length_replicate, List.length_set, mkG_len] <;> omega) | fail) only [push_cast, if_pos, decide_eq_true, decide_eq_false, wr_id, e, hx, numR, Nat.reduceAdd, Nat.reduceSub, Nat.reduceMul, Nat.reduceBEq, Nat.reduceEqDiff, Nat.reduceLT, Nat.reduceLeDiff, Int.reduceToNat, Int.reduceLE, Int.reduceLT, Int.reduceAdd, Int.reduceSub, Int.reduceMul, Int.reduceEq, Int.reduceNeg, ↓reduceIte, reduceCtorEq]
    refine ih (i + 1) _ (by omega) h2 ?_
    have ee : (((be n H).take i ++ List.replicate (n - i) 0).map numR).set i [.sc (.int .u8 (H / 256 ^ (n - 1 - i) % 256))] = ((be n H).take (i + 1) ++ List.replicate (n - (i + 1)) 0).map numR := by
      rw [show ([.sc (.int .u8 (H / 256 ^ (n - 1 - i) % 256))] : Row) = numR (H / 256 ^ (n - 1 - i) % 256) from rfl, ← List.map_set, take_step (be_get n H i h2), List.set_append_right _ _ (by simp [be_len]; omega), show n - i = n - (i + 1) + 1 by omega, List.replicate_succ]
      simp [be_len, Nat.min_eq_left hi]
    simp -dsimp (disch := first | omega | (simp only [wr_id, ee, List.length_cons, List.length_nil, List.length_map, List.length_append, List.length_take, List.length_drop, List.length_replicate, List.length_set, mkG_len] <;> omega) | fail) only [push_cast, if_pos, decide_eq_true, decide_eq_false, wr_id, ee, Nat.reduceAdd, Nat.reduceSub, Nat.reduceMul, Nat.reduceBEq, Nat.reduceEqDiff, Nat.reduceLT, Nat.reduceLeDiff, Int.reduceToNat, Int.reduceLE, Int.reduceLT, Int.reduceAdd, Int.reduceSub, Int.reduceMul, Int.reduceEq, Int.reduceNeg, ↓reduceIte, reduceCtorEq]
  · have hn : i = n := by omega
    subst hn
    have e : (be i H).take i ++ List.replicate (i - i) 0 = be i H := by rw [List.take_of_length_le (by rw [be_len]; omega)]; simp
    simp -dsimp (disch := first | omega | (simp only [e, be_len, bytesOf_num, strN, List.length_cons, List.length_nil, List.length_map, List.length_append, List.length_take, List.length_drop, List.length_replicate, List.length_set, mkG_len] <;> omega) | fail) only [push_cast, if_pos, decide_eq_true, decide_eq_false, e, be_len, bytesOf_num, strN, Nat.reduceAdd, Nat.reduceSub, Nat.reduceMul, Nat.reduceBEq, Nat.reduceEqDiff, Nat.reduceLT, Nat.reduceLeDiff, Int.reduceToNat, Int.reduceLE, Int.reduceLT, Int.reduceAdd, Int.reduceSub, Int.reduceMul, Int.reduceEq, Int.reduceNeg, ↓reduceIte, reduceCtorEq]
end Go.Proofs.Ytfanhfmfbfncfaa.Mx

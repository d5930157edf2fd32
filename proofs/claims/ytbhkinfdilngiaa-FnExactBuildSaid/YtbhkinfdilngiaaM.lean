/- Plain words: what the printed functions of sums and pieces come to, and how answers with rounds are put together. No condition. -/
import Derived.Test.YtbhkinfdilngiaaVMore
import Derived.Laws.Bits64
namespace Go.Proofs.Ytbhkinfdilngiaa.M
open Go.RowKit Go.Proofs.YtbhkinfdilngiaaW.PrintWords Go.Proofs.YtbhkinfdilngiaaW.PrintLast Go.Proofs.YtbhkinfdilngiaaW.PrintMore
set_option linter.unusedVariables false
set_option linter.unusedSimpArgs false

/-! ### Answers with rounds -/
theorem ev_pos {α : Type} {c : Prop} [Decidable c] {f g : Nat → Option α} {r : α} (h : c) (H : Ev f r) : Ev (fun k => if c then f k else g k) r :=
  Ev.congr (fun k => if_pos h) H
theorem ev_neg {α : Type} {c : Prop} [Decidable c] {f g : Nat → Option α} {r : α} (h : ¬ c) (H : Ev g r) : Ev (fun k => if c then f k else g k) r :=
  Ev.congr (fun k => if_neg h) H
theorem ev_bindc {α β : Type} {o : Option α} {f : Nat → α → Option β} {a : α} {r : β} (h : o = some a) (k : Ev (fun n => f n a) r) : Ev (fun n => o.bind (f n)) r := by
  subst h; exact k
theorem ev_some {α β : Type} {f : Nat → α → Option β} {a : α} {r : β} (k : Ev (fun n => f n a) r) : Ev (fun n => (some a).bind (f n)) r := k
theorem ev_uniq {α : Type} {g : Nat → Option α} {r q : α} (h : Ev g r) (h' : Ev g q) : r = q := by
  obtain ⟨a, ha⟩ := h; obtain ⟨b, hb⟩ := h'
  have := ha (max a b) (by omega); rw [hb (max a b) (by omega)] at this; exact (Option.some.inj this).symm
theorem ev_cast {α : Type} {g : Nat → Option α} {r q : α} (e : r = q) (h : Ev g r) : Ev g q := e ▸ h
theorem ev_now {α : Type} {r q : α} (e : r = q) : Ev (fun _ => some r) q := e ▸ Ev.now r

theorem ite_both {α : Type} {c d : Prop} [Decidable c] [Decidable d] {x y u v : α} (h : c ↔ d) (h1 : x = u) (h2 : y = v) : (if c then x else y) = (if d then u else v) := by
  by_cases e : c
  · rw [if_pos e, if_pos (h.1 e), h1]
  · rw [if_neg e, if_neg (fun z => e (h.2 z)), h2]

/-! ### Numbers -/
theorem w64 {n : Int} (h0 : -9223372036854775808 ≤ n) (h1 : n ≤ 9223372036854775807) : wrap64 n = n := by unfold wrap64; omega
theorem u64w (n : Int) : IntKind.u64.wrap n = n % 18446744073709551616 := by simp [IntKind.wrap, IntKind.bits, IntKind.signed]
theorem u64r (n : Int) : 0 ≤ IntKind.u64.wrap n ∧ IntKind.u64.wrap n < 18446744073709551616 := by rw [u64w]; omega
theorem i64_of {n : Int} (h : (Lit.int .i64 n).wf = true) : -9223372036854775808 ≤ n ∧ n ≤ 9223372036854775807 := by
  simp [Lit.wf, IntKind.min, IntKind.max, IntKind.bits, IntKind.signed] at h; omega

/-! ### Texts -/
theorem ba_ext {a b : ByteArray} (h : a.data.toList = b.data.toList) : a = b := by
  cases a; cases b; simp at h; subst h; rfl
theorem ba_size (a : ByteArray) : a.data.toList.length = a.size := by rw [Array.length_toList]; rfl
theorem ba_eq {a b : ByteArray} : a.toList = b.toList ↔ a = b := by
  rw [ByteArray.toList_eq, ByteArray.toList_eq]; exact ⟨ba_ext, fun h => by rw [h]⟩
instance memDec (x : ByteArray) (l : List ByteArray) : Decidable (x ∈ l) := decidable_of_iff (l.any (fun y => decide (y = x)) = true) (by simp)
theorem ex_size (s : ByteArray) (i j : Nat) : (s.extract i j).size = min j s.size - i := ByteArray.size_extract
theorem ex_ex (s : ByteArray) (i j a b : Nat) : (s.extract i j).extract a b = s.extract (i + a) (min (i + b) j) := ByteArray.extract_extract
theorem ap_size (a b : ByteArray) : (a ++ b).size = a.size + b.size := ByteArray.size_append
theorem son_data (xs : List Int) : (strOfNums xs).data.toList = xs.map fun n => UInt8.ofNat n.toNat := rfl
theorem son_size (xs : List Int) : (strOfNums xs).size = xs.length := by simp [strOfNums, ByteArray.size]
theorem son_app (xs ys : List Int) : strOfNums xs ++ strOfNums ys = strOfNums (xs ++ ys) := by
  apply ba_ext; rw [ByteArray.toList_data_append]; simp [son_data]
theorem em_app (s : ByteArray) : (⟨#[]⟩ : ByteArray) ++ s = s := by apply ba_ext; rw [ByteArray.toList_data_append]; simp
theorem app_em (s : ByteArray) : s ++ (⟨#[]⟩ : ByteArray) = s := by apply ba_ext; rw [ByteArray.toList_data_append]; simp

/-! ### Sums -/
def fnvStep (h c : Int) : Int := IntKind.u64.wrap ((Go.bits .xor .u64 h (IntKind.u64.wrap c)) * 1099511628211)
def fnv (s : ByteArray) : Nat → Int → Int → Int
  | 0, h, _ => h
  | n + 1, h, i => fnv s n (fnvStep h (bt s i)) (i + 1)
def sum64 (s : ByteArray) : Int := fnv s s.size 14695981039346656037 0
theorem fnv_range (s : ByteArray) : ∀ (n : Nat) (h i : Int), 0 ≤ h → h < 18446744073709551616 → 0 ≤ fnv s n h i ∧ fnv s n h i < 18446744073709551616
  | 0, h, i, h0, h1 => ⟨h0, h1⟩
  | n + 1, h, i, h0, h1 => fnv_range s n _ _ (u64r _).1 (u64r _).2
theorem sum64_range (s : ByteArray) : 0 ≤ sum64 s ∧ sum64 s < 18446744073709551616 := fnv_range s _ _ _ (by omega) (by omega)
/-- The last w bytes of h, the highest first. -/
def beBytes : Nat → Int → List Int
  | 0, _ => []
  | w + 1, h => beBytes w (h / 256) ++ [h % 256]
def sumT (s : ByteArray) (w : Int) : ByteArray := if 1 ≤ w ∧ w ≤ 8 then strOfNums (beBytes w.toNat (sum64 s)) else ⟨#[]⟩
theorem beBytes_length : ∀ (w : Nat) (h : Int), (beBytes w h).length = w
  | 0, _ => rfl
  | w + 1, h => by simp [beBytes, beBytes_length w]
theorem beBytes_get : ∀ (w : Nat) (h : Int) (i : Nat), i < w → (beBytes w h)[i]? = some (h / 256 ^ (w - 1 - i) % 256)
  | 0, _, _, hi => absurd hi (by omega)
  | w + 1, h, i, hi => by
    unfold beBytes
    by_cases e : i < w
    · rw [List.getElem?_append_left (by rw [beBytes_length]; exact e), beBytes_get w _ i e, Int.ediv_ediv_of_nonneg (by omega)]
      congr 3
      rw [show w + 1 - 1 - i = (w - 1 - i) + 1 by omega, Int.pow_succ, Int.mul_comm]
    · obtain rfl : i = w := by omega
      rw [List.getElem?_append_right (by rw [beBytes_length]; omega), beBytes_length]
      simp

/-! ### Pieces -/
def endsP (p : ByteArray) : Bool := if p.size < 8 then false else if 64 ≤ p.size then true else decide (sum64 (p.extract (p.size - 8) p.size) % 16 = 0)
/-- n bytes are left from i on; the piece that has come so far begins at a. -/
def cutAt (s : ByteArray) : Nat → Nat → Nat → List ByteArray
  | 0, _, _ => []
  | n + 1, a, i => if endsP (s.extract a (i + 1)) = true ∨ i + 1 = s.size then s.extract a (i + 1) :: cutAt s n (i + 1) (i + 1) else cutAt s n a (i + 1)
def pieces (s : ByteArray) : List ByteArray := if s.size > 3000 then [] else cutAt s s.size 0 0
theorem cutAt_length (s : ByteArray) : ∀ n a i, (cutAt s n a i).length ≤ n
  | 0, _, _ => by simp [cutAt]
  | n + 1, a, i => by
    unfold cutAt; split
    · have := cutAt_length s n (i + 1) (i + 1); simp; omega
    · have := cutAt_length s n a (i + 1); omega
theorem pieces_length (s : ByteArray) : (pieces s).length ≤ 3000 := by
  unfold pieces; split
  · simp
  · have := cutAt_length s s.size 0 0; omega
theorem cutAt_size (s : ByteArray) : ∀ n a i, ∀ p ∈ cutAt s n a i, p.size ≤ s.size
  | 0, _, _ => by simp [cutAt]
  | n + 1, a, i => by
    intro p hp
    unfold cutAt at hp; split at hp
    · rcases List.mem_cons.1 hp with rfl | h
      · rw [ex_size]; omega
      · exact cutAt_size s n _ _ p h
    · exact cutAt_size s n _ _ p hp
theorem pieces_size (s : ByteArray) : ∀ p ∈ pieces s, p.size ≤ s.size := by
  intro p hp; unfold pieces at hp; split at hp
  · simp at hp
  · exact cutAt_size s _ _ _ p hp

/-! ### Lists by index; lists of pieces; stores -/
theorem drop_get {α : Type} (d : α) (l : List α) (i : Nat) (h : i < l.length) : l.drop i = l.getD i d :: l.drop (i + 1) := by
  rw [List.drop_eq_getElem_cons h, List.getD_eq_getElem?_getD, List.getElem?_eq_getElem h]; rfl
theorem getD_mem {α : Type} (d : α) (l : List α) (i : Nat) (h : i < l.length) : l.getD i d ∈ l := by
  rw [List.getD_eq_getElem?_getD, List.getElem?_eq_getElem h]; exact List.getElem_mem h
theorem take_set {α : Type} (d : α) (l ys : List α) (i : Nat) (h : i < l.length) (hy : ys.length = l.length) (ht : ys.take i = l.take i) : (ys.set i (l.getD i d)).take (i + 1) = l.take (i + 1) := by
  rw [List.take_add_one, List.take_add_one, List.take_set, ht, List.getElem?_set, if_pos rfl, if_pos (by omega), List.getD_eq_getElem?_getD, List.getElem?_eq_getElem h]
  rw [List.set_eq_of_length_le (by rw [List.length_take]; omega)]; rfl
def descr (s : ByteArray) (w : Int) : Int × List ByteArray := if (1 ≤ w ∧ w ≤ 8) ∧ s.size ≤ 3000 then (s.size, (pieces s).map fun p => sumT p w) else (0, [])
theorem descr_length (s : ByteArray) (w : Int) : (descr s w).2.length ≤ 3000 := by
  unfold descr; split
  · rw [List.length_map]; exact pieces_length s
  · simp
theorem sumT_size (s : ByteArray) (w : Int) : (sumT s w).size ≤ 8 := by
  unfold sumT; split
  · rw [son_size, beBytes_length]; omega
  · exact Nat.zero_le _
/-- Texts of w bytes, each behind the one before it. -/
def ascOk (w : Int) : Bool → ByteArray → List ByteArray → Bool
  | _, _, [] => true
  | b, last, x :: xs => decide ((x.size : Int) = w) && ((b || Op.bytesLess last.toList x.toList) && ascOk w false x xs)

/-! ### The order of texts -/
theorem bl_irrefl : ∀ x : List UInt8, Op.bytesLess x x = false
  | [] => rfl
  | a :: x => by simp [Op.bytesLess, bl_irrefl x]
theorem bl_trans : ∀ x y z : List UInt8, Op.bytesLess x y = true → Op.bytesLess y z = true → Op.bytesLess x z = true
  | _, [], _, h, _ => by simp [Op.bytesLess] at h
  | _, _ :: _, [], _, h => by simp [Op.bytesLess] at h
  | [], _ :: _, _ :: _, _, _ => rfl
  | a :: x, b :: y, c :: z, h, k => by
    simp only [Op.bytesLess, Bool.or_eq_true, Bool.and_eq_true, decide_eq_true_eq, beq_iff_eq] at h k ⊢
    rcases h with h | ⟨rfl, h⟩
    · rcases k with k | ⟨rfl, k⟩
      · exact Or.inl (UInt8.lt_trans h k)
      · exact Or.inl h
    · rcases k with k | ⟨rfl, k⟩
      · exact Or.inl k
      · exact Or.inr ⟨rfl, bl_trans x y z h k⟩
theorem bl_tri : ∀ x y : List UInt8, Op.bytesLess x y = false → Op.bytesLess y x = false → x = y
  | [], [], _, _ => rfl
  | [], _ :: _, h, _ => by simp [Op.bytesLess] at h
  | _ :: _, [], _, h => by simp [Op.bytesLess] at h
  | a :: x, b :: y, h, k => by
    simp only [Op.bytesLess, Bool.or_eq_false_iff, Bool.and_eq_false_iff, decide_eq_false_iff_not, beq_eq_false_iff_ne] at h k
    have e : a = b := by
      have h1 := h.1; have k1 := k.1
      rw [UInt8.lt_iff_toNat_lt] at h1 k1
      exact UInt8.toNat_inj.1 (by omega)
    subst e
    rw [bl_tri x y (h.2.resolve_left (fun z => z rfl)) (k.2.resolve_left (fun z => z rfl))]
def ltT (x y : ByteArray) : Prop := Op.bytesLess x.toList y.toList = true
theorem ltT_irrefl (x : ByteArray) : ¬ ltT x x := by unfold ltT; rw [bl_irrefl]; simp
theorem ltT_trans {x y z : ByteArray} (h : ltT x y) (k : ltT y z) : ltT x z := bl_trans _ _ _ h k
theorem ltT_tri (x y : ByteArray) (h : ¬ ltT x y) (k : ¬ ltT y x) : x = y := by
  unfold ltT at h k
  rw [Bool.not_eq_true] at h k
  exact ba_eq.1 (bl_tri _ _ h k)
/-- Each text behind the one before it: all behind all before them. -/
theorem asc_sorted (w : Int) : ∀ (l : List ByteArray) (b : Bool) (last : ByteArray), ascOk w b last l = true → l.Pairwise ltT ∧ (b = false → ∀ x ∈ l, ltT last x) ∧ ∀ x ∈ l, (x.size : Int) = w
  | [], _, _, _ => by simp
  | y :: l, b, last, h => by
    simp only [ascOk, Bool.and_eq_true, Bool.or_eq_true, decide_eq_true_eq] at h
    obtain ⟨h1, h2, h3⟩ := h
    obtain ⟨i1, i2, i3⟩ := asc_sorted w l false y h3
    have i2 := i2 rfl
    refine ⟨List.pairwise_cons.2 ⟨i2, i1⟩, fun hb x hx => ?_, fun x hx => ?_⟩
    · have hy : ltT last y := h2.resolve_left (by rw [hb]; simp)
      rcases List.mem_cons.1 hx with rfl | hx
      · exact hy
      · exact ltT_trans hy (i2 x hx)
    · rcases List.mem_cons.1 hx with rfl | hx
      · exact h1
      · exact i3 x hx
theorem asc_of_sorted (w : Int) : ∀ (l : List ByteArray) (b : Bool) (last : ByteArray), l.Pairwise ltT → (b = false → ∀ x ∈ l, ltT last x) → (∀ x ∈ l, (x.size : Int) = w) → ascOk w b last l = true
  | [], _, _, _, _, _ => rfl
  | y :: l, b, last, h1, h2, h3 => by
    rw [List.pairwise_cons] at h1
    simp only [ascOk, Bool.and_eq_true, Bool.or_eq_true, decide_eq_true_eq]
    refine ⟨h3 y List.mem_cons_self, ?_, asc_of_sorted w l false y h1.2 (fun _ => h1.1) (fun x hx => h3 x (List.mem_cons_of_mem _ hx))⟩
    cases b with
    | true => exact Or.inl rfl
    | false => exact Or.inr (h2 rfl y List.mem_cons_self)
theorem sorted_part (x : ByteArray) (l : List ByteArray) (h : l.Pairwise ltT) (a b : Nat) (hab : a ≤ b) (hb : b < l.length) (k : Op.bytesLess (l.getD b ByteArray.empty).toList x.toList = true) : Op.bytesLess (l.getD a ByteArray.empty).toList x.toList = true := by
  rcases Nat.lt_or_eq_of_le hab with hlt | rfl
  · have := List.pairwise_iff_getElem.1 h a b (by omega) hb hlt
    rw [List.getD_eq_getElem?_getD, List.getElem?_eq_getElem (by omega)]
    rw [List.getD_eq_getElem?_getD, List.getElem?_eq_getElem hb] at k
    exact bl_trans _ _ _ this k
  · exact k
/-- How many stand before x. -/
def before (x : ByteArray) (l : List ByteArray) : Nat := l.countP fun y => Op.bytesLess y.toList x.toList
theorem before_cons_lt (x y : ByteArray) (l : List ByteArray) (h : ltT y x) : before x (y :: l) = before x l + 1 := by
  exact List.countP_cons_of_pos (p := fun z : ByteArray => Op.bytesLess z.toList x.toList) h
theorem before_zero (x y : ByteArray) (l : List ByteArray) (h : (y :: l).Pairwise ltT) (k : ¬ ltT y x) : before x (y :: l) = 0 := by
  unfold before
  rw [List.countP_eq_zero]
  intro z hz
  rw [List.pairwise_cons] at h
  rcases List.mem_cons.1 hz with rfl | hz
  · exact k
  · exact fun q => k (ltT_trans (h.1 z hz) q)
theorem before_le (x : ByteArray) (l : List ByteArray) : before x l ≤ l.length := List.countP_le_length
theorem search_mem (x : ByteArray) : ∀ l : List ByteArray, l.Pairwise ltT → ((∃ h : before x l < l.length, l[before x l] = x) ↔ x ∈ l)
  | [], _ => by simp
  | y :: l, h => by
    have hp := List.pairwise_cons.1 h
    by_cases c : ltT y x
    · have ih := search_mem x l hp.2
      have e := before_cons_lt x y l c
      constructor
      · rintro ⟨h1, h2⟩
        have h3 : before x l < l.length := by rw [e] at h1; simpa using h1
        refine List.mem_cons_of_mem _ (ih.1 ⟨h3, ?_⟩)
        simp only [e, List.getElem_cons_succ] at h2; exact h2
      · intro hx
        rcases List.mem_cons.1 hx with rfl | hx
        · exact absurd c (ltT_irrefl _)
        · obtain ⟨h3, h4⟩ := ih.2 hx
          exact ⟨by rw [e]; simpa using h3, by simp only [e, List.getElem_cons_succ]; exact h4⟩
    · have e := before_zero x y l h c
      constructor
      · rintro ⟨h1, h2⟩
        simp only [e, List.getElem_cons_zero] at h2
        rw [h2]; exact List.mem_cons_self
      · intro hx
        refine ⟨by rw [e]; simp, ?_⟩
        simp only [e, List.getElem_cons_zero]
        rcases List.mem_cons.1 hx with rfl | hx
        · rfl
        · exact absurd (hp.1 x hx) c
end Go.Proofs.Ytbhkinfdilngiaa.M

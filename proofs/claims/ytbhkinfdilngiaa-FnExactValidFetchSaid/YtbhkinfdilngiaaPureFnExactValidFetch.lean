/- The law FnExactValidFetch answers true at every fetch: the program's ValidFetch is the reference's, and writes into no argument; no condition beyond what the row itself reads. -/
import Derived.Test.YtbhkinfdilngiaaGFnExactValidFetchx
import Derived.Test.YtbhkinfdilngiaaM
namespace Go.Proofs.Ytbhkinfdilngiaa.Pure
open Go.RowKit Go.Proofs.Ytbhkinfdilngiaa.PFnExactValidFetch Go.Proofs.Ytbhkinfdilngiaa.M Go.Proofs.YtbhkinfdilngiaaW.PrintWords Go.Proofs.YtbhkinfdilngiaaW.PrintLast Go.Proofs.YtbhkinfdilngiaaW.PrintMore
set_option linter.unusedVariables false
set_option linter.unusedSimpArgs false

/-! ### Sums of 64 bits: spec_l1Sum64, impl_sum64 -/
theorem l1Sum64_l (s : ByteArray) (hs : s.size ≤ 4611686018427387904) : ∀ (n : Nat) (h i : Int), 0 ≤ i → i + n = s.size → Ev (fun k => spec_l1Sum64.l0 k s h i) (fnv s n h i)
  | 0, h, i, h0, h1 => by
    refine Ev.step (fun k => by rw [spec_l1Sum64.l0]) ?_
    exact ev_neg (by omega) (Ev.now _)
  | n + 1, h, i, h0, h1 => by
    refine Ev.step (fun k => by rw [spec_l1Sum64.l0]) ?_
    refine ev_pos (by omega) (ev_pos h0 ?_)
    rw [w64 (by omega) (by omega)]
    exact l1Sum64_l s hs n _ (i + 1) (by omega) (by omega)
theorem l1Sum64_ev (s : ByteArray) (hs : s.size ≤ 4611686018427387904) : Ev (fun k => spec_l1Sum64.f k s) (sum64 s) :=
  l1Sum64_l s hs s.size _ 0 (by omega) (by omega)
theorem sum64_l (s : ByteArray) (hs : s.size ≤ 4611686018427387904) : ∀ (n : Nat) (h i : Int), 0 ≤ i → i + n = s.size → Ev (fun k => impl_sum64.l0 k s h i) (fnv s n h i)
  | 0, h, i, h0, h1 => by
    refine Ev.step (fun k => by rw [impl_sum64.l0]) ?_
    exact ev_neg (by omega) (Ev.now _)
  | n + 1, h, i, h0, h1 => by
    refine Ev.step (fun k => by rw [impl_sum64.l0]) ?_
    refine ev_pos (by omega) (ev_pos h0 ?_)
    rw [w64 (by omega) (by omega)]
    exact sum64_l s hs n _ (i + 1) (by omega) (by omega)
theorem sum64_ev (s : ByteArray) (hs : s.size ≤ 4611686018427387904) : Ev (fun k => impl_sum64.f k s) (sum64 s) :=
  sum64_l s hs s.size _ 0 (by omega) (by omega)

/-! ### Sums: spec_l1In, spec_l1Width, spec_l1Sum64, spec_l1Bytes, spec_Sum; impl_widthOk, impl_sum64, impl_Sum -/
theorem l1In_is (a b c : Int) : spec_l1In.f a b c = some (decide (b ≤ a ∧ a ≤ c)) := by
  unfold spec_l1In.f
  by_cases h : b ≤ a <;> simp [h]
theorem l1Width_is (w : Int) : spec_l1Width.f w = some (decide (1 ≤ w ∧ w ≤ 8)) := by
  unfold spec_l1Width.f; rw [l1In_is]; rfl
theorem widthOk_is (w : Int) : impl_widthOk.f w = some (decide (1 ≤ w ∧ w ≤ 8)) := by
  unfold impl_widthOk.f
  by_cases h : 1 ≤ w <;> simp [h]
theorem l1Bytes_l : ∀ (n : Nat) (h w i : Int) (out : ByteArray), 0 ≤ i → i + n = w → w ≤ 8 → 0 ≤ h → h < 18446744073709551616 → out.size + n ≤ 8 →
    Ev (fun k => spec_l1Bytes.l0 k h w out i) (strOfNums (beBytes n h) ++ out)
  | 0, h, w, i, out, h0, h1, h2, h3, h4, h5 => by
    refine Ev.step (fun k => by rw [spec_l1Bytes.l0]) ?_
    refine ev_neg (by omega) ?_
    exact ev_now (by rw [show strOfNums (beBytes 0 h) = (⟨#[]⟩ : ByteArray) from rfl, em_app])
  | n + 1, h, w, i, out, h0, h1, h2, h3, h4, h5 => by
    refine Ev.step (fun k => by rw [spec_l1Bytes.l0]) ?_
    refine ev_pos (by omega) ?_
    refine ev_some ?_
    have e1 : Int.tmod h 256 % 256 = h % 256 := by rw [Int.tmod_eq_emod_of_nonneg h3]; omega
    have e2 : IntKind.u64.wrap (Int.tdiv h 256) = h / 256 := by rw [Int.tdiv_eq_ediv_of_nonneg h3, u64w]; omega
    have sz : (strOfNums [Int.tmod h 256 % 256]).size = 1 := by rw [son_size]; rfl
    refine ev_pos (by rw [sz]; omega) ?_
    rw [e1, e2, w64 (by omega) (by omega)]
    refine ev_cast ?_ (l1Bytes_l n (h / 256) w (i + 1) _ (by omega) (by omega) h2 (by omega) (by omega) (by rw [ap_size, son_size]; simp only [List.length_cons, List.length_nil]; omega))
    rw [beBytes, ← ByteArray.append_assoc, son_app]
theorem specSum_ev (s : ByteArray) (w : Int) (hs : s.size ≤ 4611686018427387904) : Ev (fun k => spec_Sum.f k s w) (sumT s w) := by
  unfold spec_Sum.f
  refine ev_bindc (l1Width_is w) ?_
  by_cases h : 1 ≤ w ∧ w ≤ 8
  · refine ev_pos (by simp [h]) ?_
    refine Ev.bind (l1Sum64_ev s hs) ?_
    have z := sum64_range s
    refine Ev.bind (f := fun k t => some t) (l1Bytes_l w.toNat (sum64 s) w 0 ⟨#[]⟩ (by omega) (by omega) h.2 z.1 z.2 (by show 0 + _ ≤ _; omega)) ?_
    exact ev_now (by rw [app_em]; unfold sumT; rw [if_pos h])
  · refine ev_neg (by simp [h]) ?_
    exact ev_now (by unfold sumT; rw [if_neg h])
theorem implSum_l (h : Int) (h0 : 0 ≤ h) (h1 : h < 18446744073709551616) (w : Nat) (hw : w ≤ 8) : ∀ (n : Nat) (i : Int) (xs : List Int), 0 ≤ i → i + n = w → xs.length = w →
    Ev (fun k => impl_Sum.l0 k w h xs w i) (strOfNums (xs.take i.toNat ++ (beBytes w h).drop i.toNat))
  | 0, i, xs, i0, i1, hx => by
    refine Ev.step (fun k => by rw [impl_Sum.l0]) ?_
    refine ev_neg (by omega) (ev_now ?_)
    rw [List.take_of_length_le (by omega), List.drop_eq_nil_of_le (by rw [beBytes_length]; omega), List.append_nil]
  | n + 1, i, xs, i0, i1, hx => by
    refine Ev.step (fun k => by rw [impl_Sum.l0]) ?_
    rw [w64 (n := (w : Int) - 1) (by omega) (by omega), w64 (n := (w : Int) - 1 - i) (by omega) (by omega), w64 (n := 8 * ((w : Int) - 1 - i)) (by omega) (by omega), w64 (n := i + 1) (by omega) (by omega)]
    refine ev_pos (by omega) (ev_pos (by omega) (ev_pos i0 (ev_pos (by omega) ?_)))
    refine ev_cast ?_ (implSum_l h h0 h1 w hw n (i + 1) _ (by omega) (by omega) (by simpa using hx))
    congr 1
    have e : shr .u64 h (8 * ((w : Int) - 1 - i)) % 256 = h / 256 ^ (w - 1 - i.toNat) % 256 := by
      unfold shr
      rw [show (8 * ((w : Int) - 1 - i)).toNat = 8 * (w - 1 - i.toNat) by omega, show IntKind.u64.bits = 64 from rfl, Nat.min_eq_left (by omega), Int.pow_mul]
      rfl
    rw [e, show (i + 1).toNat = i.toNat + 1 by omega]
    have g := beBytes_get w h i.toNat (by omega)
    generalize h / 256 ^ (w - 1 - i.toNat) % 256 = b at g
    rw [List.take_set, List.take_add_one, List.set_append, List.length_take]
    rw [if_neg (by omega)]
    rw [show i.toNat - min i.toNat xs.length = 0 by omega, List.getElem?_eq_getElem (by omega)]
    simp only [Option.toList_some, List.set_cons_zero, List.append_assoc, List.singleton_append]
    congr 1
    obtain ⟨hb, e2⟩ := List.getElem?_eq_some_iff.1 g
    rw [← e2]; exact (List.drop_eq_getElem_cons hb).symm
theorem implSum_ev (s : ByteArray) (w : Int) (hs : s.size ≤ 4611686018427387904) : Ev (fun k => impl_Sum.f k s w) (sumT s w) := by
  unfold impl_Sum.f
  refine ev_bindc (widthOk_is w) ?_
  by_cases h : 1 ≤ w ∧ w ≤ 8
  · refine ev_pos (by simp [h]) ?_
    refine Ev.bind (sum64_ev s hs) ?_
    refine ev_pos (by omega) (ev_pos (by omega) (ev_some ?_))
    have z := sum64_range s
    obtain ⟨m, rfl⟩ : ∃ m : Nat, w = m := ⟨w.toNat, by omega⟩
    have e : (((List.replicate (m : Int).toNat (0 : Int)).length : Nat) : Int) = m := by simp
    rw [e]
    refine ev_cast ?_ (implSum_l (sum64 s) z.1 z.2 m (by omega) m 0 _ (by omega) (by omega) (by simp))
    unfold sumT; rw [if_pos h]; simp
  · refine ev_neg (by simp [h]) ?_
    exact ev_now (by unfold sumT; rw [if_neg h])

/-! ### Two lists of texts: laws_eqStringS -/
theorem laws_eqStringS_l (l0 l1 : List ByteArray) (hl : l0.length ≤ 4611686018427387904) (he : l0.length = l1.length) : ∀ (n : Nat) (i : Int), 0 ≤ i → i + n = l0.length →
    Ev (fun k => laws_eqStringS.l0 k l0 l1 i) (decide (l0.drop i.toNat = l1.drop i.toNat))
  | 0, i, h0, h1 => by
    refine Ev.step (fun k => by rw [laws_eqStringS.l0]) ?_
    refine ev_neg (by omega) (ev_now ?_)
    rw [List.drop_eq_nil_of_le (by omega), List.drop_eq_nil_of_le (by omega)]; simp
  | n + 1, i, h0, h1 => by
    refine Ev.step (fun k => by rw [laws_eqStringS.l0]) ?_
    refine ev_pos (by omega) (ev_pos h0 (ev_pos (by omega) ?_))
    rw [w64 (by omega) (by omega)]
    have d0 : l0.drop i.toNat = rdOf ByteArray.empty l0 i :: l0.drop (i + 1).toNat := by
      rw [List.drop_eq_getElem_cons (by omega), show (i + 1).toNat = i.toNat + 1 by omega]
      unfold rdOf; rw [List.getD_eq_getElem?_getD, List.getElem?_eq_getElem (by omega)]; rfl
    have d1 : l1.drop i.toNat = rdOf ByteArray.empty l1 i :: l1.drop (i + 1).toNat := by
      rw [List.drop_eq_getElem_cons (by omega), show (i + 1).toNat = i.toNat + 1 by omega]
      unfold rdOf; rw [List.getD_eq_getElem?_getD, List.getElem?_eq_getElem (by omega)]; rfl
    rw [d0, d1]
    by_cases e : rdOf ByteArray.empty l0 i = rdOf ByteArray.empty l1 i
    · refine ev_pos (ba_eq.2 e) ?_
      refine ev_cast ?_ (laws_eqStringS_l l0 l1 hl he n (i + 1) (by omega) (by omega))
      rw [e]; simp
    · refine ev_neg (fun h => e (ba_eq.1 h)) (ev_now ?_)
      simp [e]
theorem laws_eqStringS_ev (l0 l1 : List ByteArray) (hl : l0.length ≤ 4611686018427387904) : Ev (fun k => laws_eqStringS.f k l0 l1) (decide (l0 = l1)) := by
  unfold laws_eqStringS.f
  by_cases e : l0.length = l1.length
  · refine ev_pos (by omega) ?_
    exact ev_cast (by simp) (laws_eqStringS_l l0 l1 hl e l0.length 0 (by omega) (by omega))
  · refine ev_neg (by omega) (ev_now ?_)
    have : l0 ≠ l1 := fun h => e (by rw [h])
    simp [this]
theorem laws_eqStringS_same (l0 : List ByteArray) (hl : l0.length ≤ 4611686018427387904) : Ev (fun k => laws_eqStringS.f k l0 l0) true := ev_cast (by simp) (laws_eqStringS_ev l0 l0 hl)

/-! ### Sizes and copies of lists of texts: laws_szStringS, laws_toStringS -/
theorem szStringS_l (l : List ByteArray) (hl : l.length ≤ maxLen) (hs : ∀ x ∈ l, x.size ≤ maxLen) : ∀ (n i : Nat) (left : Int), i + n = l.length → 0 ≤ left → left ≤ 1048576 → l.length ≤ 1048576 →
    ∃ r, Ev (fun k => laws_szStringS.l0 k l left i) r ∧ (r < 0 ∨ (0 ≤ r ∧ r ≤ left ∧ ∀ x ∈ l.drop i, (x.size : Int) ≤ left))
  | 0, i, left, h0, h1, h2, h3 => by
    refine ⟨left, Ev.step (fun k => by rw [laws_szStringS.l0]) (ev_neg (by omega) (Ev.now _)), Or.inr ⟨h1, Int.le_refl _, ?_⟩⟩
    rw [List.drop_eq_nil_of_le (by omega)]; simp
  | n + 1, i, left, h0, h1, h2, h3 => by
    have e : rdOf ByteArray.empty l (i : Int) = l.getD i ByteArray.empty := rfl
    have hx := hs _ (getD_mem ByteArray.empty l i (by omega))
    have dg := drop_get ByteArray.empty l i (by omega)
    have hm : maxLen = 9223372036854775807 := rfl
    generalize l.getD i ByteArray.empty = x at e hx dg
    by_cases c : left - (x.size : Int) < 0
    · refine ⟨-1, Ev.step (fun k => by rw [laws_szStringS.l0]) (ev_pos (by omega) (ev_pos (by omega) ?_)), Or.inl (by omega)⟩
      rw [e, w64 (n := left - (x.size : Int)) (by omega) (by omega)]
      exact ev_pos c (Ev.now _)
    · obtain ⟨r, hr, hq⟩ := szStringS_l l hl hs n (i + 1) (left - x.size) (by omega) (by omega) (by omega) h3
      refine ⟨r, Ev.step (fun k => by rw [laws_szStringS.l0]) (ev_pos (by omega) (ev_pos (by omega) ?_)), ?_⟩
      · rw [e, w64 (n := left - (x.size : Int)) (by omega) (by omega), show wrap64 ((i : Int) + 1) = ((i + 1 : Nat) : Int) by rw [w64 (by omega) (by omega)]; omega]
        exact ev_neg c hr
      · rcases hq with hq | ⟨q0, q1, q2⟩
        · exact Or.inl hq
        · refine Or.inr ⟨q0, by omega, ?_⟩
          rw [dg]; intro y hy
          rcases List.mem_cons.1 hy with rfl | hy
          · omega
          · have := q2 y hy; omega
theorem szStringS_ev (l : List ByteArray) (left : Int) (hl : l.length ≤ maxLen) (hs : ∀ x ∈ l, x.size ≤ maxLen) (h1 : 0 ≤ left) (h2 : left ≤ 1048576) :
    ∃ r, Ev (fun k => laws_szStringS.f k l left) r ∧ (r < 0 ∨ (0 ≤ r ∧ r ≤ left ∧ (l.length : Int) ≤ left ∧ ∀ x ∈ l, (x.size : Int) ≤ left)) := by
  have hm : maxLen = 9223372036854775807 := rfl
  unfold laws_szStringS.f
  rw [w64 (n := left - (l.length : Int)) (by omega) (by omega)]
  by_cases c : left - (l.length : Int) < 0
  · exact ⟨-1, ev_pos c (Ev.now _), Or.inl (by omega)⟩
  · obtain ⟨r, hr, hq⟩ := szStringS_l l hl hs l.length 0 (left - l.length) (by omega) (by omega) (by omega) (by omega)
    refine ⟨r, ev_neg c hr, ?_⟩
    rcases hq with hq | ⟨q0, q1, q2⟩
    · exact Or.inl hq
    · exact Or.inr ⟨q0, by omega, by omega, fun x hx => by have := q2 x (by simpa using hx); omega⟩
theorem toStringS_l (l : List ByteArray) (hl : l.length ≤ 1048576) : ∀ (n i : Nat) (ys : List ByteArray), i + n = l.length → ys.length = l.length → ys.take i = l.take i → Ev (fun k => laws_toStringS.l0 k l ys i) l
  | 0, i, ys, h0, h1, h2 => by
    refine Ev.step (fun k => by rw [laws_toStringS.l0]) (ev_neg (by omega) (ev_now ?_))
    rw [List.take_of_length_le (by omega), List.take_of_length_le (by omega)] at h2; exact h2
  | n + 1, i, ys, h0, h1, h2 => by
    refine Ev.step (fun k => by rw [laws_toStringS.l0]) (ev_pos (by omega) (ev_pos (by omega) (ev_pos (by omega) ?_)))
    have e : rdOf ByteArray.empty l (i : Int) = l.getD i ByteArray.empty := rfl
    rw [e, Int.toNat_natCast, show wrap64 ((i : Int) + 1) = ((i + 1 : Nat) : Int) by rw [w64 (by omega) (by omega)]; omega]
    exact toStringS_l l hl n (i + 1) _ (by omega) (by simpa using h1) (take_set _ l ys i (by omega) h1 h2)
theorem toStringS_ev (l : List ByteArray) (hl : l.length ≤ 1048576) : Ev (fun k => laws_toStringS.f k l) l := by
  unfold laws_toStringS.f
  refine ev_pos (by omega) (ev_pos (by omega) ?_)
  exact toStringS_l l hl l.length 0 _ (by omega) (by simp) (by simp)

/-! ### Items and stores as arguments: laws_szItem, laws_szItemS, laws_szStore, laws_toItem, laws_toItemS, laws_toStore, laws_eqItem, laws_eqItemS, laws_eqStore -/
def cvI (x : S123) : S92 := ⟨x.f0, x.f1⟩
theorem szItemS_l (l : List S123) (hs : ∀ x ∈ l, x.f0.size ≤ maxLen) : ∀ (n i : Nat) (left : Int), i + n = l.length → 0 ≤ left → left ≤ 1048576 → l.length ≤ 1048576 →
    ∃ r, Ev (fun k => laws_szItemS.l0 k l left i) r ∧ (r < 0 ∨ (0 ≤ r ∧ r ≤ left ∧ ∀ x ∈ l.drop i, (x.f0.size : Int) ≤ left))
  | 0, i, left, h0, h1, h2, h3 => by
    refine ⟨left, Ev.step (fun k => by rw [laws_szItemS.l0]) (ev_neg (by omega) (Ev.now _)), Or.inr ⟨h1, Int.le_refl _, ?_⟩⟩
    rw [List.drop_eq_nil_of_le (by omega)]; simp
  | n + 1, i, left, h0, h1, h2, h3 => by
    have e : rd_T123 l (i : Int) = l.getD i z123 := rfl
    have hx := hs _ (getD_mem z123 l i (by omega))
    have dg := drop_get z123 l i (by omega)
    have hm : maxLen = 9223372036854775807 := rfl
    generalize l.getD i z123 = x at e hx dg
    have w1 := w64 (n := left - (x.f0.size : Int)) (by omega) (by omega)
    by_cases c : left - (x.f0.size : Int) < 0
    · refine ⟨-1, Ev.step (fun k => by rw [laws_szItemS.l0]) (ev_pos (by omega) (ev_pos (by omega) ?_)), Or.inl (by omega)⟩
      rw [e]
      exact ev_bindc (a := -1) (by unfold laws_szItem.f; rw [w1, if_pos c]) (ev_pos (by omega) (Ev.now _))
    · obtain ⟨r, hr, hq⟩ := szItemS_l l hs n (i + 1) (left - x.f0.size) (by omega) (by omega) (by omega) h3
      refine ⟨r, Ev.step (fun k => by rw [laws_szItemS.l0]) (ev_pos (by omega) (ev_pos (by omega) ?_)), ?_⟩
      · rw [e, show wrap64 ((i : Int) + 1) = ((i + 1 : Nat) : Int) by rw [w64 (by omega) (by omega)]; omega]
        exact ev_bindc (a := left - x.f0.size) (by unfold laws_szItem.f; rw [w1, if_neg c]) (ev_neg c hr)
      · rcases hq with hq | ⟨q0, q1, q2⟩
        · exact Or.inl hq
        · refine Or.inr ⟨q0, by omega, ?_⟩
          rw [dg]; intro y hy
          rcases List.mem_cons.1 hy with rfl | hy
          · omega
          · have := q2 y hy; omega
theorem szItemS_ev (l : List S123) (left : Int) (hl : l.length ≤ maxLen) (hs : ∀ x ∈ l, x.f0.size ≤ maxLen) (h1 : 0 ≤ left) (h2 : left ≤ 1048576) :
    ∃ r, Ev (fun k => laws_szItemS.f k l left) r ∧ (r < 0 ∨ (0 ≤ r ∧ r ≤ left ∧ (l.length : Int) ≤ left ∧ ∀ x ∈ l, (x.f0.size : Int) ≤ left)) := by
  have hm : maxLen = 9223372036854775807 := rfl
  unfold laws_szItemS.f
  rw [w64 (n := left - (l.length : Int)) (by omega) (by omega)]
  by_cases c : left - (l.length : Int) < 0
  · exact ⟨-1, ev_pos c (Ev.now _), Or.inl (by omega)⟩
  · obtain ⟨r, hr, hq⟩ := szItemS_l l hs l.length 0 (left - l.length) (by omega) (by omega) (by omega) (by omega)
    refine ⟨r, ev_neg c hr, ?_⟩
    rcases hq with hq | ⟨q0, q1, q2⟩
    · exact Or.inl hq
    · exact Or.inr ⟨q0, by omega, by omega, fun x hx => by have := q2 x (by simpa using hx); omega⟩
/-- What the guard on a store's size lets in. -/
def StoreIn (items : List S123) (pins : List ByteArray) : Prop := items.length ≤ 1048576 ∧ (∀ x ∈ items, x.f0.size ≤ 1048576) ∧ pins.length ≤ 1048576 ∧ ∀ x ∈ pins, x.size ≤ 1048576
theorem szStore_ev (a b : Int) (l : List S123) (p : List ByteArray) (left : Int) (hl : l.length ≤ maxLen) (hs : ∀ x ∈ l, x.f0.size ≤ maxLen) (hp : p.length ≤ maxLen) (ht : ∀ x ∈ p, x.size ≤ maxLen) (h1 : 0 ≤ left) (h2 : left ≤ 1048576) :
    ∃ r, Ev (fun k => laws_szStore.f k a b l p left) r ∧ (r < 0 ∨ (0 ≤ r ∧ r ≤ left ∧ StoreIn l p)) := by
  obtain ⟨r, hr, hq⟩ := szItemS_ev l left hl hs h1 h2
  unfold laws_szStore.f
  rcases hq with hq | ⟨q0, q1, q2, q3⟩
  · exact ⟨-1, Ev.bind hr (ev_pos hq (Ev.now _)), Or.inl (by omega)⟩
  · obtain ⟨t, ht2, hv⟩ := szStringS_ev p r hp ht q0 (by omega)
    rcases hv with hv | ⟨v0, v1, v2, v3⟩
    · exact ⟨-1, Ev.bind hr (ev_neg (by omega) (Ev.bind ht2 (ev_pos hv (Ev.now _)))), Or.inl (by omega)⟩
    · exact ⟨t, Ev.bind hr (ev_neg (by omega) (Ev.bind ht2 (ev_neg (by omega) (Ev.now _)))), Or.inr ⟨v0, by omega, by omega, fun x hx => by have := q3 x hx; omega, by omega, fun x hx => by have := v3 x hx; omega⟩⟩
theorem toItem_is (a : ByteArray) (b : Int) : laws_toItem.f a b = some (a, b) := rfl
theorem toItemS_l (l : List S123) (hl : l.length ≤ 1048576) : ∀ (n i : Nat) (ys : List S92), i + n = l.length → ys.length = l.length → ys.take i = (l.map cvI).take i → Ev (fun k => laws_toItemS.l0 k l ys i) (l.map cvI)
  | 0, i, ys, h0, h1, h2 => by
    refine Ev.step (fun k => by rw [laws_toItemS.l0]) (ev_neg (by omega) (ev_now ?_))
    rw [List.take_of_length_le (by omega), List.take_of_length_le (by simp; omega)] at h2; exact h2
  | n + 1, i, ys, h0, h1, h2 => by
    refine Ev.step (fun k => by rw [laws_toItemS.l0]) (ev_pos (by omega) (ev_pos (by omega) (ev_bindc (toItem_is _ _) (ev_pos (show (i : Int) < (ys.length : Int) by omega) ?_))))
    have e : (⟨(rd_T123 l (i : Int)).f0, (rd_T123 l (i : Int)).f1⟩ : S92) = (l.map cvI).getD i (cvI z123) := by
      show cvI (l.getD i z123) = _
      rw [List.getD_eq_getElem?_getD, List.getD_eq_getElem?_getD, List.getElem?_map]
      cases l[i]? <;> rfl
    show Ev (fun k => laws_toItemS.l0 k l (ys.set (i : Int).toNat (⟨(rd_T123 l (i : Int)).f0, (rd_T123 l (i : Int)).f1⟩ : S92)) (wrap64 ((i : Int) + 1))) (l.map cvI)
    rw [e, Int.toNat_natCast, show wrap64 ((i : Int) + 1) = ((i + 1 : Nat) : Int) by rw [w64 (by omega) (by omega)]; omega]
    exact toItemS_l l hl n (i + 1) _ (by omega) (by simpa using h1) (take_set _ (l.map cvI) ys i (by simp; omega) (by simp; omega) h2)
theorem toItemS_ev (l : List S123) (hl : l.length ≤ 1048576) : Ev (fun k => laws_toItemS.f k l) (l.map cvI) := by
  unfold laws_toItemS.f
  refine ev_pos (by omega) (ev_pos (by omega) ?_)
  exact toItemS_l l hl l.length 0 _ (by omega) (by simp) (by simp)
theorem toStore_ev (a b : Int) (l : List S123) (p : List ByteArray) (h : StoreIn l p) : Ev (fun k => laws_toStore.f k a b l p) (a, b, l.map cvI, p) := by
  unfold laws_toStore.f
  exact Ev.bind (toItemS_ev l h.1) (Ev.bind (toStringS_ev p h.2.2.1) (Ev.now _))
theorem eqItem_same (a : ByteArray) (b : Int) : laws_eqItem.f a b a b = some true := by unfold laws_eqItem.f; rw [if_pos rfl, if_pos rfl]
theorem eqItemS_l (l : List S92) (hl : l.length ≤ 4611686018427387904) : ∀ (n i : Nat), i + n = l.length → Ev (fun k => laws_eqItemS.l0 k l l i) true
  | 0, i, h0 => Ev.step (fun k => by rw [laws_eqItemS.l0]) (ev_neg (by omega) (Ev.now _))
  | n + 1, i, h0 => by
    refine Ev.step (fun k => by rw [laws_eqItemS.l0]) (ev_pos (by omega) (ev_pos (by omega) (ev_pos (by omega) (ev_bindc (eqItem_same _ _) (ev_pos rfl ?_)))))
    rw [show wrap64 ((i : Int) + 1) = ((i + 1 : Nat) : Int) by rw [w64 (by omega) (by omega)]; omega]
    exact eqItemS_l l hl n (i + 1) (by omega)
theorem eqItemS_same (l : List S92) (hl : l.length ≤ 4611686018427387904) : Ev (fun k => laws_eqItemS.f k l l) true := by
  unfold laws_eqItemS.f
  exact ev_pos rfl (eqItemS_l l hl l.length 0 (by omega))
theorem eqStore_same (a b : Int) (l : List S92) (p : List ByteArray) (hl : l.length ≤ 4611686018427387904) (hp : p.length ≤ 4611686018427387904) : Ev (fun k => laws_eqStore.f k a b l p a b l p) true := by
  unfold laws_eqStore.f
  exact ev_pos rfl (ev_pos rfl (Ev.bind (eqItemS_same l hl) (ev_pos rfl (Ev.bind (laws_eqStringS_same p hp) (ev_pos rfl (Ev.now _))))))

/-! ### Valid stores: spec_l4Bytes, spec_ValidStore, impl_ascending, impl_ValidStore -/
def itemsOk (w : Int) : Bool → ByteArray → List S92 → Bool
  | _, _, [] => true
  | b, last, x :: xs => decide (1 ≤ (x.f0.size : Int) ∧ (x.f0.size : Int) ≤ 7000) && (decide (0 ≤ x.f1 ∧ x.f1 ≤ 1000000) && ((b || Op.bytesLess last.toList (sumT x.f0 w).toList) && itemsOk w false (sumT x.f0 w) xs))
def total : List S92 → Int
  | [] => 0
  | x :: xs => x.f0.size + total xs
def validS (w room : Int) (items : List S92) (pins : List ByteArray) : Bool :=
  decide (1 ≤ w ∧ w ≤ 8) && (decide (0 ≤ room ∧ room ≤ 60000) && (decide (items.length ≤ 1000) && (decide (pins.length ≤ 10) && (ascOk w true ⟨#[]⟩ pins && (itemsOk w true ⟨#[]⟩ items && decide (total items ≤ room))))))
theorem total_range : ∀ (l : List S92), (∀ x ∈ l, x.f0.size ≤ 1048576) → 0 ≤ total l ∧ total l ≤ 1048576 * l.length
  | [], _ => by simp [total]
  | x :: xs, h => by
    have := total_range xs (fun y hy => h y (List.mem_cons_of_mem _ hy))
    have := h x List.mem_cons_self
    simp [total]; omega
theorem l4Bytes_l (l : List S92) (a b : Int) (p : List ByteArray) (hl : l.length ≤ 1048576) (hs : ∀ x ∈ l, x.f0.size ≤ 1048576) : ∀ (n i : Nat) (acc : Int), i + n = l.length → 0 ≤ acc → acc ≤ 1048576 * i →
    Ev (fun k => spec_l4Bytes.l0 k acc i a b l p) (acc + total (l.drop i))
  | 0, i, acc, h0, h1, h2 => by
    refine Ev.step (fun k => by rw [spec_l4Bytes.l0]) (ev_neg (by omega) (ev_now ?_))
    rw [List.drop_eq_nil_of_le (by omega)]; simp [total]
  | n + 1, i, acc, h0, h1, h2 => by
    refine Ev.step (fun k => by rw [spec_l4Bytes.l0]) (ev_pos (by omega) (ev_pos (by omega) ?_))
    have e : rd_T92 l (i : Int) = l.getD i z92 := rfl
    have hx := hs _ (getD_mem z92 l i (by omega))
    have dg := drop_get z92 l i (by omega)
    rw [e, show wrap64 ((i : Int) + 1) = ((i + 1 : Nat) : Int) by rw [w64 (by omega) (by omega)]; omega]
    generalize l.getD i z92 = x at hx dg ⊢
    rw [w64 (n := acc + (x.f0.size : Int)) (by omega) (by omega)]
    refine ev_cast ?_ (l4Bytes_l l a b p hl hs n (i + 1) (acc + x.f0.size) (by omega) (by omega) (by omega))
    rw [dg, total]; omega
theorem l4Bytes_ev (l : List S92) (a b : Int) (p : List ByteArray) (hl : l.length ≤ 1048576) (hs : ∀ x ∈ l, x.f0.size ≤ 1048576) : Ev (fun k => spec_l4Bytes.f k a b l p) (total l) := by
  unfold spec_l4Bytes.f
  exact ev_cast (by simp) (l4Bytes_l l a b p hl hs l.length 0 0 (by omega) (by omega) (by omega))
theorem specValid_l1 (w room : Int) (l : List S92) (p : List ByteArray) (hl : l.length ≤ 1000) (hs : ∀ x ∈ l, x.f0.size ≤ 1048576) (hp : p.length ≤ 10) : ∀ (n i : Nat), i + n = p.length →
    Ev (fun k => spec_ValidStore.l1 k i w room l p) (ascOk w (decide (i = 0)) (p.getD (i - 1) ByteArray.empty) (p.drop i) && decide (total l ≤ room))
  | 0, i, h0 => by
    refine Ev.step (fun k => by rw [spec_ValidStore.l1]) (ev_neg (by omega) (Ev.bind (l4Bytes_ev l w room p (by omega) hs) (ev_now ?_)))
    rw [List.drop_eq_nil_of_le (by omega), ascOk]; simp
  | n + 1, i, h0 => by
    refine Ev.step (fun k => by rw [spec_ValidStore.l1]) (ev_pos (by omega) (ev_pos (by omega) ?_))
    have ih := specValid_l1 w room l p hl hs hp n (i + 1) (by omega)
    have e : rdOf ByteArray.empty p (i : Int) = p.getD i ByteArray.empty := rfl
    have dg := drop_get ByteArray.empty p i (by omega)
    rw [e, dg, ascOk, show wrap64 ((i : Int) + 1) = ((i + 1 : Nat) : Int) by rw [w64 (by omega) (by omega)]; omega]
    rw [Nat.add_sub_cancel] at ih
    generalize p.getD i ByteArray.empty = x at ih ⊢
    by_cases c : (x.size : Int) = w
    · refine ev_pos c ?_
      by_cases i0 : i = 0
      · refine ev_neg (by omega) (ev_cast ?_ ih)
        simp [c, i0]
      · refine ev_pos (by omega) ?_
        rw [show wrap64 ((i : Int) - 1) = ((i - 1 : Nat) : Int) by rw [w64 (by omega) (by omega)]; omega]
        refine ev_pos (by omega) (ev_pos (by omega) ?_)
        have e2 : rdOf ByteArray.empty p ((i - 1 : Nat) : Int) = p.getD (i - 1) ByteArray.empty := rfl
        rw [e2]
        by_cases b : Op.bytesLess (p.getD (i - 1) ByteArray.empty).toList x.toList = true
        · refine ev_pos b (ev_cast ?_ ih)
          rw [b]; simp [c]
        · refine ev_neg b (ev_now ?_)
          rw [Bool.not_eq_true] at b
          rw [b]; simp [i0]
    · refine ev_neg c (ev_now ?_)
      simp [c]
theorem specValid_l0 (w room : Int) (l : List S92) (p : List ByteArray) (hl : l.length ≤ 1000) (hs : ∀ x ∈ l, x.f0.size ≤ 1048576) (hp : p.length ≤ 10) : ∀ (n i : Nat) (last : ByteArray), i + n = l.length →
    Ev (fun k => spec_ValidStore.l0 k last i w room l p) (itemsOk w (decide (i = 0)) last (l.drop i) && (ascOk w true ByteArray.empty p && decide (total l ≤ room)))
  | 0, i, last, h0 => by
    refine Ev.step (fun k => by rw [spec_ValidStore.l0]) (ev_neg (by omega) ?_)
    refine ev_cast ?_ (specValid_l1 w room l p hl hs hp p.length 0 (by omega))
    rw [show l.drop i = [] from List.drop_eq_nil_of_le (by omega), itemsOk]
    have e : ∀ q : ByteArray, ascOk w true q p = ascOk w true ByteArray.empty p := by intro q; cases p <;> rfl
    simp only [decide_true, List.drop_zero, Bool.true_and]; rw [e]
  | n + 1, i, last, h0 => by
    refine Ev.step (fun k => by rw [spec_ValidStore.l0]) (ev_pos (by omega) (ev_pos (by omega) ?_))
    have e : rd_T92 l (i : Int) = l.getD i z92 := rfl
    have hx := hs _ (getD_mem z92 l i (by omega))
    have dg := drop_get z92 l i (by omega)
    have ih := specValid_l0 w room l p hl hs hp n (i + 1)
    rw [e, dg, itemsOk, show wrap64 ((i : Int) + 1) = ((i + 1 : Nat) : Int) by rw [w64 (by omega) (by omega)]; omega]
    generalize l.getD i z92 = x at hx ⊢
    refine Ev.bind (specSum_ev _ w (by omega)) (ev_bindc (l1In_is _ _ _) ?_)
    by_cases c1 : 1 ≤ (x.f0.size : Int) ∧ (x.f0.size : Int) ≤ 7000
    · refine ev_pos (by simpa using c1) (ev_bindc (l1In_is _ _ _) ?_)
      by_cases c2 : 0 ≤ x.f1 ∧ x.f1 ≤ 1000000
      · refine ev_pos (by simpa using c2) ?_
        have ih := ih (sumT x.f0 w) (by omega)
        by_cases i0 : i = 0
        · refine ev_neg (by omega) (ev_cast ?_ ih)
          rw [decide_eq_true c1, decide_eq_true c2]; simp [i0]
        · refine ev_pos (by omega) ?_
          by_cases b : Op.bytesLess last.toList (sumT x.f0 w).toList = true
          · refine ev_pos b (ev_cast ?_ ih)
            rw [b, decide_eq_true c1, decide_eq_true c2]; simp
          · refine ev_neg b (ev_now ?_)
            rw [Bool.not_eq_true] at b
            rw [b]; simp [i0]
      · refine ev_neg (by simpa using c2) (ev_now ?_)
        rw [decide_eq_false c2]; simp
    · refine ev_neg (by simpa using c1) (ev_now ?_)
      rw [decide_eq_false c1]; simp
theorem specValid_ev (w room : Int) (l : List S92) (p : List ByteArray) (hs : ∀ x ∈ l, x.f0.size ≤ 1048576) : Ev (fun k => spec_ValidStore.f k w room l p) (validS w room l p) := by
  have no : ∀ (b : Bool), validS w room l p = false → b = true → Ev (fun k => spec_ValidStore.j0 k b w room l p) (validS w room l p) := by
    intro b hv hb
    refine Ev.step (fun k => by rw [spec_ValidStore.j0]) (ev_pos hb (ev_now hv.symm))
  unfold spec_ValidStore.f
  refine ev_bindc (l1Width_is w) ?_
  by_cases c1 : 1 ≤ w ∧ w ≤ 8
  · refine ev_pos (by simpa using c1) (ev_bindc (l1In_is _ _ _) ?_)
    by_cases c2 : 0 ≤ room ∧ room ≤ 60000
    · refine ev_pos (by simpa using c2) ?_
      by_cases c3 : l.length ≤ 1000
      · refine ev_neg (by omega) ?_
        by_cases c4 : p.length ≤ 10
        · refine Ev.step (fun k => by rw [spec_ValidStore.j0]) (ev_neg (by simp; omega) ?_)
          refine ev_cast ?_ (specValid_l0 w room l p c3 hs c4 l.length 0 ⟨#[]⟩ (by omega))
          unfold validS
          rw [decide_eq_true c1, decide_eq_true c2, decide_eq_true c3, decide_eq_true c4]
          simp only [Bool.true_and, decide_true, List.drop_zero]
          have e : ascOk w true ByteArray.empty p = ascOk w true ⟨#[]⟩ p := by cases p <;> rfl
          rw [e, Bool.and_left_comm]
        · exact no _ (by unfold validS; rw [decide_eq_false c4]; simp) (by simp; omega)
      · exact ev_pos (by omega) (no _ (by unfold validS; rw [decide_eq_false c3]; simp) rfl)
    · exact ev_neg (by simpa using c2) (no _ (by unfold validS; rw [decide_eq_false c2]; simp) rfl)
  · exact ev_neg (by simpa using c1) (no _ (by unfold validS; rw [decide_eq_false c1]; simp) rfl)
theorem ascending_l (w : Int) (p : List ByteArray) (hp : p.length ≤ 1048576) : ∀ (n i : Nat), i + n = p.length → Ev (fun k => impl_ascending.l0 k p w p p.length i) (ascOk w (decide (i = 0)) (p.getD (i - 1) ByteArray.empty) (p.drop i))
  | 0, i, h0 => by
    refine Ev.step (fun k => by rw [impl_ascending.l0]) (ev_neg (by omega) (ev_now ?_))
    rw [List.drop_eq_nil_of_le (by omega), ascOk]
  | n + 1, i, h0 => by
    refine Ev.step (fun k => by rw [impl_ascending.l0]) (ev_pos (by omega) (ev_pos (by omega) (ev_pos (by omega) ?_)))
    have ih := ascending_l w p hp n (i + 1) (by omega)
    have e : rdOf ByteArray.empty p (i : Int) = p.getD i ByteArray.empty := rfl
    have dg := drop_get ByteArray.empty p i (by omega)
    rw [e, dg, ascOk, show wrap64 ((i : Int) + 1) = ((i + 1 : Nat) : Int) by rw [w64 (by omega) (by omega)]; omega]
    rw [Nat.add_sub_cancel] at ih
    generalize p.getD i ByteArray.empty = x at ih ⊢
    by_cases c : (x.size : Int) = w
    · refine ev_pos c ?_
      by_cases i0 : i = 0
      · refine ev_neg (by omega) (ev_cast ?_ ih)
        simp [c, i0]
      · refine ev_pos (by omega) ?_
        rw [show wrap64 ((i : Int) - 1) = ((i - 1 : Nat) : Int) by rw [w64 (by omega) (by omega)]; omega]
        refine ev_pos (by omega) (ev_pos (by omega) ?_)
        have e2 : rdOf ByteArray.empty p ((i - 1 : Nat) : Int) = p.getD (i - 1) ByteArray.empty := rfl
        rw [e2]
        by_cases b : Op.bytesLess (p.getD (i - 1) ByteArray.empty).toList x.toList = true
        · refine ev_pos b (ev_cast ?_ ih)
          rw [b]; simp [c]
        · refine ev_neg b (ev_now ?_)
          rw [Bool.not_eq_true] at b
          rw [b]; simp [i0]
    · refine ev_neg c (ev_now ?_)
      simp [c]
theorem ascending_ev (w : Int) (p : List ByteArray) (hp : p.length ≤ 1048576) : Ev (fun k => impl_ascending.f k p w) (ascOk w true ⟨#[]⟩ p) := by
  unfold impl_ascending.f
  refine ev_cast ?_ (ascending_l w p hp p.length 0 (by omega))
  cases p <;> rfl
theorem implValid_l0 (w room : Int) (l : List S92) (p : List ByteArray) (hl : l.length ≤ 1000) (hs : ∀ x ∈ l, x.f0.size ≤ 1048576) : ∀ (n i : Nat) (acc : Int) (last : ByteArray), i + n = l.length → 0 ≤ acc → acc ≤ 1048576 * i →
    Ev (fun k => impl_ValidStore.l0 k acc last l l.length i w room l p) (itemsOk w (decide (i = 0)) last (l.drop i) && decide (acc + total (l.drop i) ≤ room))
  | 0, i, acc, last, h0, h1, h2 => by
    refine Ev.step (fun k => by rw [impl_ValidStore.l0]) (ev_neg (by omega) (ev_now ?_))
    rw [List.drop_eq_nil_of_le (by omega), itemsOk, total]; simp
  | n + 1, i, acc, last, h0, h1, h2 => by
    refine Ev.step (fun k => by rw [impl_ValidStore.l0]) (ev_pos (by omega) (ev_pos (by omega) (ev_pos (by omega) ?_)))
    have e : rd_T92 l (i : Int) = l.getD i z92 := rfl
    have hx := hs _ (getD_mem z92 l i (by omega))
    have dg := drop_get z92 l i (by omega)
    have ih := implValid_l0 w room l p hl hs n (i + 1)
    rw [e, dg, itemsOk, total, show wrap64 ((i : Int) + 1) = ((i + 1 : Nat) : Int) by rw [w64 (by omega) (by omega)]; omega]
    generalize l.getD i z92 = x at hx ⊢
    rw [w64 (n := acc + (x.f0.size : Int)) (by omega) (by omega)]
    have ih := ih (acc + x.f0.size) (sumT x.f0 w) (by omega) (by omega) (by omega)
    rw [Int.add_assoc] at ih
    refine Ev.bind (implSum_ev _ w (by omega)) ?_
    by_cases c1 : 1 ≤ (x.f0.size : Int) ∧ (x.f0.size : Int) ≤ 7000
    · refine ev_neg (by omega) (ev_neg (by omega) ?_)
      by_cases c2 : 0 ≤ x.f1 ∧ x.f1 ≤ 1000000
      · refine ev_neg (by omega) (ev_neg (by omega) ?_)
        by_cases i0 : i = 0
        · refine ev_neg (by omega) (ev_cast ?_ ih)
          rw [decide_eq_true c1, decide_eq_true c2]; simp [i0]
        · refine ev_pos (by omega) ?_
          by_cases b : Op.bytesLess last.toList (sumT x.f0 w).toList = true
          · refine ev_pos b (ev_cast ?_ ih)
            rw [b, decide_eq_true c1, decide_eq_true c2]; simp
          · refine ev_neg b (ev_now ?_)
            rw [Bool.not_eq_true] at b
            rw [b]; simp [i0]
      · rw [decide_eq_false c2]
        by_cases c3 : x.f1 < 0
        · exact ev_pos c3 (ev_now (by simp))
        · exact ev_neg c3 (ev_pos (by omega) (ev_now (by simp)))
    · rw [decide_eq_false c1]
      by_cases c3 : (x.f0.size : Int) < 1
      · exact ev_pos c3 (ev_now (by simp))
      · exact ev_neg c3 (ev_pos (by omega) (ev_now (by simp)))
theorem implValid_ev (w room : Int) (l : List S92) (p : List ByteArray) (hs : ∀ x ∈ l, x.f0.size ≤ 1048576) : Ev (fun k => impl_ValidStore.f k w room l p) (validS w room l p) := by
  have no : ∀ (b : Bool), validS w room l p = false → b = true → Ev (fun k => impl_ValidStore.j0 k b w room l p) (validS w room l p) := by
    intro b hv hb
    refine Ev.step (fun k => by rw [impl_ValidStore.j0]) (ev_pos hb (ev_now hv.symm))
  unfold impl_ValidStore.f
  refine ev_bindc (widthOk_is w) ?_
  by_cases c1 : 1 ≤ w ∧ w ≤ 8
  · refine ev_pos (by simpa using c1) ?_
    by_cases c2 : 0 ≤ room ∧ room ≤ 60000
    · refine ev_neg (by omega) (ev_neg (by omega) ?_)
      by_cases c3 : l.length ≤ 1000
      · refine ev_neg (by omega) ?_
        by_cases c4 : p.length ≤ 10
        · refine ev_neg (by omega) (Ev.bind (ascending_ev w p (by omega)) ?_)
          by_cases c5 : ascOk w true ⟨#[]⟩ p = true
          · refine Ev.step (fun k => by rw [impl_ValidStore.j0]) (ev_neg (by rw [c5]; simp) ?_)
            refine ev_cast ?_ (implValid_l0 w room l p c3 hs l.length 0 0 ⟨#[]⟩ (by omega) (by omega) (by omega))
            unfold validS
            rw [decide_eq_true c1, decide_eq_true c2, decide_eq_true c3, decide_eq_true c4, c5]
            simp
          · rw [Bool.not_eq_true] at c5
            exact no _ (by unfold validS; rw [c5]; simp) (by rw [c5]; rfl)
        · exact ev_pos (by omega) (no _ (by unfold validS; rw [decide_eq_false c4]; simp) rfl)
      · exact ev_pos (by omega) (no _ (by unfold validS; rw [decide_eq_false c3]; simp) rfl)
    · have nv : validS w room l p = false := by unfold validS; rw [decide_eq_false c2]; simp
      by_cases c3 : room < 0
      · exact ev_pos c3 (no _ nv rfl)
      · exact ev_neg c3 (ev_pos (by omega) (no _ nv rfl))
  · exact ev_neg (by simpa using c1) (no _ (by unfold validS; rw [decide_eq_false c1]; simp) rfl)

/-! ### Is a text in a list: spec_l2In -/
theorem l2In_l (l : List ByteArray) (x : ByteArray) (hl : l.length ≤ 4611686018427387904) : ∀ (n i : Nat), i + n = l.length → Ev (fun k => spec_l2In.l0 k l x i) (decide (x ∈ l.drop i))
  | 0, i, h0 => by
    refine Ev.step (fun k => by rw [spec_l2In.l0]) (ev_neg (by omega) (ev_now ?_))
    rw [List.drop_eq_nil_of_le (by omega)]; simp
  | n + 1, i, h0 => by
    refine Ev.step (fun k => by rw [spec_l2In.l0]) (ev_pos (by omega) (ev_pos (by omega) ?_))
    have e : rdOf ByteArray.empty l (i : Int) = l.getD i ByteArray.empty := rfl
    rw [e, drop_get ByteArray.empty l i (by omega), show wrap64 ((i : Int) + 1) = ((i + 1 : Nat) : Int) by rw [w64 (by omega) (by omega)]; omega]
    generalize l.getD i ByteArray.empty = y
    by_cases c : y = x
    · exact ev_pos (ba_eq.2 c) (ev_now (by simp [c]))
    · refine ev_neg (fun z => c (ba_eq.1 z)) (ev_cast ?_ (l2In_l l x hl n (i + 1) (by omega)))
      have : x ≠ y := fun z => c z.symm
      simp [this]
theorem l2In_ev (l : List ByteArray) (x : ByteArray) (hl : l.length ≤ 4611686018427387904) : Ev (fun k => spec_l2In.f k l x) (decide (x ∈ l)) := by
  unfold spec_l2In.f
  exact ev_cast (by simp) (l2In_l l x hl l.length 0 (by omega))

/-! ### Peers and fetches as arguments: laws_szPeer, laws_szPeerS, laws_szFetch, laws_toPeer, laws_toPeerS, laws_toFetch, laws_eqPeer, laws_eqPeerS, laws_eqFetch -/
def cvP (x : S137) : S112 := ⟨x.f0, x.f1, x.f2, x.f3, x.f4⟩
theorem szPeer_ev (a b c : Int) (s : ByteArray) (l : List ByteArray) (left : Int) (hs : s.size ≤ maxLen) (hl : l.length ≤ maxLen) (ht : ∀ x ∈ l, x.size ≤ maxLen) (h1 : 0 ≤ left) (h2 : left ≤ 1048576) :
    ∃ r, Ev (fun k => laws_szPeer.f k a b c s l left) r ∧ (r < 0 ∨ (0 ≤ r ∧ r ≤ left ∧ (s.size : Int) ≤ left ∧ (l.length : Int) ≤ left ∧ ∀ x ∈ l, (x.size : Int) ≤ left)) := by
  have hm : maxLen = 9223372036854775807 := rfl
  unfold laws_szPeer.f
  rw [w64 (n := left - (s.size : Int)) (by omega) (by omega)]
  by_cases q : left - (s.size : Int) < 0
  · exact ⟨-1, ev_pos q (Ev.now _), Or.inl (by omega)⟩
  · obtain ⟨r, hr, hv⟩ := szStringS_ev l (left - s.size) hl ht (by omega) (by omega)
    rcases hv with hv | ⟨v0, v1, v2, v3⟩
    · exact ⟨-1, ev_neg q (Ev.bind hr (ev_pos hv (Ev.now _))), Or.inl (by omega)⟩
    · exact ⟨r, ev_neg q (Ev.bind hr (ev_neg (by omega) (Ev.now _))), Or.inr ⟨v0, by omega, by omega, by omega, fun x hx => by have := v3 x hx; omega⟩⟩
/-- What the guard on a fetch's size lets in, of its peers. -/
def PeersIn (l : List S137) : Prop := l.length ≤ 1048576 ∧ ∀ x ∈ l, x.f3.size ≤ 1048576 ∧ x.f4.length ≤ 1048576 ∧ ∀ y ∈ x.f4, y.size ≤ 1048576
def PeerGood (x : S137) : Prop := x.f3.size ≤ maxLen ∧ x.f4.length ≤ maxLen ∧ ∀ y ∈ x.f4, y.size ≤ maxLen
theorem szPeerS_l (l : List S137) (hs : ∀ x ∈ l, PeerGood x) : ∀ (n i : Nat) (left : Int), i + n = l.length → 0 ≤ left → left ≤ 1048576 → l.length ≤ 1048576 →
    ∃ r, Ev (fun k => laws_szPeerS.l0 k l left i) r ∧ (r < 0 ∨ (0 ≤ r ∧ r ≤ left ∧ ∀ x ∈ l.drop i, (x.f3.size : Int) ≤ left ∧ (x.f4.length : Int) ≤ left ∧ ∀ y ∈ x.f4, (y.size : Int) ≤ left))
  | 0, i, left, h0, h1, h2, h3 => by
    refine ⟨left, Ev.step (fun k => by rw [laws_szPeerS.l0]) (ev_neg (by omega) (Ev.now _)), Or.inr ⟨h1, Int.le_refl _, ?_⟩⟩
    rw [List.drop_eq_nil_of_le (by omega)]; simp
  | n + 1, i, left, h0, h1, h2, h3 => by
    have e : rd_T137 l (i : Int) = l.getD i z137 := rfl
    have hx := hs _ (getD_mem z137 l i (by omega))
    have dg := drop_get z137 l i (by omega)
    generalize l.getD i z137 = x at e hx dg
    obtain ⟨t, ht, hv⟩ := szPeer_ev x.f0 x.f1 x.f2 x.f3 x.f4 left hx.1 hx.2.1 hx.2.2 h1 h2
    rcases hv with hv | ⟨v0, v1, v2, v3, v4⟩
    · refine ⟨-1, Ev.step (fun k => by rw [laws_szPeerS.l0]) (ev_pos (by omega) (ev_pos (by omega) ?_)), Or.inl (by omega)⟩
      rw [e]; exact Ev.bind ht (ev_pos hv (Ev.now _))
    · obtain ⟨r, hr, hq⟩ := szPeerS_l l hs n (i + 1) t (by omega) (by omega) (by omega) h3
      refine ⟨r, Ev.step (fun k => by rw [laws_szPeerS.l0]) (ev_pos (by omega) (ev_pos (by omega) ?_)), ?_⟩
      · rw [e, show wrap64 ((i : Int) + 1) = ((i + 1 : Nat) : Int) by rw [w64 (by omega) (by omega)]; omega]
        exact Ev.bind ht (ev_neg (by omega) hr)
      · rcases hq with hq | ⟨q0, q1, q2⟩
        · exact Or.inl hq
        · refine Or.inr ⟨q0, by omega, ?_⟩
          rw [dg]; intro y hy
          rcases List.mem_cons.1 hy with rfl | hy
          · exact ⟨v2, v3, v4⟩
          · obtain ⟨a1, a2, a3⟩ := q2 y hy
            exact ⟨by omega, by omega, fun z hz => by have := a3 z hz; omega⟩
theorem szPeerS_ev (l : List S137) (left : Int) (hl : l.length ≤ maxLen) (hs : ∀ x ∈ l, PeerGood x) (h1 : 0 ≤ left) (h2 : left ≤ 1048576) :
    ∃ r, Ev (fun k => laws_szPeerS.f k l left) r ∧ (r < 0 ∨ (0 ≤ r ∧ r ≤ left ∧ PeersIn l)) := by
  have hm : maxLen = 9223372036854775807 := rfl
  unfold laws_szPeerS.f
  rw [w64 (n := left - (l.length : Int)) (by omega) (by omega)]
  by_cases c : left - (l.length : Int) < 0
  · exact ⟨-1, ev_pos c (Ev.now _), Or.inl (by omega)⟩
  · obtain ⟨r, hr, hq⟩ := szPeerS_l l hs l.length 0 (left - l.length) (by omega) (by omega) (by omega) (by omega)
    refine ⟨r, ev_neg c hr, ?_⟩
    rcases hq with hq | ⟨q0, q1, q2⟩
    · exact Or.inl hq
    · refine Or.inr ⟨q0, by omega, by omega, fun x hx => ?_⟩
      obtain ⟨a1, a2, a3⟩ := q2 x (by simpa using hx)
      exact ⟨by omega, by omega, fun z hz => by have := a3 z hz; omega⟩
theorem szFetch_ev (s : ByteArray) (a : Int) (f : Bool) (w room : Int) (l : List S123) (p : List ByteArray) (ps : List S137) (left : Int) (hs : s.size ≤ maxLen) (hl : l.length ≤ maxLen) (hi : ∀ x ∈ l, x.f0.size ≤ maxLen) (hp : p.length ≤ maxLen) (ht : ∀ x ∈ p, x.size ≤ maxLen)
    (hps : ps.length ≤ maxLen) (hpg : ∀ x ∈ ps, PeerGood x) (h1 : 0 ≤ left) (h2 : left ≤ 1048576) :
    ∃ r, Ev (fun k => laws_szFetch.f k s a f w room l p ps left) r ∧ (r < 0 ∨ (0 ≤ r ∧ r ≤ left ∧ s.size ≤ 1048576 ∧ StoreIn l p ∧ PeersIn ps)) := by
  have hm : maxLen = 9223372036854775807 := rfl
  unfold laws_szFetch.f
  rw [w64 (n := left - (s.size : Int)) (by omega) (by omega)]
  by_cases q : left - (s.size : Int) < 0
  · exact ⟨-1, ev_pos q (Ev.now _), Or.inl (by omega)⟩
  · obtain ⟨r, hr, hv⟩ := szStore_ev w room l p (left - s.size) hl hi hp ht (by omega) (by omega)
    rcases hv with hv | ⟨v0, v1, v2⟩
    · exact ⟨-1, ev_neg q (Ev.bind hr (ev_pos hv (Ev.now _))), Or.inl (by omega)⟩
    · obtain ⟨t, ht2, hu⟩ := szPeerS_ev ps r hps hpg v0 (by omega)
      rcases hu with hu | ⟨u0, u1, u2⟩
      · exact ⟨-1, ev_neg q (Ev.bind hr (ev_neg (by omega) (Ev.bind ht2 (ev_pos hu (Ev.now _))))), Or.inl (by omega)⟩
      · exact ⟨t, ev_neg q (Ev.bind hr (ev_neg (by omega) (Ev.bind ht2 (ev_neg (by omega) (Ev.now _))))), Or.inr ⟨u0, by omega, by omega, v2, u2⟩⟩
theorem toPeer_ev (x : S137) (h : x.f4.length ≤ 1048576) : Ev (fun k => laws_toPeer.f k x.f0 x.f1 x.f2 x.f3 x.f4) (x.f0, x.f1, x.f2, x.f3, x.f4) := by
  unfold laws_toPeer.f
  exact Ev.bind (toStringS_ev _ h) (Ev.now _)
theorem toPeerS_l (l : List S137) (h : PeersIn l) : ∀ (n i : Nat) (ys : List S112), i + n = l.length → ys.length = l.length → ys.take i = (l.map cvP).take i → Ev (fun k => laws_toPeerS.l0 k l ys i) (l.map cvP)
  | 0, i, ys, h0, h1, h2 => by
    refine Ev.step (fun k => by rw [laws_toPeerS.l0]) (ev_neg (by omega) (ev_now ?_))
    rw [List.take_of_length_le (by omega), List.take_of_length_le (by simp; omega)] at h2; exact h2
  | n + 1, i, ys, h0, h1, h2 => by
    have hl := h.1
    have e0 : rd_T137 l (i : Int) = l.getD i z137 := rfl
    have hx := h.2 _ (getD_mem z137 l i (by omega))
    have e : cvP (l.getD i z137) = (l.map cvP).getD i (cvP z137) := by
      rw [List.getD_eq_getElem?_getD, List.getD_eq_getElem?_getD, List.getElem?_map]
      cases l[i]? <;> rfl
    refine Ev.step (fun k => by rw [laws_toPeerS.l0]) (ev_pos (by omega) (ev_pos (by omega) ?_))
    rw [e0]
    refine Ev.bind (toPeer_ev _ hx.2.1) (ev_pos (show (i : Int) < (ys.length : Int) by omega) ?_)
    show Ev (fun k => laws_toPeerS.l0 k l (ys.set (i : Int).toNat (cvP (l.getD i z137))) (wrap64 ((i : Int) + 1))) (l.map cvP)
    rw [e, Int.toNat_natCast, show wrap64 ((i : Int) + 1) = ((i + 1 : Nat) : Int) by rw [w64 (by omega) (by omega)]; omega]
    exact toPeerS_l l h n (i + 1) _ (by omega) (by simpa using h1) (take_set _ (l.map cvP) ys i (by simp; omega) (by simp; omega) h2)
theorem toPeerS_ev (l : List S137) (h : PeersIn l) : Ev (fun k => laws_toPeerS.f k l) (l.map cvP) := by
  have hl := h.1
  unfold laws_toPeerS.f
  refine ev_pos (by omega) (ev_pos (by omega) ?_)
  exact toPeerS_l l h l.length 0 _ (by omega) (by simp) (by simp)
theorem toFetch_ev (s : ByteArray) (a : Int) (f : Bool) (w room : Int) (l : List S123) (p : List ByteArray) (ps : List S137) (h : StoreIn l p) (hp : PeersIn ps) : Ev (fun k => laws_toFetch.f k s a f w room l p ps) (s, a, f, w, room, l.map cvI, p, ps.map cvP) := by
  unfold laws_toFetch.f
  exact Ev.bind (toStore_ev w room l p h) (Ev.bind (toPeerS_ev ps hp) (Ev.now _))
theorem eqPeer_same (a b c : Int) (s : ByteArray) (l : List ByteArray) (hl : l.length ≤ 4611686018427387904) : Ev (fun k => laws_eqPeer.f k a b c s l a b c s l) true := by
  unfold laws_eqPeer.f
  exact ev_pos rfl (ev_pos rfl (ev_pos rfl (ev_pos rfl (Ev.bind (laws_eqStringS_same l hl) (ev_pos rfl (Ev.now _))))))
theorem eqPeerS_l (l : List S112) (hl : l.length ≤ 4611686018427387904) (hx : ∀ x ∈ l, x.f4.length ≤ 4611686018427387904) : ∀ (n i : Nat), i + n = l.length → Ev (fun k => laws_eqPeerS.l0 k l l i) true
  | 0, i, h0 => Ev.step (fun k => by rw [laws_eqPeerS.l0]) (ev_neg (by omega) (Ev.now _))
  | n + 1, i, h0 => by
    have e : rd_T112 l (i : Int) = l.getD i z112 := rfl
    refine Ev.step (fun k => by rw [laws_eqPeerS.l0]) (ev_pos (by omega) (ev_pos (by omega) (ev_pos (by omega) ?_)))
    rw [e]
    refine Ev.bind (eqPeer_same _ _ _ _ _ (hx _ (getD_mem z112 l i (by omega)))) (ev_pos rfl ?_)
    rw [show wrap64 ((i : Int) + 1) = ((i + 1 : Nat) : Int) by rw [w64 (by omega) (by omega)]; omega]
    exact eqPeerS_l l hl hx n (i + 1) (by omega)
theorem eqPeerS_same (l : List S112) (hl : l.length ≤ 4611686018427387904) (hx : ∀ x ∈ l, x.f4.length ≤ 4611686018427387904) : Ev (fun k => laws_eqPeerS.f k l l) true := by
  unfold laws_eqPeerS.f
  exact ev_pos rfl (eqPeerS_l l hl hx l.length 0 (by omega))
theorem eqFetch_same (s : ByteArray) (a : Int) (f : Bool) (w room : Int) (l : List S92) (p : List ByteArray) (ps : List S112) (hl : l.length ≤ 4611686018427387904) (hp : p.length ≤ 4611686018427387904) (hs : ps.length ≤ 4611686018427387904) (hx : ∀ x ∈ ps, x.f4.length ≤ 4611686018427387904) :
    Ev (fun k => laws_eqFetch.f k s a f w room l p ps s a f w room l p ps) true := by
  unfold laws_eqFetch.f
  exact ev_pos rfl (ev_pos rfl (ev_neg (by simp) (Ev.bind (eqStore_same w room l p hl hp) (ev_pos rfl (Ev.bind (eqPeerS_same ps hs hx) (ev_pos rfl (Ev.now _)))))))

/-! ### Valid fetches: impl_pinned, impl_timeOk, spec_ValidFetch, impl_ValidFetch -/
theorem search_is (l : List ByteArray) (x : ByteArray) (h : l.Pairwise ltT) (hl : l.length ≤ 1048576) : sort_SearchStrings.f l x = some ((before x l : Nat) : Int) := by
  unfold sort_SearchStrings.f
  rw [if_pos ⟨by omega, (sort_SearchStrings.parts_iff l x).2 (fun a b hab hb k => sorted_part x l h a b hab hb k)⟩]; rfl
theorem pinned_is (w room : Int) (items : List S92) (pins : List ByteArray) (name : ByteArray) (h : pins.Pairwise ltT) (hl : pins.length ≤ 1048576) : impl_pinned.f w room items pins name = some (((before name pins : Nat) : Int), decide (name ∈ pins)) := by
  unfold impl_pinned.f
  rw [search_is pins name h hl]
  have s := search_mem name pins h
  by_cases c : before name pins < pins.length
  · simp only [Option.bind_some]
    rw [if_pos (by omega), if_pos (by omega)]
    have e : rdOf ByteArray.empty pins ((before name pins : Nat) : Int) = pins[before name pins] := by
      show pins.getD (before name pins) ByteArray.empty = _
      rw [List.getD_eq_getElem?_getD, List.getElem?_eq_getElem c]; rfl
    rw [e]
    by_cases m : name ∈ pins
    · obtain ⟨_, q⟩ := s.2 m
      rw [q]; simp [m]
    · have q : pins[before name pins] ≠ name := fun z => m (s.1 ⟨c, z⟩)
      have q2 : (pins[before name pins].toList == name.toList) = false := beq_eq_false_iff_ne.2 (fun z => q (ba_eq.1 z))
      rw [q2]; simp [m]
  · simp only [Option.bind_some]
    rw [if_neg (by omega)]
    have m : name ∉ pins := fun m => c (s.2 m).1
    simp [m]
theorem timeOk_is (t : Int) : impl_timeOk.f t = some (decide (0 ≤ t ∧ t ≤ 1000000)) := by
  unfold impl_timeOk.f
  by_cases h : 0 ≤ t <;> simp [h]
def askedOk (w wait : Int) (s : ByteArray) : Bool := if wait = 0 then decide (s = ⟨#[]⟩) else decide ((s.size : Int) = w)
def peerOk (w now : Int) (x : S112) : Bool :=
  decide (0 ≤ x.f0 ∧ x.f0 ≤ 3) && (decide (0 ≤ x.f1 ∧ x.f1 ≤ 5) && (decide (-1 ≤ x.f2 ∧ x.f2 ≤ now) && (decide (x.f4.length ≤ 376) && (askedOk w x.f1 x.f3 && ascOk w true ⟨#[]⟩ x.f4))))
def validF (name : ByteArray) (now w room : Int) (items : List S92) (pins : List ByteArray) (peers : List S112) : Bool :=
  validS w room items pins && (decide (name ∈ pins) && (decide (0 ≤ now ∧ now ≤ 1000000) && (decide (1 ≤ peers.length ∧ peers.length ≤ 5) && peers.all (peerOk w now))))
theorem asc_any (w : Int) (a b : ByteArray) (l : List ByteArray) : ascOk w true a l = ascOk w true b l := by cases l <;> rfl
theorem empty_iff (s : ByteArray) : s.toList = ([] : List UInt8) ↔ s = ⟨#[]⟩ := by
  rw [ByteArray.toList_eq]
  constructor
  · intro h; exact ba_ext (by rw [h])
  · intro h; rw [h]
theorem ne_empty (s : ByteArray) : (s.toList != ([] : List UInt8)) = !(decide (s = ⟨#[]⟩)) := by
  by_cases h : s = ⟨#[]⟩
  · rw [decide_eq_true h, (empty_iff s).2 h]; rfl
  · rw [decide_eq_false h]
    exact bne_iff_ne.2 (fun z => h ((empty_iff s).1 z))
theorem specVF_l1 (s : ByteArray) (now : Int) (f : Bool) (w room : Int) (items : List S92) (pins : List ByteArray) (peers : List S112) (i : Nat) (a b c : Int) (t : ByteArray) (l : List ByteArray) (hl : l.length ≤ 1048576) (R : Bool)
    (H : Ev (fun k => spec_ValidFetch.l0 k (wrap64 ((i : Int) + 1)) s now f w room items pins peers) R) : ∀ (n j : Nat), j + n = l.length →
    Ev (fun k => spec_ValidFetch.l1 k i j s now f w room items pins peers a b c t l) (ascOk w (decide (j = 0)) (l.getD (j - 1) ByteArray.empty) (l.drop j) && R)
  | 0, j, h0 => by
    refine Ev.step (fun k => by rw [spec_ValidFetch.l1]) (ev_neg (by omega) (ev_cast ?_ H))
    rw [List.drop_eq_nil_of_le (by omega), ascOk]; simp
  | n + 1, j, h0 => by
    refine Ev.step (fun k => by rw [spec_ValidFetch.l1]) (ev_pos (by omega) (ev_pos (by omega) ?_))
    have ih := specVF_l1 s now f w room items pins peers i a b c t l hl R H n (j + 1) (by omega)
    have e : rdOf ByteArray.empty l (j : Int) = l.getD j ByteArray.empty := rfl
    have dg := drop_get ByteArray.empty l j (by omega)
    rw [e, dg, ascOk, show wrap64 ((j : Int) + 1) = ((j + 1 : Nat) : Int) by rw [w64 (by omega) (by omega)]; omega]
    rw [Nat.add_sub_cancel] at ih
    generalize l.getD j ByteArray.empty = x at ih ⊢
    by_cases cc : (x.size : Int) = w
    · refine ev_pos cc ?_
      by_cases j0 : j = 0
      · refine ev_neg (by omega) (ev_cast ?_ ih)
        simp [cc, j0]
      · refine ev_pos (by omega) ?_
        rw [show wrap64 ((j : Int) - 1) = ((j - 1 : Nat) : Int) by rw [w64 (by omega) (by omega)]; omega]
        refine ev_pos (by omega) (ev_pos (by omega) ?_)
        have e2 : rdOf ByteArray.empty l ((j - 1 : Nat) : Int) = l.getD (j - 1) ByteArray.empty := rfl
        rw [e2]
        by_cases q : Op.bytesLess (l.getD (j - 1) ByteArray.empty).toList x.toList = true
        · refine ev_pos q (ev_cast ?_ ih)
          rw [q]; simp [cc]
        · refine ev_neg q (ev_now ?_)
          rw [Bool.not_eq_true] at q
          rw [q]; simp [j0]
    · refine ev_neg cc (ev_now ?_)
      simp [cc]
theorem specVF_l0 (s : ByteArray) (now : Int) (f : Bool) (w room : Int) (items : List S92) (pins : List ByteArray) (peers : List S112) (hp : peers.length ≤ 1048576) (hx : ∀ x ∈ peers, x.f4.length ≤ 1048576) : ∀ (n i : Nat), i + n = peers.length →
    Ev (fun k => spec_ValidFetch.l0 k i s now f w room items pins peers) ((peers.drop i).all (peerOk w now))
  | 0, i, h0 => by
    refine Ev.step (fun k => by rw [spec_ValidFetch.l0]) (ev_neg (by omega) (ev_now ?_))
    rw [List.drop_eq_nil_of_le (by omega)]; rfl
  | n + 1, i, h0 => by
    have ih := specVF_l0 s now f w room items pins peers hp hx n (i + 1) (by omega)
    have e : rd_T112 peers (i : Int) = peers.getD i z112 := rfl
    have hx1 := hx _ (getD_mem z112 peers i (by omega))
    have dg := drop_get z112 peers i (by omega)
    have w1 : wrap64 ((i : Int) + 1) = ((i + 1 : Nat) : Int) := by rw [w64 (by omega) (by omega)]; omega
    refine Ev.step (fun k => by rw [spec_ValidFetch.l0]) (ev_pos (by omega) (ev_pos (by omega) ?_))
    rw [e, dg, List.all_cons]
    generalize peers.getD i z112 = x at hx1 ⊢
    have H : Ev (fun k => spec_ValidFetch.l0 k (wrap64 ((i : Int) + 1)) s now f w room items pins peers) ((peers.drop (i + 1)).all (peerOk w now)) := by rw [w1]; exact ih
    clear w1
    have bad : ∀ (b : Bool), b = true → peerOk w now x = false → Ev (fun k => spec_ValidFetch.j2 k i b s now f w room items pins peers x.f0 x.f1 x.f2 x.f3 x.f4) (peerOk w now x && (peers.drop (i + 1)).all (peerOk w now)) := by
      intro b hb hv
      exact Ev.step (fun k => by rw [spec_ValidFetch.j2]) (ev_pos hb (ev_now (by rw [hv]; rfl)))
    refine ev_bindc (l1In_is _ _ _) ?_
    by_cases c1 : 0 ≤ x.f0 ∧ x.f0 ≤ 3
    · refine ev_pos (by simpa using c1) (ev_bindc (l1In_is _ _ _) ?_)
      by_cases c2 : 0 ≤ x.f1 ∧ x.f1 ≤ 5
      · refine ev_pos (by simpa using c2) (ev_bindc (l1In_is _ _ _) ?_)
        by_cases c3 : -1 ≤ x.f2 ∧ x.f2 ≤ now
        · refine ev_pos (by simpa using c3) ?_
          by_cases c4 : x.f4.length ≤ 376
          · have j3 : ∀ (b : Bool), b = !(askedOk w x.f1 x.f3) → Ev (fun k => spec_ValidFetch.j3 k i b s now f w room items pins peers x.f0 x.f1 x.f2 x.f3 x.f4) (peerOk w now x && (peers.drop (i + 1)).all (peerOk w now)) := by
              intro b hb
              refine Ev.step (fun k => by rw [spec_ValidFetch.j3]) ?_
              have pk : peerOk w now x = (askedOk w x.f1 x.f3 && ascOk w true ⟨#[]⟩ x.f4) := by
                unfold peerOk
                rw [decide_eq_true c1, decide_eq_true c2, decide_eq_true c3, decide_eq_true c4]
                simp only [Bool.true_and]
              rw [pk]
              by_cases c5 : askedOk w x.f1 x.f3 = true
              · rw [c5] at hb ⊢
                refine ev_neg (by rw [hb]; simp) (ev_cast ?_ (specVF_l1 s now f w room items pins peers i x.f0 x.f1 x.f2 x.f3 x.f4 hx1 _ H x.f4.length 0 (by omega)))
                simp only [Bool.true_and, decide_true, List.drop_zero]
                rw [asc_any w _ ⟨#[]⟩]
              · rw [Bool.not_eq_true] at c5
                rw [c5] at hb ⊢
                exact ev_pos (by rw [hb]; rfl) (ev_now (by simp))
            refine Ev.step (fun k => by rw [spec_ValidFetch.j2]) (ev_neg (by simp; omega) ?_)
            by_cases c5 : x.f1 > 0
            · refine ev_pos c5 ?_
              by_cases c6 : (x.f3.size : Int) = w
              · exact ev_pos c6 (ev_neg (by omega) (j3 _ (by unfold askedOk; rw [if_neg (by omega)]; simp [c6])))
              · exact ev_neg c6 (j3 _ (by unfold askedOk; rw [if_neg (by omega)]; simp [c6]))
            · refine ev_neg c5 (ev_pos (by omega) (j3 _ ?_))
              unfold askedOk
              rw [if_pos (by omega)]
              exact ne_empty _
          · exact bad _ (by simp; omega) (by unfold peerOk; rw [decide_eq_false c4]; simp)
        · exact ev_neg (by simpa using c3) (bad _ rfl (by unfold peerOk; rw [decide_eq_false c3]; simp))
      · exact ev_neg (by simpa using c2) (bad _ rfl (by unfold peerOk; rw [decide_eq_false c2]; simp))
    · exact ev_neg (by simpa using c1) (bad _ rfl (by unfold peerOk; rw [decide_eq_false c1]; simp))
theorem specVF_ev (s : ByteArray) (now : Int) (f : Bool) (w room : Int) (items : List S92) (pins : List ByteArray) (peers : List S112) (hs : ∀ x ∈ items, x.f0.size ≤ 1048576) (hpi : pins.length ≤ 1048576) (hp : peers.length ≤ 1048576) (hx : ∀ x ∈ peers, x.f4.length ≤ 1048576) :
    Ev (fun k => spec_ValidFetch.f k s now f w room items pins peers) (validF s now w room items pins peers) := by
  have no : ∀ (b : Bool), validF s now w room items pins peers = false → b = true → Ev (fun k => spec_ValidFetch.j0 k b s now f w room items pins peers) (validF s now w room items pins peers) := by
    intro b hv hb
    exact Ev.step (fun k => by rw [spec_ValidFetch.j0]) (ev_pos hb (ev_now hv.symm))
  unfold spec_ValidFetch.f
  refine Ev.bind (specValid_ev w room items pins hs) ?_
  by_cases c1 : validS w room items pins = true
  · refine ev_pos c1 (Ev.bind (l2In_ev pins s (by omega)) ?_)
    by_cases c2 : s ∈ pins
    · refine ev_pos (by simpa using c2) (ev_bindc (l1In_is _ _ _) ?_)
      by_cases c3 : 0 ≤ now ∧ now ≤ 1000000
      · refine ev_pos (by simpa using c3) (ev_bindc (l1In_is _ _ _) ?_)
        by_cases c4 : 1 ≤ peers.length ∧ peers.length ≤ 5
        · refine Ev.step (fun k => by rw [spec_ValidFetch.j0]) (ev_neg (by simp; omega) ?_)
          refine ev_cast ?_ (specVF_l0 s now f w room items pins peers hp hx peers.length 0 (by omega))
          unfold validF; rw [c1, decide_eq_true c2, decide_eq_true c3, decide_eq_true c4]; simp
        · exact no _ (by unfold validF; rw [decide_eq_false c4]; simp) (by simp; omega)
      · exact ev_neg (by simpa using c3) (no _ (by unfold validF; rw [decide_eq_false c3]; simp) rfl)
    · exact ev_neg (by simpa using c2) (no _ (by unfold validF; rw [decide_eq_false c2]; simp) rfl)
  · rw [Bool.not_eq_true] at c1
    exact ev_neg (by rw [c1]; simp) (no _ (by unfold validF; rw [c1]; simp) rfl)
theorem validS_pins {w room : Int} {items : List S92} {pins : List ByteArray} (h : validS w room items pins = true) : pins.Pairwise ltT ∧ pins.length ≤ 10 ∧ (∀ x ∈ pins, (x.size : Int) = w) ∧ 1 ≤ w ∧ w ≤ 8 := by
  unfold validS at h
  simp only [Bool.and_eq_true, decide_eq_true_eq] at h
  obtain ⟨h1, h2, h3, h4, h5, h6⟩ := h
  have := asc_sorted w pins true ⟨#[]⟩ h5
  exact ⟨this.1, h4, this.2.2, h1.1, h1.2⟩
theorem implVF_l0 (s : ByteArray) (now : Int) (f : Bool) (w room : Int) (items : List S92) (pins : List ByteArray) (peers : List S112) (hp : peers.length ≤ 1048576) (hx : ∀ x ∈ peers, x.f4.length ≤ 1048576) : ∀ (n i : Nat), i + n = peers.length →
    Ev (fun k => impl_ValidFetch.l0 k w peers peers.length i s now f w room items pins peers) ((peers.drop i).all (peerOk w now))
  | 0, i, h0 => by
    refine Ev.step (fun k => by rw [impl_ValidFetch.l0]) (ev_neg (by omega) (ev_now ?_))
    rw [List.drop_eq_nil_of_le (by omega)]; rfl
  | n + 1, i, h0 => by
    have ih := implVF_l0 s now f w room items pins peers hp hx n (i + 1) (by omega)
    have e : rd_T112 peers (i : Int) = peers.getD i z112 := rfl
    have hx1 := hx _ (getD_mem z112 peers i (by omega))
    have dg := drop_get z112 peers i (by omega)
    have w1 : wrap64 ((i : Int) + 1) = ((i + 1 : Nat) : Int) := by rw [w64 (by omega) (by omega)]; omega
    refine Ev.step (fun k => by rw [impl_ValidFetch.l0]) (ev_pos (by omega) (ev_pos (by omega) (ev_pos (by omega) ?_)))
    rw [e, dg, List.all_cons]
    generalize peers.getD i z112 = x at hx1 ⊢
    have H : Ev (fun k => impl_ValidFetch.l0 k w peers peers.length (wrap64 ((i : Int) + 1)) s now f w room items pins peers) ((peers.drop (i + 1)).all (peerOk w now)) := by rw [w1]; exact ih
    clear w1
    have bad : ∀ (b : Bool), b = true → peerOk w now x = false → Ev (fun k => impl_ValidFetch.j2 k w peers peers.length i b s now f w room items pins peers x.f0 x.f1 x.f2 x.f3 x.f4) (peerOk w now x && (peers.drop (i + 1)).all (peerOk w now)) := by
      intro b hb hv
      exact Ev.step (fun k => by rw [impl_ValidFetch.j2]) (ev_pos hb (ev_now (by rw [hv]; rfl)))
    by_cases c1 : 0 ≤ x.f0 ∧ x.f0 ≤ 3
    · refine ev_neg (by omega) (ev_neg (by omega) ?_)
      by_cases c2 : 0 ≤ x.f1 ∧ x.f1 ≤ 5
      · refine ev_neg (by omega) (ev_neg (by omega) ?_)
        by_cases c3 : -1 ≤ x.f2 ∧ x.f2 ≤ now
        · refine ev_neg (by omega) (ev_neg (by omega) ?_)
          by_cases c4 : x.f4.length ≤ 376
          · refine ev_neg (by omega) (Ev.bind (ascending_ev w x.f4 hx1) ?_)
            by_cases c5 : ascOk w true ⟨#[]⟩ x.f4 = true
            · refine Ev.step (fun k => by rw [impl_ValidFetch.j2]) (ev_neg (by rw [c5]; simp) ?_)
              have pk : peerOk w now x = askedOk w x.f1 x.f3 := by
                unfold peerOk
                rw [decide_eq_true c1, decide_eq_true c2, decide_eq_true c3, decide_eq_true c4, c5]
                simp only [Bool.true_and, Bool.and_true]
              rw [pk]
              unfold askedOk
              by_cases c6 : x.f1 = 0
              · refine ev_pos c6 ?_
                rw [if_pos c6]
                by_cases c7 : x.f3 = ⟨#[]⟩
                · exact ev_pos ((empty_iff _).2 c7) (ev_cast (by rw [decide_eq_true c7]; simp only [Bool.true_and]) H)
                · refine ev_neg (fun z => c7 ((empty_iff _).1 z)) (ev_now ?_)
                  rw [decide_eq_false c7]; simp only [Bool.false_and, Bool.and_false, Bool.true_and]
              · refine ev_neg c6 ?_
                rw [if_neg c6]
                by_cases c7 : (x.f3.size : Int) = w
                · exact ev_pos c7 (ev_cast (by rw [decide_eq_true c7]; simp only [Bool.true_and]) H)
                · exact ev_neg c7 (ev_now (by rw [decide_eq_false c7]; simp only [Bool.false_and, Bool.and_false, Bool.true_and]))
            · rw [Bool.not_eq_true] at c5
              exact bad _ (by rw [c5]; rfl) (by unfold peerOk; rw [c5]; simp)
          · exact ev_pos (by omega) (bad _ rfl (by unfold peerOk; rw [decide_eq_false c4]; simp))
        · have nv : peerOk w now x = false := by unfold peerOk; rw [decide_eq_false c3]; simp
          by_cases c4 : x.f2 < -1
          · exact ev_pos c4 (bad _ rfl nv)
          · exact ev_neg c4 (ev_pos (by omega) (bad _ rfl nv))
      · have nv : peerOk w now x = false := by unfold peerOk; rw [decide_eq_false c2]; simp
        by_cases c4 : x.f1 < 0
        · exact ev_pos c4 (bad _ rfl nv)
        · exact ev_neg c4 (ev_pos (by omega) (bad _ rfl nv))
    · have nv : peerOk w now x = false := by unfold peerOk; rw [decide_eq_false c1]; simp
      by_cases c4 : x.f0 < 0
      · exact ev_pos c4 (bad _ rfl nv)
      · exact ev_neg c4 (ev_pos (by omega) (bad _ rfl nv))
theorem implVF_ev (s : ByteArray) (now : Int) (f : Bool) (w room : Int) (items : List S92) (pins : List ByteArray) (peers : List S112) (hs : ∀ x ∈ items, x.f0.size ≤ 1048576) (hpi : pins.length ≤ 1048576) (hp : peers.length ≤ 1048576) (hx : ∀ x ∈ peers, x.f4.length ≤ 1048576) :
    Ev (fun k => impl_ValidFetch.f k s now f w room items pins peers) (validF s now w room items pins peers) := by
  have no : ∀ (b : Bool), validF s now w room items pins peers = false → b = true → Ev (fun k => impl_ValidFetch.j0 k b s now f w room items pins peers) (validF s now w room items pins peers) := by
    intro b hv hb
    exact Ev.step (fun k => by rw [impl_ValidFetch.j0]) (ev_pos hb (ev_now hv.symm))
  unfold impl_ValidFetch.f
  refine Ev.bind (implValid_ev w room items pins hs) ?_
  by_cases c1 : validS w room items pins = true
  · refine ev_pos c1 (ev_bindc (timeOk_is _) ?_)
    by_cases c3 : 0 ≤ now ∧ now ≤ 1000000
    · refine ev_pos (by simpa using c3) ?_
      by_cases c4 : 1 ≤ peers.length ∧ peers.length ≤ 5
      · refine ev_neg (by omega) (Ev.step (fun k => by rw [impl_ValidFetch.j0]) (ev_neg (by simp; omega) (ev_bindc (pinned_is w room items pins s (validS_pins c1).1 hpi) ?_)))
        by_cases c2 : s ∈ pins
        · refine ev_pos (by simpa using c2) (ev_cast ?_ (implVF_l0 s now f w room items pins peers hp hx peers.length 0 (by omega)))
          unfold validF; rw [c1, decide_eq_true c2, decide_eq_true c3, decide_eq_true c4]; simp
        · refine ev_neg (by simpa using c2) (ev_now ?_)
          unfold validF; rw [decide_eq_false c2]; simp
      · have nv : validF s now w room items pins peers = false := by unfold validF; rw [decide_eq_false c4]; simp
        by_cases c5 : peers.length < 1
        · exact ev_pos (by omega) (no _ nv rfl)
        · exact ev_neg (by omega) (no _ nv (by simp; omega))
    · exact ev_neg (by simpa using c3) (no _ (by unfold validF; rw [decide_eq_false c3]; simp) rfl)
  · rw [Bool.not_eq_true] at c1
    exact ev_neg (by rw [c1]; simp) (no _ (by unfold validF; rw [c1]; simp) rfl)

theorem FnExactValidFetch : laws_FnExactValidFetch.Law := by
  intro s now f w room l p ps hs _ _ _ _ ⟨hl, hi⟩ ⟨hp, ht⟩ ⟨hq, hg⟩
  apply Ev.rounds
  unfold laws_FnExactValidFetch.f
  obtain ⟨r, hr, hv⟩ := szFetch_ev s now f w room l p ps 1048576 hs hl (fun x hx => (hi x hx).1) hp ht hq (fun x hx => ⟨(hg x hx).2.2.2.1, (hg x hx).2.2.2.2.1, (hg x hx).2.2.2.2.2⟩) (by omega) (by omega)
  refine Ev.bind hr ?_
  rcases hv with hv | ⟨v0, _, _, hin, hps⟩
  · exact ev_pos hv (Ev.now _)
  · refine ev_neg (by omega) ?_
    have hs1 : ∀ x ∈ l.map cvI, x.f0.size ≤ 1048576 := by
      intro x hx; obtain ⟨y, hy, rfl⟩ := List.mem_map.1 hx; exact hin.2.1 y hy
    have hx1 : ∀ x ∈ ps.map cvP, x.f4.length ≤ 1048576 := by
      intro x hx; obtain ⟨y, hy, rfl⟩ := List.mem_map.1 hx; exact (hps.2 y hy).2.1
    have hpl : (ps.map cvP).length ≤ 1048576 := by have := hps.1; simpa using this
    have hil : (l.map cvI).length ≤ 1048576 := by have := hin.1; simpa using this
    have hto := toFetch_ev s now f w room l p ps hin hps
    refine Ev.bind hto (Ev.bind (specVF_ev s now f w room _ p _ hs1 hin.2.2.1 hpl hx1) (Ev.bind hto (Ev.bind (implVF_ev s now f w room _ p _ hs1 hin.2.2.1 hpl hx1) (ev_neg (by simp) ?_))))
    have same := eqFetch_same s now f w room (l.map cvI) p (ps.map cvP) (by omega) (by have := hin.2.2.1; omega) (by omega) (fun x hx => by have := hx1 x hx; omega)
    exact Ev.bind hto (Ev.bind same (ev_pos rfl (Ev.now _)))

end Go.Proofs.Ytbhkinfdilngiaa.Pure

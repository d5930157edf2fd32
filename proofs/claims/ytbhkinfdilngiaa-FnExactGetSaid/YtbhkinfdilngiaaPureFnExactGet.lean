/- The law FnExactGet answers true at every store, sum and time: the program's Get is the reference's, owns its memory, and writes into no argument; no condition beyond what the row itself reads. -/
import Derived.Test.YtbhkinfdilngiaaGFnExactGetx
import Derived.Test.YtbhkinfdilngiaaM
namespace Go.Proofs.Ytbhkinfdilngiaa.Pure
open Go.RowKit Go.Proofs.Ytbhkinfdilngiaa.PFnExactGet Go.Proofs.Ytbhkinfdilngiaa.M Go.Proofs.YtbhkinfdilngiaaW.PrintWords Go.Proofs.YtbhkinfdilngiaaW.PrintLast Go.Proofs.YtbhkinfdilngiaaW.PrintMore
set_option linter.unusedVariables false
set_option linter.unusedSimpArgs false

/-! ### Sums of 64 bits: spec_l1Sum64, impl_sum64 -/
theorem l1Sum64_l (s : ByteArray) (hs : s.size ≤ 4611686018427387904) : ∀ (n : Nat) (h i : Int), 0 ≤ i → i + n = s.size → Ev (fun k => spec_l1Sum64.l0 k s h i) (fnv s n h i)
  | 0, h, i, h0, h1 => by
    refine Ev.step (fun k => by rw [spec_l1Sum64.l0]) ?_
    exact ev_neg (by omega) (Ev.now _)
  | n + 1, h, i, h0, h1 => by
    refine Ev.step (fun k => by rw [spec_l1Sum64.l0]) ?_
    refine ev_pos (by omega) (ev_pos h0 ?_)
    rw [w64 (by omega) (by omega)]
    exact l1Sum64_l s hs n _ (i + 1) (by omega) (by omega)
theorem l1Sum64_ev (s : ByteArray) (hs : s.size ≤ 4611686018427387904) : Ev (fun k => spec_l1Sum64.f k s) (sum64 s) :=
  l1Sum64_l s hs s.size _ 0 (by omega) (by omega)
theorem sum64_l (s : ByteArray) (hs : s.size ≤ 4611686018427387904) : ∀ (n : Nat) (h i : Int), 0 ≤ i → i + n = s.size → Ev (fun k => impl_sum64.l0 k s h i) (fnv s n h i)
  | 0, h, i, h0, h1 => by
    refine Ev.step (fun k => by rw [impl_sum64.l0]) ?_
    exact ev_neg (by omega) (Ev.now _)
  | n + 1, h, i, h0, h1 => by
    refine Ev.step (fun k => by rw [impl_sum64.l0]) ?_
    refine ev_pos (by omega) (ev_pos h0 ?_)
    rw [w64 (by omega) (by omega)]
    exact sum64_l s hs n _ (i + 1) (by omega) (by omega)
theorem sum64_ev (s : ByteArray) (hs : s.size ≤ 4611686018427387904) : Ev (fun k => impl_sum64.f k s) (sum64 s) :=
  sum64_l s hs s.size _ 0 (by omega) (by omega)

/-! ### Sums: spec_l1In, spec_l1Width, spec_l1Sum64, spec_l1Bytes, spec_Sum; impl_widthOk, impl_sum64, impl_Sum -/
theorem l1In_is (a b c : Int) : spec_l1In.f a b c = some (decide (b ≤ a ∧ a ≤ c)) := by
  unfold spec_l1In.f
  by_cases h : b ≤ a <;> simp [h]
theorem l1Width_is (w : Int) : spec_l1Width.f w = some (decide (1 ≤ w ∧ w ≤ 8)) := by
  unfold spec_l1Width.f; rw [l1In_is]; rfl
theorem widthOk_is (w : Int) : impl_widthOk.f w = some (decide (1 ≤ w ∧ w ≤ 8)) := by
  unfold impl_widthOk.f
  by_cases h : 1 ≤ w <;> simp [h]
theorem l1Bytes_l : ∀ (n : Nat) (h w i : Int) (out : ByteArray), 0 ≤ i → i + n = w → w ≤ 8 → 0 ≤ h → h < 18446744073709551616 → out.size + n ≤ 8 →
    Ev (fun k => spec_l1Bytes.l0 k h w out i) (strOfNums (beBytes n h) ++ out)
  | 0, h, w, i, out, h0, h1, h2, h3, h4, h5 => by
    refine Ev.step (fun k => by rw [spec_l1Bytes.l0]) ?_
    refine ev_neg (by omega) ?_
    exact ev_now (by rw [show strOfNums (beBytes 0 h) = (⟨#[]⟩ : ByteArray) from rfl, em_app])
  | n + 1, h, w, i, out, h0, h1, h2, h3, h4, h5 => by
    refine Ev.step (fun k => by rw [spec_l1Bytes.l0]) ?_
    refine ev_pos (by omega) ?_
    refine ev_some ?_
    have e1 : Int.tmod h 256 % 256 = h % 256 := by rw [Int.tmod_eq_emod_of_nonneg h3]; omega
    have e2 : IntKind.u64.wrap (Int.tdiv h 256) = h / 256 := by rw [Int.tdiv_eq_ediv_of_nonneg h3, u64w]; omega
    have sz : (strOfNums [Int.tmod h 256 % 256]).size = 1 := by rw [son_size]; rfl
    refine ev_pos (by rw [sz]; omega) ?_
    rw [e1, e2, w64 (by omega) (by omega)]
    refine ev_cast ?_ (l1Bytes_l n (h / 256) w (i + 1) _ (by omega) (by omega) h2 (by omega) (by omega) (by rw [ap_size, son_size]; simp only [List.length_cons, List.length_nil]; omega))
    rw [beBytes, ← ByteArray.append_assoc, son_app]
theorem specSum_ev (s : ByteArray) (w : Int) (hs : s.size ≤ 4611686018427387904) : Ev (fun k => spec_Sum.f k s w) (sumT s w) := by
  unfold spec_Sum.f
  refine ev_bindc (l1Width_is w) ?_
  by_cases h : 1 ≤ w ∧ w ≤ 8
  · refine ev_pos (by simp [h]) ?_
    refine Ev.bind (l1Sum64_ev s hs) ?_
    have z := sum64_range s
    refine Ev.bind (f := fun k t => some t) (l1Bytes_l w.toNat (sum64 s) w 0 ⟨#[]⟩ (by omega) (by omega) h.2 z.1 z.2 (by show 0 + _ ≤ _; omega)) ?_
    exact ev_now (by rw [app_em]; unfold sumT; rw [if_pos h])
  · refine ev_neg (by simp [h]) ?_
    exact ev_now (by unfold sumT; rw [if_neg h])
theorem implSum_l (h : Int) (h0 : 0 ≤ h) (h1 : h < 18446744073709551616) (w : Nat) (hw : w ≤ 8) : ∀ (n : Nat) (i : Int) (xs : List Int), 0 ≤ i → i + n = w → xs.length = w →
    Ev (fun k => impl_Sum.l0 k w h xs w i) (strOfNums (xs.take i.toNat ++ (beBytes w h).drop i.toNat))
  | 0, i, xs, i0, i1, hx => by
    refine Ev.step (fun k => by rw [impl_Sum.l0]) ?_
    refine ev_neg (by omega) (ev_now ?_)
    rw [List.take_of_length_le (by omega), List.drop_eq_nil_of_le (by rw [beBytes_length]; omega), List.append_nil]
  | n + 1, i, xs, i0, i1, hx => by
    refine Ev.step (fun k => by rw [impl_Sum.l0]) ?_
    rw [w64 (n := (w : Int) - 1) (by omega) (by omega), w64 (n := (w : Int) - 1 - i) (by omega) (by omega), w64 (n := 8 * ((w : Int) - 1 - i)) (by omega) (by omega), w64 (n := i + 1) (by omega) (by omega)]
    refine ev_pos (by omega) (ev_pos (by omega) (ev_pos i0 (ev_pos (by omega) ?_)))
    refine ev_cast ?_ (implSum_l h h0 h1 w hw n (i + 1) _ (by omega) (by omega) (by simpa using hx))
    congr 1
    have e : shr .u64 h (8 * ((w : Int) - 1 - i)) % 256 = h / 256 ^ (w - 1 - i.toNat) % 256 := by
      unfold shr
      rw [show (8 * ((w : Int) - 1 - i)).toNat = 8 * (w - 1 - i.toNat) by omega, show IntKind.u64.bits = 64 from rfl, Nat.min_eq_left (by omega), Int.pow_mul]
      rfl
    rw [e, show (i + 1).toNat = i.toNat + 1 by omega]
    have g := beBytes_get w h i.toNat (by omega)
    generalize h / 256 ^ (w - 1 - i.toNat) % 256 = b at g
    rw [List.take_set, List.take_add_one, List.set_append, List.length_take]
    rw [if_neg (by omega)]
    rw [show i.toNat - min i.toNat xs.length = 0 by omega, List.getElem?_eq_getElem (by omega)]
    simp only [Option.toList_some, List.set_cons_zero, List.append_assoc, List.singleton_append]
    congr 1
    obtain ⟨hb, e2⟩ := List.getElem?_eq_some_iff.1 g
    rw [← e2]; exact (List.drop_eq_getElem_cons hb).symm
theorem implSum_ev (s : ByteArray) (w : Int) (hs : s.size ≤ 4611686018427387904) : Ev (fun k => impl_Sum.f k s w) (sumT s w) := by
  unfold impl_Sum.f
  refine ev_bindc (widthOk_is w) ?_
  by_cases h : 1 ≤ w ∧ w ≤ 8
  · refine ev_pos (by simp [h]) ?_
    refine Ev.bind (sum64_ev s hs) ?_
    refine ev_pos (by omega) (ev_pos (by omega) (ev_some ?_))
    have z := sum64_range s
    obtain ⟨m, rfl⟩ : ∃ m : Nat, w = m := ⟨w.toNat, by omega⟩
    have e : (((List.replicate (m : Int).toNat (0 : Int)).length : Nat) : Int) = m := by simp
    rw [e]
    refine ev_cast ?_ (implSum_l (sum64 s) z.1 z.2 m (by omega) m 0 _ (by omega) (by omega) (by simp))
    unfold sumT; rw [if_pos h]; simp
  · refine ev_neg (by simp [h]) ?_
    exact ev_now (by unfold sumT; rw [if_neg h])

/-! ### Two lists of texts: laws_eqStringS -/
theorem laws_eqStringS_l (l0 l1 : List ByteArray) (hl : l0.length ≤ 4611686018427387904) (he : l0.length = l1.length) : ∀ (n : Nat) (i : Int), 0 ≤ i → i + n = l0.length →
    Ev (fun k => laws_eqStringS.l0 k l0 l1 i) (decide (l0.drop i.toNat = l1.drop i.toNat))
  | 0, i, h0, h1 => by
    refine Ev.step (fun k => by rw [laws_eqStringS.l0]) ?_
    refine ev_neg (by omega) (ev_now ?_)
    rw [List.drop_eq_nil_of_le (by omega), List.drop_eq_nil_of_le (by omega)]; simp
  | n + 1, i, h0, h1 => by
    refine Ev.step (fun k => by rw [laws_eqStringS.l0]) ?_
    refine ev_pos (by omega) (ev_pos h0 (ev_pos (by omega) ?_))
    rw [w64 (by omega) (by omega)]
    have d0 : l0.drop i.toNat = rdOf ByteArray.empty l0 i :: l0.drop (i + 1).toNat := by
      rw [List.drop_eq_getElem_cons (by omega), show (i + 1).toNat = i.toNat + 1 by omega]
      unfold rdOf; rw [List.getD_eq_getElem?_getD, List.getElem?_eq_getElem (by omega)]; rfl
    have d1 : l1.drop i.toNat = rdOf ByteArray.empty l1 i :: l1.drop (i + 1).toNat := by
      rw [List.drop_eq_getElem_cons (by omega), show (i + 1).toNat = i.toNat + 1 by omega]
      unfold rdOf; rw [List.getD_eq_getElem?_getD, List.getElem?_eq_getElem (by omega)]; rfl
    rw [d0, d1]
    by_cases e : rdOf ByteArray.empty l0 i = rdOf ByteArray.empty l1 i
    · refine ev_pos (ba_eq.2 e) ?_
      refine ev_cast ?_ (laws_eqStringS_l l0 l1 hl he n (i + 1) (by omega) (by omega))
      rw [e]; simp
    · refine ev_neg (fun h => e (ba_eq.1 h)) (ev_now ?_)
      simp [e]
theorem laws_eqStringS_ev (l0 l1 : List ByteArray) (hl : l0.length ≤ 4611686018427387904) : Ev (fun k => laws_eqStringS.f k l0 l1) (decide (l0 = l1)) := by
  unfold laws_eqStringS.f
  by_cases e : l0.length = l1.length
  · refine ev_pos (by omega) ?_
    exact ev_cast (by simp) (laws_eqStringS_l l0 l1 hl e l0.length 0 (by omega) (by omega))
  · refine ev_neg (by omega) (ev_now ?_)
    have : l0 ≠ l1 := fun h => e (by rw [h])
    simp [this]
theorem laws_eqStringS_same (l0 : List ByteArray) (hl : l0.length ≤ 4611686018427387904) : Ev (fun k => laws_eqStringS.f k l0 l0) true := ev_cast (by simp) (laws_eqStringS_ev l0 l0 hl)

/-! ### Sizes and copies of lists of texts: laws_szStringS, laws_toStringS -/
theorem szStringS_l (l : List ByteArray) (hl : l.length ≤ maxLen) (hs : ∀ x ∈ l, x.size ≤ maxLen) : ∀ (n i : Nat) (left : Int), i + n = l.length → 0 ≤ left → left ≤ 1048576 → l.length ≤ 1048576 →
    ∃ r, Ev (fun k => laws_szStringS.l0 k l left i) r ∧ (r < 0 ∨ (0 ≤ r ∧ r ≤ left ∧ ∀ x ∈ l.drop i, (x.size : Int) ≤ left))
  | 0, i, left, h0, h1, h2, h3 => by
    refine ⟨left, Ev.step (fun k => by rw [laws_szStringS.l0]) (ev_neg (by omega) (Ev.now _)), Or.inr ⟨h1, Int.le_refl _, ?_⟩⟩
    rw [List.drop_eq_nil_of_le (by omega)]; simp
  | n + 1, i, left, h0, h1, h2, h3 => by
    have e : rdOf ByteArray.empty l (i : Int) = l.getD i ByteArray.empty := rfl
    have hx := hs _ (getD_mem ByteArray.empty l i (by omega))
    have dg := drop_get ByteArray.empty l i (by omega)
    have hm : maxLen = 9223372036854775807 := rfl
    generalize l.getD i ByteArray.empty = x at e hx dg
    by_cases c : left - (x.size : Int) < 0
    · refine ⟨-1, Ev.step (fun k => by rw [laws_szStringS.l0]) (ev_pos (by omega) (ev_pos (by omega) ?_)), Or.inl (by omega)⟩
      rw [e, w64 (n := left - (x.size : Int)) (by omega) (by omega)]
      exact ev_pos c (Ev.now _)
    · obtain ⟨r, hr, hq⟩ := szStringS_l l hl hs n (i + 1) (left - x.size) (by omega) (by omega) (by omega) h3
      refine ⟨r, Ev.step (fun k => by rw [laws_szStringS.l0]) (ev_pos (by omega) (ev_pos (by omega) ?_)), ?_⟩
      · rw [e, w64 (n := left - (x.size : Int)) (by omega) (by omega), show wrap64 ((i : Int) + 1) = ((i + 1 : Nat) : Int) by rw [w64 (by omega) (by omega)]; omega]
        exact ev_neg c hr
      · rcases hq with hq | ⟨q0, q1, q2⟩
        · exact Or.inl hq
        · refine Or.inr ⟨q0, by omega, ?_⟩
          rw [dg]; intro y hy
          rcases List.mem_cons.1 hy with rfl | hy
          · omega
          · have := q2 y hy; omega
theorem szStringS_ev (l : List ByteArray) (left : Int) (hl : l.length ≤ maxLen) (hs : ∀ x ∈ l, x.size ≤ maxLen) (h1 : 0 ≤ left) (h2 : left ≤ 1048576) :
    ∃ r, Ev (fun k => laws_szStringS.f k l left) r ∧ (r < 0 ∨ (0 ≤ r ∧ r ≤ left ∧ (l.length : Int) ≤ left ∧ ∀ x ∈ l, (x.size : Int) ≤ left)) := by
  have hm : maxLen = 9223372036854775807 := rfl
  unfold laws_szStringS.f
  rw [w64 (n := left - (l.length : Int)) (by omega) (by omega)]
  by_cases c : left - (l.length : Int) < 0
  · exact ⟨-1, ev_pos c (Ev.now _), Or.inl (by omega)⟩
  · obtain ⟨r, hr, hq⟩ := szStringS_l l hl hs l.length 0 (left - l.length) (by omega) (by omega) (by omega) (by omega)
    refine ⟨r, ev_neg c hr, ?_⟩
    rcases hq with hq | ⟨q0, q1, q2⟩
    · exact Or.inl hq
    · exact Or.inr ⟨q0, by omega, by omega, fun x hx => by have := q2 x (by simpa using hx); omega⟩
theorem toStringS_l (l : List ByteArray) (hl : l.length ≤ 1048576) : ∀ (n i : Nat) (ys : List ByteArray), i + n = l.length → ys.length = l.length → ys.take i = l.take i → Ev (fun k => laws_toStringS.l0 k l ys i) l
  | 0, i, ys, h0, h1, h2 => by
    refine Ev.step (fun k => by rw [laws_toStringS.l0]) (ev_neg (by omega) (ev_now ?_))
    rw [List.take_of_length_le (by omega), List.take_of_length_le (by omega)] at h2; exact h2
  | n + 1, i, ys, h0, h1, h2 => by
    refine Ev.step (fun k => by rw [laws_toStringS.l0]) (ev_pos (by omega) (ev_pos (by omega) (ev_pos (by omega) ?_)))
    have e : rdOf ByteArray.empty l (i : Int) = l.getD i ByteArray.empty := rfl
    rw [e, Int.toNat_natCast, show wrap64 ((i : Int) + 1) = ((i + 1 : Nat) : Int) by rw [w64 (by omega) (by omega)]; omega]
    exact toStringS_l l hl n (i + 1) _ (by omega) (by simpa using h1) (take_set _ l ys i (by omega) h1 h2)
theorem toStringS_ev (l : List ByteArray) (hl : l.length ≤ 1048576) : Ev (fun k => laws_toStringS.f k l) l := by
  unfold laws_toStringS.f
  refine ev_pos (by omega) (ev_pos (by omega) ?_)
  exact toStringS_l l hl l.length 0 _ (by omega) (by simp) (by simp)

/-! ### Items and stores as arguments: laws_szItem, laws_szItemS, laws_szStore, laws_toItem, laws_toItemS, laws_toStore, laws_eqItem, laws_eqItemS, laws_eqStore -/
def cvI (x : S123) : S92 := ⟨x.f0, x.f1⟩
theorem szItemS_l (l : List S123) (hs : ∀ x ∈ l, x.f0.size ≤ maxLen) : ∀ (n i : Nat) (left : Int), i + n = l.length → 0 ≤ left → left ≤ 1048576 → l.length ≤ 1048576 →
    ∃ r, Ev (fun k => laws_szItemS.l0 k l left i) r ∧ (r < 0 ∨ (0 ≤ r ∧ r ≤ left ∧ ∀ x ∈ l.drop i, (x.f0.size : Int) ≤ left))
  | 0, i, left, h0, h1, h2, h3 => by
    refine ⟨left, Ev.step (fun k => by rw [laws_szItemS.l0]) (ev_neg (by omega) (Ev.now _)), Or.inr ⟨h1, Int.le_refl _, ?_⟩⟩
    rw [List.drop_eq_nil_of_le (by omega)]; simp
  | n + 1, i, left, h0, h1, h2, h3 => by
    have e : rd_T123 l (i : Int) = l.getD i z123 := rfl
    have hx := hs _ (getD_mem z123 l i (by omega))
    have dg := drop_get z123 l i (by omega)
    have hm : maxLen = 9223372036854775807 := rfl
    generalize l.getD i z123 = x at e hx dg
    have w1 := w64 (n := left - (x.f0.size : Int)) (by omega) (by omega)
    by_cases c : left - (x.f0.size : Int) < 0
    · refine ⟨-1, Ev.step (fun k => by rw [laws_szItemS.l0]) (ev_pos (by omega) (ev_pos (by omega) ?_)), Or.inl (by omega)⟩
      rw [e]
      exact ev_bindc (a := -1) (by unfold laws_szItem.f; rw [w1, if_pos c]) (ev_pos (by omega) (Ev.now _))
    · obtain ⟨r, hr, hq⟩ := szItemS_l l hs n (i + 1) (left - x.f0.size) (by omega) (by omega) (by omega) h3
      refine ⟨r, Ev.step (fun k => by rw [laws_szItemS.l0]) (ev_pos (by omega) (ev_pos (by omega) ?_)), ?_⟩
      · rw [e, show wrap64 ((i : Int) + 1) = ((i + 1 : Nat) : Int) by rw [w64 (by omega) (by omega)]; omega]
        exact ev_bindc (a := left - x.f0.size) (by unfold laws_szItem.f; rw [w1, if_neg c]) (ev_neg c hr)
      · rcases hq with hq | ⟨q0, q1, q2⟩
        · exact Or.inl hq
        · refine Or.inr ⟨q0, by omega, ?_⟩
          rw [dg]; intro y hy
          rcases List.mem_cons.1 hy with rfl | hy
          · omega
          · have := q2 y hy; omega
theorem szItemS_ev (l : List S123) (left : Int) (hl : l.length ≤ maxLen) (hs : ∀ x ∈ l, x.f0.size ≤ maxLen) (h1 : 0 ≤ left) (h2 : left ≤ 1048576) :
    ∃ r, Ev (fun k => laws_szItemS.f k l left) r ∧ (r < 0 ∨ (0 ≤ r ∧ r ≤ left ∧ (l.length : Int) ≤ left ∧ ∀ x ∈ l, (x.f0.size : Int) ≤ left)) := by
  have hm : maxLen = 9223372036854775807 := rfl
  unfold laws_szItemS.f
  rw [w64 (n := left - (l.length : Int)) (by omega) (by omega)]
  by_cases c : left - (l.length : Int) < 0
  · exact ⟨-1, ev_pos c (Ev.now _), Or.inl (by omega)⟩
  · obtain ⟨r, hr, hq⟩ := szItemS_l l hs l.length 0 (left - l.length) (by omega) (by omega) (by omega) (by omega)
    refine ⟨r, ev_neg c hr, ?_⟩
    rcases hq with hq | ⟨q0, q1, q2⟩
    · exact Or.inl hq
    · exact Or.inr ⟨q0, by omega, by omega, fun x hx => by have := q2 x (by simpa using hx); omega⟩
/-- What the guard on a store's size lets in. -/
def StoreIn (items : List S123) (pins : List ByteArray) : Prop := items.length ≤ 1048576 ∧ (∀ x ∈ items, x.f0.size ≤ 1048576) ∧ pins.length ≤ 1048576 ∧ ∀ x ∈ pins, x.size ≤ 1048576
theorem szStore_ev (a b : Int) (l : List S123) (p : List ByteArray) (left : Int) (hl : l.length ≤ maxLen) (hs : ∀ x ∈ l, x.f0.size ≤ maxLen) (hp : p.length ≤ maxLen) (ht : ∀ x ∈ p, x.size ≤ maxLen) (h1 : 0 ≤ left) (h2 : left ≤ 1048576) :
    ∃ r, Ev (fun k => laws_szStore.f k a b l p left) r ∧ (r < 0 ∨ (0 ≤ r ∧ r ≤ left ∧ StoreIn l p)) := by
  obtain ⟨r, hr, hq⟩ := szItemS_ev l left hl hs h1 h2
  unfold laws_szStore.f
  rcases hq with hq | ⟨q0, q1, q2, q3⟩
  · exact ⟨-1, Ev.bind hr (ev_pos hq (Ev.now _)), Or.inl (by omega)⟩
  · obtain ⟨t, ht2, hv⟩ := szStringS_ev p r hp ht q0 (by omega)
    rcases hv with hv | ⟨v0, v1, v2, v3⟩
    · exact ⟨-1, Ev.bind hr (ev_neg (by omega) (Ev.bind ht2 (ev_pos hv (Ev.now _)))), Or.inl (by omega)⟩
    · exact ⟨t, Ev.bind hr (ev_neg (by omega) (Ev.bind ht2 (ev_neg (by omega) (Ev.now _)))), Or.inr ⟨v0, by omega, by omega, fun x hx => by have := q3 x hx; omega, by omega, fun x hx => by have := v3 x hx; omega⟩⟩
theorem toItem_is (a : ByteArray) (b : Int) : laws_toItem.f a b = some (a, b) := rfl
theorem toItemS_l (l : List S123) (hl : l.length ≤ 1048576) : ∀ (n i : Nat) (ys : List S92), i + n = l.length → ys.length = l.length → ys.take i = (l.map cvI).take i → Ev (fun k => laws_toItemS.l0 k l ys i) (l.map cvI)
  | 0, i, ys, h0, h1, h2 => by
    refine Ev.step (fun k => by rw [laws_toItemS.l0]) (ev_neg (by omega) (ev_now ?_))
    rw [List.take_of_length_le (by omega), List.take_of_length_le (by simp; omega)] at h2; exact h2
  | n + 1, i, ys, h0, h1, h2 => by
    refine Ev.step (fun k => by rw [laws_toItemS.l0]) (ev_pos (by omega) (ev_pos (by omega) (ev_bindc (toItem_is _ _) (ev_pos (show (i : Int) < (ys.length : Int) by omega) ?_))))
    have e : (⟨(rd_T123 l (i : Int)).f0, (rd_T123 l (i : Int)).f1⟩ : S92) = (l.map cvI).getD i (cvI z123) := by
      show cvI (l.getD i z123) = _
      rw [List.getD_eq_getElem?_getD, List.getD_eq_getElem?_getD, List.getElem?_map]
      cases l[i]? <;> rfl
    show Ev (fun k => laws_toItemS.l0 k l (ys.set (i : Int).toNat (⟨(rd_T123 l (i : Int)).f0, (rd_T123 l (i : Int)).f1⟩ : S92)) (wrap64 ((i : Int) + 1))) (l.map cvI)
    rw [e, Int.toNat_natCast, show wrap64 ((i : Int) + 1) = ((i + 1 : Nat) : Int) by rw [w64 (by omega) (by omega)]; omega]
    exact toItemS_l l hl n (i + 1) _ (by omega) (by simpa using h1) (take_set _ (l.map cvI) ys i (by simp; omega) (by simp; omega) h2)
theorem toItemS_ev (l : List S123) (hl : l.length ≤ 1048576) : Ev (fun k => laws_toItemS.f k l) (l.map cvI) := by
  unfold laws_toItemS.f
  refine ev_pos (by omega) (ev_pos (by omega) ?_)
  exact toItemS_l l hl l.length 0 _ (by omega) (by simp) (by simp)
theorem toStore_ev (a b : Int) (l : List S123) (p : List ByteArray) (h : StoreIn l p) : Ev (fun k => laws_toStore.f k a b l p) (a, b, l.map cvI, p) := by
  unfold laws_toStore.f
  exact Ev.bind (toItemS_ev l h.1) (Ev.bind (toStringS_ev p h.2.2.1) (Ev.now _))
theorem eqItem_same (a : ByteArray) (b : Int) : laws_eqItem.f a b a b = some true := by unfold laws_eqItem.f; rw [if_pos rfl, if_pos rfl]
theorem eqItemS_l (l : List S92) (hl : l.length ≤ 4611686018427387904) : ∀ (n i : Nat), i + n = l.length → Ev (fun k => laws_eqItemS.l0 k l l i) true
  | 0, i, h0 => Ev.step (fun k => by rw [laws_eqItemS.l0]) (ev_neg (by omega) (Ev.now _))
  | n + 1, i, h0 => by
    refine Ev.step (fun k => by rw [laws_eqItemS.l0]) (ev_pos (by omega) (ev_pos (by omega) (ev_pos (by omega) (ev_bindc (eqItem_same _ _) (ev_pos rfl ?_)))))
    rw [show wrap64 ((i : Int) + 1) = ((i + 1 : Nat) : Int) by rw [w64 (by omega) (by omega)]; omega]
    exact eqItemS_l l hl n (i + 1) (by omega)
theorem eqItemS_same (l : List S92) (hl : l.length ≤ 4611686018427387904) : Ev (fun k => laws_eqItemS.f k l l) true := by
  unfold laws_eqItemS.f
  exact ev_pos rfl (eqItemS_l l hl l.length 0 (by omega))
theorem eqStore_same (a b : Int) (l : List S92) (p : List ByteArray) (hl : l.length ≤ 4611686018427387904) (hp : p.length ≤ 4611686018427387904) : Ev (fun k => laws_eqStore.f k a b l p a b l p) true := by
  unfold laws_eqStore.f
  exact ev_pos rfl (ev_pos rfl (Ev.bind (eqItemS_same l hl) (ev_pos rfl (Ev.bind (laws_eqStringS_same p hp) (ev_pos rfl (Ev.now _))))))

/-! ### Valid stores: spec_l4Bytes, spec_ValidStore, impl_ascending, impl_ValidStore -/
def itemsOk (w : Int) : Bool → ByteArray → List S92 → Bool
  | _, _, [] => true
  | b, last, x :: xs => decide (1 ≤ (x.f0.size : Int) ∧ (x.f0.size : Int) ≤ 7000) && (decide (0 ≤ x.f1 ∧ x.f1 ≤ 1000000) && ((b || Op.bytesLess last.toList (sumT x.f0 w).toList) && itemsOk w false (sumT x.f0 w) xs))
def total : List S92 → Int
  | [] => 0
  | x :: xs => x.f0.size + total xs
def validS (w room : Int) (items : List S92) (pins : List ByteArray) : Bool :=
  decide (1 ≤ w ∧ w ≤ 8) && (decide (0 ≤ room ∧ room ≤ 60000) && (decide (items.length ≤ 1000) && (decide (pins.length ≤ 10) && (ascOk w true ⟨#[]⟩ pins && (itemsOk w true ⟨#[]⟩ items && decide (total items ≤ room))))))
theorem total_range : ∀ (l : List S92), (∀ x ∈ l, x.f0.size ≤ 1048576) → 0 ≤ total l ∧ total l ≤ 1048576 * l.length
  | [], _ => by simp [total]
  | x :: xs, h => by
    have := total_range xs (fun y hy => h y (List.mem_cons_of_mem _ hy))
    have := h x List.mem_cons_self
    simp [total]; omega
theorem l4Bytes_l (l : List S92) (a b : Int) (p : List ByteArray) (hl : l.length ≤ 1048576) (hs : ∀ x ∈ l, x.f0.size ≤ 1048576) : ∀ (n i : Nat) (acc : Int), i + n = l.length → 0 ≤ acc → acc ≤ 1048576 * i →
    Ev (fun k => spec_l4Bytes.l0 k acc i a b l p) (acc + total (l.drop i))
  | 0, i, acc, h0, h1, h2 => by
    refine Ev.step (fun k => by rw [spec_l4Bytes.l0]) (ev_neg (by omega) (ev_now ?_))
    rw [List.drop_eq_nil_of_le (by omega)]; simp [total]
  | n + 1, i, acc, h0, h1, h2 => by
    refine Ev.step (fun k => by rw [spec_l4Bytes.l0]) (ev_pos (by omega) (ev_pos (by omega) ?_))
    have e : rd_T92 l (i : Int) = l.getD i z92 := rfl
    have hx := hs _ (getD_mem z92 l i (by omega))
    have dg := drop_get z92 l i (by omega)
    rw [e, show wrap64 ((i : Int) + 1) = ((i + 1 : Nat) : Int) by rw [w64 (by omega) (by omega)]; omega]
    generalize l.getD i z92 = x at hx dg ⊢
    rw [w64 (n := acc + (x.f0.size : Int)) (by omega) (by omega)]
    refine ev_cast ?_ (l4Bytes_l l a b p hl hs n (i + 1) (acc + x.f0.size) (by omega) (by omega) (by omega))
    rw [dg, total]; omega
theorem l4Bytes_ev (l : List S92) (a b : Int) (p : List ByteArray) (hl : l.length ≤ 1048576) (hs : ∀ x ∈ l, x.f0.size ≤ 1048576) : Ev (fun k => spec_l4Bytes.f k a b l p) (total l) := by
  unfold spec_l4Bytes.f
  exact ev_cast (by simp) (l4Bytes_l l a b p hl hs l.length 0 0 (by omega) (by omega) (by omega))
theorem specValid_l1 (w room : Int) (l : List S92) (p : List ByteArray) (hl : l.length ≤ 1000) (hs : ∀ x ∈ l, x.f0.size ≤ 1048576) (hp : p.length ≤ 10) : ∀ (n i : Nat), i + n = p.length →
    Ev (fun k => spec_ValidStore.l1 k i w room l p) (ascOk w (decide (i = 0)) (p.getD (i - 1) ByteArray.empty) (p.drop i) && decide (total l ≤ room))
  | 0, i, h0 => by
    refine Ev.step (fun k => by rw [spec_ValidStore.l1]) (ev_neg (by omega) (Ev.bind (l4Bytes_ev l w room p (by omega) hs) (ev_now ?_)))
    rw [List.drop_eq_nil_of_le (by omega), ascOk]; simp
  | n + 1, i, h0 => by
    refine Ev.step (fun k => by rw [spec_ValidStore.l1]) (ev_pos (by omega) (ev_pos (by omega) ?_))
    have ih := specValid_l1 w room l p hl hs hp n (i + 1) (by omega)
    have e : rdOf ByteArray.empty p (i : Int) = p.getD i ByteArray.empty := rfl
    have dg := drop_get ByteArray.empty p i (by omega)
    rw [e, dg, ascOk, show wrap64 ((i : Int) + 1) = ((i + 1 : Nat) : Int) by rw [w64 (by omega) (by omega)]; omega]
    rw [Nat.add_sub_cancel] at ih
    generalize p.getD i ByteArray.empty = x at ih ⊢
    by_cases c : (x.size : Int) = w
    · refine ev_pos c ?_
      by_cases i0 : i = 0
      · refine ev_neg (by omega) (ev_cast ?_ ih)
        simp [c, i0]
      · refine ev_pos (by omega) ?_
        rw [show wrap64 ((i : Int) - 1) = ((i - 1 : Nat) : Int) by rw [w64 (by omega) (by omega)]; omega]
        refine ev_pos (by omega) (ev_pos (by omega) ?_)
        have e2 : rdOf ByteArray.empty p ((i - 1 : Nat) : Int) = p.getD (i - 1) ByteArray.empty := rfl
        rw [e2]
        by_cases b : Op.bytesLess (p.getD (i - 1) ByteArray.empty).toList x.toList = true
        · refine ev_pos b (ev_cast ?_ ih)
          rw [b]; simp [c]
        · refine ev_neg b (ev_now ?_)
          rw [Bool.not_eq_true] at b
          rw [b]; simp [i0]
    · refine ev_neg c (ev_now ?_)
      simp [c]
theorem specValid_l0 (w room : Int) (l : List S92) (p : List ByteArray) (hl : l.length ≤ 1000) (hs : ∀ x ∈ l, x.f0.size ≤ 1048576) (hp : p.length ≤ 10) : ∀ (n i : Nat) (last : ByteArray), i + n = l.length →
    Ev (fun k => spec_ValidStore.l0 k last i w room l p) (itemsOk w (decide (i = 0)) last (l.drop i) && (ascOk w true ByteArray.empty p && decide (total l ≤ room)))
  | 0, i, last, h0 => by
    refine Ev.step (fun k => by rw [spec_ValidStore.l0]) (ev_neg (by omega) ?_)
    refine ev_cast ?_ (specValid_l1 w room l p hl hs hp p.length 0 (by omega))
    rw [show l.drop i = [] from List.drop_eq_nil_of_le (by omega), itemsOk]
    have e : ∀ q : ByteArray, ascOk w true q p = ascOk w true ByteArray.empty p := by intro q; cases p <;> rfl
    simp only [decide_true, List.drop_zero, Bool.true_and]; rw [e]
  | n + 1, i, last, h0 => by
    refine Ev.step (fun k => by rw [spec_ValidStore.l0]) (ev_pos (by omega) (ev_pos (by omega) ?_))
    have e : rd_T92 l (i : Int) = l.getD i z92 := rfl
    have hx := hs _ (getD_mem z92 l i (by omega))
    have dg := drop_get z92 l i (by omega)
    have ih := specValid_l0 w room l p hl hs hp n (i + 1)
    rw [e, dg, itemsOk, show wrap64 ((i : Int) + 1) = ((i + 1 : Nat) : Int) by rw [w64 (by omega) (by omega)]; omega]
    generalize l.getD i z92 = x at hx ⊢
    refine Ev.bind (specSum_ev _ w (by omega)) (ev_bindc (l1In_is _ _ _) ?_)
    by_cases c1 : 1 ≤ (x.f0.size : Int) ∧ (x.f0.size : Int) ≤ 7000
    · refine ev_pos (by simpa using c1) (ev_bindc (l1In_is _ _ _) ?_)
      by_cases c2 : 0 ≤ x.f1 ∧ x.f1 ≤ 1000000
      · refine ev_pos (by simpa using c2) ?_
        have ih := ih (sumT x.f0 w) (by omega)
        by_cases i0 : i = 0
        · refine ev_neg (by omega) (ev_cast ?_ ih)
          rw [decide_eq_true c1, decide_eq_true c2]; simp [i0]
        · refine ev_pos (by omega) ?_
          by_cases b : Op.bytesLess last.toList (sumT x.f0 w).toList = true
          · refine ev_pos b (ev_cast ?_ ih)
            rw [b, decide_eq_true c1, decide_eq_true c2]; simp
          · refine ev_neg b (ev_now ?_)
            rw [Bool.not_eq_true] at b
            rw [b]; simp [i0]
      · refine ev_neg (by simpa using c2) (ev_now ?_)
        rw [decide_eq_false c2]; simp
    · refine ev_neg (by simpa using c1) (ev_now ?_)
      rw [decide_eq_false c1]; simp
theorem specValid_ev (w room : Int) (l : List S92) (p : List ByteArray) (hs : ∀ x ∈ l, x.f0.size ≤ 1048576) : Ev (fun k => spec_ValidStore.f k w room l p) (validS w room l p) := by
  have no : ∀ (b : Bool), validS w room l p = false → b = true → Ev (fun k => spec_ValidStore.j0 k b w room l p) (validS w room l p) := by
    intro b hv hb
    refine Ev.step (fun k => by rw [spec_ValidStore.j0]) (ev_pos hb (ev_now hv.symm))
  unfold spec_ValidStore.f
  refine ev_bindc (l1Width_is w) ?_
  by_cases c1 : 1 ≤ w ∧ w ≤ 8
  · refine ev_pos (by simpa using c1) (ev_bindc (l1In_is _ _ _) ?_)
    by_cases c2 : 0 ≤ room ∧ room ≤ 60000
    · refine ev_pos (by simpa using c2) ?_
      by_cases c3 : l.length ≤ 1000
      · refine ev_neg (by omega) ?_
        by_cases c4 : p.length ≤ 10
        · refine Ev.step (fun k => by rw [spec_ValidStore.j0]) (ev_neg (by simp; omega) ?_)
          refine ev_cast ?_ (specValid_l0 w room l p c3 hs c4 l.length 0 ⟨#[]⟩ (by omega))
          unfold validS
          rw [decide_eq_true c1, decide_eq_true c2, decide_eq_true c3, decide_eq_true c4]
          simp only [Bool.true_and, decide_true, List.drop_zero]
          have e : ascOk w true ByteArray.empty p = ascOk w true ⟨#[]⟩ p := by cases p <;> rfl
          rw [e, Bool.and_left_comm]
        · exact no _ (by unfold validS; rw [decide_eq_false c4]; simp) (by simp; omega)
      · exact ev_pos (by omega) (no _ (by unfold validS; rw [decide_eq_false c3]; simp) rfl)
    · exact ev_neg (by simpa using c2) (no _ (by unfold validS; rw [decide_eq_false c2]; simp) rfl)
  · exact ev_neg (by simpa using c1) (no _ (by unfold validS; rw [decide_eq_false c1]; simp) rfl)
theorem ascending_l (w : Int) (p : List ByteArray) (hp : p.length ≤ 1048576) : ∀ (n i : Nat), i + n = p.length → Ev (fun k => impl_ascending.l0 k p w p p.length i) (ascOk w (decide (i = 0)) (p.getD (i - 1) ByteArray.empty) (p.drop i))
  | 0, i, h0 => by
    refine Ev.step (fun k => by rw [impl_ascending.l0]) (ev_neg (by omega) (ev_now ?_))
    rw [List.drop_eq_nil_of_le (by omega), ascOk]
  | n + 1, i, h0 => by
    refine Ev.step (fun k => by rw [impl_ascending.l0]) (ev_pos (by omega) (ev_pos (by omega) (ev_pos (by omega) ?_)))
    have ih := ascending_l w p hp n (i + 1) (by omega)
    have e : rdOf ByteArray.empty p (i : Int) = p.getD i ByteArray.empty := rfl
    have dg := drop_get ByteArray.empty p i (by omega)
    rw [e, dg, ascOk, show wrap64 ((i : Int) + 1) = ((i + 1 : Nat) : Int) by rw [w64 (by omega) (by omega)]; omega]
    rw [Nat.add_sub_cancel] at ih
    generalize p.getD i ByteArray.empty = x at ih ⊢
    by_cases c : (x.size : Int) = w
    · refine ev_pos c ?_
      by_cases i0 : i = 0
      · refine ev_neg (by omega) (ev_cast ?_ ih)
        simp [c, i0]
      · refine ev_pos (by omega) ?_
        rw [show wrap64 ((i : Int) - 1) = ((i - 1 : Nat) : Int) by rw [w64 (by omega) (by omega)]; omega]
        refine ev_pos (by omega) (ev_pos (by omega) ?_)
        have e2 : rdOf ByteArray.empty p ((i - 1 : Nat) : Int) = p.getD (i - 1) ByteArray.empty := rfl
        rw [e2]
        by_cases b : Op.bytesLess (p.getD (i - 1) ByteArray.empty).toList x.toList = true
        · refine ev_pos b (ev_cast ?_ ih)
          rw [b]; simp [c]
        · refine ev_neg b (ev_now ?_)
          rw [Bool.not_eq_true] at b
          rw [b]; simp [i0]
    · refine ev_neg c (ev_now ?_)
      simp [c]
theorem ascending_ev (w : Int) (p : List ByteArray) (hp : p.length ≤ 1048576) : Ev (fun k => impl_ascending.f k p w) (ascOk w true ⟨#[]⟩ p) := by
  unfold impl_ascending.f
  refine ev_cast ?_ (ascending_l w p hp p.length 0 (by omega))
  cases p <;> rfl
theorem implValid_l0 (w room : Int) (l : List S92) (p : List ByteArray) (hl : l.length ≤ 1000) (hs : ∀ x ∈ l, x.f0.size ≤ 1048576) : ∀ (n i : Nat) (acc : Int) (last : ByteArray), i + n = l.length → 0 ≤ acc → acc ≤ 1048576 * i →
    Ev (fun k => impl_ValidStore.l0 k acc last l l.length i w room l p) (itemsOk w (decide (i = 0)) last (l.drop i) && decide (acc + total (l.drop i) ≤ room))
  | 0, i, acc, last, h0, h1, h2 => by
    refine Ev.step (fun k => by rw [impl_ValidStore.l0]) (ev_neg (by omega) (ev_now ?_))
    rw [List.drop_eq_nil_of_le (by omega), itemsOk, total]; simp
  | n + 1, i, acc, last, h0, h1, h2 => by
    refine Ev.step (fun k => by rw [impl_ValidStore.l0]) (ev_pos (by omega) (ev_pos (by omega) (ev_pos (by omega) ?_)))
    have e : rd_T92 l (i : Int) = l.getD i z92 := rfl
    have hx := hs _ (getD_mem z92 l i (by omega))
    have dg := drop_get z92 l i (by omega)
    have ih := implValid_l0 w room l p hl hs n (i + 1)
    rw [e, dg, itemsOk, total, show wrap64 ((i : Int) + 1) = ((i + 1 : Nat) : Int) by rw [w64 (by omega) (by omega)]; omega]
    generalize l.getD i z92 = x at hx ⊢
    rw [w64 (n := acc + (x.f0.size : Int)) (by omega) (by omega)]
    have ih := ih (acc + x.f0.size) (sumT x.f0 w) (by omega) (by omega) (by omega)
    rw [Int.add_assoc] at ih
    refine Ev.bind (implSum_ev _ w (by omega)) ?_
    by_cases c1 : 1 ≤ (x.f0.size : Int) ∧ (x.f0.size : Int) ≤ 7000
    · refine ev_neg (by omega) (ev_neg (by omega) ?_)
      by_cases c2 : 0 ≤ x.f1 ∧ x.f1 ≤ 1000000
      · refine ev_neg (by omega) (ev_neg (by omega) ?_)
        by_cases i0 : i = 0
        · refine ev_neg (by omega) (ev_cast ?_ ih)
          rw [decide_eq_true c1, decide_eq_true c2]; simp [i0]
        · refine ev_pos (by omega) ?_
          by_cases b : Op.bytesLess last.toList (sumT x.f0 w).toList = true
          · refine ev_pos b (ev_cast ?_ ih)
            rw [b, decide_eq_true c1, decide_eq_true c2]; simp
          · refine ev_neg b (ev_now ?_)
            rw [Bool.not_eq_true] at b
            rw [b]; simp [i0]
      · rw [decide_eq_false c2]
        by_cases c3 : x.f1 < 0
        · exact ev_pos c3 (ev_now (by simp))
        · exact ev_neg c3 (ev_pos (by omega) (ev_now (by simp)))
    · rw [decide_eq_false c1]
      by_cases c3 : (x.f0.size : Int) < 1
      · exact ev_pos c3 (ev_now (by simp))
      · exact ev_neg c3 (ev_pos (by omega) (ev_now (by simp)))
theorem implValid_ev (w room : Int) (l : List S92) (p : List ByteArray) (hs : ∀ x ∈ l, x.f0.size ≤ 1048576) : Ev (fun k => impl_ValidStore.f k w room l p) (validS w room l p) := by
  have no : ∀ (b : Bool), validS w room l p = false → b = true → Ev (fun k => impl_ValidStore.j0 k b w room l p) (validS w room l p) := by
    intro b hv hb
    refine Ev.step (fun k => by rw [impl_ValidStore.j0]) (ev_pos hb (ev_now hv.symm))
  unfold impl_ValidStore.f
  refine ev_bindc (widthOk_is w) ?_
  by_cases c1 : 1 ≤ w ∧ w ≤ 8
  · refine ev_pos (by simpa using c1) ?_
    by_cases c2 : 0 ≤ room ∧ room ≤ 60000
    · refine ev_neg (by omega) (ev_neg (by omega) ?_)
      by_cases c3 : l.length ≤ 1000
      · refine ev_neg (by omega) ?_
        by_cases c4 : p.length ≤ 10
        · refine ev_neg (by omega) (Ev.bind (ascending_ev w p (by omega)) ?_)
          by_cases c5 : ascOk w true ⟨#[]⟩ p = true
          · refine Ev.step (fun k => by rw [impl_ValidStore.j0]) (ev_neg (by rw [c5]; simp) ?_)
            refine ev_cast ?_ (implValid_l0 w room l p c3 hs l.length 0 0 ⟨#[]⟩ (by omega) (by omega) (by omega))
            unfold validS
            rw [decide_eq_true c1, decide_eq_true c2, decide_eq_true c3, decide_eq_true c4, c5]
            simp
          · rw [Bool.not_eq_true] at c5
            exact no _ (by unfold validS; rw [c5]; simp) (by rw [c5]; rfl)
        · exact ev_pos (by omega) (no _ (by unfold validS; rw [decide_eq_false c4]; simp) rfl)
      · exact ev_pos (by omega) (no _ (by unfold validS; rw [decide_eq_false c3]; simp) rfl)
    · have nv : validS w room l p = false := by unfold validS; rw [decide_eq_false c2]; simp
      by_cases c3 : room < 0
      · exact ev_pos c3 (no _ nv rfl)
      · exact ev_neg c3 (ev_pos (by omega) (no _ nv rfl))
  · exact ev_neg (by simpa using c1) (no _ (by unfold validS; rw [decide_eq_false c1]; simp) rfl)

/-! ### Marks: laws_markText -/
theorem markText_l : ∀ (n : Nat) (x : Int) (out : ByteArray), 0 ≤ x → x < 10 ^ n → x ≤ 9223372036854775807 → out.size + n ≤ 100 → ∃ t, Ev (fun k => laws_markText.l0 k x out) t
  | 0, x, out, h0, h1, h3, h2 => by
    refine ⟨(⟨#[109]⟩ : ByteArray) ++ out, ?_⟩
    refine Ev.step (fun k => by rw [laws_markText.l0]) ?_
    exact ev_neg (by omega) (ev_pos (by omega) (Ev.now _))
  | n + 1, x, out, h0, h1, h3, h2 => by
    by_cases e : x > 0
    · have e2 : wrap64 (Int.tdiv x 10) = x / 10 := by rw [Int.tdiv_eq_ediv_of_nonneg h0, w64 (by omega) (by omega)]
      obtain ⟨t, ht⟩ := markText_l n (x / 10) (strOfNums [(wrap64 (48 + (Int.tmod x 10))) % 256] ++ out) (by omega) (by rw [Int.pow_succ] at h1; omega) (by omega) (by rw [ap_size, son_size]; simp only [List.length_cons, List.length_nil]; omega)
      refine ⟨t, Ev.step (fun k => by rw [laws_markText.l0]) ?_⟩
      refine ev_pos e (ev_some (ev_pos (by rw [son_size]; simp only [List.length_cons, List.length_nil]; omega) ?_))
      rw [e2]; exact ht
    · refine ⟨(⟨#[109]⟩ : ByteArray) ++ out, ?_⟩
      refine Ev.step (fun k => by rw [laws_markText.l0]) ?_
      exact ev_neg (by omega) (ev_pos (by omega) (Ev.now _))
def MT (x : Int) (t : ByteArray) : Prop := Ev (fun k => laws_markText.f k x) t
theorem markText_ex (x : Int) (h0 : 0 ≤ x) (h1 : x ≤ 9223372036854775807) : ∃ t, MT x t := by
  unfold MT laws_markText.f
  by_cases e : x ≤ 0
  · exact ⟨_, ev_pos e (Ev.now _)⟩
  · obtain ⟨t, ht⟩ := markText_l 19 x ⟨#[]⟩ h0 (by omega) h1 (by show 0 + _ ≤ _; omega)
    exact ⟨t, ev_neg e ht⟩

/-! ### Marks in a list of texts: laws_markStringS, laws_heldStringS -/
/-- The texts of ys from place i on, n of them, are the marks from x on. -/
def Marks (ys : List ByteArray) (i n : Nat) (x : Int) : Prop := ∀ j, j < n → ∃ t, ys[i + j]? = some t ∧ MT (x + j) t
theorem markStringS_l : ∀ (n : Nat) (i x : Int) (xs : List ByteArray), 0 ≤ i → i + n = xs.length → 0 ≤ x → x + n ≤ 4611686018427387904 → xs.length ≤ 4611686018427387904 →
    ∃ ys, Ev (fun k => laws_markStringS.l0 k xs x i) (x + n, ys) ∧ ys.length = xs.length ∧ (∀ j, j < i.toNat → ys[j]? = xs[j]?) ∧ Marks ys i.toNat n x
  | 0, i, x, xs, h0, h1, h2, h3, h4 => by
    refine ⟨xs, Ev.step (fun k => by rw [laws_markStringS.l0]) ?_, rfl, fun _ _ => rfl, fun j hj => absurd hj (by omega)⟩
    exact ev_neg (by omega) (ev_now (by simp))
  | n + 1, i, x, xs, h0, h1, h2, h3, h4 => by
    obtain ⟨t, ht⟩ := markText_ex x h2 (by omega)
    obtain ⟨ys, hy, hl, hk, hm⟩ := markStringS_l n (i + 1) (x + 1) (xs.set i.toNat t) (by omega) (by simp; omega) (by omega) (by omega) (by simp; omega)
    refine ⟨ys, Ev.step (fun k => by rw [laws_markStringS.l0]) ?_, by simpa using hl, ?_, ?_⟩
    · refine ev_pos (by omega) (Ev.bind ht (ev_pos h0 ?_))
      rw [w64 (by omega) (by omega), w64 (by omega) (by omega)]
      exact ev_cast (by rw [show x + 1 + (n : Int) = x + ((n + 1 : Nat) : Int) by omega]) hy
    · intro j hj
      rw [hk j (by omega), List.getElem?_set, if_neg (by omega)]
    · intro j hj
      rcases Nat.eq_zero_or_pos j with rfl | hp
      · refine ⟨t, ?_, by simpa using ht⟩
        rw [hk _ (by omega), List.getElem?_set, if_pos (by omega), if_pos (by omega)]
      · obtain ⟨t', e1, e2⟩ := hm (j - 1) (by omega)
        refine ⟨t', by rw [← e1]; congr 1; omega, ?_⟩
        rw [show x + (j : Int) = x + 1 + ((j - 1 : Nat) : Int) by omega]; exact e2
theorem markStringS_ev (xs : List ByteArray) (x : Int) (h2 : 0 ≤ x) (h3 : x + xs.length ≤ 4611686018427387904) :
    ∃ ys, Ev (fun k => laws_markStringS.f k xs x) (x + xs.length, ys) ∧ ys.length = xs.length ∧ Marks ys 0 xs.length x := by
  obtain ⟨ys, a, b, _, c⟩ := markStringS_l xs.length 0 x xs (by omega) (by omega) h2 h3 (by omega)
  exact ⟨ys, a, b, c⟩
theorem heldStringS_l (xs : List ByteArray) (h4 : xs.length ≤ 4611686018427387904) : ∀ (n : Nat) (i x : Int), 0 ≤ i → i + n = xs.length → 0 ≤ x → x + n ≤ 4611686018427387904 → Marks xs i.toNat n x →
    Ev (fun k => laws_heldStringS.l0 k xs x i) (x + n)
  | 0, i, x, h0, h1, h2, h3, hm => by
    refine Ev.step (fun k => by rw [laws_heldStringS.l0]) ?_
    exact ev_neg (by omega) (ev_now (by simp))
  | n + 1, i, x, h0, h1, h2, h3, hm => by
    obtain ⟨t, e1, e2⟩ := hm 0 (by omega)
    refine Ev.step (fun k => by rw [laws_heldStringS.l0]) ?_
    refine ev_pos (by omega) (ev_pos h0 (Ev.bind (show Ev (fun k => laws_markText.f k x) t by simpa [MT] using e2) ?_))
    refine ev_pos (by unfold rdOf; rw [List.getD_eq_getElem?_getD, show i.toNat = i.toNat + 0 by omega, e1]; rfl) ?_
    rw [w64 (by omega) (by omega), w64 (by omega) (by omega)]
    refine ev_cast (by omega) (heldStringS_l xs h4 n (i + 1) (x + 1) (by omega) (by omega) (by omega) (by omega) ?_)
    intro j hj
    obtain ⟨t', e3, e4⟩ := hm (j + 1) (by omega)
    refine ⟨t', by rw [← e3]; congr 1; omega, ?_⟩
    rw [show x + 1 + (j : Int) = x + ((j + 1 : Nat) : Int) by omega]; exact e4
theorem heldStringS_ev (xs : List ByteArray) (x : Int) (h2 : 0 ≤ x) (h3 : x + xs.length ≤ 4611686018427387904) (hm : Marks xs 0 xs.length x) : Ev (fun k => laws_heldStringS.f k xs x) (x + xs.length) :=
  heldStringS_l xs (by omega) xs.length 0 x (by omega) (by omega) h2 h3 hm

/-! ### Marks in a store: laws_markItemS, laws_markStore, laws_heldItemS, laws_heldStore -/
/-- The items of ys from place i on, n of them, are the marks from x on. -/
def MarksI (ys : List S92) (i n : Nat) (x : Int) : Prop := ∀ j, j < n → ∃ t, ys[i + j]? = some ⟨t, x + 2 * j + 1⟩ ∧ MT (x + 2 * j) t
theorem markItemS_l : ∀ (n : Nat) (i x : Int) (xs : List S92), 0 ≤ i → i + n = xs.length → 0 ≤ x → x + 2 * n ≤ 4611686018427387904 → xs.length ≤ 1048576 →
    ∃ ys, Ev (fun k => laws_markItemS.l0 k xs x i) (x + 2 * n, ys) ∧ ys.length = xs.length ∧ (∀ j, j < i.toNat → ys[j]? = xs[j]?) ∧ MarksI ys i.toNat n x
  | 0, i, x, xs, h0, h1, h2, h3, h4 => by
    refine ⟨xs, Ev.step (fun k => by rw [laws_markItemS.l0]) ?_, rfl, fun _ _ => rfl, fun j hj => absurd hj (by omega)⟩
    exact ev_neg (by omega) (ev_now (by simp))
  | n + 1, i, x, xs, h0, h1, h2, h3, h4 => by
    obtain ⟨t, ht⟩ := markText_ex x h2 (by omega)
    have hi : i.toNat < xs.length := by omega
    obtain ⟨ys, hy, hl, hk, hm⟩ := markItemS_l n (i + 1) (x + 2) (xs.set i.toNat ⟨t, x + 1⟩) (by omega) (by simp; omega) (by omega) (by omega) (by simp; omega)
    have hset : ∀ v : Int, (xs.set i.toNat (⟨t, v⟩ : S92)).set i.toNat (⟨(rd_T92 (xs.set i.toNat ⟨t, v⟩) i).f0, x + 1⟩ : S92) = xs.set i.toNat ⟨t, x + 1⟩ := by
      intro v
      have : (rd_T92 (xs.set i.toNat ⟨t, v⟩) i).f0 = t := by
        show ((xs.set i.toNat ⟨t, v⟩).getD i.toNat z92).f0 = t
        rw [List.getD_eq_getElem?_getD, List.getElem?_set, if_pos rfl, if_pos hi]; rfl
      rw [this, List.set_set]
    refine ⟨ys, Ev.step (fun k => by rw [laws_markItemS.l0]) ?_, by simpa using hl, ?_, ?_⟩
    · refine ev_pos (by omega) (Ev.bind ht (ev_pos h0 (ev_some ?_)))
      rw [w64 (n := x + 1) (by omega) (by omega), w64 (n := x + 1 + 1) (by omega) (by omega), w64 (n := i + 1) (by omega) (by omega), hset]
      refine ev_cast (r := (x + 2 + 2 * (n : Int), ys)) (by rw [show x + 2 + 2 * (n : Int) = x + 2 * ((n + 1 : Nat) : Int) by omega]) ?_
      rw [show x + 1 + 1 = x + 2 by omega]; exact hy
    · intro j hj
      rw [hk j (by omega), List.getElem?_set, if_neg (by omega)]
    · intro j hj
      rcases Nat.eq_zero_or_pos j with rfl | hp
      · refine ⟨t, ?_, by simpa using ht⟩
        rw [hk _ (by omega), List.getElem?_set, if_pos (by omega), if_pos (by omega)]; simp
      · obtain ⟨t', e1, e2⟩ := hm (j - 1) (by omega)
        refine ⟨t', ?_, ?_⟩
        · rw [show i.toNat + j = (i + 1).toNat + (j - 1) by omega, e1, show x + 2 + 2 * ((j - 1 : Nat) : Int) + 1 = x + 2 * (j : Int) + 1 by omega]
        · rw [show x + 2 * (j : Int) = x + 2 + 2 * ((j - 1 : Nat) : Int) by omega]; exact e2
theorem markItemS_ev (xs : List S92) (x : Int) (h2 : 0 ≤ x) (h3 : x + 2 * xs.length ≤ 4611686018427387904) (h4 : xs.length ≤ 1048576) :
    ∃ ys, Ev (fun k => laws_markItemS.f k xs x) (x + 2 * xs.length, ys) ∧ ys.length = xs.length ∧ MarksI ys 0 xs.length x := by
  obtain ⟨ys, a, b, _, c⟩ := markItemS_l xs.length 0 x xs (by omega) (by omega) h2 h3 h4
  exact ⟨ys, a, b, c⟩
theorem heldItemS_l (xs : List S92) (h4 : xs.length ≤ 1048576) : ∀ (n : Nat) (i x : Int), 0 ≤ i → i + n = xs.length → 0 ≤ x → x + 2 * n ≤ 4611686018427387904 → MarksI xs i.toNat n x →
    Ev (fun k => laws_heldItemS.l0 k xs x i) (x + 2 * n)
  | 0, i, x, h0, h1, h2, h3, hm => by
    refine Ev.step (fun k => by rw [laws_heldItemS.l0]) ?_
    exact ev_neg (by omega) (ev_now (by simp))
  | n + 1, i, x, h0, h1, h2, h3, hm => by
    obtain ⟨t, e1, e2⟩ := hm 0 (by omega)
    have e : rd_T92 xs i = ⟨t, x + 1⟩ := by
      show xs.getD i.toNat z92 = _
      rw [List.getD_eq_getElem?_getD, show i.toNat = i.toNat + 0 by omega, e1]; simp
    refine Ev.step (fun k => by rw [laws_heldItemS.l0]) ?_
    refine ev_pos (by omega) (ev_pos h0 (Ev.bind (show Ev (fun k => laws_markText.f k x) t by simpa [MT] using e2) ?_))
    rw [e, w64 (n := x + 1) (by omega) (by omega), w64 (n := x + 1 + 1) (by omega) (by omega), w64 (n := i + 1) (by omega) (by omega)]
    refine ev_pos rfl (ev_pos rfl (ev_cast (by omega) (heldItemS_l xs h4 n (i + 1) (x + 1 + 1) (by omega) (by omega) (by omega) (by omega) ?_)))
    intro j hj
    obtain ⟨t', e3, e4⟩ := hm (j + 1) (by omega)
    refine ⟨t', ?_, ?_⟩
    · rw [show (i + 1).toNat + j = i.toNat + (j + 1) by omega, e3, show x + 1 + 1 + 2 * (j : Int) + 1 = x + 2 * ((j + 1 : Nat) : Int) + 1 by omega]
    · rw [show x + 1 + 1 + 2 * (j : Int) = x + 2 * ((j + 1 : Nat) : Int) by omega]; exact e4
theorem heldItemS_ev (xs : List S92) (x : Int) (h2 : 0 ≤ x) (h3 : x + 2 * xs.length ≤ 4611686018427387904) (h4 : xs.length ≤ 1048576) (hm : MarksI xs 0 xs.length x) : Ev (fun k => laws_heldItemS.f k xs x) (x + 2 * xs.length) :=
  heldItemS_l xs h4 xs.length 0 x (by omega) (by omega) h2 h3 hm
theorem markStore_ev (a b : Int) (l : List S92) (p : List ByteArray) (x : Int) (h0 : 0 ≤ x) (h1 : x ≤ 1048576) (hl : l.length ≤ 1048576) (hp : p.length ≤ 1048576) :
    ∃ ys ps, Ev (fun k => laws_markStore.f k a b l p x) (x + 2 * l.length + p.length, ys, ps) ∧ Ev (fun k => laws_heldStore.f k a b ys ps x) (x + 2 * l.length + p.length) := by
  obtain ⟨ys, m1, m2, m3⟩ := markItemS_ev l x h0 (by omega) hl
  obtain ⟨ps, q1, q2, q3⟩ := markStringS_ev p (x + 2 * l.length) (by omega) (by omega)
  refine ⟨ys, ps, ?_, ?_⟩
  · unfold laws_markStore.f
    exact Ev.bind m1 (Ev.bind q1 (Ev.now _))
  · unfold laws_heldStore.f
    have h5 := heldItemS_ev ys x h0 (by omega) (by omega) (by rw [m2]; exact m3)
    have h6 := heldStringS_ev ps (x + 2 * l.length) (by omega) (by omega) (by rw [q2]; exact q3)
    rw [m2] at h5
    rw [q2] at h6
    exact Ev.bind h5 (ev_neg (by omega) (Ev.bind h6 (ev_neg (by omega) (Ev.now _))))

/-! ### Copies of stores: spec_l4Copy, impl_copyStore -/
section
variable (w room : Int) (items : List S92) (pins : List ByteArray)
theorem l4Copy_is (hl : items.length ≤ 1048576) (hp : pins.length ≤ 1048576) : spec_l4Copy.f w room items pins = some (w, room, items, pins) := by
  unfold spec_l4Copy.f
  simp only [Option.bind_some, List.nil_append, List.length_nil]
  rw [if_pos (by omega), if_pos (by omega)]
theorem copyStore_is (hl : items.length ≤ 1048576) (hp : pins.length ≤ 1048576) : impl_copyStore.f w room items pins = some (w, room, items, pins) := by
  unfold impl_copyStore.f
  simp only [List.nil_append, List.length_nil]
  rw [if_pos (by omega), if_pos (by omega)]
end

/-! ### Times: impl_timeOk -/
theorem timeOk_is (t : Int) : impl_timeOk.f t = some (decide (0 ≤ t ∧ t ≤ 1000000)) := by
  unfold impl_timeOk.f
  by_cases h : 0 ≤ t <;> simp [h]

/-! ### Get: spec_l4At, spec_Get, impl_find, impl_Get -/
/-- The place of the first item with the sum x, counted from i on; -1 if there is none. -/
def findI (w : Int) (x : ByteArray) : Int → List S92 → Int
  | _, [] => -1
  | i, y :: ys => if sumT y.f0 w = x then i else findI w x (i + 1) ys
theorem findI_range (w : Int) (x : ByteArray) : ∀ (l : List S92) (i : Int), 0 ≤ i → findI w x i l = -1 ∨ (i ≤ findI w x i l ∧ findI w x i l < i + l.length)
  | [], i, _ => Or.inl rfl
  | y :: ys, i, h => by
    unfold findI
    by_cases c : sumT y.f0 w = x
    · rw [if_pos c]; right; simp only [List.length_cons]; omega
    · rw [if_neg c]
      rcases findI_range w x ys (i + 1) (by omega) with e | ⟨e1, e2⟩
      · exact Or.inl e
      · right; simp only [List.length_cons]; omega
section
variable (w room : Int) (items : List S92) (pins : List ByteArray)
theorem l4At_l (x : ByteArray) (hl : items.length ≤ 1048576) (hs : ∀ y ∈ items, y.f0.size ≤ 1048576) : ∀ (n i : Nat), i + n = items.length → Ev (fun k => spec_l4At.l0 k x i w room items pins) (findI w x i (items.drop i))
  | 0, i, h0 => by
    refine Ev.step (fun k => by rw [spec_l4At.l0]) (ev_neg (by omega) (ev_now ?_))
    rw [List.drop_eq_nil_of_le (by omega)]; rfl
  | n + 1, i, h0 => by
    have ih := l4At_l x hl hs n (i + 1) (by omega)
    have e : rd_T92 items (i : Int) = items.getD i z92 := rfl
    have hi := hs _ (getD_mem z92 items i (by omega))
    have dg := drop_get z92 items i (by omega)
    refine Ev.step (fun k => by rw [spec_l4At.l0]) (ev_pos (by omega) (ev_pos (by omega) ?_))
    rw [e, dg, show wrap64 ((i : Int) + 1) = ((i + 1 : Nat) : Int) by rw [w64 (by omega) (by omega)]; omega]
    generalize items.getD i z92 = y at hi ⊢
    refine Ev.bind (specSum_ev y.f0 w (by omega)) ?_
    unfold findI
    by_cases c : sumT y.f0 w = x
    · exact ev_pos (by rw [c]) (ev_now (by rw [if_pos c]))
    · refine ev_neg (fun z => c (ba_eq.1 z)) (ev_cast ?_ ih)
      rw [if_neg c]; rfl
theorem l4At_ev (x : ByteArray) (hl : items.length ≤ 1048576) (hs : ∀ y ∈ items, y.f0.size ≤ 1048576) : Ev (fun k => spec_l4At.f k w room items pins x) (findI w x 0 items) := by
  unfold spec_l4At.f
  exact l4At_l w room items pins x hl hs items.length 0 (by omega)
theorem find_l (x : ByteArray) (hl : items.length ≤ 1048576) (hs : ∀ y ∈ items, y.f0.size ≤ 1048576) : ∀ (n i : Nat), i + n = items.length → Ev (fun k => impl_find.l0 k x items items.length i w room items pins) (findI w x i (items.drop i))
  | 0, i, h0 => by
    refine Ev.step (fun k => by rw [impl_find.l0]) (ev_neg (by omega) (ev_now ?_))
    rw [List.drop_eq_nil_of_le (by omega)]; rfl
  | n + 1, i, h0 => by
    have ih := find_l x hl hs n (i + 1) (by omega)
    have e : rd_T92 items (i : Int) = items.getD i z92 := rfl
    have hi := hs _ (getD_mem z92 items i (by omega))
    have dg := drop_get z92 items i (by omega)
    refine Ev.step (fun k => by rw [impl_find.l0]) (ev_pos (by omega) (ev_pos (by omega) (ev_pos (by omega) ?_)))
    rw [e, dg, show wrap64 ((i : Int) + 1) = ((i + 1 : Nat) : Int) by rw [w64 (by omega) (by omega)]; omega]
    generalize items.getD i z92 = y at hi ⊢
    refine Ev.bind (implSum_ev y.f0 w (by omega)) ?_
    unfold findI
    by_cases c : sumT y.f0 w = x
    · exact ev_pos (by rw [c]) (ev_now (by rw [if_pos c]))
    · refine ev_neg (fun z => c (ba_eq.1 z)) (ev_cast ?_ ih)
      rw [if_neg c]; rfl
theorem find_ev (x : ByteArray) (hl : items.length ≤ 1048576) (hs : ∀ y ∈ items, y.f0.size ≤ 1048576) : Ev (fun k => impl_find.f k w room items pins x) (findI w x 0 items) := by
  unfold impl_find.f
  exact find_l w room items pins x hl hs items.length 0 (by omega)
end
def getR (w room : Int) (items : List S92) (pins : List ByteArray) (s : ByteArray) (now : Int) : ByteArray × Int × Int × List S92 × List ByteArray × Bool :=
  if validS w room items pins = true ∧ (0 ≤ now ∧ now ≤ 1000000) ∧ 0 ≤ findI w s 0 items then
    ((rd_T92 (items.set (findI w s 0 items).toNat ⟨(rd_T92 items (findI w s 0 items)).f0, now⟩) (findI w s 0 items)).f0, w, room, items.set (findI w s 0 items).toNat ⟨(rd_T92 items (findI w s 0 items)).f0, now⟩, pins, true)
  else (⟨#[]⟩, 0, 0, [], [], false)
section
variable (w room : Int) (items : List S92) (pins : List ByteArray) (s : ByteArray) (now : Int)
theorem getR_size (hl : items.length ≤ 1048576) (hp : pins.length ≤ 1048576) : (getR w room items pins s now).2.2.2.1.length ≤ 1048576 ∧ (getR w room items pins s now).2.2.2.2.1.length ≤ 1048576 := by
  unfold getR
  split
  · exact ⟨by simpa using hl, hp⟩
  · exact ⟨by simp, by simp⟩
theorem specGet_ev (hl : items.length ≤ 1048576) (hs : ∀ y ∈ items, y.f0.size ≤ 1048576) (hp : pins.length ≤ 1048576) : Ev (fun k => spec_Get.f k w room items pins s now) (getR w room items pins s now) := by
  have no : ∀ (b : Bool), b = true → ¬ (validS w room items pins = true ∧ (0 ≤ now ∧ now ≤ 1000000) ∧ 0 ≤ findI w s 0 items) → Ev (fun k => spec_Get.j0 k s now b w room items pins) (getR w room items pins s now) := by
    intro b hb hn
    exact Ev.step (fun k => by rw [spec_Get.j0]) (ev_pos hb (ev_now (by unfold getR; rw [if_neg hn])))
  unfold spec_Get.f
  refine Ev.bind (specValid_ev w room items pins hs) ?_
  by_cases c1 : validS w room items pins = true
  · refine ev_pos c1 (ev_bindc (l1In_is _ _ _) ?_)
    by_cases c2 : 0 ≤ now ∧ now ≤ 1000000
    · refine Ev.step (fun k => by rw [spec_Get.j0]) (ev_neg (by simp; omega) (Ev.bind (l4At_ev w room items pins s hl hs) ?_))
      have fr := findI_range w s items 0 (by omega)
      by_cases c3 : 0 ≤ findI w s 0 items
      · refine ev_neg (by omega) (ev_bindc (l4Copy_is w room items pins hl hp) ?_)
        dsimp only
        refine ev_pos c3 (ev_pos (by omega) (ev_some (ev_now ?_)))
        unfold getR; rw [if_pos ⟨c1, c2, c3⟩]
      · exact ev_pos (by omega) (ev_now (by unfold getR; rw [if_neg (fun z => c3 z.2.2)]))
    · exact no _ (by rw [decide_eq_false c2]; rfl) (fun z => c2 z.2.1)
  · exact ev_neg c1 (no _ rfl (fun z => c1 z.1))
theorem implGet_ev (hl : items.length ≤ 1048576) (hs : ∀ y ∈ items, y.f0.size ≤ 1048576) (hp : pins.length ≤ 1048576) : Ev (fun k => impl_Get.f k w room items pins s now) (getR w room items pins s now) := by
  have no : ∀ (b : Bool), b = true → ¬ (validS w room items pins = true ∧ (0 ≤ now ∧ now ≤ 1000000) ∧ 0 ≤ findI w s 0 items) → Ev (fun k => impl_Get.j0 k s now b w room items pins) (getR w room items pins s now) := by
    intro b hb hn
    exact Ev.step (fun k => by rw [impl_Get.j0]) (ev_pos hb (ev_now (by unfold getR; rw [if_neg hn])))
  unfold impl_Get.f
  refine Ev.bind (implValid_ev w room items pins hs) ?_
  by_cases c1 : validS w room items pins = true
  · refine ev_pos c1 (ev_bindc (timeOk_is _) ?_)
    by_cases c2 : 0 ≤ now ∧ now ≤ 1000000
    · refine Ev.step (fun k => by rw [impl_Get.j0]) (ev_neg (by simp; omega) (Ev.bind (find_ev w room items pins s hl hs) ?_))
      have fr := findI_range w s items 0 (by omega)
      by_cases c3 : 0 ≤ findI w s 0 items
      · refine ev_neg (by omega) (ev_bindc (copyStore_is w room items pins hl hp) ?_)
        dsimp only
        refine ev_pos c3 (ev_pos (by omega) (ev_some (ev_now ?_)))
        unfold getR; rw [if_pos ⟨c1, c2, c3⟩]
      · exact ev_pos (by omega) (ev_now (by unfold getR; rw [if_neg (fun z => c3 z.2.2)]))
    · exact no _ (by rw [decide_eq_false c2]; rfl) (fun z => c2 z.2.1)
  · exact ev_neg c1 (no _ rfl (fun z => c1 z.1))
end

theorem FnExactGet : laws_FnExactGet.Law := by
  intro w room l p s now _ _ ⟨hl, hi⟩ ⟨hp, ht⟩ _ _
  apply Ev.rounds
  unfold laws_FnExactGet.f
  by_cases h : (s.size : Int) > 1048576
  · exact ev_pos h (Ev.now _)
  · refine ev_neg h ?_
    obtain ⟨r, hr, hq⟩ := szStore_ev w room l p 1048576 hl (fun x hx => (hi x hx).1) hp ht (by omega) (by omega)
    refine Ev.bind hr ?_
    rcases hq with hq | ⟨q0, _, hin⟩
    · exact ev_pos hq (Ev.now _)
    · refine ev_neg (by omega) ?_
      have hs : ∀ x ∈ l.map cvI, x.f0.size ≤ 1048576 := by
        intro x hx; obtain ⟨y, hy, rfl⟩ := List.mem_map.1 hx; exact hin.2.1 y hy
      have hil : (l.map cvI).length ≤ 1048576 := by have := hin.1; simpa using this
      have hpl := hin.2.2.1
      have hto := toStore_ev w room l p hin
      have gs := getR_size w room (l.map cvI) p s now hil hpl
      have g1 := specGet_ev w room (l.map cvI) p s now hil hs hpl
      have g2 := implGet_ev w room (l.map cvI) p s now hil hs hpl
      generalize getR w room (l.map cvI) p s now = R at gs g1 g2
      obtain ⟨t, a, b, il, pl, f⟩ := R
      dsimp only at gs
      have same := eqStore_same a b il pl (by omega) (by omega)
      have same0 := eqStore_same w room (l.map cvI) p (by omega) (by omega)
      obtain ⟨y1, y2, m1, m2⟩ := markStore_ev w room (l.map cvI) p 1 (by omega) (by omega) hil hpl
      obtain ⟨z1, z2, n1, n2⟩ := markStore_ev a b il pl 1 (by omega) (by omega) gs.1 gs.2
      refine Ev.bind hto (Ev.bind g1 (Ev.bind hto (Ev.bind g2 (ev_pos rfl (Ev.bind same (ev_pos rfl ?_))))))
      refine Ev.step (fun k => by rw [laws_FnExactGet.j0]) (ev_neg (by simp) ?_)
      refine Ev.bind hto (Ev.bind same0 (ev_pos rfl (Ev.bind m1 (ev_neg (by dsimp only; omega) (ev_pos rfl (Ev.bind same (ev_pos rfl ?_)))))))
      refine Ev.step (fun k => by rw [laws_FnExactGet.j1]) (ev_neg (by simp) ?_)
      refine Ev.bind n1 (Ev.bind n2 (ev_neg (by omega) (ev_pos rfl (Ev.bind hto (Ev.bind g2 (ev_pos rfl (Ev.bind same (ev_pos rfl ?_))))))))
      refine Ev.step (fun k => by rw [laws_FnExactGet.j2]) (ev_neg (by simp) ?_)
      exact Ev.bind n2 (ev_neg (by omega) (ev_pos rfl (Ev.now _)))

end Go.Proofs.Ytbhkinfdilngiaa.Pure

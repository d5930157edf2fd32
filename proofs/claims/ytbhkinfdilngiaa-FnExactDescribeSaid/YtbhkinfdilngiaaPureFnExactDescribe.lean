/- The law FnExactDescribe answers true at every text and width: the program's Describe is the reference's, and owns its memory; no condition beyond what the row itself reads. -/
import Derived.Test.YtbhkinfdilngiaaGFnExactDescribex
import Derived.Test.YtbhkinfdilngiaaM
namespace Go.Proofs.Ytbhkinfdilngiaa.Pure
open Go.RowKit Go.Proofs.Ytbhkinfdilngiaa.PFnExactDescribe Go.Proofs.Ytbhkinfdilngiaa.M Go.Proofs.YtbhkinfdilngiaaW.PrintWords Go.Proofs.YtbhkinfdilngiaaW.PrintLast Go.Proofs.YtbhkinfdilngiaaW.PrintMore
set_option linter.unusedVariables false
set_option linter.unusedSimpArgs false

/-! ### Sums of 64 bits: spec_l1Sum64, impl_sum64 -/
theorem l1Sum64_l (s : ByteArray) (hs : s.size ≤ 4611686018427387904) : ∀ (n : Nat) (h i : Int), 0 ≤ i → i + n = s.size → Ev (fun k => spec_l1Sum64.l0 k s h i) (fnv s n h i)
  | 0, h, i, h0, h1 => by
    refine Ev.step (fun k => by rw [spec_l1Sum64.l0]) ?_
    exact ev_neg (by omega) (Ev.now _)
  | n + 1, h, i, h0, h1 => by
    refine Ev.step (fun k => by rw [spec_l1Sum64.l0]) ?_
    refine ev_pos (by omega) (ev_pos h0 ?_)
    rw [w64 (by omega) (by omega)]
    exact l1Sum64_l s hs n _ (i + 1) (by omega) (by omega)
theorem l1Sum64_ev (s : ByteArray) (hs : s.size ≤ 4611686018427387904) : Ev (fun k => spec_l1Sum64.f k s) (sum64 s) :=
  l1Sum64_l s hs s.size _ 0 (by omega) (by omega)
theorem sum64_l (s : ByteArray) (hs : s.size ≤ 4611686018427387904) : ∀ (n : Nat) (h i : Int), 0 ≤ i → i + n = s.size → Ev (fun k => impl_sum64.l0 k s h i) (fnv s n h i)
  | 0, h, i, h0, h1 => by
    refine Ev.step (fun k => by rw [impl_sum64.l0]) ?_
    exact ev_neg (by omega) (Ev.now _)
  | n + 1, h, i, h0, h1 => by
    refine Ev.step (fun k => by rw [impl_sum64.l0]) ?_
    refine ev_pos (by omega) (ev_pos h0 ?_)
    rw [w64 (by omega) (by omega)]
    exact sum64_l s hs n _ (i + 1) (by omega) (by omega)
theorem sum64_ev (s : ByteArray) (hs : s.size ≤ 4611686018427387904) : Ev (fun k => impl_sum64.f k s) (sum64 s) :=
  sum64_l s hs s.size _ 0 (by omega) (by omega)

/-! ### Sums: spec_l1In, spec_l1Width, spec_l1Sum64, spec_l1Bytes, spec_Sum; impl_widthOk, impl_sum64, impl_Sum -/
theorem l1In_is (a b c : Int) : spec_l1In.f a b c = some (decide (b ≤ a ∧ a ≤ c)) := by
  unfold spec_l1In.f
  by_cases h : b ≤ a <;> simp [h]
theorem l1Width_is (w : Int) : spec_l1Width.f w = some (decide (1 ≤ w ∧ w ≤ 8)) := by
  unfold spec_l1Width.f; rw [l1In_is]; rfl
theorem widthOk_is (w : Int) : impl_widthOk.f w = some (decide (1 ≤ w ∧ w ≤ 8)) := by
  unfold impl_widthOk.f
  by_cases h : 1 ≤ w <;> simp [h]
theorem l1Bytes_l : ∀ (n : Nat) (h w i : Int) (out : ByteArray), 0 ≤ i → i + n = w → w ≤ 8 → 0 ≤ h → h < 18446744073709551616 → out.size + n ≤ 8 →
    Ev (fun k => spec_l1Bytes.l0 k h w out i) (strOfNums (beBytes n h) ++ out)
  | 0, h, w, i, out, h0, h1, h2, h3, h4, h5 => by
    refine Ev.step (fun k => by rw [spec_l1Bytes.l0]) ?_
    refine ev_neg (by omega) ?_
    exact ev_now (by rw [show strOfNums (beBytes 0 h) = (⟨#[]⟩ : ByteArray) from rfl, em_app])
  | n + 1, h, w, i, out, h0, h1, h2, h3, h4, h5 => by
    refine Ev.step (fun k => by rw [spec_l1Bytes.l0]) ?_
    refine ev_pos (by omega) ?_
    refine ev_some ?_
    have e1 : Int.tmod h 256 % 256 = h % 256 := by rw [Int.tmod_eq_emod_of_nonneg h3]; omega
    have e2 : IntKind.u64.wrap (Int.tdiv h 256) = h / 256 := by rw [Int.tdiv_eq_ediv_of_nonneg h3, u64w]; omega
    have sz : (strOfNums [Int.tmod h 256 % 256]).size = 1 := by rw [son_size]; rfl
    refine ev_pos (by rw [sz]; omega) ?_
    rw [e1, e2, w64 (by omega) (by omega)]
    refine ev_cast ?_ (l1Bytes_l n (h / 256) w (i + 1) _ (by omega) (by omega) h2 (by omega) (by omega) (by rw [ap_size, son_size]; simp only [List.length_cons, List.length_nil]; omega))
    rw [beBytes, ← ByteArray.append_assoc, son_app]
theorem specSum_ev (s : ByteArray) (w : Int) (hs : s.size ≤ 4611686018427387904) : Ev (fun k => spec_Sum.f k s w) (sumT s w) := by
  unfold spec_Sum.f
  refine ev_bindc (l1Width_is w) ?_
  by_cases h : 1 ≤ w ∧ w ≤ 8
  · refine ev_pos (by simp [h]) ?_
    refine Ev.bind (l1Sum64_ev s hs) ?_
    have z := sum64_range s
    refine Ev.bind (f := fun k t => some t) (l1Bytes_l w.toNat (sum64 s) w 0 ⟨#[]⟩ (by omega) (by omega) h.2 z.1 z.2 (by show 0 + _ ≤ _; omega)) ?_
    exact ev_now (by rw [app_em]; unfold sumT; rw [if_pos h])
  · refine ev_neg (by simp [h]) ?_
    exact ev_now (by unfold sumT; rw [if_neg h])
theorem implSum_l (h : Int) (h0 : 0 ≤ h) (h1 : h < 18446744073709551616) (w : Nat) (hw : w ≤ 8) : ∀ (n : Nat) (i : Int) (xs : List Int), 0 ≤ i → i + n = w → xs.length = w →
    Ev (fun k => impl_Sum.l0 k w h xs w i) (strOfNums (xs.take i.toNat ++ (beBytes w h).drop i.toNat))
  | 0, i, xs, i0, i1, hx => by
    refine Ev.step (fun k => by rw [impl_Sum.l0]) ?_
    refine ev_neg (by omega) (ev_now ?_)
    rw [List.take_of_length_le (by omega), List.drop_eq_nil_of_le (by rw [beBytes_length]; omega), List.append_nil]
  | n + 1, i, xs, i0, i1, hx => by
    refine Ev.step (fun k => by rw [impl_Sum.l0]) ?_
    rw [w64 (n := (w : Int) - 1) (by omega) (by omega), w64 (n := (w : Int) - 1 - i) (by omega) (by omega), w64 (n := 8 * ((w : Int) - 1 - i)) (by omega) (by omega), w64 (n := i + 1) (by omega) (by omega)]
    refine ev_pos (by omega) (ev_pos (by omega) (ev_pos i0 (ev_pos (by omega) ?_)))
    refine ev_cast ?_ (implSum_l h h0 h1 w hw n (i + 1) _ (by omega) (by omega) (by simpa using hx))
    congr 1
    have e : shr .u64 h (8 * ((w : Int) - 1 - i)) % 256 = h / 256 ^ (w - 1 - i.toNat) % 256 := by
      unfold shr
      rw [show (8 * ((w : Int) - 1 - i)).toNat = 8 * (w - 1 - i.toNat) by omega, show IntKind.u64.bits = 64 from rfl, Nat.min_eq_left (by omega), Int.pow_mul]
      rfl
    rw [e, show (i + 1).toNat = i.toNat + 1 by omega]
    have g := beBytes_get w h i.toNat (by omega)
    generalize h / 256 ^ (w - 1 - i.toNat) % 256 = b at g
    rw [List.take_set, List.take_add_one, List.set_append, List.length_take]
    rw [if_neg (by omega)]
    rw [show i.toNat - min i.toNat xs.length = 0 by omega, List.getElem?_eq_getElem (by omega)]
    simp only [Option.toList_some, List.set_cons_zero, List.append_assoc, List.singleton_append]
    congr 1
    obtain ⟨hb, e2⟩ := List.getElem?_eq_some_iff.1 g
    rw [← e2]; exact (List.drop_eq_getElem_cons hb).symm
theorem implSum_ev (s : ByteArray) (w : Int) (hs : s.size ≤ 4611686018427387904) : Ev (fun k => impl_Sum.f k s w) (sumT s w) := by
  unfold impl_Sum.f
  refine ev_bindc (widthOk_is w) ?_
  by_cases h : 1 ≤ w ∧ w ≤ 8
  · refine ev_pos (by simp [h]) ?_
    refine Ev.bind (sum64_ev s hs) ?_
    refine ev_pos (by omega) (ev_pos (by omega) (ev_some ?_))
    have z := sum64_range s
    obtain ⟨m, rfl⟩ : ∃ m : Nat, w = m := ⟨w.toNat, by omega⟩
    have e : (((List.replicate (m : Int).toNat (0 : Int)).length : Nat) : Int) = m := by simp
    rw [e]
    refine ev_cast ?_ (implSum_l (sum64 s) z.1 z.2 m (by omega) m 0 _ (by omega) (by omega) (by simp))
    unfold sumT; rw [if_pos h]; simp
  · refine ev_neg (by simp [h]) ?_
    exact ev_now (by unfold sumT; rw [if_neg h])

/-! ### Pieces: spec_l2Ends, spec_Pieces, impl_Pieces -/
theorem l2Ends_ev (p : ByteArray) (hp : p.size ≤ 4611686018427387904) : Ev (fun k => spec_l2Ends.f k p) (endsP p) := by
  unfold spec_l2Ends.f endsP
  by_cases h : p.size < 8
  · rw [if_pos h]; exact ev_pos (by omega) (Ev.now _)
  · rw [if_neg h]
    refine ev_neg (by omega) ?_
    by_cases h2 : 64 ≤ p.size
    · rw [if_pos h2]; exact ev_pos (by omega) (Ev.now _)
    · rw [if_neg h2]
      refine ev_neg (by omega) ?_
      rw [w64 (by omega) (by omega)]
      refine ev_pos (by omega) (ev_pos (by omega) ?_)
      rw [show ((p.size : Int) - 8).toNat = p.size - 8 by omega]
      refine Ev.bind (l1Sum64_ev _ (by rw [ex_size]; omega)) (ev_now ?_)
      have z := sum64_range (p.extract (p.size - 8) p.size)
      rw [Int.tmod_eq_emod_of_nonneg z.1]
      rfl
theorem specPieces_l (s : ByteArray) (hs : s.size ≤ 3000) : ∀ (n a i : Nat) (acc : List ByteArray), a ≤ i → i + n = s.size → acc.length + n ≤ 3000 →
    Ev (fun k => spec_Pieces.l0 k s acc a ((i : Int) + 1)) (acc ++ cutAt s n a i)
  | 0, a, i, acc, h0, h1, h2 => by
    refine Ev.step (fun k => by rw [spec_Pieces.l0]) ?_
    refine ev_neg (by omega) (ev_now ?_)
    rw [cutAt, List.append_nil]
  | n + 1, a, i, acc, h0, h1, h2 => by
    refine Ev.step (fun k => by rw [spec_Pieces.l0]) ?_
    refine ev_pos (by omega) (ev_pos (by omega) (ev_pos (by omega) ?_))
    rw [show ((a : Int)).toNat = a by omega, show ((i : Int) + 1).toNat = i + 1 by omega, w64 (by omega) (by omega)]
    refine Ev.bind (l2Ends_ev _ (by rw [ex_size]; omega)) ?_
    rw [cutAt]
    by_cases e : endsP (s.extract a (i + 1)) = true
    · refine ev_pos e (ev_pos (by omega) ?_)
      rw [if_pos (Or.inl e)]
      refine ev_cast ?_ (specPieces_l s hs n (i + 1) (i + 1) _ (by omega) (by omega) (by simp; omega))
      simp
    · refine ev_neg e ?_
      by_cases e2 : i + 1 = s.size
      · refine ev_pos (by omega) (ev_pos (by omega) ?_)
        rw [if_pos (Or.inr e2)]
        refine ev_cast ?_ (specPieces_l s hs n (i + 1) (i + 1) _ (by omega) (by omega) (by simp; omega))
        simp
      · refine ev_neg (by omega) ?_
        rw [if_neg (by rintro (h | h) <;> contradiction)]
        exact specPieces_l s hs n a (i + 1) acc (by omega) (by omega) (by omega)
theorem specPieces_ev (s : ByteArray) : Ev (fun k => spec_Pieces.f k s) (pieces s) := by
  unfold spec_Pieces.f pieces
  refine ev_some ?_
  by_cases h : s.size > 3000
  · rw [if_pos h]; exact ev_pos (by omega) (Ev.now _)
  · rw [if_neg h]
    refine ev_neg (by omega) ?_
    exact ev_cast (by simp) (specPieces_l s (by omega) s.size 0 0 [] (by omega) (by omega) (by simp; omega))
theorem implPieces_l (s : ByteArray) (hs : s.size ≤ 3000) : ∀ (n a i : Nat) (acc : List ByteArray), a ≤ i → i < a + 64 → i + n = s.size → acc.length + n < 3000 + 1 →
    Ev (fun k => impl_Pieces.l0 k s acc a s.size i) (acc ++ (if n = 0 then (if a < s.size then [s.extract a s.size] else []) else cutAt s n a i))
  | 0, a, i, acc, h0, h3, h1, h2 => by
    refine Ev.step (fun k => by rw [impl_Pieces.l0]) ?_
    refine ev_neg (by omega) ?_
    rw [if_pos rfl]
    by_cases e : a < s.size
    · refine ev_pos (by omega) (ev_pos (by omega) (ev_pos (by omega) (ev_pos (by omega) (ev_now ?_))))
      rw [if_pos e]; rfl
    · exact ev_neg (by omega) (ev_now (by rw [if_neg e, List.append_nil]))
  | n + 1, a, i, acc, h0, h3, h1, h2 => by
    refine Ev.step (fun k => by rw [impl_Pieces.l0]) ?_
    refine ev_pos (by omega) ?_
    rw [w64 (n := (i : Int) + 1) (by omega) (by omega), w64 (n := (i : Int) + 1 - a) (by omega) (by omega), w64 (n := (i : Int) + 1 - 8) (by omega) (by omega)]
    rw [show ((a : Int)).toNat = a by omega, show ((i : Int) + 1).toNat = i + 1 by omega]
    have sz : (s.extract a (i + 1)).size = i + 1 - a := by rw [ex_size]; omega
    have cutc : endsP (s.extract a (i + 1)) = true → (n = 0 → i + 1 = s.size) → acc.length < 8796093022208 ∧
        Ev (fun k => impl_Pieces.l0 k s (acc ++ [s.extract a (i + 1)]) ((i : Int) + 1) s.size ((i : Int) + 1)) (acc ++ (if n + 1 = 0 then (if a < s.size then [s.extract a s.size] else []) else cutAt s (n + 1) a i)) := by
      intro e hn
      refine ⟨by omega, ?_⟩
      refine ev_cast ?_ (implPieces_l s hs n (i + 1) (i + 1) _ (by omega) (by omega) (by omega) (by simp; omega))
      rw [if_neg (Nat.succ_ne_zero n), cutAt, if_pos (Or.inl e)]
      by_cases n0 : n = 0
      · rw [if_pos n0, if_neg (by omega)]; subst n0; simp [cutAt]
      · rw [if_neg n0]; simp
    have nocut : ¬ endsP (s.extract a (i + 1)) = true →
        Ev (fun k => impl_Pieces.l0 k s acc a s.size ((i : Int) + 1)) (acc ++ (if n + 1 = 0 then (if a < s.size then [s.extract a s.size] else []) else cutAt s (n + 1) a i)) := by
      intro e
      have hlt : i + 1 < a + 64 := by
        by_cases z : i + 1 < a + 64
        · exact z
        · exact absurd (by unfold endsP; rw [sz, if_neg (by omega), if_pos (by omega)]) e
      refine ev_cast ?_ (implPieces_l s hs n a (i + 1) acc (by omega) hlt (by omega) (by omega))
      rw [if_neg (Nat.succ_ne_zero n), cutAt]
      by_cases n0 : n = 0
      · rw [if_pos n0, if_pos (by omega)]; subst n0
        rw [if_pos (Or.inr (by omega)), cutAt, show i + 1 = s.size by omega]
      · rw [if_neg n0, if_neg (by rintro (h | h); exact e h; omega)]
    by_cases e64 : i + 1 = a + 64
    · refine ev_pos (by omega) ?_
      obtain ⟨g1, g2⟩ := cutc (by unfold endsP; rw [sz, if_neg (by omega), if_pos (by omega)]) (by omega)
      exact ev_pos (by omega) (ev_pos (by omega) (ev_pos (by omega) (ev_pos g1 g2)))
    · refine ev_neg (by omega) ?_
      by_cases e8 : i + 1 < a + 8
      · refine ev_neg (by omega) ?_
        exact nocut (by unfold endsP; rw [sz, if_pos (by omega)]; simp)
      · refine ev_pos (by omega) (ev_pos (by omega) (ev_pos (by omega) (ev_pos (by omega) ?_)))
        rw [show ((i : Int) + 1 - 8).toNat = i + 1 - 8 by omega]
        refine Ev.bind (sum64_ev _ (by rw [ex_size]; omega)) ?_
        have z := sum64_range (s.extract (i + 1 - 8) (i + 1))
        rw [Int.tmod_eq_emod_of_nonneg z.1]
        have ee : endsP (s.extract a (i + 1)) = decide (sum64 (s.extract (i + 1 - 8) (i + 1)) % 16 = 0) := by
          unfold endsP
          rw [sz, if_neg (by omega), if_neg (by omega), ex_ex, show a + (i + 1 - a - 8) = i + 1 - 8 by omega, show min (a + (i + 1 - a)) (i + 1) = i + 1 by omega]
        by_cases e : sum64 (s.extract (i + 1 - 8) (i + 1)) % 16 = 0
        · obtain ⟨g1, g2⟩ := cutc (by rw [ee]; simpa using e) (by omega)
          exact ev_pos e (ev_pos (by omega) (ev_pos (by omega) (ev_pos g1 g2)))
        · exact ev_neg e (nocut (by rw [ee]; simpa using e))
theorem implPieces_ev (s : ByteArray) : Ev (fun k => impl_Pieces.f k s) (pieces s) := by
  unfold impl_Pieces.f pieces
  by_cases h : s.size > 3000
  · rw [if_pos h]; exact ev_pos (by omega) (Ev.now _)
  · rw [if_neg h]
    refine ev_neg (by omega) ?_
    refine ev_cast ?_ (implPieces_l s (by omega) s.size 0 0 [] (by omega) (by omega) (by omega) (by simp; omega))
    by_cases z : s.size = 0
    · rw [if_pos z, if_neg (by omega), z, cutAt]; rfl
    · rw [if_neg z]; rfl

/-! ### Two lists of texts: laws_eqStringS -/
theorem laws_eqStringS_l (l0 l1 : List ByteArray) (hl : l0.length ≤ 4611686018427387904) (he : l0.length = l1.length) : ∀ (n : Nat) (i : Int), 0 ≤ i → i + n = l0.length →
    Ev (fun k => laws_eqStringS.l0 k l0 l1 i) (decide (l0.drop i.toNat = l1.drop i.toNat))
  | 0, i, h0, h1 => by
    refine Ev.step (fun k => by rw [laws_eqStringS.l0]) ?_
    refine ev_neg (by omega) (ev_now ?_)
    rw [List.drop_eq_nil_of_le (by omega), List.drop_eq_nil_of_le (by omega)]; simp
  | n + 1, i, h0, h1 => by
    refine Ev.step (fun k => by rw [laws_eqStringS.l0]) ?_
    refine ev_pos (by omega) (ev_pos h0 (ev_pos (by omega) ?_))
    rw [w64 (by omega) (by omega)]
    have d0 : l0.drop i.toNat = rdOf ByteArray.empty l0 i :: l0.drop (i + 1).toNat := by
      rw [List.drop_eq_getElem_cons (by omega), show (i + 1).toNat = i.toNat + 1 by omega]
      unfold rdOf; rw [List.getD_eq_getElem?_getD, List.getElem?_eq_getElem (by omega)]; rfl
    have d1 : l1.drop i.toNat = rdOf ByteArray.empty l1 i :: l1.drop (i + 1).toNat := by
      rw [List.drop_eq_getElem_cons (by omega), show (i + 1).toNat = i.toNat + 1 by omega]
      unfold rdOf; rw [List.getD_eq_getElem?_getD, List.getElem?_eq_getElem (by omega)]; rfl
    rw [d0, d1]
    by_cases e : rdOf ByteArray.empty l0 i = rdOf ByteArray.empty l1 i
    · refine ev_pos (ba_eq.2 e) ?_
      refine ev_cast ?_ (laws_eqStringS_l l0 l1 hl he n (i + 1) (by omega) (by omega))
      rw [e]; simp
    · refine ev_neg (fun h => e (ba_eq.1 h)) (ev_now ?_)
      simp [e]
theorem laws_eqStringS_ev (l0 l1 : List ByteArray) (hl : l0.length ≤ 4611686018427387904) : Ev (fun k => laws_eqStringS.f k l0 l1) (decide (l0 = l1)) := by
  unfold laws_eqStringS.f
  by_cases e : l0.length = l1.length
  · refine ev_pos (by omega) ?_
    exact ev_cast (by simp) (laws_eqStringS_l l0 l1 hl e l0.length 0 (by omega) (by omega))
  · refine ev_neg (by omega) (ev_now ?_)
    have : l0 ≠ l1 := fun h => e (by rw [h])
    simp [this]
theorem laws_eqStringS_same (l0 : List ByteArray) (hl : l0.length ≤ 4611686018427387904) : Ev (fun k => laws_eqStringS.f k l0 l0) true := ev_cast (by simp) (laws_eqStringS_ev l0 l0 hl)

/-! ### Marks: laws_markText -/
theorem markText_l : ∀ (n : Nat) (x : Int) (out : ByteArray), 0 ≤ x → x < 10 ^ n → x ≤ 9223372036854775807 → out.size + n ≤ 100 → ∃ t, Ev (fun k => laws_markText.l0 k x out) t
  | 0, x, out, h0, h1, h3, h2 => by
    refine ⟨(⟨#[109]⟩ : ByteArray) ++ out, ?_⟩
    refine Ev.step (fun k => by rw [laws_markText.l0]) ?_
    exact ev_neg (by omega) (ev_pos (by omega) (Ev.now _))
  | n + 1, x, out, h0, h1, h3, h2 => by
    by_cases e : x > 0
    · have e2 : wrap64 (Int.tdiv x 10) = x / 10 := by rw [Int.tdiv_eq_ediv_of_nonneg h0, w64 (by omega) (by omega)]
      obtain ⟨t, ht⟩ := markText_l n (x / 10) (strOfNums [(wrap64 (48 + (Int.tmod x 10))) % 256] ++ out) (by omega) (by rw [Int.pow_succ] at h1; omega) (by omega) (by rw [ap_size, son_size]; simp only [List.length_cons, List.length_nil]; omega)
      refine ⟨t, Ev.step (fun k => by rw [laws_markText.l0]) ?_⟩
      refine ev_pos e (ev_some (ev_pos (by rw [son_size]; simp only [List.length_cons, List.length_nil]; omega) ?_))
      rw [e2]; exact ht
    · refine ⟨(⟨#[109]⟩ : ByteArray) ++ out, ?_⟩
      refine Ev.step (fun k => by rw [laws_markText.l0]) ?_
      exact ev_neg (by omega) (ev_pos (by omega) (Ev.now _))
def MT (x : Int) (t : ByteArray) : Prop := Ev (fun k => laws_markText.f k x) t
theorem markText_ex (x : Int) (h0 : 0 ≤ x) (h1 : x ≤ 9223372036854775807) : ∃ t, MT x t := by
  unfold MT laws_markText.f
  by_cases e : x ≤ 0
  · exact ⟨_, ev_pos e (Ev.now _)⟩
  · obtain ⟨t, ht⟩ := markText_l 19 x ⟨#[]⟩ h0 (by omega) h1 (by show 0 + _ ≤ _; omega)
    exact ⟨t, ev_neg e ht⟩

/-! ### Marks in a list of texts: laws_markStringS, laws_heldStringS -/
/-- The texts of ys from place i on, n of them, are the marks from x on. -/
def Marks (ys : List ByteArray) (i n : Nat) (x : Int) : Prop := ∀ j, j < n → ∃ t, ys[i + j]? = some t ∧ MT (x + j) t
theorem markStringS_l : ∀ (n : Nat) (i x : Int) (xs : List ByteArray), 0 ≤ i → i + n = xs.length → 0 ≤ x → x + n ≤ 4611686018427387904 → xs.length ≤ 4611686018427387904 →
    ∃ ys, Ev (fun k => laws_markStringS.l0 k xs x i) (x + n, ys) ∧ ys.length = xs.length ∧ (∀ j, j < i.toNat → ys[j]? = xs[j]?) ∧ Marks ys i.toNat n x
  | 0, i, x, xs, h0, h1, h2, h3, h4 => by
    refine ⟨xs, Ev.step (fun k => by rw [laws_markStringS.l0]) ?_, rfl, fun _ _ => rfl, fun j hj => absurd hj (by omega)⟩
    exact ev_neg (by omega) (ev_now (by simp))
  | n + 1, i, x, xs, h0, h1, h2, h3, h4 => by
    obtain ⟨t, ht⟩ := markText_ex x h2 (by omega)
    obtain ⟨ys, hy, hl, hk, hm⟩ := markStringS_l n (i + 1) (x + 1) (xs.set i.toNat t) (by omega) (by simp; omega) (by omega) (by omega) (by simp; omega)
    refine ⟨ys, Ev.step (fun k => by rw [laws_markStringS.l0]) ?_, by simpa using hl, ?_, ?_⟩
    · refine ev_pos (by omega) (Ev.bind ht (ev_pos h0 ?_))
      rw [w64 (by omega) (by omega), w64 (by omega) (by omega)]
      exact ev_cast (by rw [show x + 1 + (n : Int) = x + ((n + 1 : Nat) : Int) by omega]) hy
    · intro j hj
      rw [hk j (by omega), List.getElem?_set, if_neg (by omega)]
    · intro j hj
      rcases Nat.eq_zero_or_pos j with rfl | hp
      · refine ⟨t, ?_, by simpa using ht⟩
        rw [hk _ (by omega), List.getElem?_set, if_pos (by omega), if_pos (by omega)]
      · obtain ⟨t', e1, e2⟩ := hm (j - 1) (by omega)
        refine ⟨t', by rw [← e1]; congr 1; omega, ?_⟩
        rw [show x + (j : Int) = x + 1 + ((j - 1 : Nat) : Int) by omega]; exact e2
theorem markStringS_ev (xs : List ByteArray) (x : Int) (h2 : 0 ≤ x) (h3 : x + xs.length ≤ 4611686018427387904) :
    ∃ ys, Ev (fun k => laws_markStringS.f k xs x) (x + xs.length, ys) ∧ ys.length = xs.length ∧ Marks ys 0 xs.length x := by
  obtain ⟨ys, a, b, _, c⟩ := markStringS_l xs.length 0 x xs (by omega) (by omega) h2 h3 (by omega)
  exact ⟨ys, a, b, c⟩
theorem heldStringS_l (xs : List ByteArray) (h4 : xs.length ≤ 4611686018427387904) : ∀ (n : Nat) (i x : Int), 0 ≤ i → i + n = xs.length → 0 ≤ x → x + n ≤ 4611686018427387904 → Marks xs i.toNat n x →
    Ev (fun k => laws_heldStringS.l0 k xs x i) (x + n)
  | 0, i, x, h0, h1, h2, h3, hm => by
    refine Ev.step (fun k => by rw [laws_heldStringS.l0]) ?_
    exact ev_neg (by omega) (ev_now (by simp))
  | n + 1, i, x, h0, h1, h2, h3, hm => by
    obtain ⟨t, e1, e2⟩ := hm 0 (by omega)
    refine Ev.step (fun k => by rw [laws_heldStringS.l0]) ?_
    refine ev_pos (by omega) (ev_pos h0 (Ev.bind (show Ev (fun k => laws_markText.f k x) t by simpa [MT] using e2) ?_))
    refine ev_pos (by unfold rdOf; rw [List.getD_eq_getElem?_getD, show i.toNat = i.toNat + 0 by omega, e1]; rfl) ?_
    rw [w64 (by omega) (by omega), w64 (by omega) (by omega)]
    refine ev_cast (by omega) (heldStringS_l xs h4 n (i + 1) (x + 1) (by omega) (by omega) (by omega) (by omega) ?_)
    intro j hj
    obtain ⟨t', e3, e4⟩ := hm (j + 1) (by omega)
    refine ⟨t', by rw [← e3]; congr 1; omega, ?_⟩
    rw [show x + 1 + (j : Int) = x + ((j + 1 : Nat) : Int) by omega]; exact e4
theorem heldStringS_ev (xs : List ByteArray) (x : Int) (h2 : 0 ≤ x) (h3 : x + xs.length ≤ 4611686018427387904) (hm : Marks xs 0 xs.length x) : Ev (fun k => laws_heldStringS.f k xs x) (x + xs.length) :=
  heldStringS_l xs (by omega) xs.length 0 x (by omega) (by omega) h2 h3 hm

/-! ### Lists: spec_Describe, impl_describe, impl_Describe -/
theorem specDescribe_l (w sz : Int) (ps : List ByteArray) (hp : ∀ p ∈ ps, p.size ≤ 4611686018427387904) (hl : ps.length ≤ 4000) : ∀ (n i : Nat) (acc : List ByteArray), i + n = ps.length → acc.length + n ≤ 4000 →
    Ev (fun k => spec_Describe.l0 k w ps i sz acc) (sz, acc ++ (ps.drop i).map fun p => sumT p w)
  | 0, i, acc, h0, h1 => by
    refine Ev.step (fun k => by rw [spec_Describe.l0]) (ev_neg (by omega) (ev_now ?_))
    rw [List.drop_eq_nil_of_le (by omega)]; simp
  | n + 1, i, acc, h0, h1 => by
    refine Ev.step (fun k => by rw [spec_Describe.l0]) (ev_pos (by omega) (ev_pos (by omega) ?_))
    have e : rdOf ByteArray.empty ps (i : Int) = ps.getD i ByteArray.empty := rfl
    rw [e, show wrap64 ((i : Int) + 1) = ((i + 1 : Nat) : Int) by rw [w64 (by omega) (by omega)]; omega]
    refine Ev.bind (specSum_ev _ w (hp _ (getD_mem _ _ _ (by omega)))) (ev_pos (by omega) ?_)
    refine ev_cast ?_ (specDescribe_l w sz ps hp hl n (i + 1) _ (by omega) (by simp; omega))
    rw [drop_get ByteArray.empty ps i (by omega)]; simp
theorem specDescribe_ev (s : ByteArray) (w : Int) : Ev (fun k => spec_Describe.f k s w) (descr s w) := by
  unfold spec_Describe.f descr
  refine ev_bindc (l1Width_is w) ?_
  by_cases h : 1 ≤ w ∧ w ≤ 8
  · refine ev_pos (by simp [h]) ?_
    refine Ev.step (fun k => by rw [spec_Describe.j0]) ?_
    by_cases z : s.size ≤ 3000
    · refine ev_neg (by simp; omega) (Ev.bind (specPieces_ev s) ?_)
      rw [if_pos ⟨h, z⟩]
      have := specDescribe_l w s.size (pieces s) (fun p hp => by have := pieces_size s p hp; omega) (by have := pieces_length s; omega) (pieces s).length 0 [] (by omega) (by have := pieces_length s; simp; omega)
      exact ev_cast (by simp) this
    · refine ev_pos (by simp; omega) (ev_now ?_)
      rw [if_neg (fun e => z e.2)]
  · refine ev_neg (by simp [h]) (Ev.step (fun k => by rw [spec_Describe.j0]) (ev_pos rfl (ev_now ?_)))
    rw [if_neg (fun e => h e.1)]
theorem implDescribe_l (w sz : Int) (ps : List ByteArray) (hp : ∀ p ∈ ps, p.size ≤ 4611686018427387904) (hl : ps.length ≤ 4000) : ∀ (n i : Nat) (acc : List ByteArray), i + n = ps.length → acc.length + n ≤ 4000 →
    Ev (fun k => impl_describe.l0 k w ps ps.length i sz acc) (sz, acc ++ (ps.drop i).map (fun p => sumT p w), true)
  | 0, i, acc, h0, h1 => by
    refine Ev.step (fun k => by rw [impl_describe.l0]) (ev_neg (by omega) (ev_now ?_))
    rw [List.drop_eq_nil_of_le (by omega)]; simp
  | n + 1, i, acc, h0, h1 => by
    refine Ev.step (fun k => by rw [impl_describe.l0]) (ev_pos (by omega) (ev_pos (by omega) (ev_pos (by omega) ?_)))
    have e : rdOf ByteArray.empty ps (i : Int) = ps.getD i ByteArray.empty := rfl
    rw [e, show wrap64 ((i : Int) + 1) = ((i + 1 : Nat) : Int) by rw [w64 (by omega) (by omega)]; omega]
    refine Ev.bind (implSum_ev _ w (hp _ (getD_mem _ _ _ (by omega)))) (ev_pos (by omega) ?_)
    refine ev_cast ?_ (implDescribe_l w sz ps hp hl n (i + 1) _ (by omega) (by simp; omega))
    rw [drop_get ByteArray.empty ps i (by omega)]; simp
theorem impldescribe_ev (s : ByteArray) (w : Int) : Ev (fun k => impl_describe.f k s w) ((descr s w).1, (descr s w).2, decide ((1 ≤ w ∧ w ≤ 8) ∧ s.size ≤ 3000)) := by
  unfold impl_describe.f descr
  by_cases z : s.size ≤ 3000
  · refine ev_neg (by omega) (ev_bindc (widthOk_is w) (Ev.step (fun k => by rw [impl_describe.j0]) ?_))
    by_cases h : 1 ≤ w ∧ w ≤ 8
    · refine ev_neg (by simp [h]) (Ev.bind (implPieces_ev s) ?_)
      rw [if_pos ⟨h, z⟩]
      have := implDescribe_l w s.size (pieces s) (fun p hp => by have := pieces_size s p hp; omega) (by have := pieces_length s; omega) (pieces s).length 0 [] (by omega) (by have := pieces_length s; simp; omega)
      exact ev_cast (by simp [h, z]) this
    · refine ev_pos (by simp [h]) (ev_now ?_)
      rw [if_neg (fun e => h e.1)]; simp [h]
  · refine ev_pos (by omega) (Ev.step (fun k => by rw [impl_describe.j0]) (ev_pos rfl (ev_now ?_)))
    rw [if_neg (fun e => z e.2)]; simp [z]
theorem implDescribe_ev (s : ByteArray) (w : Int) : Ev (fun k => impl_Describe.f k s w) (descr s w) := by
  unfold impl_Describe.f
  exact Ev.bind (impldescribe_ev s w) (Ev.now _)

/-! ### The law -/
theorem eqList_same (a : Int) (l : List ByteArray) (hl : l.length ≤ 4611686018427387904) : Ev (fun k => laws_eqList.f k a l a l) true := by
  unfold laws_eqList.f
  exact ev_pos rfl (Ev.bind (laws_eqStringS_same l hl) (ev_pos rfl (Ev.now _)))
theorem FnExactDescribe : laws_FnExactDescribe.Law := by
  intro s w hs hw
  apply Ev.rounds
  unfold laws_FnExactDescribe.f
  by_cases h : (s.size : Int) > 1048576
  · exact ev_pos h (Ev.now _)
  · refine ev_neg h ?_
    have z := descr_length s w
    obtain ⟨ys, a, b, c⟩ := markStringS_ev (descr s w).2 1 (by omega) (by omega)
    have d := heldStringS_ev ys 1 (by omega) (by omega) (by rw [b]; exact c)
    have ml : Ev (fun k => laws_markList.f k (descr s w).1 (descr s w).2 1) (1 + ((descr s w).2.length : Int), ys) := by
      unfold laws_markList.f; exact Ev.bind a (Ev.now _)
    have hl : Ev (fun k => laws_heldList.f k (descr s w).1 ys 1) (1 + (ys.length : Int)) := by
      unfold laws_heldList.f; exact Ev.bind d (ev_neg (by omega) (Ev.now _))
    refine Ev.bind (specDescribe_ev s w) (Ev.bind (implDescribe_ev s w) (Ev.bind (eqList_same _ _ (by omega)) (ev_pos rfl ?_)))
    refine Ev.bind ml (Ev.bind hl (ev_neg (by omega) (ev_pos (by rw [b]) ?_)))
    refine Ev.bind (implDescribe_ev s w) (Ev.bind (eqList_same _ _ (by omega)) (ev_pos rfl ?_))
    exact Ev.bind hl (ev_neg (by omega) (ev_pos (by rw [b]) (Ev.now _)))

end Go.Proofs.Ytbhkinfdilngiaa.Pure

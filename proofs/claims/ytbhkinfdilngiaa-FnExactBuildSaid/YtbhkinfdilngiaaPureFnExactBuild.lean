/- The law FnExactBuild answers true at every list, pieces and width: the program's Build is the reference's, and writes into no argument; no condition beyond what the row itself reads. -/
import Derived.Test.YtbhkinfdilngiaaGFnExactBuildx
import Derived.Test.YtbhkinfdilngiaaM
namespace Go.Proofs.Ytbhkinfdilngiaa.Pure
open Go.RowKit Go.Proofs.Ytbhkinfdilngiaa.PFnExactBuild Go.Proofs.Ytbhkinfdilngiaa.M Go.Proofs.YtbhkinfdilngiaaW.PrintWords Go.Proofs.YtbhkinfdilngiaaW.PrintLast Go.Proofs.YtbhkinfdilngiaaW.PrintMore
set_option linter.unusedVariables false
set_option linter.unusedSimpArgs false

/-! ### Sums of 64 bits: spec_l1Sum64, impl_sum64 -/
theorem l1Sum64_l (s : ByteArray) (hs : s.size ≤ 4611686018427387904) : ∀ (n : Nat) (h i : Int), 0 ≤ i → i + n = s.size → Ev (fun k => spec_l1Sum64.l0 k s h i) (fnv s n h i)
  | 0, h, i, h0, h1 => by
    refine Ev.step (fun k => by rw [spec_l1Sum64.l0]) ?_
    exact ev_neg (by omega) (Ev.now _)
  | n + 1, h, i, h0, h1 => by
    refine Ev.step (fun k => by rw [spec_l1Sum64.l0]) ?_
    refine ev_pos (by omega) (ev_pos h0 ?_)
    rw [w64 (by omega) (by omega)]
    exact l1Sum64_l s hs n _ (i + 1) (by omega) (by omega)
theorem l1Sum64_ev (s : ByteArray) (hs : s.size ≤ 4611686018427387904) : Ev (fun k => spec_l1Sum64.f k s) (sum64 s) :=
  l1Sum64_l s hs s.size _ 0 (by omega) (by omega)
theorem sum64_l (s : ByteArray) (hs : s.size ≤ 4611686018427387904) : ∀ (n : Nat) (h i : Int), 0 ≤ i → i + n = s.size → Ev (fun k => impl_sum64.l0 k s h i) (fnv s n h i)
  | 0, h, i, h0, h1 => by
    refine Ev.step (fun k => by rw [impl_sum64.l0]) ?_
    exact ev_neg (by omega) (Ev.now _)
  | n + 1, h, i, h0, h1 => by
    refine Ev.step (fun k => by rw [impl_sum64.l0]) ?_
    refine ev_pos (by omega) (ev_pos h0 ?_)
    rw [w64 (by omega) (by omega)]
    exact sum64_l s hs n _ (i + 1) (by omega) (by omega)
theorem sum64_ev (s : ByteArray) (hs : s.size ≤ 4611686018427387904) : Ev (fun k => impl_sum64.f k s) (sum64 s) :=
  sum64_l s hs s.size _ 0 (by omega) (by omega)

/-! ### Sums: spec_l1In, spec_l1Width, spec_l1Sum64, spec_l1Bytes, spec_Sum; impl_widthOk, impl_sum64, impl_Sum -/
theorem l1In_is (a b c : Int) : spec_l1In.f a b c = some (decide (b ≤ a ∧ a ≤ c)) := by
  unfold spec_l1In.f
  by_cases h : b ≤ a <;> simp [h]
theorem l1Width_is (w : Int) : spec_l1Width.f w = some (decide (1 ≤ w ∧ w ≤ 8)) := by
  unfold spec_l1Width.f; rw [l1In_is]; rfl
theorem widthOk_is (w : Int) : impl_widthOk.f w = some (decide (1 ≤ w ∧ w ≤ 8)) := by
  unfold impl_widthOk.f
  by_cases h : 1 ≤ w <;> simp [h]
theorem l1Bytes_l : ∀ (n : Nat) (h w i : Int) (out : ByteArray), 0 ≤ i → i + n = w → w ≤ 8 → 0 ≤ h → h < 18446744073709551616 → out.size + n ≤ 8 →
    Ev (fun k => spec_l1Bytes.l0 k h w out i) (strOfNums (beBytes n h) ++ out)
  | 0, h, w, i, out, h0, h1, h2, h3, h4, h5 => by
    refine Ev.step (fun k => by rw [spec_l1Bytes.l0]) ?_
    refine ev_neg (by omega) ?_
    exact ev_now (by rw [show strOfNums (beBytes 0 h) = (⟨#[]⟩ : ByteArray) from rfl, em_app])
  | n + 1, h, w, i, out, h0, h1, h2, h3, h4, h5 => by
    refine Ev.step (fun k => by rw [spec_l1Bytes.l0]) ?_
    refine ev_pos (by omega) ?_
    refine ev_some ?_
    have e1 : Int.tmod h 256 % 256 = h % 256 := by rw [Int.tmod_eq_emod_of_nonneg h3]; omega
    have e2 : IntKind.u64.wrap (Int.tdiv h 256) = h / 256 := by rw [Int.tdiv_eq_ediv_of_nonneg h3, u64w]; omega
    have sz : (strOfNums [Int.tmod h 256 % 256]).size = 1 := by rw [son_size]; rfl
    refine ev_pos (by rw [sz]; omega) ?_
    rw [e1, e2, w64 (by omega) (by omega)]
    refine ev_cast ?_ (l1Bytes_l n (h / 256) w (i + 1) _ (by omega) (by omega) h2 (by omega) (by omega) (by rw [ap_size, son_size]; simp only [List.length_cons, List.length_nil]; omega))
    rw [beBytes, ← ByteArray.append_assoc, son_app]
theorem specSum_ev (s : ByteArray) (w : Int) (hs : s.size ≤ 4611686018427387904) : Ev (fun k => spec_Sum.f k s w) (sumT s w) := by
  unfold spec_Sum.f
  refine ev_bindc (l1Width_is w) ?_
  by_cases h : 1 ≤ w ∧ w ≤ 8
  · refine ev_pos (by simp [h]) ?_
    refine Ev.bind (l1Sum64_ev s hs) ?_
    have z := sum64_range s
    refine Ev.bind (f := fun k t => some t) (l1Bytes_l w.toNat (sum64 s) w 0 ⟨#[]⟩ (by omega) (by omega) h.2 z.1 z.2 (by show 0 + _ ≤ _; omega)) ?_
    exact ev_now (by rw [app_em]; unfold sumT; rw [if_pos h])
  · refine ev_neg (by simp [h]) ?_
    exact ev_now (by unfold sumT; rw [if_neg h])
theorem implSum_l (h : Int) (h0 : 0 ≤ h) (h1 : h < 18446744073709551616) (w : Nat) (hw : w ≤ 8) : ∀ (n : Nat) (i : Int) (xs : List Int), 0 ≤ i → i + n = w → xs.length = w →
    Ev (fun k => impl_Sum.l0 k w h xs w i) (strOfNums (xs.take i.toNat ++ (beBytes w h).drop i.toNat))
  | 0, i, xs, i0, i1, hx => by
    refine Ev.step (fun k => by rw [impl_Sum.l0]) ?_
    refine ev_neg (by omega) (ev_now ?_)
    rw [List.take_of_length_le (by omega), List.drop_eq_nil_of_le (by rw [beBytes_length]; omega), List.append_nil]
  | n + 1, i, xs, i0, i1, hx => by
    refine Ev.step (fun k => by rw [impl_Sum.l0]) ?_
    rw [w64 (n := (w : Int) - 1) (by omega) (by omega), w64 (n := (w : Int) - 1 - i) (by omega) (by omega), w64 (n := 8 * ((w : Int) - 1 - i)) (by omega) (by omega), w64 (n := i + 1) (by omega) (by omega)]
    refine ev_pos (by omega) (ev_pos (by omega) (ev_pos i0 (ev_pos (by omega) ?_)))
    refine ev_cast ?_ (implSum_l h h0 h1 w hw n (i + 1) _ (by omega) (by omega) (by simpa using hx))
    congr 1
    have e : shr .u64 h (8 * ((w : Int) - 1 - i)) % 256 = h / 256 ^ (w - 1 - i.toNat) % 256 := by
      unfold shr
      rw [show (8 * ((w : Int) - 1 - i)).toNat = 8 * (w - 1 - i.toNat) by omega, show IntKind.u64.bits = 64 from rfl, Nat.min_eq_left (by omega), Int.pow_mul]
      rfl
    rw [e, show (i + 1).toNat = i.toNat + 1 by omega]
    have g := beBytes_get w h i.toNat (by omega)
    generalize h / 256 ^ (w - 1 - i.toNat) % 256 = b at g
    rw [List.take_set, List.take_add_one, List.set_append, List.length_take]
    rw [if_neg (by omega)]
    rw [show i.toNat - min i.toNat xs.length = 0 by omega, List.getElem?_eq_getElem (by omega)]
    simp only [Option.toList_some, List.set_cons_zero, List.append_assoc, List.singleton_append]
    congr 1
    obtain ⟨hb, e2⟩ := List.getElem?_eq_some_iff.1 g
    rw [← e2]; exact (List.drop_eq_getElem_cons hb).symm
theorem implSum_ev (s : ByteArray) (w : Int) (hs : s.size ≤ 4611686018427387904) : Ev (fun k => impl_Sum.f k s w) (sumT s w) := by
  unfold impl_Sum.f
  refine ev_bindc (widthOk_is w) ?_
  by_cases h : 1 ≤ w ∧ w ≤ 8
  · refine ev_pos (by simp [h]) ?_
    refine Ev.bind (sum64_ev s hs) ?_
    refine ev_pos (by omega) (ev_pos (by omega) (ev_some ?_))
    have z := sum64_range s
    obtain ⟨m, rfl⟩ : ∃ m : Nat, w = m := ⟨w.toNat, by omega⟩
    have e : (((List.replicate (m : Int).toNat (0 : Int)).length : Nat) : Int) = m := by simp
    rw [e]
    refine ev_cast ?_ (implSum_l (sum64 s) z.1 z.2 m (by omega) m 0 _ (by omega) (by omega) (by simp))
    unfold sumT; rw [if_pos h]; simp
  · refine ev_neg (by simp [h]) ?_
    exact ev_now (by unfold sumT; rw [if_neg h])

/-! ### Pieces: spec_l2Ends, spec_Pieces, impl_Pieces -/
theorem l2Ends_ev (p : ByteArray) (hp : p.size ≤ 4611686018427387904) : Ev (fun k => spec_l2Ends.f k p) (endsP p) := by
  unfold spec_l2Ends.f endsP
  by_cases h : p.size < 8
  · rw [if_pos h]; exact ev_pos (by omega) (Ev.now _)
  · rw [if_neg h]
    refine ev_neg (by omega) ?_
    by_cases h2 : 64 ≤ p.size
    · rw [if_pos h2]; exact ev_pos (by omega) (Ev.now _)
    · rw [if_neg h2]
      refine ev_neg (by omega) ?_
      rw [w64 (by omega) (by omega)]
      refine ev_pos (by omega) (ev_pos (by omega) ?_)
      rw [show ((p.size : Int) - 8).toNat = p.size - 8 by omega]
      refine Ev.bind (l1Sum64_ev _ (by rw [ex_size]; omega)) (ev_now ?_)
      have z := sum64_range (p.extract (p.size - 8) p.size)
      rw [Int.tmod_eq_emod_of_nonneg z.1]
      rfl
theorem specPieces_l (s : ByteArray) (hs : s.size ≤ 3000) : ∀ (n a i : Nat) (acc : List ByteArray), a ≤ i → i + n = s.size → acc.length + n ≤ 3000 →
    Ev (fun k => spec_Pieces.l0 k s acc a ((i : Int) + 1)) (acc ++ cutAt s n a i)
  | 0, a, i, acc, h0, h1, h2 => by
    refine Ev.step (fun k => by rw [spec_Pieces.l0]) ?_
    refine ev_neg (by omega) (ev_now ?_)
    rw [cutAt, List.append_nil]
  | n + 1, a, i, acc, h0, h1, h2 => by
    refine Ev.step (fun k => by rw [spec_Pieces.l0]) ?_
    refine ev_pos (by omega) (ev_pos (by omega) (ev_pos (by omega) ?_))
    rw [show ((a : Int)).toNat = a by omega, show ((i : Int) + 1).toNat = i + 1 by omega, w64 (by omega) (by omega)]
    refine Ev.bind (l2Ends_ev _ (by rw [ex_size]; omega)) ?_
    rw [cutAt]
    by_cases e : endsP (s.extract a (i + 1)) = true
    · refine ev_pos e (ev_pos (by omega) ?_)
      rw [if_pos (Or.inl e)]
      refine ev_cast ?_ (specPieces_l s hs n (i + 1) (i + 1) _ (by omega) (by omega) (by simp; omega))
      simp
    · refine ev_neg e ?_
      by_cases e2 : i + 1 = s.size
      · refine ev_pos (by omega) (ev_pos (by omega) ?_)
        rw [if_pos (Or.inr e2)]
        refine ev_cast ?_ (specPieces_l s hs n (i + 1) (i + 1) _ (by omega) (by omega) (by simp; omega))
        simp
      · refine ev_neg (by omega) ?_
        rw [if_neg (by rintro (h | h) <;> contradiction)]
        exact specPieces_l s hs n a (i + 1) acc (by omega) (by omega) (by omega)
theorem specPieces_ev (s : ByteArray) : Ev (fun k => spec_Pieces.f k s) (pieces s) := by
  unfold spec_Pieces.f pieces
  refine ev_some ?_
  by_cases h : s.size > 3000
  · rw [if_pos h]; exact ev_pos (by omega) (Ev.now _)
  · rw [if_neg h]
    refine ev_neg (by omega) ?_
    exact ev_cast (by simp) (specPieces_l s (by omega) s.size 0 0 [] (by omega) (by omega) (by simp; omega))
theorem implPieces_l (s : ByteArray) (hs : s.size ≤ 3000) : ∀ (n a i : Nat) (acc : List ByteArray), a ≤ i → i < a + 64 → i + n = s.size → acc.length + n < 3000 + 1 →
    Ev (fun k => impl_Pieces.l0 k s acc a s.size i) (acc ++ (if n = 0 then (if a < s.size then [s.extract a s.size] else []) else cutAt s n a i))
  | 0, a, i, acc, h0, h3, h1, h2 => by
    refine Ev.step (fun k => by rw [impl_Pieces.l0]) ?_
    refine ev_neg (by omega) ?_
    rw [if_pos rfl]
    by_cases e : a < s.size
    · refine ev_pos (by omega) (ev_pos (by omega) (ev_pos (by omega) (ev_pos (by omega) (ev_now ?_))))
      rw [if_pos e]; rfl
    · exact ev_neg (by omega) (ev_now (by rw [if_neg e, List.append_nil]))
  | n + 1, a, i, acc, h0, h3, h1, h2 => by
    refine Ev.step (fun k => by rw [impl_Pieces.l0]) ?_
    refine ev_pos (by omega) ?_
    rw [w64 (n := (i : Int) + 1) (by omega) (by omega), w64 (n := (i : Int) + 1 - a) (by omega) (by omega), w64 (n := (i : Int) + 1 - 8) (by omega) (by omega)]
    rw [show ((a : Int)).toNat = a by omega, show ((i : Int) + 1).toNat = i + 1 by omega]
    have sz : (s.extract a (i + 1)).size = i + 1 - a := by rw [ex_size]; omega
    have cutc : endsP (s.extract a (i + 1)) = true → (n = 0 → i + 1 = s.size) → acc.length < 8796093022208 ∧
        Ev (fun k => impl_Pieces.l0 k s (acc ++ [s.extract a (i + 1)]) ((i : Int) + 1) s.size ((i : Int) + 1)) (acc ++ (if n + 1 = 0 then (if a < s.size then [s.extract a s.size] else []) else cutAt s (n + 1) a i)) := by
      intro e hn
      refine ⟨by omega, ?_⟩
      refine ev_cast ?_ (implPieces_l s hs n (i + 1) (i + 1) _ (by omega) (by omega) (by omega) (by simp; omega))
      rw [if_neg (Nat.succ_ne_zero n), cutAt, if_pos (Or.inl e)]
      by_cases n0 : n = 0
      · rw [if_pos n0, if_neg (by omega)]; subst n0; simp [cutAt]
      · rw [if_neg n0]; simp
    have nocut : ¬ endsP (s.extract a (i + 1)) = true →
        Ev (fun k => impl_Pieces.l0 k s acc a s.size ((i : Int) + 1)) (acc ++ (if n + 1 = 0 then (if a < s.size then [s.extract a s.size] else []) else cutAt s (n + 1) a i)) := by
      intro e
      have hlt : i + 1 < a + 64 := by
        by_cases z : i + 1 < a + 64
        · exact z
        · exact absurd (by unfold endsP; rw [sz, if_neg (by omega), if_pos (by omega)]) e
      refine ev_cast ?_ (implPieces_l s hs n a (i + 1) acc (by omega) hlt (by omega) (by omega))
      rw [if_neg (Nat.succ_ne_zero n), cutAt]
      by_cases n0 : n = 0
      · rw [if_pos n0, if_pos (by omega)]; subst n0
        rw [if_pos (Or.inr (by omega)), cutAt, show i + 1 = s.size by omega]
      · rw [if_neg n0, if_neg (by rintro (h | h); exact e h; omega)]
    by_cases e64 : i + 1 = a + 64
    · refine ev_pos (by omega) ?_
      obtain ⟨g1, g2⟩ := cutc (by unfold endsP; rw [sz, if_neg (by omega), if_pos (by omega)]) (by omega)
      exact ev_pos (by omega) (ev_pos (by omega) (ev_pos (by omega) (ev_pos g1 g2)))
    · refine ev_neg (by omega) ?_
      by_cases e8 : i + 1 < a + 8
      · refine ev_neg (by omega) ?_
        exact nocut (by unfold endsP; rw [sz, if_pos (by omega)]; simp)
      · refine ev_pos (by omega) (ev_pos (by omega) (ev_pos (by omega) (ev_pos (by omega) ?_)))
        rw [show ((i : Int) + 1 - 8).toNat = i + 1 - 8 by omega]
        refine Ev.bind (sum64_ev _ (by rw [ex_size]; omega)) ?_
        have z := sum64_range (s.extract (i + 1 - 8) (i + 1))
        rw [Int.tmod_eq_emod_of_nonneg z.1]
        have ee : endsP (s.extract a (i + 1)) = decide (sum64 (s.extract (i + 1 - 8) (i + 1)) % 16 = 0) := by
          unfold endsP
          rw [sz, if_neg (by omega), if_neg (by omega), ex_ex, show a + (i + 1 - a - 8) = i + 1 - 8 by omega, show min (a + (i + 1 - a)) (i + 1) = i + 1 by omega]
        by_cases e : sum64 (s.extract (i + 1 - 8) (i + 1)) % 16 = 0
        · obtain ⟨g1, g2⟩ := cutc (by rw [ee]; simpa using e) (by omega)
          exact ev_pos e (ev_pos (by omega) (ev_pos (by omega) (ev_pos g1 g2)))
        · exact ev_neg e (nocut (by rw [ee]; simpa using e))
theorem implPieces_ev (s : ByteArray) : Ev (fun k => impl_Pieces.f k s) (pieces s) := by
  unfold impl_Pieces.f pieces
  by_cases h : s.size > 3000
  · rw [if_pos h]; exact ev_pos (by omega) (Ev.now _)
  · rw [if_neg h]
    refine ev_neg (by omega) ?_
    refine ev_cast ?_ (implPieces_l s (by omega) s.size 0 0 [] (by omega) (by omega) (by omega) (by simp; omega))
    by_cases z : s.size = 0
    · rw [if_pos z, if_neg (by omega), z, cutAt]; rfl
    · rw [if_neg z]; rfl

/-! ### Two lists of texts: laws_eqStringS -/
theorem laws_eqStringS_l (l0 l1 : List ByteArray) (hl : l0.length ≤ 4611686018427387904) (he : l0.length = l1.length) : ∀ (n : Nat) (i : Int), 0 ≤ i → i + n = l0.length →
    Ev (fun k => laws_eqStringS.l0 k l0 l1 i) (decide (l0.drop i.toNat = l1.drop i.toNat))
  | 0, i, h0, h1 => by
    refine Ev.step (fun k => by rw [laws_eqStringS.l0]) ?_
    refine ev_neg (by omega) (ev_now ?_)
    rw [List.drop_eq_nil_of_le (by omega), List.drop_eq_nil_of_le (by omega)]; simp
  | n + 1, i, h0, h1 => by
    refine Ev.step (fun k => by rw [laws_eqStringS.l0]) ?_
    refine ev_pos (by omega) (ev_pos h0 (ev_pos (by omega) ?_))
    rw [w64 (by omega) (by omega)]
    have d0 : l0.drop i.toNat = rdOf ByteArray.empty l0 i :: l0.drop (i + 1).toNat := by
      rw [List.drop_eq_getElem_cons (by omega), show (i + 1).toNat = i.toNat + 1 by omega]
      unfold rdOf; rw [List.getD_eq_getElem?_getD, List.getElem?_eq_getElem (by omega)]; rfl
    have d1 : l1.drop i.toNat = rdOf ByteArray.empty l1 i :: l1.drop (i + 1).toNat := by
      rw [List.drop_eq_getElem_cons (by omega), show (i + 1).toNat = i.toNat + 1 by omega]
      unfold rdOf; rw [List.getD_eq_getElem?_getD, List.getElem?_eq_getElem (by omega)]; rfl
    rw [d0, d1]
    by_cases e : rdOf ByteArray.empty l0 i = rdOf ByteArray.empty l1 i
    · refine ev_pos (ba_eq.2 e) ?_
      refine ev_cast ?_ (laws_eqStringS_l l0 l1 hl he n (i + 1) (by omega) (by omega))
      rw [e]; simp
    · refine ev_neg (fun h => e (ba_eq.1 h)) (ev_now ?_)
      simp [e]
theorem laws_eqStringS_ev (l0 l1 : List ByteArray) (hl : l0.length ≤ 4611686018427387904) : Ev (fun k => laws_eqStringS.f k l0 l1) (decide (l0 = l1)) := by
  unfold laws_eqStringS.f
  by_cases e : l0.length = l1.length
  · refine ev_pos (by omega) ?_
    exact ev_cast (by simp) (laws_eqStringS_l l0 l1 hl e l0.length 0 (by omega) (by omega))
  · refine ev_neg (by omega) (ev_now ?_)
    have : l0 ≠ l1 := fun h => e (by rw [h])
    simp [this]
theorem laws_eqStringS_same (l0 : List ByteArray) (hl : l0.length ≤ 4611686018427387904) : Ev (fun k => laws_eqStringS.f k l0 l0) true := ev_cast (by simp) (laws_eqStringS_ev l0 l0 hl)

/-! ### Sizes and copies of lists of texts: laws_szStringS, laws_toStringS -/
theorem szStringS_l (l : List ByteArray) (hl : l.length ≤ maxLen) (hs : ∀ x ∈ l, x.size ≤ maxLen) : ∀ (n i : Nat) (left : Int), i + n = l.length → 0 ≤ left → left ≤ 1048576 → l.length ≤ 1048576 →
    ∃ r, Ev (fun k => laws_szStringS.l0 k l left i) r ∧ (r < 0 ∨ (0 ≤ r ∧ r ≤ left ∧ ∀ x ∈ l.drop i, (x.size : Int) ≤ left))
  | 0, i, left, h0, h1, h2, h3 => by
    refine ⟨left, Ev.step (fun k => by rw [laws_szStringS.l0]) (ev_neg (by omega) (Ev.now _)), Or.inr ⟨h1, Int.le_refl _, ?_⟩⟩
    rw [List.drop_eq_nil_of_le (by omega)]; simp
  | n + 1, i, left, h0, h1, h2, h3 => by
    have e : rdOf ByteArray.empty l (i : Int) = l.getD i ByteArray.empty := rfl
    have hx := hs _ (getD_mem ByteArray.empty l i (by omega))
    have dg := drop_get ByteArray.empty l i (by omega)
    have hm : maxLen = 9223372036854775807 := rfl
    generalize l.getD i ByteArray.empty = x at e hx dg
    by_cases c : left - (x.size : Int) < 0
    · refine ⟨-1, Ev.step (fun k => by rw [laws_szStringS.l0]) (ev_pos (by omega) (ev_pos (by omega) ?_)), Or.inl (by omega)⟩
      rw [e, w64 (n := left - (x.size : Int)) (by omega) (by omega)]
      exact ev_pos c (Ev.now _)
    · obtain ⟨r, hr, hq⟩ := szStringS_l l hl hs n (i + 1) (left - x.size) (by omega) (by omega) (by omega) h3
      refine ⟨r, Ev.step (fun k => by rw [laws_szStringS.l0]) (ev_pos (by omega) (ev_pos (by omega) ?_)), ?_⟩
      · rw [e, w64 (n := left - (x.size : Int)) (by omega) (by omega), show wrap64 ((i : Int) + 1) = ((i + 1 : Nat) : Int) by rw [w64 (by omega) (by omega)]; omega]
        exact ev_neg c hr
      · rcases hq with hq | ⟨q0, q1, q2⟩
        · exact Or.inl hq
        · refine Or.inr ⟨q0, by omega, ?_⟩
          rw [dg]; intro y hy
          rcases List.mem_cons.1 hy with rfl | hy
          · omega
          · have := q2 y hy; omega
theorem szStringS_ev (l : List ByteArray) (left : Int) (hl : l.length ≤ maxLen) (hs : ∀ x ∈ l, x.size ≤ maxLen) (h1 : 0 ≤ left) (h2 : left ≤ 1048576) :
    ∃ r, Ev (fun k => laws_szStringS.f k l left) r ∧ (r < 0 ∨ (0 ≤ r ∧ r ≤ left ∧ (l.length : Int) ≤ left ∧ ∀ x ∈ l, (x.size : Int) ≤ left)) := by
  have hm : maxLen = 9223372036854775807 := rfl
  unfold laws_szStringS.f
  rw [w64 (n := left - (l.length : Int)) (by omega) (by omega)]
  by_cases c : left - (l.length : Int) < 0
  · exact ⟨-1, ev_pos c (Ev.now _), Or.inl (by omega)⟩
  · obtain ⟨r, hr, hq⟩ := szStringS_l l hl hs l.length 0 (left - l.length) (by omega) (by omega) (by omega) (by omega)
    refine ⟨r, ev_neg c hr, ?_⟩
    rcases hq with hq | ⟨q0, q1, q2⟩
    · exact Or.inl hq
    · exact Or.inr ⟨q0, by omega, by omega, fun x hx => by have := q2 x (by simpa using hx); omega⟩
theorem toStringS_l (l : List ByteArray) (hl : l.length ≤ 1048576) : ∀ (n i : Nat) (ys : List ByteArray), i + n = l.length → ys.length = l.length → ys.take i = l.take i → Ev (fun k => laws_toStringS.l0 k l ys i) l
  | 0, i, ys, h0, h1, h2 => by
    refine Ev.step (fun k => by rw [laws_toStringS.l0]) (ev_neg (by omega) (ev_now ?_))
    rw [List.take_of_length_le (by omega), List.take_of_length_le (by omega)] at h2; exact h2
  | n + 1, i, ys, h0, h1, h2 => by
    refine Ev.step (fun k => by rw [laws_toStringS.l0]) (ev_pos (by omega) (ev_pos (by omega) (ev_pos (by omega) ?_)))
    have e : rdOf ByteArray.empty l (i : Int) = l.getD i ByteArray.empty := rfl
    rw [e, Int.toNat_natCast, show wrap64 ((i : Int) + 1) = ((i + 1 : Nat) : Int) by rw [w64 (by omega) (by omega)]; omega]
    exact toStringS_l l hl n (i + 1) _ (by omega) (by simpa using h1) (take_set _ l ys i (by omega) h1 h2)
theorem toStringS_ev (l : List ByteArray) (hl : l.length ≤ 1048576) : Ev (fun k => laws_toStringS.f k l) l := by
  unfold laws_toStringS.f
  refine ev_pos (by omega) (ev_pos (by omega) ?_)
  exact toStringS_l l hl l.length 0 _ (by omega) (by simp) (by simp)

/-! ### Lists: spec_Describe, impl_describe, impl_Describe -/
theorem specDescribe_l (w sz : Int) (ps : List ByteArray) (hp : ∀ p ∈ ps, p.size ≤ 4611686018427387904) (hl : ps.length ≤ 4000) : ∀ (n i : Nat) (acc : List ByteArray), i + n = ps.length → acc.length + n ≤ 4000 →
    Ev (fun k => spec_Describe.l0 k w ps i sz acc) (sz, acc ++ (ps.drop i).map fun p => sumT p w)
  | 0, i, acc, h0, h1 => by
    refine Ev.step (fun k => by rw [spec_Describe.l0]) (ev_neg (by omega) (ev_now ?_))
    rw [List.drop_eq_nil_of_le (by omega)]; simp
  | n + 1, i, acc, h0, h1 => by
    refine Ev.step (fun k => by rw [spec_Describe.l0]) (ev_pos (by omega) (ev_pos (by omega) ?_))
    have e : rdOf ByteArray.empty ps (i : Int) = ps.getD i ByteArray.empty := rfl
    rw [e, show wrap64 ((i : Int) + 1) = ((i + 1 : Nat) : Int) by rw [w64 (by omega) (by omega)]; omega]
    refine Ev.bind (specSum_ev _ w (hp _ (getD_mem _ _ _ (by omega)))) (ev_pos (by omega) ?_)
    refine ev_cast ?_ (specDescribe_l w sz ps hp hl n (i + 1) _ (by omega) (by simp; omega))
    rw [drop_get ByteArray.empty ps i (by omega)]; simp
theorem specDescribe_ev (s : ByteArray) (w : Int) : Ev (fun k => spec_Describe.f k s w) (descr s w) := by
  unfold spec_Describe.f descr
  refine ev_bindc (l1Width_is w) ?_
  by_cases h : 1 ≤ w ∧ w ≤ 8
  · refine ev_pos (by simp [h]) ?_
    refine Ev.step (fun k => by rw [spec_Describe.j0]) ?_
    by_cases z : s.size ≤ 3000
    · refine ev_neg (by simp; omega) (Ev.bind (specPieces_ev s) ?_)
      rw [if_pos ⟨h, z⟩]
      have := specDescribe_l w s.size (pieces s) (fun p hp => by have := pieces_size s p hp; omega) (by have := pieces_length s; omega) (pieces s).length 0 [] (by omega) (by have := pieces_length s; simp; omega)
      exact ev_cast (by simp) this
    · refine ev_pos (by simp; omega) (ev_now ?_)
      rw [if_neg (fun e => z e.2)]
  · refine ev_neg (by simp [h]) (Ev.step (fun k => by rw [spec_Describe.j0]) (ev_pos rfl (ev_now ?_)))
    rw [if_neg (fun e => h e.1)]
theorem implDescribe_l (w sz : Int) (ps : List ByteArray) (hp : ∀ p ∈ ps, p.size ≤ 4611686018427387904) (hl : ps.length ≤ 4000) : ∀ (n i : Nat) (acc : List ByteArray), i + n = ps.length → acc.length + n ≤ 4000 →
    Ev (fun k => impl_describe.l0 k w ps ps.length i sz acc) (sz, acc ++ (ps.drop i).map (fun p => sumT p w), true)
  | 0, i, acc, h0, h1 => by
    refine Ev.step (fun k => by rw [impl_describe.l0]) (ev_neg (by omega) (ev_now ?_))
    rw [List.drop_eq_nil_of_le (by omega)]; simp
  | n + 1, i, acc, h0, h1 => by
    refine Ev.step (fun k => by rw [impl_describe.l0]) (ev_pos (by omega) (ev_pos (by omega) (ev_pos (by omega) ?_)))
    have e : rdOf ByteArray.empty ps (i : Int) = ps.getD i ByteArray.empty := rfl
    rw [e, show wrap64 ((i : Int) + 1) = ((i + 1 : Nat) : Int) by rw [w64 (by omega) (by omega)]; omega]
    refine Ev.bind (implSum_ev _ w (hp _ (getD_mem _ _ _ (by omega)))) (ev_pos (by omega) ?_)
    refine ev_cast ?_ (implDescribe_l w sz ps hp hl n (i + 1) _ (by omega) (by simp; omega))
    rw [drop_get ByteArray.empty ps i (by omega)]; simp
theorem impldescribe_ev (s : ByteArray) (w : Int) : Ev (fun k => impl_describe.f k s w) ((descr s w).1, (descr s w).2, decide ((1 ≤ w ∧ w ≤ 8) ∧ s.size ≤ 3000)) := by
  unfold impl_describe.f descr
  by_cases z : s.size ≤ 3000
  · refine ev_neg (by omega) (ev_bindc (widthOk_is w) (Ev.step (fun k => by rw [impl_describe.j0]) ?_))
    by_cases h : 1 ≤ w ∧ w ≤ 8
    · refine ev_neg (by simp [h]) (Ev.bind (implPieces_ev s) ?_)
      rw [if_pos ⟨h, z⟩]
      have := implDescribe_l w s.size (pieces s) (fun p hp => by have := pieces_size s p hp; omega) (by have := pieces_length s; omega) (pieces s).length 0 [] (by omega) (by have := pieces_length s; simp; omega)
      exact ev_cast (by simp [h, z]) this
    · refine ev_pos (by simp [h]) (ev_now ?_)
      rw [if_neg (fun e => h e.1)]; simp [h]
  · refine ev_pos (by omega) (Ev.step (fun k => by rw [impl_describe.j0]) (ev_pos rfl (ev_now ?_)))
    rw [if_neg (fun e => z e.2)]; simp [z]
theorem implDescribe_ev (s : ByteArray) (w : Int) : Ev (fun k => impl_Describe.f k s w) (descr s w) := by
  unfold impl_Describe.f
  exact Ev.bind (impldescribe_ev s w) (Ev.now _)

/-! ### Texts behind each other: strings_Join -/
def joinT : List ByteArray → ByteArray
  | [] => ⟨#[]⟩
  | x :: l => x ++ joinT l
theorem joinT_data : ∀ l : List ByteArray, (joinT l).data.toList = (l.map (·.data.toList)).flatten
  | [] => rfl
  | x :: l => by rw [joinT, ByteArray.toList_data_append, joinT_data l]; rfl
theorem join_flat (xs : List (List UInt8)) : Go.Lib.join xs [] = xs.flatten := by
  cases xs with
  | nil => rfl
  | cons x r => rw [Go.Lib.join_cons]; unfold Go.Lib.joinTail; simp
theorem join_is (l : List ByteArray) (h : l.length ≤ 140737488355328) (h2 : (joinT l).size ≤ 140737488355328) : strings_Join.f l (⟨#[]⟩ : ByteArray) = some (joinT l) := by
  unfold strings_Join.f
  have e : Go.Lib.join (l.map (·.data.toList)) ((⟨#[]⟩ : ByteArray).data.toList) = (joinT l).data.toList := by
    rw [joinT_data]; exact join_flat _
  rw [e, if_pos ⟨h, by rw [ba_size]; exact h2⟩]
theorem son_bytes (x : ByteArray) : strOfNums (bytesOf x) = x := by
  apply ba_ext
  rw [son_data]
  unfold bytesOf
  rw [List.map_map]
  conv => rhs; rw [← List.map_id x.data.toList]
  apply List.map_congr_left
  intro a _
  simp
theorem bytesOf_length (x : ByteArray) : (bytesOf x).length = x.size := by
  unfold bytesOf
  rw [List.length_map]; exact ba_size x
theorem ba_assoc (a b c : ByteArray) : (a ++ b) ++ c = a ++ (b ++ c) := by
  apply ba_ext
  rw [ByteArray.toList_data_append, ByteArray.toList_data_append, ByteArray.toList_data_append, ByteArray.toList_data_append, List.append_assoc]
theorem joinT_size (N : Nat) : ∀ l : List ByteArray, (∀ x ∈ l, x.size ≤ N) → (joinT l).size ≤ N * l.length
  | [], _ => Nat.zero_le _
  | x :: l, h => by
    have h1 := h x List.mem_cons_self
    have ih := joinT_size N l (fun y hy => h y (List.mem_cons_of_mem _ hy))
    rw [joinT, ap_size, List.length_cons, Nat.mul_add, Nat.mul_one]; omega

/-! ### Lists: spec_l3Ok, impl_listOk, spec_l3Same, impl_sameList -/
def listOk (size : Int) (sums : List ByteArray) (w : Int) : Bool := decide (1 ≤ w ∧ w ≤ 8) && (decide (0 ≤ size ∧ size ≤ 3000) && (decide (sums.length ≤ 375) && sums.all fun s => decide ((s.size : Int) = w)))
theorem l3Ok_l (size w : Int) (l : List ByteArray) (hl : l.length ≤ 1048576) : ∀ (n i : Nat), i + n = l.length → Ev (fun k => spec_l3Ok.l0 k w i size l) ((l.drop i).all fun s => decide ((s.size : Int) = w))
  | 0, i, h0 => by
    refine Ev.step (fun k => by rw [spec_l3Ok.l0]) (ev_neg (by omega) (ev_now ?_))
    rw [List.drop_eq_nil_of_le (by omega)]; rfl
  | n + 1, i, h0 => by
    have ih := l3Ok_l size w l hl n (i + 1) (by omega)
    have e : rdOf ByteArray.empty l (i : Int) = l.getD i ByteArray.empty := rfl
    have dg := drop_get ByteArray.empty l i (by omega)
    refine Ev.step (fun k => by rw [spec_l3Ok.l0]) (ev_pos (by omega) (ev_pos (by omega) ?_))
    rw [e, dg, List.all_cons, show wrap64 ((i : Int) + 1) = ((i + 1 : Nat) : Int) by rw [w64 (by omega) (by omega)]; omega]
    generalize l.getD i ByteArray.empty = x
    by_cases c : (x.size : Int) = w
    · exact ev_pos c (ev_cast (by rw [decide_eq_true c]; rfl) ih)
    · exact ev_neg c (ev_now (by rw [decide_eq_false c]; rfl))
theorem listOk_l (w : Int) (l : List ByteArray) (hl : l.length ≤ 1048576) : ∀ (n i : Nat), i + n = l.length → Ev (fun k => impl_listOk.l0 k w l l.length i) ((l.drop i).all fun s => decide ((s.size : Int) = w))
  | 0, i, h0 => by
    refine Ev.step (fun k => by rw [impl_listOk.l0]) (ev_neg (by omega) (ev_now ?_))
    rw [List.drop_eq_nil_of_le (by omega)]; rfl
  | n + 1, i, h0 => by
    have ih := listOk_l w l hl n (i + 1) (by omega)
    have e : rdOf ByteArray.empty l (i : Int) = l.getD i ByteArray.empty := rfl
    have dg := drop_get ByteArray.empty l i (by omega)
    refine Ev.step (fun k => by rw [impl_listOk.l0]) (ev_pos (by omega) (ev_pos (by omega) (ev_pos (by omega) ?_)))
    rw [e, dg, List.all_cons, show wrap64 ((i : Int) + 1) = ((i + 1 : Nat) : Int) by rw [w64 (by omega) (by omega)]; omega]
    generalize l.getD i ByteArray.empty = x
    by_cases c : (x.size : Int) = w
    · exact ev_pos c (ev_cast (by rw [decide_eq_true c]; rfl) ih)
    · exact ev_neg c (ev_now (by rw [decide_eq_false c]; rfl))
theorem l3Ok_ev (size w : Int) (l : List ByteArray) (hl : l.length ≤ 1048576) : Ev (fun k => spec_l3Ok.f k size l w) (listOk size l w) := by
  have no : Ev (fun k => spec_l3Ok.j0 k w true size l) false := Ev.step (fun k => by rw [spec_l3Ok.j0]) (ev_pos rfl (Ev.now _))
  unfold spec_l3Ok.f listOk
  refine ev_bindc (l1Width_is w) ?_
  by_cases c : 1 ≤ w ∧ w ≤ 8
  · rw [decide_eq_true c]
    refine ev_pos rfl (ev_bindc (l1In_is _ _ _) ?_)
    by_cases d : 0 ≤ size ∧ size ≤ 3000
    · rw [decide_eq_true d]
      refine ev_pos rfl ?_
      by_cases e : l.length ≤ 375
      · refine Ev.step (fun k => by rw [spec_l3Ok.j0]) (ev_neg (by simp; omega) ?_)
        refine ev_cast ?_ (l3Ok_l size w l hl l.length 0 (by omega))
        rw [decide_eq_true e]; simp
      · refine Ev.step (fun k => by rw [spec_l3Ok.j0]) (ev_pos (by simp; omega) (ev_now ?_))
        rw [decide_eq_false e]; rfl
    · rw [decide_eq_false d]
      exact ev_neg (by simp) (ev_cast rfl no)
  · rw [decide_eq_false c]
    exact ev_neg (by simp) (ev_cast rfl no)
theorem listOk_ev (size w : Int) (l : List ByteArray) (hl : l.length ≤ 1048576) : Ev (fun k => impl_listOk.f k size l w) (listOk size l w) := by
  have no : Ev (fun k => impl_listOk.j0 k w true size l) false := Ev.step (fun k => by rw [impl_listOk.j0]) (ev_pos rfl (Ev.now _))
  unfold impl_listOk.f listOk
  refine ev_bindc (widthOk_is w) ?_
  by_cases c : 1 ≤ w ∧ w ≤ 8
  · rw [decide_eq_true c]
    refine ev_pos rfl ?_
    by_cases d : 0 ≤ size ∧ size ≤ 3000
    · rw [decide_eq_true d]
      refine ev_neg (by omega) (ev_neg (by omega) ?_)
      by_cases e : l.length ≤ 375
      · refine Ev.step (fun k => by rw [impl_listOk.j0]) (ev_neg (by simp; omega) ?_)
        refine ev_cast ?_ (listOk_l w l hl l.length 0 (by omega))
        rw [decide_eq_true e]; simp
      · refine Ev.step (fun k => by rw [impl_listOk.j0]) (ev_pos (by simp; omega) (ev_now ?_))
        rw [decide_eq_false e]; rfl
    · rw [decide_eq_false d]
      by_cases e : size < 0
      · exact ev_pos e no
      · exact ev_neg e (ev_pos (by omega) no)
  · rw [decide_eq_false c]
    exact ev_neg (by simp) (ev_cast rfl no)
theorem l3Same_l (a b : Int) (l m : List ByteArray) (hl : l.length ≤ 1048576) (he : l.length = m.length) : ∀ (n i : Nat), i + n = l.length → Ev (fun k => spec_l3Same.l0 k i a l b m) (decide (l.drop i = m.drop i))
  | 0, i, h0 => by
    refine Ev.step (fun k => by rw [spec_l3Same.l0]) (ev_neg (by omega) (ev_now ?_))
    rw [List.drop_eq_nil_of_le (by omega), List.drop_eq_nil_of_le (by omega)]; simp
  | n + 1, i, h0 => by
    have ih := l3Same_l a b l m hl he n (i + 1) (by omega)
    have e1 : rdOf ByteArray.empty l (i : Int) = l.getD i ByteArray.empty := rfl
    have e2 : rdOf ByteArray.empty m (i : Int) = m.getD i ByteArray.empty := rfl
    refine Ev.step (fun k => by rw [spec_l3Same.l0]) (ev_pos (by omega) (ev_pos (by omega) (ev_pos (by omega) ?_)))
    rw [e1, e2, drop_get ByteArray.empty l i (by omega), drop_get ByteArray.empty m i (by omega), show wrap64 ((i : Int) + 1) = ((i + 1 : Nat) : Int) by rw [w64 (by omega) (by omega)]; omega]
    generalize l.getD i ByteArray.empty = x
    generalize m.getD i ByteArray.empty = y
    by_cases c : x = y
    · refine ev_pos (by rw [c]) (ev_cast ?_ ih)
      simp [c]
    · refine ev_neg (fun z => c (ba_eq.1 z)) (ev_now ?_)
      simp [c]
theorem sameList_l (a b : Int) (l m : List ByteArray) (hl : l.length ≤ 1048576) (he : l.length = m.length) : ∀ (n i : Nat), i + n = l.length → Ev (fun k => impl_sameList.l0 k l.length i a l b m) (decide (l.drop i = m.drop i))
  | 0, i, h0 => by
    refine Ev.step (fun k => by rw [impl_sameList.l0]) (ev_neg (by omega) (ev_now ?_))
    rw [List.drop_eq_nil_of_le (by omega), List.drop_eq_nil_of_le (by omega)]; simp
  | n + 1, i, h0 => by
    have ih := sameList_l a b l m hl he n (i + 1) (by omega)
    have e1 : rdOf ByteArray.empty l (i : Int) = l.getD i ByteArray.empty := rfl
    have e2 : rdOf ByteArray.empty m (i : Int) = m.getD i ByteArray.empty := rfl
    refine Ev.step (fun k => by rw [impl_sameList.l0]) (ev_pos (by omega) (ev_pos (by omega) (ev_pos (by omega) (ev_pos (by omega) ?_))))
    rw [e1, e2, drop_get ByteArray.empty l i (by omega), drop_get ByteArray.empty m i (by omega), show wrap64 ((i : Int) + 1) = ((i + 1 : Nat) : Int) by rw [w64 (by omega) (by omega)]; omega]
    generalize l.getD i ByteArray.empty = x
    generalize m.getD i ByteArray.empty = y
    by_cases c : x = y
    · refine ev_pos (by rw [c]) (ev_cast ?_ ih)
      simp [c]
    · refine ev_neg (fun z => c (ba_eq.1 z)) (ev_now ?_)
      simp [c]
theorem l3Same_ev (a b : Int) (l m : List ByteArray) (hl : l.length ≤ 1048576) (hm : m.length ≤ 1048576) : Ev (fun k => spec_l3Same.f k a l b m) (decide (a = b ∧ l = m)) := by
  unfold spec_l3Same.f
  by_cases c : a = b
  · refine ev_pos c ?_
    by_cases d : l.length = m.length
    · refine Ev.step (fun k => by rw [spec_l3Same.j0]) (ev_neg (by simp; omega) ?_)
      refine ev_cast ?_ (l3Same_l a b l m hl d l.length 0 (by omega))
      simp [c]
    · refine Ev.step (fun k => by rw [spec_l3Same.j0]) (ev_pos (by simp; omega) (ev_now ?_))
      rw [decide_eq_false (fun z => d (by rw [z.2]))]
  · refine ev_neg c (Ev.step (fun k => by rw [spec_l3Same.j0]) (ev_pos rfl (ev_now ?_)))
    rw [decide_eq_false (fun z => c z.1)]
theorem sameList_ev (a b : Int) (l m : List ByteArray) (hl : l.length ≤ 1048576) (hm : m.length ≤ 1048576) : Ev (fun k => impl_sameList.f k a l b m) (decide (a = b ∧ l = m)) := by
  unfold impl_sameList.f
  by_cases c : a = b
  · refine ev_pos c ?_
    by_cases d : l.length = m.length
    · refine Ev.step (fun k => by rw [impl_sameList.j0]) (ev_neg (by simp; omega) ?_)
      refine ev_cast ?_ (sameList_l a b l m hl d l.length 0 (by omega))
      simp [c]
    · refine Ev.step (fun k => by rw [impl_sameList.j0]) (ev_pos (by simp; omega) (ev_now ?_))
      rw [decide_eq_false (fun z => d (by rw [z.2]))]
  · refine ev_neg c (Ev.step (fun k => by rw [impl_sameList.j0]) (ev_pos rfl (ev_now ?_)))
    rw [decide_eq_false (fun z => c z.1)]

/-! ### Build: spec_Build, impl_Build -/
/-- What the rounds over the pieces ask; acc: the bytes that came before. -/
def okP (w : Int) : Nat → List ByteArray → List ByteArray → Bool
  | acc, p :: ps, s :: ss => decide (sumT p w = s) && (decide (acc + p.size ≤ 3000) && okP w (acc + p.size) ps ss)
  | _, _, _ => true
def endR (size : Int) (sums : List ByteArray) (t : ByteArray) (w : Int) : ByteArray × Bool := if (t.size : Int) = size ∧ ((descr t w).1 = size ∧ (descr t w).2 = sums) then (t, true) else (⟨#[]⟩, false)
def buildR (size : Int) (sums pieces : List ByteArray) (w : Int) : ByteArray × Bool :=
  if listOk size sums w = true ∧ pieces.length = sums.length ∧ okP w 0 pieces sums = true then endR size sums (joinT pieces) w else (⟨#[]⟩, false)
section
variable (size : Int) (sums pieces : List ByteArray) (w : Int)
theorem specBuild_l (hs : sums.length ≤ 1048576) (hp : pieces.length ≤ 1048576) (hx : ∀ x ∈ pieces, x.size ≤ 1048576) (he : pieces.length = sums.length) : ∀ (n i : Nat) (acc : List Int), i + n = pieces.length → acc.length ≤ 3000 →
    Ev (fun k => spec_Build.l0 k pieces w acc i size sums) (if okP w acc.length (pieces.drop i) (sums.drop i) = true then endR size sums (strOfNums acc ++ joinT (pieces.drop i)) w else (⟨#[]⟩, false))
  | 0, i, acc, h0, ha => by
    refine Ev.step (fun k => by rw [spec_Build.l0]) (ev_neg (by omega) ?_)
    rw [List.drop_eq_nil_of_le (by omega), joinT, app_em, okP.eq_def, if_pos rfl]
    unfold endR
    have hz : (strOfNums acc).size = acc.length := son_size acc
    by_cases c : (acc.length : Int) = size
    · refine ev_pos c (Ev.bind (specDescribe_ev _ w) (Ev.bind (l3Same_ev _ _ _ _ (by have := descr_length (strOfNums acc) w; omega) hs) ?_))
      by_cases d : (descr (strOfNums acc) w).1 = size ∧ (descr (strOfNums acc) w).2 = sums
      · exact ev_pos (decide_eq_true d) (ev_now (by rw [if_pos ⟨by omega, d⟩]))
      · exact ev_neg (by simpa using d) (ev_now (by rw [if_neg (fun z => d z.2)]))
    · exact ev_neg c (ev_now (by rw [if_neg (fun z => c (by omega))]))
  | n + 1, i, acc, h0, ha => by
    have e1 : rdOf ByteArray.empty pieces (i : Int) = pieces.getD i ByteArray.empty := rfl
    have e2 : rdOf ByteArray.empty sums (i : Int) = sums.getD i ByteArray.empty := rfl
    have hi := hx _ (getD_mem ByteArray.empty pieces i (by omega))
    have ih := fun acc' h1 => specBuild_l hs hp hx he n (i + 1) acc' (by omega) h1
    refine Ev.step (fun k => by rw [spec_Build.l0]) (ev_pos (by omega) (ev_pos (by omega) ?_))
    rw [e1, e2, drop_get ByteArray.empty pieces i (by omega), drop_get ByteArray.empty sums i (by omega), joinT, okP, show wrap64 ((i : Int) + 1) = ((i + 1 : Nat) : Int) by rw [w64 (by omega) (by omega)]; omega]
    generalize pieces.getD i ByteArray.empty = p at hi ⊢
    generalize sums.getD i ByteArray.empty = s
    refine Ev.bind (specSum_ev p w (by omega)) (ev_pos (by omega) ?_)
    rw [w64 (n := (acc.length : Int) + (p.size : Int)) (by omega) (by omega)]
    by_cases c : sumT p w = s
    · refine ev_pos (by rw [c]) ?_
      by_cases d : acc.length + p.size ≤ 3000
      · refine ev_neg (by omega) (ev_pos (by omega) (ev_cast ?_ (ih (acc ++ bytesOf p) (by rw [List.length_append, bytesOf_length]; omega))))
        rw [← son_app, son_bytes, ba_assoc, List.length_append, bytesOf_length, decide_eq_true c, decide_eq_true d]; rfl
      · refine ev_pos (by omega) (ev_now ?_)
        rw [decide_eq_false d]; simp
    · refine ev_neg (fun z => c (ba_eq.1 z)) (ev_now ?_)
      rw [decide_eq_false c]; simp
theorem specBuild_ev (hs : sums.length ≤ 1048576) (hp : pieces.length ≤ 1048576) (hx : ∀ x ∈ pieces, x.size ≤ 1048576) : Ev (fun k => spec_Build.f k size sums pieces w) (buildR size sums pieces w) := by
  unfold spec_Build.f buildR
  refine Ev.bind (l3Ok_ev size w sums hs) ?_
  by_cases c : listOk size sums w = true
  · refine ev_pos c ?_
    by_cases d : pieces.length = sums.length
    · refine Ev.step (fun k => by rw [spec_Build.j0]) (ev_neg (by simp; omega) ?_)
      refine ev_cast ?_ (specBuild_l size sums pieces w hs hp hx d pieces.length 0 [] (by omega) (by simp))
      rw [List.drop_zero, List.drop_zero, show strOfNums [] = (⟨#[]⟩ : ByteArray) from rfl, em_app]
      by_cases e : okP w 0 pieces sums = true
      · rw [if_pos (show okP w ([] : List Int).length pieces sums = true from e), if_pos ⟨c, d, e⟩]
      · rw [if_neg (show ¬ okP w ([] : List Int).length pieces sums = true from e), if_neg (fun z => e z.2.2)]
    · refine Ev.step (fun k => by rw [spec_Build.j0]) (ev_pos (by simp; omega) (ev_now ?_))
      rw [if_neg (fun z => d z.2.1)]
  · refine ev_neg c (Ev.step (fun k => by rw [spec_Build.j0]) (ev_pos rfl (ev_now ?_)))
    rw [if_neg (fun z => c z.1)]
theorem implBuild_l (hs : sums.length ≤ 1048576) (hp : pieces.length ≤ 1048576) (hx : ∀ x ∈ pieces, x.size ≤ 1048576) (he : pieces.length = sums.length) : ∀ (n i acc : Nat), i + n = pieces.length → acc ≤ 3000 →
    Ev (fun k => impl_Build.l0 k pieces w acc pieces pieces.length i size sums) (if okP w acc (pieces.drop i) (sums.drop i) = true then endR size sums (joinT pieces) w else (⟨#[]⟩, false))
  | 0, i, acc, h0, ha => by
    refine Ev.step (fun k => by rw [impl_Build.l0]) (ev_neg (by omega) ?_)
    rw [List.drop_eq_nil_of_le (by omega), okP.eq_def, if_pos rfl]
    have js := joinT_size 1048576 pieces hx
    refine ev_bindc (join_is pieces (by omega) (by omega)) ?_
    generalize joinT pieces = t
    unfold endR
    by_cases c : (t.size : Int) = size
    · refine ev_pos c (Ev.bind (implDescribe_ev t w) (Ev.bind (sameList_ev _ _ _ _ (by have := descr_length t w; omega) hs) ?_))
      by_cases d : (descr t w).1 = size ∧ (descr t w).2 = sums
      · exact ev_pos (decide_eq_true d) (ev_now (by rw [if_pos ⟨c, d⟩]))
      · exact ev_neg (by simpa using d) (ev_now (by rw [if_neg (fun z => d z.2)]))
    · exact ev_neg c (ev_now (by rw [if_neg (fun z => c z.1)]))
  | n + 1, i, acc, h0, ha => by
    have e1 : rdOf ByteArray.empty pieces (i : Int) = pieces.getD i ByteArray.empty := rfl
    have e2 : rdOf ByteArray.empty sums (i : Int) = sums.getD i ByteArray.empty := rfl
    have hi := hx _ (getD_mem ByteArray.empty pieces i (by omega))
    have ih := fun acc' h1 => implBuild_l hs hp hx he n (i + 1) acc' (by omega) h1
    refine Ev.step (fun k => by rw [impl_Build.l0]) (ev_pos (by omega) (ev_pos (by omega) (ev_pos (by omega) ?_)))
    rw [e1, e2, drop_get ByteArray.empty pieces i (by omega), drop_get ByteArray.empty sums i (by omega), okP, show wrap64 ((i : Int) + 1) = ((i + 1 : Nat) : Int) by rw [w64 (by omega) (by omega)]; omega]
    generalize pieces.getD i ByteArray.empty = p at hi ⊢
    generalize sums.getD i ByteArray.empty = s
    rw [show wrap64 ((acc : Int) + (p.size : Int)) = ((acc + p.size : Nat) : Int) by rw [w64 (by omega) (by omega)]; omega]
    by_cases d : acc + p.size ≤ 3000
    · refine ev_neg (by omega) (Ev.bind (implSum_ev p w (by omega)) (ev_pos (by omega) ?_))
      by_cases c : sumT p w = s
      · refine ev_pos (by rw [c]) (ev_cast ?_ (ih (acc + p.size) d))
        rw [decide_eq_true c, decide_eq_true d]; rfl
      · refine ev_neg (fun z => c (ba_eq.1 z)) (ev_now ?_)
        rw [decide_eq_false c]; simp
    · refine ev_pos (by omega) (ev_now ?_)
      rw [decide_eq_false d]; simp
theorem implBuild_ev (hs : sums.length ≤ 1048576) (hp : pieces.length ≤ 1048576) (hx : ∀ x ∈ pieces, x.size ≤ 1048576) : Ev (fun k => impl_Build.f k size sums pieces w) (buildR size sums pieces w) := by
  unfold impl_Build.f buildR
  refine Ev.bind (listOk_ev size w sums hs) ?_
  by_cases c : listOk size sums w = true
  · refine ev_pos c ?_
    by_cases d : pieces.length = sums.length
    · refine Ev.step (fun k => by rw [impl_Build.j0]) (ev_neg (by simp; omega) ?_)
      refine ev_cast ?_ (implBuild_l size sums pieces w hs hp hx d pieces.length 0 0 (by omega) (by omega))
      rw [List.drop_zero, List.drop_zero]
      by_cases e : okP w 0 pieces sums = true
      · rw [if_pos e, if_pos ⟨c, d, e⟩]
      · rw [if_neg e, if_neg (fun z => e z.2.2)]
    · refine Ev.step (fun k => by rw [impl_Build.j0]) (ev_pos (by simp; omega) (ev_now ?_))
      rw [if_neg (fun z => d z.2.1)]
  · refine ev_neg c (Ev.step (fun k => by rw [impl_Build.j0]) (ev_pos rfl (ev_now ?_)))
    rw [if_neg (fun z => c z.1)]
end

/-! ### The law -/
theorem eqList_same (a : Int) (l : List ByteArray) (hl : l.length ≤ 4611686018427387904) : Ev (fun k => laws_eqList.f k a l a l) true := by
  unfold laws_eqList.f
  exact ev_pos rfl (Ev.bind (laws_eqStringS_same l hl) (ev_pos rfl (Ev.now _)))
theorem FnExactBuild : laws_FnExactBuild.Law := by
  intro size sums pieces w _ ⟨hl, hs⟩ ⟨hp, ht⟩ _
  apply Ev.rounds
  unfold laws_FnExactBuild.f
  obtain ⟨r, hr, hq⟩ := szStringS_ev sums 1048576 hl hs (by omega) (by omega)
  have hsz : Ev (fun k => laws_szList.f k size sums 1048576) (if r < 0 then -1 else r) := by
    unfold laws_szList.f
    refine Ev.bind hr ?_
    by_cases c : r < 0
    · exact ev_pos c (ev_now (by rw [if_pos c]))
    · exact ev_neg c (ev_now (by rw [if_neg c]))
  refine Ev.bind hsz ?_
  rcases hq with hq | ⟨q0, q1, hn, hx⟩
  · rw [if_pos hq]; exact ev_pos (by omega) (Ev.now _)
  · rw [if_neg (by omega)]
    refine ev_neg (by omega) ?_
    obtain ⟨r2, hr2, hv⟩ := szStringS_ev pieces r hp ht q0 (by omega)
    refine Ev.bind hr2 ?_
    rcases hv with hv | ⟨v0, v1, vn, vx⟩
    · exact ev_pos hv (Ev.now _)
    · refine ev_neg (by omega) ?_
      have hl1 : sums.length ≤ 1048576 := by omega
      have hp1 : pieces.length ≤ 1048576 := by omega
      have hx1 : ∀ x ∈ pieces, x.size ≤ 1048576 := fun x hx' => by have := vx x hx'; omega
      have t1 : Ev (fun k => laws_toList.f k size sums) (size, sums) := by
        unfold laws_toList.f; exact Ev.bind (toStringS_ev sums hl1) (Ev.now _)
      have t2 := toStringS_ev pieces hp1
      refine Ev.bind t1 (Ev.bind t2 (Ev.bind (specBuild_ev size sums pieces w hl1 hp1 hx1) (Ev.bind t1 (Ev.bind t2 (Ev.bind (implBuild_ev size sums pieces w hl1 hp1 hx1) (ev_pos rfl ?_))))))
      refine Ev.step (fun k => by rw [laws_FnExactBuild.j0]) (ev_neg (by simp) ?_)
      exact Ev.bind t1 (Ev.bind (eqList_same size sums (by omega)) (ev_pos rfl (Ev.bind t2 (Ev.bind (laws_eqStringS_same pieces (by omega)) (ev_pos rfl (Ev.now _))))))

end Go.Proofs.Ytbhkinfdilngiaa.Pure

/- The law FnPieces answers true at every code: sizes of pieces, together the thing, the same from where the same bytes are left; no condition beyond what the row itself reads. -/
import Derived.Test.YtbmldafgipimbaaGFnPiecesx
import Derived.Test.YtbmldafgipimbaaM
namespace Go.Proofs.Ytbmldafgipimbaa.Pure
open Go.RowKit Go.Proofs.Ytbmldafgipimbaa.PFnPieces Go.Proofs.Ytbmldafgipimbaa.M Go.Proofs.YtbmldafgipimbaaW.PrintWords Go.Proofs.YtbmldafgipimbaaW.PrintLast Go.Proofs.YtbmldafgipimbaaW.PrintMore
set_option linter.unusedVariables false
set_option linter.unusedSimpArgs false

/-! ### Sums of 64 bits: spec_l1Sum64, impl_sum64 -/
theorem l1Sum64_l (s : ByteArray) (hs : s.size ≤ 4611686018427387904) : ∀ (n : Nat) (h i : Int), 0 ≤ i → i + n = s.size → Ev (fun k => spec_l1Sum64.l0 k s h i) (fnv s n h i)
  | 0, h, i, h0, h1 => by
    refine Ev.step (fun k => by rw [spec_l1Sum64.l0]) ?_
    exact ev_neg (by omega) (Ev.now _)
  | n + 1, h, i, h0, h1 => by
    refine Ev.step (fun k => by rw [spec_l1Sum64.l0]) ?_
    refine ev_pos (by omega) (ev_pos h0 ?_)
    rw [w64 (by omega) (by omega)]
    exact l1Sum64_l s hs n _ (i + 1) (by omega) (by omega)
theorem l1Sum64_ev (s : ByteArray) (hs : s.size ≤ 4611686018427387904) : Ev (fun k => spec_l1Sum64.f k s) (sum64 s) :=
  l1Sum64_l s hs s.size _ 0 (by omega) (by omega)
theorem sum64_l (s : ByteArray) (hs : s.size ≤ 4611686018427387904) : ∀ (n : Nat) (h i : Int), 0 ≤ i → i + n = s.size → Ev (fun k => impl_sum64.l0 k s h i) (fnv s n h i)
  | 0, h, i, h0, h1 => by
    refine Ev.step (fun k => by rw [impl_sum64.l0]) ?_
    exact ev_neg (by omega) (Ev.now _)
  | n + 1, h, i, h0, h1 => by
    refine Ev.step (fun k => by rw [impl_sum64.l0]) ?_
    refine ev_pos (by omega) (ev_pos h0 ?_)
    rw [w64 (by omega) (by omega)]
    exact sum64_l s hs n _ (i + 1) (by omega) (by omega)
theorem sum64_ev (s : ByteArray) (hs : s.size ≤ 4611686018427387904) : Ev (fun k => impl_sum64.f k s) (sum64 s) :=
  sum64_l s hs s.size _ 0 (by omega) (by omega)

/-! ### Pieces: spec_l2Ends, spec_Pieces, impl_Pieces -/
theorem l2Ends_ev (p : ByteArray) (hp : p.size ≤ 4611686018427387904) : Ev (fun k => spec_l2Ends.f k p) (endsP p) := by
  unfold spec_l2Ends.f endsP
  by_cases h : p.size < 8
  · rw [if_pos h]; exact ev_pos (by omega) (Ev.now _)
  · rw [if_neg h]
    refine ev_neg (by omega) ?_
    by_cases h2 : 64 ≤ p.size
    · rw [if_pos h2]; exact ev_pos (by omega) (Ev.now _)
    · rw [if_neg h2]
      refine ev_neg (by omega) ?_
      rw [w64 (by omega) (by omega)]
      refine ev_pos (by omega) (ev_pos (by omega) ?_)
      rw [show ((p.size : Int) - 8).toNat = p.size - 8 by omega]
      refine Ev.bind (l1Sum64_ev _ (by rw [ex_size]; omega)) (ev_now ?_)
      have z := sum64_range (p.extract (p.size - 8) p.size)
      rw [Int.tmod_eq_emod_of_nonneg z.1]
      rfl
theorem specPieces_l (s : ByteArray) (hs : s.size ≤ 3000) : ∀ (n a i : Nat) (acc : List ByteArray), a ≤ i → i + n = s.size → acc.length + n ≤ 3000 →
    Ev (fun k => spec_Pieces.l0 k s acc a ((i : Int) + 1)) (acc ++ cutAt s n a i)
  | 0, a, i, acc, h0, h1, h2 => by
    refine Ev.step (fun k => by rw [spec_Pieces.l0]) ?_
    refine ev_neg (by omega) (ev_now ?_)
    rw [cutAt, List.append_nil]
  | n + 1, a, i, acc, h0, h1, h2 => by
    refine Ev.step (fun k => by rw [spec_Pieces.l0]) ?_
    refine ev_pos (by omega) (ev_pos (by omega) (ev_pos (by omega) ?_))
    rw [show ((a : Int)).toNat = a by omega, show ((i : Int) + 1).toNat = i + 1 by omega, w64 (by omega) (by omega)]
    refine Ev.bind (l2Ends_ev _ (by rw [ex_size]; omega)) ?_
    rw [cutAt]
    by_cases e : endsP (s.extract a (i + 1)) = true
    · refine ev_pos e (ev_pos (by omega) ?_)
      rw [if_pos (Or.inl e)]
      refine ev_cast ?_ (specPieces_l s hs n (i + 1) (i + 1) _ (by omega) (by omega) (by simp; omega))
      simp
    · refine ev_neg e ?_
      by_cases e2 : i + 1 = s.size
      · refine ev_pos (by omega) (ev_pos (by omega) ?_)
        rw [if_pos (Or.inr e2)]
        refine ev_cast ?_ (specPieces_l s hs n (i + 1) (i + 1) _ (by omega) (by omega) (by simp; omega))
        simp
      · refine ev_neg (by omega) ?_
        rw [if_neg (by rintro (h | h) <;> contradiction)]
        exact specPieces_l s hs n a (i + 1) acc (by omega) (by omega) (by omega)
theorem specPieces_ev (s : ByteArray) : Ev (fun k => spec_Pieces.f k s) (pieces s) := by
  unfold spec_Pieces.f pieces
  refine ev_some ?_
  by_cases h : s.size > 3000
  · rw [if_pos h]; exact ev_pos (by omega) (Ev.now _)
  · rw [if_neg h]
    refine ev_neg (by omega) ?_
    exact ev_cast (by simp) (specPieces_l s (by omega) s.size 0 0 [] (by omega) (by omega) (by simp; omega))
theorem implPieces_l (s : ByteArray) (hs : s.size ≤ 3000) : ∀ (n a i : Nat) (acc : List ByteArray), a ≤ i → i < a + 64 → i + n = s.size → acc.length + n < 3000 + 1 →
    Ev (fun k => impl_Pieces.l0 k s acc a s.size i) (acc ++ (if n = 0 then (if a < s.size then [s.extract a s.size] else []) else cutAt s n a i))
  | 0, a, i, acc, h0, h3, h1, h2 => by
    refine Ev.step (fun k => by rw [impl_Pieces.l0]) ?_
    refine ev_neg (by omega) ?_
    rw [if_pos rfl]
    by_cases e : a < s.size
    · refine ev_pos (by omega) (ev_pos (by omega) (ev_pos (by omega) (ev_pos (by omega) (ev_now ?_))))
      rw [if_pos e]; rfl
    · exact ev_neg (by omega) (ev_now (by rw [if_neg e, List.append_nil]))
  | n + 1, a, i, acc, h0, h3, h1, h2 => by
    refine Ev.step (fun k => by rw [impl_Pieces.l0]) ?_
    refine ev_pos (by omega) ?_
    rw [w64 (n := (i : Int) + 1) (by omega) (by omega), w64 (n := (i : Int) + 1 - a) (by omega) (by omega), w64 (n := (i : Int) + 1 - 8) (by omega) (by omega)]
    rw [show ((a : Int)).toNat = a by omega, show ((i : Int) + 1).toNat = i + 1 by omega]
    have sz : (s.extract a (i + 1)).size = i + 1 - a := by rw [ex_size]; omega
    have cutc : endsP (s.extract a (i + 1)) = true → (n = 0 → i + 1 = s.size) → acc.length < 8796093022208 ∧
        Ev (fun k => impl_Pieces.l0 k s (acc ++ [s.extract a (i + 1)]) ((i : Int) + 1) s.size ((i : Int) + 1)) (acc ++ (if n + 1 = 0 then (if a < s.size then [s.extract a s.size] else []) else cutAt s (n + 1) a i)) := by
      intro e hn
      refine ⟨by omega, ?_⟩
      refine ev_cast ?_ (implPieces_l s hs n (i + 1) (i + 1) _ (by omega) (by omega) (by omega) (by simp; omega))
      rw [if_neg (Nat.succ_ne_zero n), cutAt, if_pos (Or.inl e)]
      by_cases n0 : n = 0
      · rw [if_pos n0, if_neg (by omega)]; subst n0; simp [cutAt]
      · rw [if_neg n0]; simp
    have nocut : ¬ endsP (s.extract a (i + 1)) = true →
        Ev (fun k => impl_Pieces.l0 k s acc a s.size ((i : Int) + 1)) (acc ++ (if n + 1 = 0 then (if a < s.size then [s.extract a s.size] else []) else cutAt s (n + 1) a i)) := by
      intro e
      have hlt : i + 1 < a + 64 := by
        by_cases z : i + 1 < a + 64
        · exact z
        · exact absurd (by unfold endsP; rw [sz, if_neg (by omega), if_pos (by omega)]) e
      refine ev_cast ?_ (implPieces_l s hs n a (i + 1) acc (by omega) hlt (by omega) (by omega))
      rw [if_neg (Nat.succ_ne_zero n), cutAt]
      by_cases n0 : n = 0
      · rw [if_pos n0, if_pos (by omega)]; subst n0
        rw [if_pos (Or.inr (by omega)), cutAt, show i + 1 = s.size by omega]
      · rw [if_neg n0, if_neg (by rintro (h | h); exact e h; omega)]
    by_cases e64 : i + 1 = a + 64
    · refine ev_pos (by omega) ?_
      obtain ⟨g1, g2⟩ := cutc (by unfold endsP; rw [sz, if_neg (by omega), if_pos (by omega)]) (by omega)
      exact ev_pos (by omega) (ev_pos (by omega) (ev_pos (by omega) (ev_pos g1 g2)))
    · refine ev_neg (by omega) ?_
      by_cases e8 : i + 1 < a + 8
      · refine ev_neg (by omega) ?_
        exact nocut (by unfold endsP; rw [sz, if_pos (by omega)]; simp)
      · refine ev_pos (by omega) (ev_pos (by omega) (ev_pos (by omega) (ev_pos (by omega) ?_)))
        rw [show ((i : Int) + 1 - 8).toNat = i + 1 - 8 by omega]
        refine Ev.bind (sum64_ev _ (by rw [ex_size]; omega)) ?_
        have z := sum64_range (s.extract (i + 1 - 8) (i + 1))
        rw [Int.tmod_eq_emod_of_nonneg z.1]
        have ee : endsP (s.extract a (i + 1)) = decide (sum64 (s.extract (i + 1 - 8) (i + 1)) % 16 = 0) := by
          unfold endsP
          rw [sz, if_neg (by omega), if_neg (by omega), ex_ex, show a + (i + 1 - a - 8) = i + 1 - 8 by omega, show min (a + (i + 1 - a)) (i + 1) = i + 1 by omega]
        by_cases e : sum64 (s.extract (i + 1 - 8) (i + 1)) % 16 = 0
        · obtain ⟨g1, g2⟩ := cutc (by rw [ee]; simpa using e) (by omega)
          exact ev_pos e (ev_pos (by omega) (ev_pos (by omega) (ev_pos g1 g2)))
        · exact ev_neg e (nocut (by rw [ee]; simpa using e))
theorem implPieces_ev (s : ByteArray) : Ev (fun k => impl_Pieces.f k s) (pieces s) := by
  unfold impl_Pieces.f pieces
  by_cases h : s.size > 3000
  · rw [if_pos h]; exact ev_pos (by omega) (Ev.now _)
  · rw [if_neg h]
    refine ev_neg (by omega) ?_
    refine ev_cast ?_ (implPieces_l s (by omega) s.size 0 0 [] (by omega) (by omega) (by omega) (by simp; omega))
    by_cases z : s.size = 0
    · rw [if_pos z, if_neg (by omega), z, cutAt]; rfl
    · rw [if_neg z]; rfl

/-! ### Two lists of texts: laws_wTexts -/
theorem laws_wTexts_l (l0 l1 : List ByteArray) (hl : l0.length ≤ 4611686018427387904) (he : l0.length = l1.length) : ∀ (n : Nat) (i : Int), 0 ≤ i → i + n = l0.length →
    Ev (fun k => laws_wTexts.l0 k l0 l1 i) (decide (l0.drop i.toNat = l1.drop i.toNat))
  | 0, i, h0, h1 => by
    refine Ev.step (fun k => by rw [laws_wTexts.l0]) ?_
    refine ev_neg (by omega) (ev_now ?_)
    rw [List.drop_eq_nil_of_le (by omega), List.drop_eq_nil_of_le (by omega)]; simp
  | n + 1, i, h0, h1 => by
    refine Ev.step (fun k => by rw [laws_wTexts.l0]) ?_
    refine ev_pos (by omega) (ev_pos h0 (ev_pos (by omega) ?_))
    rw [w64 (by omega) (by omega)]
    have d0 : l0.drop i.toNat = rdOf ByteArray.empty l0 i :: l0.drop (i + 1).toNat := by
      rw [List.drop_eq_getElem_cons (by omega), show (i + 1).toNat = i.toNat + 1 by omega]
      unfold rdOf; rw [List.getD_eq_getElem?_getD, List.getElem?_eq_getElem (by omega)]; rfl
    have d1 : l1.drop i.toNat = rdOf ByteArray.empty l1 i :: l1.drop (i + 1).toNat := by
      rw [List.drop_eq_getElem_cons (by omega), show (i + 1).toNat = i.toNat + 1 by omega]
      unfold rdOf; rw [List.getD_eq_getElem?_getD, List.getElem?_eq_getElem (by omega)]; rfl
    rw [d0, d1]
    by_cases e : rdOf ByteArray.empty l0 i = rdOf ByteArray.empty l1 i
    · refine ev_pos (ba_eq.2 e) ?_
      refine ev_cast ?_ (laws_wTexts_l l0 l1 hl he n (i + 1) (by omega) (by omega))
      rw [e]; simp
    · refine ev_neg (fun h => e (ba_eq.1 h)) (ev_now ?_)
      simp [e]
theorem laws_wTexts_ev (l0 l1 : List ByteArray) (hl : l0.length ≤ 4611686018427387904) : Ev (fun k => laws_wTexts.f k l0 l1) (decide (l0 = l1)) := by
  unfold laws_wTexts.f
  by_cases e : l0.length = l1.length
  · refine ev_pos (by omega) ?_
    exact ev_cast (by simp) (laws_wTexts_l l0 l1 hl e l0.length 0 (by omega) (by omega))
  · refine ev_neg (by omega) (ev_now ?_)
    have : l0 ≠ l1 := fun h => e (by rw [h])
    simp [this]
theorem laws_wTexts_same (l0 : List ByteArray) (hl : l0.length ≤ 4611686018427387904) : Ev (fun k => laws_wTexts.f k l0 l0) true := ev_cast (by simp) (laws_wTexts_ev l0 l0 hl)

/-! ### Drawing: spec_l1Open, spec_l1Rd_pick, spec_l1Many, spec_l2Thing, spec_l2Near, spec_DrawShared -/
theorem xor_nonneg (a b : Int) (ha : 0 ≤ a) (ha1 : a < 4611686018427387904) (hb : 0 ≤ b) (hb1 : b < 4611686018427387904) : 0 ≤ Go.bits .xor .i64 a b := by
  obtain ⟨m, rfl⟩ : ∃ m : Nat, a = m := ⟨a.toNat, by omega⟩
  obtain ⟨n, rfl⟩ : ∃ n : Nat, b = n := ⟨b.toNat, by omega⟩
  have hm : m < 2 ^ 62 := by omega
  have hn : n < 2 ^ 62 := by omega
  have hx := Nat.xor_lt_two_pow hm hn
  have e1 : m % 2 ^ IntKind.i64.bits = m := Nat.mod_eq_of_lt (by show m < 2 ^ 64; omega)
  have e2 : n % 2 ^ IntKind.i64.bits = n := Nat.mod_eq_of_lt (by show n < 2 ^ 64; omega)
  simp only [Go.bits, BitVec.ofInt_natCast, BitVec.toNat_xor, BitVec.toNat_ofNat, e1, e2]
  rw [IntKind.wrap_i64]
  have : ((m ^^^ n : Nat) : Int) < 4611686018427387904 := by
    have : m ^^^ n < 4611686018427387904 := hx
    omega
  omega
/-- The bytes of a code. -/
def Bytes_ (b : List Int) : Prop := b.length ≤ 2000 ∧ ∀ x ∈ b, 0 ≤ x ∧ x ≤ 255
theorem rd_range {b : List Int} (h : Bytes_ b) (i : Int) : 0 ≤ rd b i ∧ rd b i ≤ 255 := by
  unfold rd; rw [List.getD_eq_getElem?_getD]
  cases e : b[i.toNat]? with
  | none => simp
  | some x => exact h.2 x (List.mem_of_getElem? e)
theorem tmod_range (x n : Int) (hx : 0 ≤ x) (hn : 1 ≤ n) : 0 ≤ Int.tmod x n ∧ Int.tmod x n < n := by
  rw [Int.tmod_eq_emod_of_nonneg hx]; exact ⟨Int.emod_nonneg _ (by omega), Int.emod_lt_of_pos _ (by omega)⟩
theorem pick_ev (b : List Int) (p n : Int) (hb : Bytes_ b) (h0 : 0 ≤ p) (h1 : p ≤ 1099511627776) (hn : n ≤ 4611686018427387904) :
    ∃ v, Ev (fun k => spec_l1Rd_pick.f k b p n) (v, p + 1) ∧ 0 ≤ v ∧ (1 ≤ n → v < n) ∧ (n < 1 → v = 0) := by
  unfold spec_l1Rd_pick.f
  rw [w64 (n := p + 1) (by omega) (by omega)]
  by_cases n1 : n < 1
  · refine ⟨0, ev_pos n1 (Ev.step (fun k => by rw [spec_l1Rd_pick.j0]) (ev_pos rfl (Ev.now _))), by omega, fun h => by omega, fun _ => rfl⟩
  · by_cases l0 : b.length = 0
    · refine ⟨0, ev_neg n1 (Ev.step (fun k => by rw [spec_l1Rd_pick.j0]) (ev_pos (by simp [l0]) (Ev.now _))), by omega, fun h => by omega, fun _ => rfl⟩
    · have key : ∀ v : Int, Ev (fun k => spec_l1Rd_pick.j0 k n ((b.length : Int) == 0) b (p + 1)) (v, p + 1) → Ev (fun k => if n < 1 then spec_l1Rd_pick.j0 k n true b (p + 1) else spec_l1Rd_pick.j0 k n ((b.length : Int) == 0) b (p + 1)) (v, p + 1) := fun v h => ev_neg n1 h
      have lb := hb.1
      have e1 : wrap64 (p + 1 - 1) = p := by rw [show p + 1 - 1 = p by omega, w64 (by omega) (by omega)]
      by_cases hp : p < b.length
      · have r := rd_range hb p
        have e2 : wrap64 (rd b p) = rd b p := w64 (by omega) (by omega)
        have t := tmod_range (rd b p) n r.1 (by omega)
        refine ⟨Int.tmod (rd b p) n, key _ (Ev.step (fun k => by rw [spec_l1Rd_pick.j0]) ?_), t.1, fun _ => t.2, fun h => absurd h n1⟩
        rw [e1, e2]
        exact ev_neg (by simp; exact List.length_pos_iff.1 (by omega)) (ev_pos hp (ev_pos h0 (ev_neg (by omega) (Ev.now _))))
      · have m1 := tmod_range p b.length h0 (by omega)
        have e3 : wrap64 (p * 7) = p * 7 := w64 (by omega) (by omega)
        have e4 : wrap64 (p * 7 + 3) = p * 7 + 3 := w64 (by omega) (by omega)
        have m2 := tmod_range (p * 7 + 3) b.length (by omega) (by omega)
        have r1 := rd_range hb (Int.tmod p b.length)
        have r2 := rd_range hb (Int.tmod (p * 7 + 3) b.length)
        have q : 0 ≤ Int.tdiv p b.length ∧ Int.tdiv p b.length ≤ p := by
          rw [Int.tdiv_eq_ediv_of_nonneg h0]
          exact ⟨Int.ediv_nonneg h0 (by omega), Int.ediv_le_self _ h0⟩
        refine ⟨Int.tmod (Go.bits .xor .i64 (rd b (Int.tmod p b.length) * 131 + rd b (Int.tmod (p * 7 + 3) b.length) * 1117 + p * 29 + Int.tdiv p b.length * 53) (Int.tdiv (rd b (Int.tmod p b.length) * 131 + rd b (Int.tmod (p * 7 + 3) b.length) * 1117 + p * 29 + Int.tdiv p b.length * 53) 64)) n, key _ (Ev.step (fun k => by rw [spec_l1Rd_pick.j0]) ?_), ?_⟩
        · rw [e1, e3, e4]
          generalize rd b (Int.tmod p b.length) = x at r1 ⊢
          generalize rd b (Int.tmod (p * 7 + 3) b.length) = y at r2 ⊢
          generalize Int.tdiv p b.length = z at q ⊢
          rw [w64 (n := x) (by omega) (by omega), w64 (n := y) (by omega) (by omega), w64 (n := z) (by omega) (by omega), w64 (n := x * 131) (by omega) (by omega), w64 (n := y * 1117) (by omega) (by omega), w64 (n := p * 29) (by omega) (by omega), w64 (n := z * 53) (by omega) (by omega), w64 (n := x * 131 + y * 1117) (by omega) (by omega), w64 (n := x * 131 + y * 1117 + p * 29) (by omega) (by omega), w64 (n := x * 131 + y * 1117 + p * 29 + z * 53) (by omega) (by omega)]
          have t64 : wrap64 (Int.tdiv (x * 131 + y * 1117 + p * 29 + z * 53) 64) = Int.tdiv (x * 131 + y * 1117 + p * 29 + z * 53) 64 := by
            rw [Int.tdiv_eq_ediv_of_nonneg (by omega)]; exact w64 (by omega) (by omega)
          rw [t64]
          exact ev_neg (by simp; exact List.length_pos_iff.1 (by omega)) (ev_neg hp (ev_neg (by omega) (ev_pos m1.1 (ev_pos m1.2 (ev_pos m2.1 (ev_pos m2.2 (ev_neg (by omega) (Ev.now _))))))))
        · have g : 0 ≤ rd b (Int.tmod p b.length) * 131 + rd b (Int.tmod (p * 7 + 3) b.length) * 1117 + p * 29 + Int.tdiv p b.length * 53 := by omega
          have g2 : rd b (Int.tmod p b.length) * 131 + rd b (Int.tmod (p * 7 + 3) b.length) * 1117 + p * 29 + Int.tdiv p b.length * 53 < 4611686018427387904 := by omega
          generalize rd b (Int.tmod p b.length) * 131 + rd b (Int.tmod (p * 7 + 3) b.length) * 1117 + p * 29 + Int.tdiv p b.length * 53 = S at g g2 ⊢
          have t := tmod_range (Go.bits .xor .i64 S (Int.tdiv S 64)) n (xor_nonneg S (Int.tdiv S 64) g g2 (by rw [Int.tdiv_eq_ediv_of_nonneg g]; omega) (by rw [Int.tdiv_eq_ediv_of_nonneg g]; omega)) (by omega)
          exact ⟨t.1, fun _ => t.2, fun h => absurd h n1⟩
theorem open_is (l : List Int) (h : ∀ x ∈ l, (Lit.int .u8 x).wf = true) : ∃ b, spec_l1Open.f l = some (b, 0) ∧ Bytes_ b := by
  have hb : ∀ x ∈ l, 0 ≤ x ∧ x ≤ 255 := by
    intro x hx; have := h x hx
    simp [Lit.wf, IntKind.min, IntKind.max, IntKind.bits, IntKind.signed] at this; omega
  unfold spec_l1Open.f
  by_cases e : (l.length : Int) > 2000
  · exact ⟨l.take 2000, by rw [if_pos e, if_pos (by omega)], by rw [List.length_take]; omega, fun x hx => hb x (List.mem_of_mem_take hx)⟩
  · exact ⟨l, by rw [if_neg e], by omega, hb⟩
theorem many_l : ∀ (m : Nat) (s : ByteArray) (n : Int) (out : ByteArray), 0 ≤ n → n < 2 ^ m → s.size * 2 ^ m ≤ 4611686018427387904 → out.size + s.size * n.toNat ≤ 4611686018427387904 → n ≤ 4611686018427387904 →
    ∃ t, Ev (fun k => spec_l1Many.l0 k s n out) t ∧ t.size = out.size + s.size * n.toNat
  | 0, s, n, out, h0, h1, h2, h3, h4 => by
    refine ⟨out, Ev.step (fun k => by rw [spec_l1Many.l0]) (ev_neg (by omega) (Ev.now _)), ?_⟩
    rw [show n.toNat = 0 by omega]; simp
  | m + 1, s, n, out, h0, h1, h2, h3, h4 => by
    by_cases e : n > 0
    · have e1 : wrap64 (Int.tdiv n 2) = n / 2 := by rw [Int.tdiv_eq_ediv_of_nonneg h0, w64 (by omega) (by omega)]
      have e2 : Int.tmod n 2 = n % 2 := Int.tmod_eq_emod_of_nonneg h0
      have p2 : s.size * 2 ^ (m + 1) = (s.size + s.size) * 2 ^ m := by rw [Nat.pow_succ, ← Nat.mul_assoc, Nat.mul_comm, ← Nat.mul_assoc, Nat.mul_comm 2, Nat.mul_two]
      have p1 : s.size + s.size ≤ (s.size + s.size) * 2 ^ m := Nat.le_mul_of_pos_right _ (Nat.two_pow_pos m)
      have hn2 : n / 2 < 2 ^ m := by rw [Int.pow_succ] at h1; omega
      have q1 : s.size * 1 ≤ s.size * n.toNat := Nat.mul_le_mul_left _ (by omega)
      by_cases o : n % 2 = 1
      · have dd : n.toNat = 2 * (n / 2).toNat + 1 := by omega
        have q2 : s.size * n.toNat = (s.size + s.size) * (n / 2).toNat + s.size := by rw [dd, Nat.mul_add, ← Nat.mul_assoc, Nat.mul_two, Nat.mul_one]
        obtain ⟨t, ht, hz⟩ := many_l m (s ++ s) (n / 2) (out ++ s) (by omega) hn2 (by rw [ap_size]; omega) (by rw [ap_size, ap_size]; omega) (by omega)
        refine ⟨t, Ev.step (fun k => by rw [spec_l1Many.l0]) (ev_pos e (ev_pos (by omega) (ev_pos (by omega) (ev_pos (by omega) ?_)))), by rw [hz, ap_size, ap_size, q2]; omega⟩
        rw [e1]; exact ht
      · have dd : n.toNat = 2 * (n / 2).toNat := by omega
        have q2 : s.size * n.toNat = (s.size + s.size) * (n / 2).toNat := by rw [dd, ← Nat.mul_assoc, Nat.mul_two]
        obtain ⟨t, ht, hz⟩ := many_l m (s ++ s) (n / 2) out (by omega) hn2 (by rw [ap_size]; omega) (by rw [ap_size]; omega) (by omega)
        refine ⟨t, Ev.step (fun k => by rw [spec_l1Many.l0]) (ev_pos e (ev_neg (by omega) (ev_pos (by omega) ?_))), by rw [hz, ap_size, q2]⟩
        rw [e1]; exact ht
    · refine ⟨out, Ev.step (fun k => by rw [spec_l1Many.l0]) (ev_neg e (Ev.now _)), ?_⟩
      rw [show n.toNat = 0 by omega]; simp
theorem many_ev (s : ByteArray) (n : Int) (hs : s.size ≤ 100000) (h0 : 0 ≤ n) (h1 : n ≤ 100000) : ∃ t, Ev (fun k => spec_l1Many.f k s n) t ∧ t.size = s.size * n.toNat := by
  have q : s.size * n.toNat ≤ 100000 * 100000 := Nat.mul_le_mul hs (by omega)
  obtain ⟨t, a, b⟩ := many_l 20 s n ⟨#[]⟩ h0 (by omega) (by omega) (by show 0 + _ ≤ _; omega) (by omega)
  exact ⟨t, a, by rw [b]; show 0 + _ = _; omega⟩
theorem thing_l (b : List Int) (p : Int) : ∀ (m : Nat) (xs : List Int) (n x i : Int), 0 ≤ i → i + m = n → n ≤ 100000 → xs.length + m ≤ 100000 → 0 ≤ x → x ≤ 65536 →
    ∃ t, Ev (fun k => spec_l2Thing.l0 k xs n x i b p) (t, p) ∧ t.size = xs.length + m
  | 0, xs, n, x, i, h0, h1, h2, h3, h4, h5 => by
    exact ⟨strOfNums xs, Ev.step (fun k => by rw [spec_l2Thing.l0]) (ev_neg (by omega) (Ev.now _)), by rw [son_size]; omega⟩
  | m + 1, xs, n, x, i, h0, h1, h2, h3, h4, h5 => by
    have y := tmod_range (wrap64 (wrap64 (x * 4005) + 7)) 65521 (by rw [w64 (n := x * 4005) (by omega) (by omega), w64 (by omega) (by omega)]; omega) (by omega)
    obtain ⟨t, ht, hz⟩ := thing_l b p m (xs ++ [(wrap64 (97 + (Int.tmod (wrap64 (Int.tdiv (Int.tmod (wrap64 ((wrap64 (x * 4005)) + 7)) 65521) 7)) 26))) % 256]) n (Int.tmod (wrap64 ((wrap64 (x * 4005)) + 7)) 65521) (i + 1) (by omega) (by omega) h2 (by simp; omega) y.1 (by omega)
    refine ⟨t, Ev.step (fun k => by rw [spec_l2Thing.l0]) (ev_pos (by omega) (ev_pos (by omega) ?_)), by rw [hz]; simp; omega⟩
    rw [w64 (n := i + 1) (by omega) (by omega)]; exact ht
theorem thing_ev (b : List Int) (p : Int) (hb : Bytes_ b) (h0 : 0 ≤ p) (h1 : p ≤ 549755813888) :
    ∃ t q, Ev (fun k => spec_l2Thing.f k b p) (t, q) ∧ t.size ≤ 3000 ∧ p ≤ q ∧ q ≤ p + 10 := by
  unfold spec_l2Thing.f
  obtain ⟨v, e, v0, v1, _⟩ := pick_ev b p 10 hb h0 (by omega) (by omega)
  by_cases z0 : v = 0
  · exact ⟨⟨#[]⟩, p + 1, Ev.bind e (ev_pos z0 (Ev.now _)), Nat.zero_le _, by omega, by omega⟩
  by_cases z1 : v = 1
  · obtain ⟨n, en, n0, n1, _⟩ := pick_ev b (p + 1) 200 hb (by omega) (by omega) (by omega)
    have n1 := n1 (by omega)
    obtain ⟨t, et, tz⟩ := many_ev (⟨#[122]⟩ : ByteArray) n (by decide) n0 (by omega)
    exact ⟨t, p + 1 + 1, Ev.bind e (ev_neg z0 (ev_pos z1 (Ev.bind en (Ev.bind et (Ev.now _))))), by rw [tz]; show 1 * _ ≤ _; omega, by omega, by omega⟩
  by_cases z2 : v = 2
  · obtain ⟨n, en, n0, n1, _⟩ := pick_ev b (p + 1) 30 hb (by omega) (by omega) (by omega)
    have n1 := n1 (by omega)
    obtain ⟨t, et, tz⟩ := many_ev (⟨#[97, 98, 99, 100, 101, 102, 103, 104, 105, 106]⟩ : ByteArray) n (by decide) n0 (by omega)
    exact ⟨t, p + 1 + 1, Ev.bind e (ev_neg z0 (ev_neg z1 (ev_pos z2 (Ev.bind en (Ev.bind et (Ev.now _)))))), by rw [tz]; show 10 * _ ≤ _; omega, by omega, by omega⟩
  by_cases z3 : v = 3
  · obtain ⟨n, en, n0, n1, _⟩ := pick_ev b (p + 1) 2 hb (by omega) (by omega) (by omega)
    have n1 := n1 (by omega)
    obtain ⟨t, et, tz⟩ := many_ev (⟨#[109]⟩ : ByteArray) (3000 - n) (by decide) (by omega) (by omega)
    refine ⟨t, p + 1 + 1, Ev.bind e (ev_neg z0 (ev_neg z1 (ev_neg z2 (ev_pos z3 (Ev.bind en (Ev.bind (a := t) ?_ (Ev.now _))))))), by rw [tz]; show 1 * _ ≤ _; omega, by omega, by omega⟩
    rw [w64 (n := 3000 - n) (by omega) (by omega)]; exact et
  · obtain ⟨a1, e1, a0, b1, _⟩ := pick_ev b (p + 1) 200 hb (by omega) (by omega) (by omega)
    obtain ⟨a2, e2, c0, b2, _⟩ := pick_ev b (p + 1 + 1) 200 hb (by omega) (by omega) (by omega)
    obtain ⟨a3, e3, d0, b3, _⟩ := pick_ev b (p + 1 + 1 + 1) 256 hb (by omega) (by omega) (by omega)
    obtain ⟨a4, e4, f0, b4, _⟩ := pick_ev b (p + 1 + 1 + 1 + 1) 256 hb (by omega) (by omega) (by omega)
    have b1 := b1 (by omega); have b2 := b2 (by omega); have b3 := b3 (by omega); have b4 := b4 (by omega)
    obtain ⟨t, et, tz⟩ := thing_l b (p + 1 + 1 + 1 + 1 + 1) (a1 + a2).toNat [] (a1 + a2) (a3 * 256 + a4 + 1) 0 (by omega) (by omega) (by omega) (by simp; omega) (by omega) (by omega)
    refine ⟨t, p + 1 + 1 + 1 + 1 + 1, Ev.bind e (ev_neg z0 (ev_neg z1 (ev_neg z2 (ev_neg z3 (Ev.bind e1 (Ev.bind e2 (Ev.bind e3 (Ev.bind e4 ?_)))))))), by rw [tz]; simp; omega, by omega, by omega⟩
    rw [w64 (n := a1 + a2) (by omega) (by omega), w64 (n := a3 * 256) (by omega) (by omega), w64 (n := a3 * 256 + a4) (by omega) (by omega), w64 (n := a3 * 256 + a4 + 1) (by omega) (by omega)]
    exact et
theorem near_ev (b : List Int) (p : Int) (s : ByteArray) (hb : Bytes_ b) (h0 : 0 ≤ p) (h1 : p ≤ 274877906944) (hs : s.size ≤ 100000) :
    ∃ t q, Ev (fun k => spec_l2Near.f k b p s) (t, q) ∧ t.size ≤ s.size + 3003 ∧ p ≤ q ∧ q ≤ p + 20 := by
  unfold spec_l2Near.f
  obtain ⟨c, e, c0, c1, _⟩ := pick_ev b p 256 hb h0 (by omega) (by omega)
  have c1 := c1 (by omega)
  obtain ⟨v, ev, v0, v1, _⟩ := pick_ev b (p + 1) 4 hb (by omega) (by omega) (by omega)
  have v1 := v1 (by omega)
  have m0 : 0 ≤ c * ((s.size : Int) + 1) := Int.mul_nonneg c0 (by omega)
  have m1 : c * ((s.size : Int) + 1) ≤ 255 * ((s.size : Int) + 1) := Int.mul_le_mul_of_nonneg_right (by omega) (by omega)
  rw [w64 (n := (s.size : Int) + 1) (by omega) (by omega)]
  obtain ⟨K, hK, k0, k1⟩ : ∃ K : Int, wrap64 (Int.tdiv (wrap64 (c * ((s.size : Int) + 1))) 256) = K ∧ 0 ≤ K ∧ K ≤ s.size := by
    refine ⟨_, rfl, ?_⟩
    rw [w64 (n := c * ((s.size : Int) + 1)) (by omega) (by omega), Int.tdiv_eq_ediv_of_nonneg m0, w64 (by omega) (by omega)]
    omega
  have sz1 : ∀ i : Nat, (s.extract 0 i).size ≤ s.size := fun i => by rw [ex_size]; omega
  have sz2 : ∀ i : Nat, (s.extract i s.size).size ≤ s.size := fun i => by rw [ex_size]; omega
  have sz3 : (s.extract 0 K.toNat).size + (s.extract K.toNat s.size).size ≤ s.size := by rw [ex_size, ex_size]; omega
  have s3 : (⟨#[110, 101, 119]⟩ : ByteArray).size = 3 := rfl
  have a1 := sz1 K.toNat
  have a2 := sz2 K.toNat
  by_cases z0 : v = 0
  · refine ⟨((s.extract 0 K.toNat) ++ (⟨#[110, 101, 119]⟩ : ByteArray)) ++ s.extract K.toNat s.size, p + 1 + 1, Ev.bind e (Ev.bind ev (ev_pos z0 ?_)), ?_⟩
    · rw [hK]
      exact ev_pos k0 (ev_pos k1 (ev_pos (by omega) (ev_pos (by rw [ap_size]; omega) (Ev.now _))))
    · exact ⟨by rw [ap_size, ap_size]; omega, by omega, by omega⟩
  by_cases z1 : v = 1
  · obtain ⟨j, ej, j0, j1, _⟩ := pick_ev b (p + 1 + 1) 20 hb (by omega) (by omega) (by omega)
    have j1 := j1 (by omega)
    by_cases lt : K + j < s.size
    · refine ⟨(s.extract 0 K.toNat) ++ s.extract (K + j).toNat s.size, p + 1 + 1 + 1, Ev.bind e (Ev.bind ev (ev_neg z0 (ev_pos z1 (Ev.bind ej ?_)))), ?_⟩
      · rw [hK, w64 (n := K + j) (by omega) (by omega)]
        have := sz2 (K + j).toNat
        exact ev_pos lt (ev_pos k0 (ev_pos k1 (ev_pos (by omega) (ev_pos (by omega) (ev_pos (by omega) (Ev.now _))))))
      · have := sz2 (K + j).toNat
        exact ⟨by rw [ap_size, ex_size, ex_size]; omega, by omega, by omega⟩
    · obtain ⟨t, q, et, tz, q0, q1⟩ := thing_ev b (p + 1 + 1 + 1) hb (by omega) (by omega)
      refine ⟨t ++ s.extract K.toNat s.size, q, Ev.bind e (Ev.bind ev (ev_neg z0 (ev_pos z1 (Ev.bind ej ?_)))), ?_⟩
      · rw [hK, w64 (n := K + j) (by omega) (by omega)]
        exact ev_neg lt (Ev.bind et (ev_pos k0 (ev_pos k1 (ev_pos (by dsimp only; omega) (Ev.now _)))))
      · exact ⟨by rw [ap_size]; omega, by omega, by omega⟩
  by_cases z2 : v = 2
  · obtain ⟨t, q, et, tz, q0, q1⟩ := thing_ev b (p + 1 + 1) hb (by omega) (by omega)
    exact ⟨s ++ t, q, Ev.bind e (Ev.bind ev (ev_neg z0 (ev_neg z1 (ev_pos z2 (Ev.bind et (ev_pos (by dsimp only; omega) (Ev.now _))))))), by rw [ap_size]; omega, by omega, by omega⟩
  · obtain ⟨t, q, et, tz, q0, q1⟩ := thing_ev b (p + 1 + 1) hb (by omega) (by omega)
    refine ⟨t ++ s.extract K.toNat s.size, q, Ev.bind e (Ev.bind ev (ev_neg z0 (ev_neg z1 (ev_neg z2 (Ev.bind et ?_))))), ?_⟩
    · rw [hK]
      exact ev_pos k0 (ev_pos k1 (ev_pos (by dsimp only; omega) (Ev.now _)))
    · exact ⟨by rw [ap_size]; omega, by omega, by omega⟩
theorem drawShared_ev (l : List Int) (h : ∀ x ∈ l, (Lit.int .u8 x).wf = true) : ∃ a b, Ev (fun k => spec_DrawShared.f k l) (a, b) ∧ a.size ≤ 3000 ∧ b.size ≤ 6003 := by
  obtain ⟨c, ec, hc⟩ := open_is l h
  obtain ⟨t, q, et, tz, q0, q1⟩ := thing_ev c 0 hc (by omega) (by omega)
  obtain ⟨u, q2, eu, uz, _, _⟩ := near_ev c q t hc (by omega) (by omega) (by omega)
  refine ⟨t, u, ?_, tz, by omega⟩
  unfold spec_DrawShared.f
  exact ev_bindc ec (Ev.bind et (Ev.bind eu (Ev.now _)))

/-! ### The law -/
/-- The pieces of s from place a on are l. -/
def Cuts (s : ByteArray) (a : Nat) (l : List ByteArray) : Prop := a ≤ s.size ∧ l = cutAt s (s.size - a) a a
theorem cutAt_cases (s : ByteArray) : ∀ (n a i : Nat), a ≤ i → i + n = s.size → i < a + 64 → 1 ≤ n →
    ∃ j, i < j ∧ j ≤ s.size ∧ j ≤ a + 64 ∧ (j < a + 8 → j = s.size) ∧ cutAt s n a i = s.extract a j :: cutAt s (s.size - j) j j
  | 0, a, i, h0, h1, h2, h3 => absurd h3 (by omega)
  | n + 1, a, i, h0, h1, h2, h3 => by
    rw [cutAt]
    have sz : (s.extract a (i + 1)).size = i + 1 - a := by rw [ex_size]; omega
    by_cases e : endsP (s.extract a (i + 1)) = true
    · refine ⟨i + 1, by omega, by omega, by omega, ?_, by rw [if_pos (Or.inl e), show n = s.size - (i + 1) by omega]⟩
      intro h; unfold endsP at e; rw [sz, if_pos (by omega)] at e; exact absurd e (by simp)
    · by_cases e2 : i + 1 = s.size
      · exact ⟨i + 1, by omega, by omega, by omega, fun _ => e2, by rw [if_pos (Or.inr e2), show n = s.size - (i + 1) by omega]⟩
      · rw [if_neg (by rintro (h | h) <;> contradiction)]
        have hlt : i + 1 < a + 64 := by
          by_cases z : i + 1 < a + 64
          · exact z
          · exact absurd (by unfold endsP; rw [sz, if_neg (by omega), if_pos (by omega)]) e
        obtain ⟨j, g1, g2, g3, g4, g5⟩ := cutAt_cases s n a (i + 1) (by omega) (by omega) hlt (by omega)
        exact ⟨j, by omega, g2, g3, g4, g5⟩
theorem cuts_nil {s : ByteArray} {a : Nat} (h : Cuts s a []) : a = s.size := by
  by_cases e : a = s.size
  · exact e
  · obtain ⟨j, _, _, _, _, g⟩ := cutAt_cases s (s.size - a) a a (by omega) (by have := h.1; omega) (by omega) (by have := h.1; omega)
    rw [← h.2] at g; exact absurd g (by simp)
theorem cuts_cons {s : ByteArray} {a : Nat} {x : ByteArray} {l : List ByteArray} (h : Cuts s a (x :: l)) :
    x = s.extract a (a + x.size) ∧ 1 ≤ x.size ∧ x.size ≤ 64 ∧ a + x.size ≤ s.size ∧ (x.size < 8 → l = []) ∧ Cuts s (a + x.size) l := by
  have hlt : a < s.size := by
    by_cases e : a < s.size
    · exact e
    · have := h.2; rw [show s.size - a = 0 by omega, cutAt] at this; exact absurd this (by simp)
  obtain ⟨j, g1, g2, g3, g4, g5⟩ := cutAt_cases s (s.size - a) a a (by omega) (by omega) (by omega) (by omega)
  rw [← h.2] at g5
  injection g5 with e1 e2
  have sz : x.size = j - a := by rw [e1, ex_size]; omega
  have ej : a + x.size = j := by omega
  refine ⟨by rw [ej]; exact e1, by omega, by omega, by omega, ?_, by omega, by rw [ej]; exact e2⟩
  intro h8
  rw [e2, g4 (by omega), Nat.sub_self, cutAt]
theorem cutAt_same (s t : ByteArray) (a b : Nat) (ha : a ≤ s.size) (hb : b ≤ t.size) (hr : s.size - a = t.size - b) (he : s.extract a s.size = t.extract b t.size) :
    ∀ (n c d : Nat), c ≤ d → d + n = s.size - a → cutAt s n (a + c) (a + d) = cutAt t n (b + c) (b + d)
  | 0, _, _, _, _ => rfl
  | n + 1, c, d, h0, h1 => by
    rw [cutAt, cutAt]
    have e : s.extract (a + c) (a + d + 1) = t.extract (b + c) (b + d + 1) := by
      have e1 : s.extract (a + c) (a + d + 1) = (s.extract a s.size).extract c (d + 1) := by rw [ex_ex]; congr 1; omega
      have e2 : t.extract (b + c) (b + d + 1) = (t.extract b t.size).extract c (d + 1) := by rw [ex_ex]; congr 1; omega
      rw [e1, e2, he]
    rw [e]
    have i1 := cutAt_same s t a b ha hb hr he n (d + 1) (d + 1) (by omega) (by omega)
    have i2 := cutAt_same s t a b ha hb hr he n c (d + 1) (by omega) (by omega)
    exact ite_both (or_congr Iff.rfl (by omega)) (by rw [show a + d + 1 = a + (d + 1) by omega, show b + d + 1 = b + (d + 1) by omega, i1]) (by rw [show a + d + 1 = a + (d + 1) by omega, show b + d + 1 = b + (d + 1) by omega, i2])
theorem cuts_same {s t : ByteArray} {a b : Nat} {l m : List ByteArray} (hl : Cuts s a l) (hm : Cuts t b m) (hr : s.size - a = t.size - b) (he : s.extract a s.size = t.extract b t.size) : l = m := by
  rw [hl.2, hm.2, hr]
  exact cutAt_same s t a b hl.1 hm.1 hr he (t.size - b) 0 0 (by omega) (by omega)
theorem drop_at {p : List ByteArray} {i : Nat} (h : i < p.length) : p.drop i = rdOf ByteArray.empty p i :: p.drop (i + 1) := by
  rw [List.drop_eq_getElem_cons h]
  unfold rdOf; rw [List.getD_eq_getElem?_getD, Int.toNat_natCast, List.getElem?_eq_getElem h]; rfl
theorem fnPieces_l1 (a b : ByteArray) (p q : List ByteArray) (ha : a.size ≤ 3000) (hb : b.size ≤ 100000) (hp : p.length ≤ 3000) (hq : q.length ≤ 3000) (at_ i : Nat) (n : Int) (hi : i ≤ p.length) (cp : Cuts a at_ (p.drop i))
    (R : Bool) (H : Ev (fun k => laws_FnPieces.l0 k a b p q (wrap64 (at_ + n)) (wrap64 (i + 1))) R) :
    ∀ (m k_ e : Nat), k_ + m = q.length → (b.size ≤ 3000 → Cuts b e (q.drop k_)) → (¬ b.size ≤ 3000 → m = 0) → e ≤ b.size →
    Ev (fun k => laws_FnPieces.l1 k a b p q at_ i n (a.size - at_) e k_) R
  | 0, k_, e, h0, cq, hz, he => by
    refine Ev.step (fun k => by rw [laws_FnPieces.l1]) ?_
    exact ev_neg (by omega) H
  | m + 1, k_, e, h0, cq, hz, he => by
    have hb3 : b.size ≤ 3000 := by
      by_cases z : b.size ≤ 3000
      · exact z
      · exact absurd (hz z) (by omega)
    have cq := cq hb3
    have dq := drop_at (p := q) (i := k_) (by omega)
    have cc := cq
    rw [dq] at cc
    obtain ⟨_, x1, x2, x3, _, cn⟩ := cuts_cons cc
    have go := fnPieces_l1 a b p q ha hb hp hq at_ i n hi cp R H m (k_ + 1) (e + (rdOf ByteArray.empty q k_).size) (by omega) (fun _ => cn) (fun z => absurd hb3 z) x3
    generalize hy : rdOf ByteArray.empty q (k_ : Int) = y at *
    refine Ev.step (fun k => by rw [laws_FnPieces.l1]) ?_
    rw [hy]
    rw [show wrap64 ((e : Int) + (y.size : Int)) = ((e + y.size : Nat) : Int) by rw [w64 (by omega) (by omega)]; omega, show wrap64 ((k_ : Int) + 1) = ((k_ + 1 : Nat) : Int) by rw [w64 (by omega) (by omega)]; omega]
    refine ev_pos (by omega) ?_
    rw [w64 (n := (b.size : Int) - e) (by omega) (by omega)]
    have ca := cp.1
    have k0 : 0 ≤ (k_ : Int) := Int.natCast_nonneg _
    by_cases er : (b.size : Int) - e = (a.size : Int) - at_
    · refine ev_pos er (ev_pos (by omega) (ev_pos (by omega) (ev_pos (by omega) (ev_pos (by omega) ?_))))
      rw [Int.toNat_natCast, Int.toNat_natCast, Int.toNat_natCast, Int.toNat_natCast]
      by_cases es : b.extract e b.size = a.extract at_ a.size
      · refine ev_pos (ba_eq.2 es) (ev_pos (by omega) (ev_pos (by omega) (ev_pos (by omega) (ev_pos (by omega) ?_))))
        have same := cuts_same cp cq (by omega) es.symm
        rw [same]
        exact Ev.bind (laws_wTexts_same _ (by simp; omega)) (ev_pos rfl go)
      · exact ev_neg (fun h => es (ba_eq.1 h)) (ev_pos k0 go)
    · exact ev_neg er (ev_pos k0 go)
theorem fnPieces_l0 (a b : ByteArray) (p q : List ByteArray) (ha : a.size ≤ 3000) (hb : b.size ≤ 100000) (hp : p.length ≤ 3000) (hq : q.length ≤ 3000) (cq : b.size ≤ 3000 → Cuts b 0 q) (q0 : ¬ b.size ≤ 3000 → q = []) :
    ∀ (m i at_ : Nat), i + m = p.length → Cuts a at_ (p.drop i) → Ev (fun k => laws_FnPieces.l0 k a b p q at_ i) true
  | 0, i, at_, h0, cp => by
    refine Ev.step (fun k => by rw [laws_FnPieces.l0]) ?_
    rw [List.drop_eq_nil_of_le (by omega)] at cp
    have := cuts_nil cp
    exact ev_neg (by omega) (ev_pos (by omega) (Ev.now _))
  | m + 1, i, at_, h0, cp => by
    have dp := drop_at (p := p) (i := i) (by omega)
    have cc := cp
    rw [dp] at cc
    obtain ⟨x0, x1, x2, x3, x4, cn⟩ := cuts_cons cc
    have ih := fnPieces_l0 a b p q ha hb hp hq cq q0 m (i + 1) (at_ + (rdOf ByteArray.empty p i).size) (by omega) cn
    generalize hx : rdOf ByteArray.empty p (i : Int) = x at *
    have w1 : wrap64 ((at_ : Int) + (x.size : Int)) = ((at_ + x.size : Nat) : Int) := by rw [w64 (by omega) (by omega)]; omega
    have w2 : wrap64 ((i : Int) + 1) = ((i + 1 : Nat) : Int) := by rw [w64 (by omega) (by omega)]; omega
    have j2 : Ev (fun k => laws_FnPieces.j2 k a b p q at_ i (x.size : Int) ((a.extract (at_ : Int).toNat ((at_ + x.size : Nat) : Int).toNat).toList != x.toList)) true := by
      rw [Int.toNat_natCast, Int.toNat_natCast, ← x0]
      refine Ev.step (fun k => by rw [laws_FnPieces.j2]) ?_
      refine ev_neg (by simp) ?_
      rw [w64 (n := (a.size : Int) - at_) (by omega) (by omega)]
      refine fnPieces_l1 a b p q ha hb hp hq at_ i (x.size : Int) (by omega) cp true (by rw [w1, w2]; exact ih) q.length 0 0 (by omega) (fun h => by simpa using cq h) (fun h => by rw [q0 h]; rfl) (by omega)
    refine Ev.step (fun k => by rw [laws_FnPieces.l0]) ?_
    rw [hx, w1, w2]
    refine ev_pos (by omega) (ev_pos (by omega) (ev_neg (by omega) (ev_neg (by omega) ?_)))
    by_cases h8 : x.size < 8
    · have := x4 h8
      have ln : i + 1 = p.length := by
        have z : (p.drop (i + 1)).length = 0 := by rw [this]; rfl
        rw [List.length_drop] at z; omega
      exact ev_pos (by omega) (ev_neg (by omega) (ev_pos (by omega) (ev_pos (by omega) (ev_pos (by omega) j2))))
    · exact ev_neg (by omega) (ev_pos (by omega) (ev_pos (by omega) (ev_pos (by omega) j2)))
theorem pieces_cuts {s : ByteArray} (h : s.size ≤ 3000) : Cuts s 0 (pieces s) := by
  refine ⟨by omega, ?_⟩
  unfold pieces; rw [if_neg (by omega)]; rfl
theorem FnPieces : laws_FnPieces.Law := by
  intro l ⟨_, hl⟩
  apply Ev.rounds
  unfold laws_FnPieces.f
  by_cases h : (l.length : Int) > 1048576
  · exact ev_pos h (Ev.now _)
  · refine ev_neg h ?_
    obtain ⟨a, b, ed, za, zb⟩ := drawShared_ev l hl
    have la := pieces_length a
    have lb := pieces_length b
    refine Ev.bind ed (Ev.bind (implPieces_ev a) (Ev.bind (implPieces_ev b) (Ev.bind (specPieces_ev a) (Ev.bind (laws_wTexts_same _ (by omega)) (ev_pos rfl ?_)))))
    refine Ev.bind (specPieces_ev b) (Ev.bind (laws_wTexts_same _ (by omega)) ?_)
    refine Ev.step (fun k => by rw [laws_FnPieces.j0]) (ev_neg (by simp) ?_)
    exact fnPieces_l0 a b _ _ za (by omega) la lb (fun h => pieces_cuts h) (fun h => by unfold pieces; rw [if_pos (by omega)]) (pieces a).length 0 0 (by omega) (by simpa using pieces_cuts za)

end Go.Proofs.Ytbmldafgipimbaa.Pure

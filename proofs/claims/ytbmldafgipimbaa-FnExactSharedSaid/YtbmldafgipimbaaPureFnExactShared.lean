/- The law FnExactShared answers true at all texts: the program's Shared is the reference's; no condition beyond what the row itself reads. -/
import Derived.Test.YtbmldafgipimbaaGFnExactSharedx
import Derived.Test.YtbmldafgipimbaaM
namespace Go.Proofs.Ytbmldafgipimbaa.Pure
open Go.RowKit Go.Proofs.Ytbmldafgipimbaa.PFnExactShared Go.Proofs.Ytbmldafgipimbaa.M Go.Proofs.YtbmldafgipimbaaW.PrintWords Go.Proofs.YtbmldafgipimbaaW.PrintLast Go.Proofs.YtbmldafgipimbaaW.PrintMore
set_option linter.unusedVariables false
set_option linter.unusedSimpArgs false

/-! ### Sums of 64 bits: spec_l1Sum64, impl_sum64 -/
theorem l1Sum64_l (s : ByteArray) (hs : s.size ≤ 4611686018427387904) : ∀ (n : Nat) (h i : Int), 0 ≤ i → i + n = s.size → Ev (fun k => spec_l1Sum64.l0 k s h i) (fnv s n h i)
  | 0, h, i, h0, h1 => by
    refine Ev.step (fun k => by rw [spec_l1Sum64.l0]) ?_
    exact ev_neg (by omega) (Ev.now _)
  | n + 1, h, i, h0, h1 => by
    refine Ev.step (fun k => by rw [spec_l1Sum64.l0]) ?_
    refine ev_pos (by omega) (ev_pos h0 ?_)
    rw [w64 (by omega) (by omega)]
    exact l1Sum64_l s hs n _ (i + 1) (by omega) (by omega)
theorem l1Sum64_ev (s : ByteArray) (hs : s.size ≤ 4611686018427387904) : Ev (fun k => spec_l1Sum64.f k s) (sum64 s) :=
  l1Sum64_l s hs s.size _ 0 (by omega) (by omega)
theorem sum64_l (s : ByteArray) (hs : s.size ≤ 4611686018427387904) : ∀ (n : Nat) (h i : Int), 0 ≤ i → i + n = s.size → Ev (fun k => impl_sum64.l0 k s h i) (fnv s n h i)
  | 0, h, i, h0, h1 => by
    refine Ev.step (fun k => by rw [impl_sum64.l0]) ?_
    exact ev_neg (by omega) (Ev.now _)
  | n + 1, h, i, h0, h1 => by
    refine Ev.step (fun k => by rw [impl_sum64.l0]) ?_
    refine ev_pos (by omega) (ev_pos h0 ?_)
    rw [w64 (by omega) (by omega)]
    exact sum64_l s hs n _ (i + 1) (by omega) (by omega)
theorem sum64_ev (s : ByteArray) (hs : s.size ≤ 4611686018427387904) : Ev (fun k => impl_sum64.f k s) (sum64 s) :=
  sum64_l s hs s.size _ 0 (by omega) (by omega)

/-! ### Pieces: spec_l2Ends, spec_Pieces, impl_Pieces -/
theorem l2Ends_ev (p : ByteArray) (hp : p.size ≤ 4611686018427387904) : Ev (fun k => spec_l2Ends.f k p) (endsP p) := by
  unfold spec_l2Ends.f endsP
  by_cases h : p.size < 8
  · rw [if_pos h]; exact ev_pos (by omega) (Ev.now _)
  · rw [if_neg h]
    refine ev_neg (by omega) ?_
    by_cases h2 : 64 ≤ p.size
    · rw [if_pos h2]; exact ev_pos (by omega) (Ev.now _)
    · rw [if_neg h2]
      refine ev_neg (by omega) ?_
      rw [w64 (by omega) (by omega)]
      refine ev_pos (by omega) (ev_pos (by omega) ?_)
      rw [show ((p.size : Int) - 8).toNat = p.size - 8 by omega]
      refine Ev.bind (l1Sum64_ev _ (by rw [ex_size]; omega)) (ev_now ?_)
      have z := sum64_range (p.extract (p.size - 8) p.size)
      rw [Int.tmod_eq_emod_of_nonneg z.1]
      rfl
theorem specPieces_l (s : ByteArray) (hs : s.size ≤ 3000) : ∀ (n a i : Nat) (acc : List ByteArray), a ≤ i → i + n = s.size → acc.length + n ≤ 3000 →
    Ev (fun k => spec_Pieces.l0 k s acc a ((i : Int) + 1)) (acc ++ cutAt s n a i)
  | 0, a, i, acc, h0, h1, h2 => by
    refine Ev.step (fun k => by rw [spec_Pieces.l0]) ?_
    refine ev_neg (by omega) (ev_now ?_)
    rw [cutAt, List.append_nil]
  | n + 1, a, i, acc, h0, h1, h2 => by
    refine Ev.step (fun k => by rw [spec_Pieces.l0]) ?_
    refine ev_pos (by omega) (ev_pos (by omega) (ev_pos (by omega) ?_))
    rw [show ((a : Int)).toNat = a by omega, show ((i : Int) + 1).toNat = i + 1 by omega, w64 (by omega) (by omega)]
    refine Ev.bind (l2Ends_ev _ (by rw [ex_size]; omega)) ?_
    rw [cutAt]
    by_cases e : endsP (s.extract a (i + 1)) = true
    · refine ev_pos e (ev_pos (by omega) ?_)
      rw [if_pos (Or.inl e)]
      refine ev_cast ?_ (specPieces_l s hs n (i + 1) (i + 1) _ (by omega) (by omega) (by simp; omega))
      simp
    · refine ev_neg e ?_
      by_cases e2 : i + 1 = s.size
      · refine ev_pos (by omega) (ev_pos (by omega) ?_)
        rw [if_pos (Or.inr e2)]
        refine ev_cast ?_ (specPieces_l s hs n (i + 1) (i + 1) _ (by omega) (by omega) (by simp; omega))
        simp
      · refine ev_neg (by omega) ?_
        rw [if_neg (by rintro (h | h) <;> contradiction)]
        exact specPieces_l s hs n a (i + 1) acc (by omega) (by omega) (by omega)
theorem specPieces_ev (s : ByteArray) : Ev (fun k => spec_Pieces.f k s) (pieces s) := by
  unfold spec_Pieces.f pieces
  refine ev_some ?_
  by_cases h : s.size > 3000
  · rw [if_pos h]; exact ev_pos (by omega) (Ev.now _)
  · rw [if_neg h]
    refine ev_neg (by omega) ?_
    exact ev_cast (by simp) (specPieces_l s (by omega) s.size 0 0 [] (by omega) (by omega) (by simp; omega))
theorem implPieces_l (s : ByteArray) (hs : s.size ≤ 3000) : ∀ (n a i : Nat) (acc : List ByteArray), a ≤ i → i < a + 64 → i + n = s.size → acc.length + n < 3000 + 1 →
    Ev (fun k => impl_Pieces.l0 k s acc a s.size i) (acc ++ (if n = 0 then (if a < s.size then [s.extract a s.size] else []) else cutAt s n a i))
  | 0, a, i, acc, h0, h3, h1, h2 => by
    refine Ev.step (fun k => by rw [impl_Pieces.l0]) ?_
    refine ev_neg (by omega) ?_
    rw [if_pos rfl]
    by_cases e : a < s.size
    · refine ev_pos (by omega) (ev_pos (by omega) (ev_pos (by omega) (ev_pos (by omega) (ev_now ?_))))
      rw [if_pos e]; rfl
    · exact ev_neg (by omega) (ev_now (by rw [if_neg e, List.append_nil]))
  | n + 1, a, i, acc, h0, h3, h1, h2 => by
    refine Ev.step (fun k => by rw [impl_Pieces.l0]) ?_
    refine ev_pos (by omega) ?_
    rw [w64 (n := (i : Int) + 1) (by omega) (by omega), w64 (n := (i : Int) + 1 - a) (by omega) (by omega), w64 (n := (i : Int) + 1 - 8) (by omega) (by omega)]
    rw [show ((a : Int)).toNat = a by omega, show ((i : Int) + 1).toNat = i + 1 by omega]
    have sz : (s.extract a (i + 1)).size = i + 1 - a := by rw [ex_size]; omega
    have cutc : endsP (s.extract a (i + 1)) = true → (n = 0 → i + 1 = s.size) → acc.length < 8796093022208 ∧
        Ev (fun k => impl_Pieces.l0 k s (acc ++ [s.extract a (i + 1)]) ((i : Int) + 1) s.size ((i : Int) + 1)) (acc ++ (if n + 1 = 0 then (if a < s.size then [s.extract a s.size] else []) else cutAt s (n + 1) a i)) := by
      intro e hn
      refine ⟨by omega, ?_⟩
      refine ev_cast ?_ (implPieces_l s hs n (i + 1) (i + 1) _ (by omega) (by omega) (by omega) (by simp; omega))
      rw [if_neg (Nat.succ_ne_zero n), cutAt, if_pos (Or.inl e)]
      by_cases n0 : n = 0
      · rw [if_pos n0, if_neg (by omega)]; subst n0; simp [cutAt]
      · rw [if_neg n0]; simp
    have nocut : ¬ endsP (s.extract a (i + 1)) = true →
        Ev (fun k => impl_Pieces.l0 k s acc a s.size ((i : Int) + 1)) (acc ++ (if n + 1 = 0 then (if a < s.size then [s.extract a s.size] else []) else cutAt s (n + 1) a i)) := by
      intro e
      have hlt : i + 1 < a + 64 := by
        by_cases z : i + 1 < a + 64
        · exact z
        · exact absurd (by unfold endsP; rw [sz, if_neg (by omega), if_pos (by omega)]) e
      refine ev_cast ?_ (implPieces_l s hs n a (i + 1) acc (by omega) hlt (by omega) (by omega))
      rw [if_neg (Nat.succ_ne_zero n), cutAt]
      by_cases n0 : n = 0
      · rw [if_pos n0, if_pos (by omega)]; subst n0
        rw [if_pos (Or.inr (by omega)), cutAt, show i + 1 = s.size by omega]
      · rw [if_neg n0, if_neg (by rintro (h | h); exact e h; omega)]
    by_cases e64 : i + 1 = a + 64
    · refine ev_pos (by omega) ?_
      obtain ⟨g1, g2⟩ := cutc (by unfold endsP; rw [sz, if_neg (by omega), if_pos (by omega)]) (by omega)
      exact ev_pos (by omega) (ev_pos (by omega) (ev_pos (by omega) (ev_pos g1 g2)))
    · refine ev_neg (by omega) ?_
      by_cases e8 : i + 1 < a + 8
      · refine ev_neg (by omega) ?_
        exact nocut (by unfold endsP; rw [sz, if_pos (by omega)]; simp)
      · refine ev_pos (by omega) (ev_pos (by omega) (ev_pos (by omega) (ev_pos (by omega) ?_)))
        rw [show ((i : Int) + 1 - 8).toNat = i + 1 - 8 by omega]
        refine Ev.bind (sum64_ev _ (by rw [ex_size]; omega)) ?_
        have z := sum64_range (s.extract (i + 1 - 8) (i + 1))
        rw [Int.tmod_eq_emod_of_nonneg z.1]
        have ee : endsP (s.extract a (i + 1)) = decide (sum64 (s.extract (i + 1 - 8) (i + 1)) % 16 = 0) := by
          unfold endsP
          rw [sz, if_neg (by omega), if_neg (by omega), ex_ex, show a + (i + 1 - a - 8) = i + 1 - 8 by omega, show min (a + (i + 1 - a)) (i + 1) = i + 1 by omega]
        by_cases e : sum64 (s.extract (i + 1 - 8) (i + 1)) % 16 = 0
        · obtain ⟨g1, g2⟩ := cutc (by rw [ee]; simpa using e) (by omega)
          exact ev_pos e (ev_pos (by omega) (ev_pos (by omega) (ev_pos g1 g2)))
        · exact ev_neg e (nocut (by rw [ee]; simpa using e))
theorem implPieces_ev (s : ByteArray) : Ev (fun k => impl_Pieces.f k s) (pieces s) := by
  unfold impl_Pieces.f pieces
  by_cases h : s.size > 3000
  · rw [if_pos h]; exact ev_pos (by omega) (Ev.now _)
  · rw [if_neg h]
    refine ev_neg (by omega) ?_
    refine ev_cast ?_ (implPieces_l s (by omega) s.size 0 0 [] (by omega) (by omega) (by omega) (by simp; omega))
    by_cases z : s.size = 0
    · rw [if_pos z, if_neg (by omega), z, cutAt]; rfl
    · rw [if_neg z]; rfl

/-! ### Is a text in a list: spec_l2In -/
theorem l2In_l (l : List ByteArray) (x : ByteArray) (hl : l.length ≤ 4611686018427387904) : ∀ (n i : Nat), i + n = l.length → Ev (fun k => spec_l2In.l0 k l x i) (decide (x ∈ l.drop i))
  | 0, i, h0 => by
    refine Ev.step (fun k => by rw [spec_l2In.l0]) (ev_neg (by omega) (ev_now ?_))
    rw [List.drop_eq_nil_of_le (by omega)]; simp
  | n + 1, i, h0 => by
    refine Ev.step (fun k => by rw [spec_l2In.l0]) (ev_pos (by omega) (ev_pos (by omega) ?_))
    have e : rdOf ByteArray.empty l (i : Int) = l.getD i ByteArray.empty := rfl
    rw [e, drop_get ByteArray.empty l i (by omega), show wrap64 ((i : Int) + 1) = ((i + 1 : Nat) : Int) by rw [w64 (by omega) (by omega)]; omega]
    generalize l.getD i ByteArray.empty = y
    by_cases c : y = x
    · exact ev_pos (ba_eq.2 c) (ev_now (by simp [c]))
    · refine ev_neg (fun z => c (ba_eq.1 z)) (ev_cast ?_ (l2In_l l x hl n (i + 1) (by omega)))
      have : x ≠ y := fun z => c z.symm
      simp [this]
theorem l2In_ev (l : List ByteArray) (x : ByteArray) (hl : l.length ≤ 4611686018427387904) : Ev (fun k => spec_l2In.f k l x) (decide (x ∈ l)) := by
  unfold spec_l2In.f
  exact ev_cast (by simp) (l2In_l l x hl l.length 0 (by omega))

/-! ### Shared: spec_Shared, impl_Shared -/
theorem mem_any (x : ByteArray) (l : List ByteArray) : decide (x ∈ l) = (l.any fun y => decide (y = x)) := by
  rw [Bool.eq_iff_iff, decide_eq_true_iff, List.any_eq_true]
  constructor
  · intro h; exact ⟨x, h, by simp⟩
  · rintro ⟨y, hy, e⟩; simp at e; exact e ▸ hy
theorem specShared_l (p q : List ByteArray) (hp : p.length ≤ 1048576) (hq : q.length ≤ 1048576) : ∀ (n i : Nat) (acc : Int), i + n = q.length → Ev (fun k => spec_Shared.l0 k p q acc i) (impl_Shared.add p acc (q.drop i))
  | 0, i, acc, h0 => by
    refine Ev.step (fun k => by rw [spec_Shared.l0]) (ev_neg (by omega) (ev_now ?_))
    rw [List.drop_eq_nil_of_le (by omega)]; rfl
  | n + 1, i, acc, h0 => by
    have e : rdOf ByteArray.empty q (i : Int) = q.getD i ByteArray.empty := rfl
    have dg := drop_get ByteArray.empty q i (by omega)
    refine Ev.step (fun k => by rw [spec_Shared.l0]) (ev_pos (by omega) (ev_pos (by omega) ?_))
    rw [e, dg, impl_Shared.add, show wrap64 ((i : Int) + 1) = ((i + 1 : Nat) : Int) by rw [w64 (by omega) (by omega)]; omega]
    generalize q.getD i ByteArray.empty = x
    refine Ev.bind (l2In_ev p x (by omega)) ?_
    rw [mem_any]
    by_cases c : (p.any fun y => decide (y = x)) = true
    · rw [if_pos c]
      exact ev_pos c (specShared_l p q hp hq n (i + 1) _ (by omega))
    · rw [if_neg c]
      exact ev_neg c (specShared_l p q hp hq n (i + 1) _ (by omega))
theorem specShared_ev (s t : ByteArray) : Ev (fun k => spec_Shared.f k s t) (impl_Shared.add (pieces s) 0 (pieces t)) := by
  unfold spec_Shared.f
  have z := pieces_length s
  have y := pieces_length t
  exact Ev.bind (specPieces_ev s) (Ev.bind (specPieces_ev t) (specShared_l _ _ (by omega) (by omega) (pieces t).length 0 0 (by omega)))
theorem implShared_ev (s t : ByteArray) (hs : s.size ≤ 1048576) (ht : t.size ≤ 1048576) : Ev (fun k => impl_Shared.f k s t) (impl_Shared.add (pieces s) 0 (pieces t)) := by
  unfold impl_Shared.f
  have z := pieces_length s
  have y := pieces_length t
  have hm : maxLen = 9223372036854775807 := rfl
  refine Ev.bind (implPieces_ev s) (Ev.bind (implPieces_ev t) (ev_pos ⟨⟨by omega, by omega⟩, ?_, ?_⟩ (Ev.now _)))
  · rw [List.all_eq_true]; intro x hx; have := pieces_size s x hx; exact decide_eq_true (by omega)
  · rw [List.all_eq_true]; intro x hx; have := pieces_size t x hx; exact decide_eq_true (by omega)

theorem FnExactShared : laws_FnExactShared.Law := by
  intro s t _ _
  apply Ev.rounds
  unfold laws_FnExactShared.f
  by_cases h : (s.size : Int) > 1048576
  · exact ev_pos h (Ev.now _)
  · refine ev_neg h ?_
    by_cases g : (t.size : Int) > 1048576
    · exact ev_pos g (Ev.now _)
    · exact ev_neg g (Ev.bind (specShared_ev s t) (Ev.bind (implShared_ev s t (by omega) (by omega)) (ev_pos rfl (Ev.now _))))

end Go.Proofs.Ytbmldafgipimbaa.Pure

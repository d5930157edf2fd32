/- The law FnExactSum answers true at every text and width: the program's Sum is the reference's; no condition beyond what the row itself reads. -/
import Derived.Test.YtbmldafgipimbaaGFnExactSumx
import Derived.Test.YtbmldafgipimbaaM
namespace Go.Proofs.Ytbmldafgipimbaa.Pure
open Go.RowKit Go.Proofs.Ytbmldafgipimbaa.PFnExactSum Go.Proofs.Ytbmldafgipimbaa.M Go.Proofs.YtbmldafgipimbaaW.PrintWords Go.Proofs.YtbmldafgipimbaaW.PrintLast Go.Proofs.YtbmldafgipimbaaW.PrintMore
set_option linter.unusedVariables false
set_option linter.unusedSimpArgs false

/-! ### Sums of 64 bits: spec_l1Sum64, impl_sum64 -/
theorem l1Sum64_l (s : ByteArray) (hs : s.size ≤ 4611686018427387904) : ∀ (n : Nat) (h i : Int), 0 ≤ i → i + n = s.size → Ev (fun k => spec_l1Sum64.l0 k s h i) (fnv s n h i)
  | 0, h, i, h0, h1 => by
    refine Ev.step (fun k => by rw [spec_l1Sum64.l0]) ?_
    exact ev_neg (by omega) (Ev.now _)
  | n + 1, h, i, h0, h1 => by
    refine Ev.step (fun k => by rw [spec_l1Sum64.l0]) ?_
    refine ev_pos (by omega) (ev_pos h0 ?_)
    rw [w64 (by omega) (by omega)]
    exact l1Sum64_l s hs n _ (i + 1) (by omega) (by omega)
theorem l1Sum64_ev (s : ByteArray) (hs : s.size ≤ 4611686018427387904) : Ev (fun k => spec_l1Sum64.f k s) (sum64 s) :=
  l1Sum64_l s hs s.size _ 0 (by omega) (by omega)
theorem sum64_l (s : ByteArray) (hs : s.size ≤ 4611686018427387904) : ∀ (n : Nat) (h i : Int), 0 ≤ i → i + n = s.size → Ev (fun k => impl_sum64.l0 k s h i) (fnv s n h i)
  | 0, h, i, h0, h1 => by
    refine Ev.step (fun k => by rw [impl_sum64.l0]) ?_
    exact ev_neg (by omega) (Ev.now _)
  | n + 1, h, i, h0, h1 => by
    refine Ev.step (fun k => by rw [impl_sum64.l0]) ?_
    refine ev_pos (by omega) (ev_pos h0 ?_)
    rw [w64 (by omega) (by omega)]
    exact sum64_l s hs n _ (i + 1) (by omega) (by omega)
theorem sum64_ev (s : ByteArray) (hs : s.size ≤ 4611686018427387904) : Ev (fun k => impl_sum64.f k s) (sum64 s) :=
  sum64_l s hs s.size _ 0 (by omega) (by omega)

/-! ### Sums: spec_l1In, spec_l1Width, spec_l1Sum64, spec_l1Bytes, spec_Sum; impl_widthOk, impl_sum64, impl_Sum -/
theorem l1In_is (a b c : Int) : spec_l1In.f a b c = some (decide (b ≤ a ∧ a ≤ c)) := by
  unfold spec_l1In.f
  by_cases h : b ≤ a <;> simp [h]
theorem l1Width_is (w : Int) : spec_l1Width.f w = some (decide (1 ≤ w ∧ w ≤ 8)) := by
  unfold spec_l1Width.f; rw [l1In_is]; rfl
theorem widthOk_is (w : Int) : impl_widthOk.f w = some (decide (1 ≤ w ∧ w ≤ 8)) := by
  unfold impl_widthOk.f
  by_cases h : 1 ≤ w <;> simp [h]
theorem l1Bytes_l : ∀ (n : Nat) (h w i : Int) (out : ByteArray), 0 ≤ i → i + n = w → w ≤ 8 → 0 ≤ h → h < 18446744073709551616 → out.size + n ≤ 8 →
    Ev (fun k => spec_l1Bytes.l0 k h w out i) (strOfNums (beBytes n h) ++ out)
  | 0, h, w, i, out, h0, h1, h2, h3, h4, h5 => by
    refine Ev.step (fun k => by rw [spec_l1Bytes.l0]) ?_
    refine ev_neg (by omega) ?_
    exact ev_now (by rw [show strOfNums (beBytes 0 h) = (⟨#[]⟩ : ByteArray) from rfl, em_app])
  | n + 1, h, w, i, out, h0, h1, h2, h3, h4, h5 => by
    refine Ev.step (fun k => by rw [spec_l1Bytes.l0]) ?_
    refine ev_pos (by omega) ?_
    refine ev_some ?_
    have e1 : Int.tmod h 256 % 256 = h % 256 := by rw [Int.tmod_eq_emod_of_nonneg h3]; omega
    have e2 : IntKind.u64.wrap (Int.tdiv h 256) = h / 256 := by rw [Int.tdiv_eq_ediv_of_nonneg h3, u64w]; omega
    have sz : (strOfNums [Int.tmod h 256 % 256]).size = 1 := by rw [son_size]; rfl
    refine ev_pos (by rw [sz]; omega) ?_
    rw [e1, e2, w64 (by omega) (by omega)]
    refine ev_cast ?_ (l1Bytes_l n (h / 256) w (i + 1) _ (by omega) (by omega) h2 (by omega) (by omega) (by rw [ap_size, son_size]; simp only [List.length_cons, List.length_nil]; omega))
    rw [beBytes, ← ByteArray.append_assoc, son_app]
theorem specSum_ev (s : ByteArray) (w : Int) (hs : s.size ≤ 4611686018427387904) : Ev (fun k => spec_Sum.f k s w) (sumT s w) := by
  unfold spec_Sum.f
  refine ev_bindc (l1Width_is w) ?_
  by_cases h : 1 ≤ w ∧ w ≤ 8
  · refine ev_pos (by simp [h]) ?_
    refine Ev.bind (l1Sum64_ev s hs) ?_
    have z := sum64_range s
    refine Ev.bind (f := fun k t => some t) (l1Bytes_l w.toNat (sum64 s) w 0 ⟨#[]⟩ (by omega) (by omega) h.2 z.1 z.2 (by show 0 + _ ≤ _; omega)) ?_
    exact ev_now (by rw [app_em]; unfold sumT; rw [if_pos h])
  · refine ev_neg (by simp [h]) ?_
    exact ev_now (by unfold sumT; rw [if_neg h])
theorem implSum_l (h : Int) (h0 : 0 ≤ h) (h1 : h < 18446744073709551616) (w : Nat) (hw : w ≤ 8) : ∀ (n : Nat) (i : Int) (xs : List Int), 0 ≤ i → i + n = w → xs.length = w →
    Ev (fun k => impl_Sum.l0 k w h xs w i) (strOfNums (xs.take i.toNat ++ (beBytes w h).drop i.toNat))
  | 0, i, xs, i0, i1, hx => by
    refine Ev.step (fun k => by rw [impl_Sum.l0]) ?_
    refine ev_neg (by omega) (ev_now ?_)
    rw [List.take_of_length_le (by omega), List.drop_eq_nil_of_le (by rw [beBytes_length]; omega), List.append_nil]
  | n + 1, i, xs, i0, i1, hx => by
    refine Ev.step (fun k => by rw [impl_Sum.l0]) ?_
    rw [w64 (n := (w : Int) - 1) (by omega) (by omega), w64 (n := (w : Int) - 1 - i) (by omega) (by omega), w64 (n := 8 * ((w : Int) - 1 - i)) (by omega) (by omega), w64 (n := i + 1) (by omega) (by omega)]
    refine ev_pos (by omega) (ev_pos (by omega) (ev_pos i0 (ev_pos (by omega) ?_)))
    refine ev_cast ?_ (implSum_l h h0 h1 w hw n (i + 1) _ (by omega) (by omega) (by simpa using hx))
    congr 1
    have e : shr .u64 h (8 * ((w : Int) - 1 - i)) % 256 = h / 256 ^ (w - 1 - i.toNat) % 256 := by
      unfold shr
      rw [show (8 * ((w : Int) - 1 - i)).toNat = 8 * (w - 1 - i.toNat) by omega, show IntKind.u64.bits = 64 from rfl, Nat.min_eq_left (by omega), Int.pow_mul]
      rfl
    rw [e, show (i + 1).toNat = i.toNat + 1 by omega]
    have g := beBytes_get w h i.toNat (by omega)
    generalize h / 256 ^ (w - 1 - i.toNat) % 256 = b at g
    rw [List.take_set, List.take_add_one, List.set_append, List.length_take]
    rw [if_neg (by omega)]
    rw [show i.toNat - min i.toNat xs.length = 0 by omega, List.getElem?_eq_getElem (by omega)]
    simp only [Option.toList_some, List.set_cons_zero, List.append_assoc, List.singleton_append]
    congr 1
    obtain ⟨hb, e2⟩ := List.getElem?_eq_some_iff.1 g
    rw [← e2]; exact (List.drop_eq_getElem_cons hb).symm
theorem implSum_ev (s : ByteArray) (w : Int) (hs : s.size ≤ 4611686018427387904) : Ev (fun k => impl_Sum.f k s w) (sumT s w) := by
  unfold impl_Sum.f
  refine ev_bindc (widthOk_is w) ?_
  by_cases h : 1 ≤ w ∧ w ≤ 8
  · refine ev_pos (by simp [h]) ?_
    refine Ev.bind (sum64_ev s hs) ?_
    refine ev_pos (by omega) (ev_pos (by omega) (ev_some ?_))
    have z := sum64_range s
    obtain ⟨m, rfl⟩ : ∃ m : Nat, w = m := ⟨w.toNat, by omega⟩
    have e : (((List.replicate (m : Int).toNat (0 : Int)).length : Nat) : Int) = m := by simp
    rw [e]
    refine ev_cast ?_ (implSum_l (sum64 s) z.1 z.2 m (by omega) m 0 _ (by omega) (by omega) (by simp))
    unfold sumT; rw [if_pos h]; simp
  · refine ev_neg (by simp [h]) ?_
    exact ev_now (by unfold sumT; rw [if_neg h])

theorem FnExactSum : laws_FnExactSum.Pure := by
  intro s w hs hw
  apply Ev.rounds
  unfold laws_FnExactSum.f
  by_cases h : (s.size : Int) > 1048576
  · exact ev_pos h (Ev.now _)
  · refine ev_neg h ?_
    refine Ev.bind (specSum_ev s w (by omega)) ?_
    refine Ev.bind (implSum_ev s w (by omega)) ?_
    exact ev_pos rfl (Ev.now _)

end Go.Proofs.Ytbmldafgipimbaa.Pure

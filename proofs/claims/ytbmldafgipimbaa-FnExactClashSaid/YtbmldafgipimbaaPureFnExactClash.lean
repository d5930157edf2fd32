/- The law FnExactClash answers true at all texts and widths: the program's Clash is the reference's, and writes into no argument; no condition beyond what the row itself reads. -/
import Derived.Test.YtbmldafgipimbaaGFnExactClashx
import Derived.Test.YtbmldafgipimbaaM
namespace Go.Proofs.Ytbmldafgipimbaa.Pure
open Go.RowKit Go.Proofs.Ytbmldafgipimbaa.PFnExactClash Go.Proofs.Ytbmldafgipimbaa.M Go.Proofs.YtbmldafgipimbaaW.PrintWords Go.Proofs.YtbmldafgipimbaaW.PrintLast Go.Proofs.YtbmldafgipimbaaW.PrintMore
set_option linter.unusedVariables false
set_option linter.unusedSimpArgs false

/-! ### Sums of 64 bits: spec_l1Sum64, impl_sum64 -/
theorem l1Sum64_l (s : ByteArray) (hs : s.size ≤ 4611686018427387904) : ∀ (n : Nat) (h i : Int), 0 ≤ i → i + n = s.size → Ev (fun k => spec_l1Sum64.l0 k s h i) (fnv s n h i)
  | 0, h, i, h0, h1 => by
    refine Ev.step (fun k => by rw [spec_l1Sum64.l0]) ?_
    exact ev_neg (by omega) (Ev.now _)
  | n + 1, h, i, h0, h1 => by
    refine Ev.step (fun k => by rw [spec_l1Sum64.l0]) ?_
    refine ev_pos (by omega) (ev_pos h0 ?_)
    rw [w64 (by omega) (by omega)]
    exact l1Sum64_l s hs n _ (i + 1) (by omega) (by omega)
theorem l1Sum64_ev (s : ByteArray) (hs : s.size ≤ 4611686018427387904) : Ev (fun k => spec_l1Sum64.f k s) (sum64 s) :=
  l1Sum64_l s hs s.size _ 0 (by omega) (by omega)
theorem sum64_l (s : ByteArray) (hs : s.size ≤ 4611686018427387904) : ∀ (n : Nat) (h i : Int), 0 ≤ i → i + n = s.size → Ev (fun k => impl_sum64.l0 k s h i) (fnv s n h i)
  | 0, h, i, h0, h1 => by
    refine Ev.step (fun k => by rw [impl_sum64.l0]) ?_
    exact ev_neg (by omega) (Ev.now _)
  | n + 1, h, i, h0, h1 => by
    refine Ev.step (fun k => by rw [impl_sum64.l0]) ?_
    refine ev_pos (by omega) (ev_pos h0 ?_)
    rw [w64 (by omega) (by omega)]
    exact sum64_l s hs n _ (i + 1) (by omega) (by omega)
theorem sum64_ev (s : ByteArray) (hs : s.size ≤ 4611686018427387904) : Ev (fun k => impl_sum64.f k s) (sum64 s) :=
  sum64_l s hs s.size _ 0 (by omega) (by omega)

/-! ### Sums: spec_l1In, spec_l1Width, spec_l1Sum64, spec_l1Bytes, spec_Sum; impl_widthOk, impl_sum64, impl_Sum -/
theorem l1In_is (a b c : Int) : spec_l1In.f a b c = some (decide (b ≤ a ∧ a ≤ c)) := by
  unfold spec_l1In.f
  by_cases h : b ≤ a <;> simp [h]
theorem l1Width_is (w : Int) : spec_l1Width.f w = some (decide (1 ≤ w ∧ w ≤ 8)) := by
  unfold spec_l1Width.f; rw [l1In_is]; rfl
theorem widthOk_is (w : Int) : impl_widthOk.f w = some (decide (1 ≤ w ∧ w ≤ 8)) := by
  unfold impl_widthOk.f
  by_cases h : 1 ≤ w <;> simp [h]
theorem l1Bytes_l : ∀ (n : Nat) (h w i : Int) (out : ByteArray), 0 ≤ i → i + n = w → w ≤ 8 → 0 ≤ h → h < 18446744073709551616 → out.size + n ≤ 8 →
    Ev (fun k => spec_l1Bytes.l0 k h w out i) (strOfNums (beBytes n h) ++ out)
  | 0, h, w, i, out, h0, h1, h2, h3, h4, h5 => by
    refine Ev.step (fun k => by rw [spec_l1Bytes.l0]) ?_
    refine ev_neg (by omega) ?_
    exact ev_now (by rw [show strOfNums (beBytes 0 h) = (⟨#[]⟩ : ByteArray) from rfl, em_app])
  | n + 1, h, w, i, out, h0, h1, h2, h3, h4, h5 => by
    refine Ev.step (fun k => by rw [spec_l1Bytes.l0]) ?_
    refine ev_pos (by omega) ?_
    refine ev_some ?_
    have e1 : Int.tmod h 256 % 256 = h % 256 := by rw [Int.tmod_eq_emod_of_nonneg h3]; omega
    have e2 : IntKind.u64.wrap (Int.tdiv h 256) = h / 256 := by rw [Int.tdiv_eq_ediv_of_nonneg h3, u64w]; omega
    have sz : (strOfNums [Int.tmod h 256 % 256]).size = 1 := by rw [son_size]; rfl
    refine ev_pos (by rw [sz]; omega) ?_
    rw [e1, e2, w64 (by omega) (by omega)]
    refine ev_cast ?_ (l1Bytes_l n (h / 256) w (i + 1) _ (by omega) (by omega) h2 (by omega) (by omega) (by rw [ap_size, son_size]; simp only [List.length_cons, List.length_nil]; omega))
    rw [beBytes, ← ByteArray.append_assoc, son_app]
theorem specSum_ev (s : ByteArray) (w : Int) (hs : s.size ≤ 4611686018427387904) : Ev (fun k => spec_Sum.f k s w) (sumT s w) := by
  unfold spec_Sum.f
  refine ev_bindc (l1Width_is w) ?_
  by_cases h : 1 ≤ w ∧ w ≤ 8
  · refine ev_pos (by simp [h]) ?_
    refine Ev.bind (l1Sum64_ev s hs) ?_
    have z := sum64_range s
    refine Ev.bind (f := fun k t => some t) (l1Bytes_l w.toNat (sum64 s) w 0 ⟨#[]⟩ (by omega) (by omega) h.2 z.1 z.2 (by show 0 + _ ≤ _; omega)) ?_
    exact ev_now (by rw [app_em]; unfold sumT; rw [if_pos h])
  · refine ev_neg (by simp [h]) ?_
    exact ev_now (by unfold sumT; rw [if_neg h])
theorem implSum_l (h : Int) (h0 : 0 ≤ h) (h1 : h < 18446744073709551616) (w : Nat) (hw : w ≤ 8) : ∀ (n : Nat) (i : Int) (xs : List Int), 0 ≤ i → i + n = w → xs.length = w →
    Ev (fun k => impl_Sum.l0 k w h xs w i) (strOfNums (xs.take i.toNat ++ (beBytes w h).drop i.toNat))
  | 0, i, xs, i0, i1, hx => by
    refine Ev.step (fun k => by rw [impl_Sum.l0]) ?_
    refine ev_neg (by omega) (ev_now ?_)
    rw [List.take_of_length_le (by omega), List.drop_eq_nil_of_le (by rw [beBytes_length]; omega), List.append_nil]
  | n + 1, i, xs, i0, i1, hx => by
    refine Ev.step (fun k => by rw [impl_Sum.l0]) ?_
    rw [w64 (n := (w : Int) - 1) (by omega) (by omega), w64 (n := (w : Int) - 1 - i) (by omega) (by omega), w64 (n := 8 * ((w : Int) - 1 - i)) (by omega) (by omega), w64 (n := i + 1) (by omega) (by omega)]
    refine ev_pos (by omega) (ev_pos (by omega) (ev_pos i0 (ev_pos (by omega) ?_)))
    refine ev_cast ?_ (implSum_l h h0 h1 w hw n (i + 1) _ (by omega) (by omega) (by simpa using hx))
    congr 1
    have e : shr .u64 h (8 * ((w : Int) - 1 - i)) % 256 = h / 256 ^ (w - 1 - i.toNat) % 256 := by
      unfold shr
      rw [show (8 * ((w : Int) - 1 - i)).toNat = 8 * (w - 1 - i.toNat) by omega, show IntKind.u64.bits = 64 from rfl, Nat.min_eq_left (by omega), Int.pow_mul]
      rfl
    rw [e, show (i + 1).toNat = i.toNat + 1 by omega]
    have g := beBytes_get w h i.toNat (by omega)
    generalize h / 256 ^ (w - 1 - i.toNat) % 256 = b at g
    rw [List.take_set, List.take_add_one, List.set_append, List.length_take]
    rw [if_neg (by omega)]
    rw [show i.toNat - min i.toNat xs.length = 0 by omega, List.getElem?_eq_getElem (by omega)]
    simp only [Option.toList_some, List.set_cons_zero, List.append_assoc, List.singleton_append]
    congr 1
    obtain ⟨hb, e2⟩ := List.getElem?_eq_some_iff.1 g
    rw [← e2]; exact (List.drop_eq_getElem_cons hb).symm
theorem implSum_ev (s : ByteArray) (w : Int) (hs : s.size ≤ 4611686018427387904) : Ev (fun k => impl_Sum.f k s w) (sumT s w) := by
  unfold impl_Sum.f
  refine ev_bindc (widthOk_is w) ?_
  by_cases h : 1 ≤ w ∧ w ≤ 8
  · refine ev_pos (by simp [h]) ?_
    refine Ev.bind (sum64_ev s hs) ?_
    refine ev_pos (by omega) (ev_pos (by omega) (ev_some ?_))
    have z := sum64_range s
    obtain ⟨m, rfl⟩ : ∃ m : Nat, w = m := ⟨w.toNat, by omega⟩
    have e : (((List.replicate (m : Int).toNat (0 : Int)).length : Nat) : Int) = m := by simp
    rw [e]
    refine ev_cast ?_ (implSum_l (sum64 s) z.1 z.2 m (by omega) m 0 _ (by omega) (by omega) (by simp))
    unfold sumT; rw [if_pos h]; simp
  · refine ev_neg (by simp [h]) ?_
    exact ev_now (by unfold sumT; rw [if_neg h])

/-! ### Two lists of texts: laws_eqStringS -/
theorem laws_eqStringS_l (l0 l1 : List ByteArray) (hl : l0.length ≤ 4611686018427387904) (he : l0.length = l1.length) : ∀ (n : Nat) (i : Int), 0 ≤ i → i + n = l0.length →
    Ev (fun k => laws_eqStringS.l0 k l0 l1 i) (decide (l0.drop i.toNat = l1.drop i.toNat))
  | 0, i, h0, h1 => by
    refine Ev.step (fun k => by rw [laws_eqStringS.l0]) ?_
    refine ev_neg (by omega) (ev_now ?_)
    rw [List.drop_eq_nil_of_le (by omega), List.drop_eq_nil_of_le (by omega)]; simp
  | n + 1, i, h0, h1 => by
    refine Ev.step (fun k => by rw [laws_eqStringS.l0]) ?_
    refine ev_pos (by omega) (ev_pos h0 (ev_pos (by omega) ?_))
    rw [w64 (by omega) (by omega)]
    have d0 : l0.drop i.toNat = rdOf ByteArray.empty l0 i :: l0.drop (i + 1).toNat := by
      rw [List.drop_eq_getElem_cons (by omega), show (i + 1).toNat = i.toNat + 1 by omega]
      unfold rdOf; rw [List.getD_eq_getElem?_getD, List.getElem?_eq_getElem (by omega)]; rfl
    have d1 : l1.drop i.toNat = rdOf ByteArray.empty l1 i :: l1.drop (i + 1).toNat := by
      rw [List.drop_eq_getElem_cons (by omega), show (i + 1).toNat = i.toNat + 1 by omega]
      unfold rdOf; rw [List.getD_eq_getElem?_getD, List.getElem?_eq_getElem (by omega)]; rfl
    rw [d0, d1]
    by_cases e : rdOf ByteArray.empty l0 i = rdOf ByteArray.empty l1 i
    · refine ev_pos (ba_eq.2 e) ?_
      refine ev_cast ?_ (laws_eqStringS_l l0 l1 hl he n (i + 1) (by omega) (by omega))
      rw [e]; simp
    · refine ev_neg (fun h => e (ba_eq.1 h)) (ev_now ?_)
      simp [e]
theorem laws_eqStringS_ev (l0 l1 : List ByteArray) (hl : l0.length ≤ 4611686018427387904) : Ev (fun k => laws_eqStringS.f k l0 l1) (decide (l0 = l1)) := by
  unfold laws_eqStringS.f
  by_cases e : l0.length = l1.length
  · refine ev_pos (by omega) ?_
    exact ev_cast (by simp) (laws_eqStringS_l l0 l1 hl e l0.length 0 (by omega) (by omega))
  · refine ev_neg (by omega) (ev_now ?_)
    have : l0 ≠ l1 := fun h => e (by rw [h])
    simp [this]
theorem laws_eqStringS_same (l0 : List ByteArray) (hl : l0.length ≤ 4611686018427387904) : Ev (fun k => laws_eqStringS.f k l0 l0) true := ev_cast (by simp) (laws_eqStringS_ev l0 l0 hl)

/-! ### Sizes and copies of lists of texts: laws_szStringS, laws_toStringS -/
theorem szStringS_l (l : List ByteArray) (hl : l.length ≤ maxLen) (hs : ∀ x ∈ l, x.size ≤ maxLen) : ∀ (n i : Nat) (left : Int), i + n = l.length → 0 ≤ left → left ≤ 1048576 → l.length ≤ 1048576 →
    ∃ r, Ev (fun k => laws_szStringS.l0 k l left i) r ∧ (r < 0 ∨ (0 ≤ r ∧ r ≤ left ∧ ∀ x ∈ l.drop i, (x.size : Int) ≤ left))
  | 0, i, left, h0, h1, h2, h3 => by
    refine ⟨left, Ev.step (fun k => by rw [laws_szStringS.l0]) (ev_neg (by omega) (Ev.now _)), Or.inr ⟨h1, Int.le_refl _, ?_⟩⟩
    rw [List.drop_eq_nil_of_le (by omega)]; simp
  | n + 1, i, left, h0, h1, h2, h3 => by
    have e : rdOf ByteArray.empty l (i : Int) = l.getD i ByteArray.empty := rfl
    have hx := hs _ (getD_mem ByteArray.empty l i (by omega))
    have dg := drop_get ByteArray.empty l i (by omega)
    have hm : maxLen = 9223372036854775807 := rfl
    generalize l.getD i ByteArray.empty = x at e hx dg
    by_cases c : left - (x.size : Int) < 0
    · refine ⟨-1, Ev.step (fun k => by rw [laws_szStringS.l0]) (ev_pos (by omega) (ev_pos (by omega) ?_)), Or.inl (by omega)⟩
      rw [e, w64 (n := left - (x.size : Int)) (by omega) (by omega)]
      exact ev_pos c (Ev.now _)
    · obtain ⟨r, hr, hq⟩ := szStringS_l l hl hs n (i + 1) (left - x.size) (by omega) (by omega) (by omega) h3
      refine ⟨r, Ev.step (fun k => by rw [laws_szStringS.l0]) (ev_pos (by omega) (ev_pos (by omega) ?_)), ?_⟩
      · rw [e, w64 (n := left - (x.size : Int)) (by omega) (by omega), show wrap64 ((i : Int) + 1) = ((i + 1 : Nat) : Int) by rw [w64 (by omega) (by omega)]; omega]
        exact ev_neg c hr
      · rcases hq with hq | ⟨q0, q1, q2⟩
        · exact Or.inl hq
        · refine Or.inr ⟨q0, by omega, ?_⟩
          rw [dg]; intro y hy
          rcases List.mem_cons.1 hy with rfl | hy
          · omega
          · have := q2 y hy; omega
theorem szStringS_ev (l : List ByteArray) (left : Int) (hl : l.length ≤ maxLen) (hs : ∀ x ∈ l, x.size ≤ maxLen) (h1 : 0 ≤ left) (h2 : left ≤ 1048576) :
    ∃ r, Ev (fun k => laws_szStringS.f k l left) r ∧ (r < 0 ∨ (0 ≤ r ∧ r ≤ left ∧ (l.length : Int) ≤ left ∧ ∀ x ∈ l, (x.size : Int) ≤ left)) := by
  have hm : maxLen = 9223372036854775807 := rfl
  unfold laws_szStringS.f
  rw [w64 (n := left - (l.length : Int)) (by omega) (by omega)]
  by_cases c : left - (l.length : Int) < 0
  · exact ⟨-1, ev_pos c (Ev.now _), Or.inl (by omega)⟩
  · obtain ⟨r, hr, hq⟩ := szStringS_l l hl hs l.length 0 (left - l.length) (by omega) (by omega) (by omega) (by omega)
    refine ⟨r, ev_neg c hr, ?_⟩
    rcases hq with hq | ⟨q0, q1, q2⟩
    · exact Or.inl hq
    · exact Or.inr ⟨q0, by omega, by omega, fun x hx => by have := q2 x (by simpa using hx); omega⟩
theorem toStringS_l (l : List ByteArray) (hl : l.length ≤ 1048576) : ∀ (n i : Nat) (ys : List ByteArray), i + n = l.length → ys.length = l.length → ys.take i = l.take i → Ev (fun k => laws_toStringS.l0 k l ys i) l
  | 0, i, ys, h0, h1, h2 => by
    refine Ev.step (fun k => by rw [laws_toStringS.l0]) (ev_neg (by omega) (ev_now ?_))
    rw [List.take_of_length_le (by omega), List.take_of_length_le (by omega)] at h2; exact h2
  | n + 1, i, ys, h0, h1, h2 => by
    refine Ev.step (fun k => by rw [laws_toStringS.l0]) (ev_pos (by omega) (ev_pos (by omega) (ev_pos (by omega) ?_)))
    have e : rdOf ByteArray.empty l (i : Int) = l.getD i ByteArray.empty := rfl
    rw [e, Int.toNat_natCast, show wrap64 ((i : Int) + 1) = ((i + 1 : Nat) : Int) by rw [w64 (by omega) (by omega)]; omega]
    exact toStringS_l l hl n (i + 1) _ (by omega) (by simpa using h1) (take_set _ l ys i (by omega) h1 h2)
theorem toStringS_ev (l : List ByteArray) (hl : l.length ≤ 1048576) : Ev (fun k => laws_toStringS.f k l) l := by
  unfold laws_toStringS.f
  refine ev_pos (by omega) (ev_pos (by omega) ?_)
  exact toStringS_l l hl l.length 0 _ (by omega) (by simp) (by simp)

/-! ### Clash: spec_Clash, impl_Clash -/
/-- The rounds over the texts that are left; had: the texts that came, by their sums. -/
def clashG (w : Int) : (ByteArray → List ByteArray) → List ByteArray → ByteArray × ByteArray × Bool
  | _, [] => (⟨#[]⟩, ⟨#[]⟩, false)
  | had, t :: ts => match (had (sumT t w)).find? (fun o => !(decide (o = t))) with | some o => (o, t, true) | none => clashG w (S.upd had (sumT t w) (had (sumT t w) ++ [t])) ts
def clash (l : List ByteArray) (w : Int) : ByteArray × ByteArray × Bool := if (1 ≤ w ∧ w ≤ 8) ∧ l.length ≤ 2000 then clashG w (fun _ => []) l else (⟨#[]⟩, ⟨#[]⟩, false)
theorem implClash_go (w : Int) : ∀ (l : List ByteArray) (had : ByteArray → List ByteArray), (∀ x ∈ l, x.size ≤ 1048576) → Ev (fun k => impl_Clash.go k w had l) (clashG w had l)
  | [], had, _ => Ev.now _
  | t :: ts, had, h => by
    have hz := sumT_size t w
    have e : ∀ k, impl_Clash.go k w had (t :: ts) = (impl_Sum.f k t w).bind fun s => if s.size ≤ 1048576 then (match (had s).find? (fun o => !(decide (o = t))) with | some o => some (o, t, true) | none => impl_Clash.go k w (S.upd had s (had s ++ [t])) ts) else none := fun k => rfl
    refine Ev.congr e (Ev.bind (implSum_ev t w (by have := h t List.mem_cons_self; omega)) (ev_pos (by omega) ?_))
    unfold clashG
    cases (had (sumT t w)).find? (fun o => !(decide (o = t))) with
    | some o => exact Ev.now _
    | none => exact implClash_go w ts _ (fun x hx => h x (List.mem_cons_of_mem _ hx))
theorem implClash_ev (l : List ByteArray) (w : Int) (h : ∀ x ∈ l, x.size ≤ 1048576) : Ev (fun k => impl_Clash.f k l w) (clash l w) := by
  unfold impl_Clash.f
  refine ev_bindc (widthOk_is w) ?_
  by_cases c : (1 ≤ w ∧ w ≤ 8) ∧ l.length ≤ 2000
  · refine ev_pos ⟨by simpa using c.1, c.2⟩ (ev_cast ?_ (implClash_go w l _ h))
    unfold clash; rw [if_pos c]
  · refine ev_neg (fun z => c ⟨by simpa using z.1, z.2⟩) (ev_now ?_)
    unfold clash; rw [if_neg c]
theorem specClash_l1 (l : List ByteArray) (w : Int) (hl : l.length ≤ 2000) (j : Nat) (hj : j < l.length) (t : ByteArray) (ht : l.getD j ByteArray.empty = t) (s : ByteArray) (R : ByteArray × ByteArray × Bool)
    (H : Ev (fun k => spec_Clash.l0 k l w ((l.take j).map (fun o => sumT o w) ++ [s]) ((j + 1 : Nat) : Int)) R) : ∀ (n i : Nat), i + n = j →
    Ev (fun k => spec_Clash.l1 k l w ((l.take j).map (fun o => sumT o w)) j s i) (match ((l.take j).drop i).find? (fun o => decide (sumT o w = s) && !(decide (o = t))) with | some o => (o, t, true) | none => R)
  | 0, i, h0 => by
    have hlen : ((l.take j).map (fun o => sumT o w)).length = j := by rw [List.length_map, List.length_take]; omega
    refine Ev.step (fun k => by rw [spec_Clash.l1]) (ev_neg (by omega) (ev_pos (by omega) ?_))
    rw [List.drop_eq_nil_of_le (by rw [List.length_take]; omega), show wrap64 ((j : Int) + 1) = ((j + 1 : Nat) : Int) by rw [w64 (by omega) (by omega)]; omega]
    exact H
  | n + 1, i, h0 => by
    have ih := specClash_l1 l w hl j hj t ht s R H n (i + 1) (by omega)
    have hlen : ((l.take j).map (fun o => sumT o w)).length = j := by rw [List.length_map, List.length_take]; omega
    have e1 : rdOf ByteArray.empty l (i : Int) = l.getD i ByteArray.empty := rfl
    have e2 : rdOf ByteArray.empty l (j : Int) = t := ht
    have e3 : rdOf ByteArray.empty ((l.take j).map (fun o => sumT o w)) (i : Int) = sumT (l.getD i ByteArray.empty) w := by
      show ((l.take j).map (fun o => sumT o w)).getD i ByteArray.empty = _
      rw [List.getD_eq_getElem?_getD, List.getElem?_map, List.getElem?_take, if_pos (by omega), List.getD_eq_getElem?_getD, List.getElem?_eq_getElem (by omega)]; rfl
    have dg : (l.take j).drop i = l.getD i ByteArray.empty :: (l.take j).drop (i + 1) := by
      rw [drop_get ByteArray.empty (l.take j) i (by rw [List.length_take]; omega), List.getD_eq_getElem?_getD, List.getElem?_take, if_pos (by omega), ← List.getD_eq_getElem?_getD]
    refine Ev.step (fun k => by rw [spec_Clash.l1]) (ev_pos (by omega) (ev_pos (by omega) (ev_pos (by omega) ?_)))
    rw [e1, e2, e3, dg, show wrap64 ((i : Int) + 1) = ((i + 1 : Nat) : Int) by rw [w64 (by omega) (by omega)]; omega]
    generalize l.getD i ByteArray.empty = o
    by_cases c : sumT o w = s
    · refine ev_pos (by rw [c]) (ev_pos (by omega) (ev_pos (by omega) (ev_pos (by omega) ?_)))
      by_cases d : o = t
      · rw [List.find?_cons_of_neg (by simp [d])]
        exact ev_pos (by rw [d]) ih
      · rw [List.find?_cons_of_pos (by simp [c, d])]
        exact ev_neg (fun z => d (ba_eq.1 z)) (Ev.now _)
    · rw [List.find?_cons_of_neg (by simp [c])]
      exact ev_neg (fun z => c (ba_eq.1 z)) ih
theorem specClash_l0 (l : List ByteArray) (w : Int) (hl : l.length ≤ 2000) (hs : ∀ x ∈ l, x.size ≤ 1048576) : ∀ (n j : Nat) (had : ByteArray → List ByteArray), j + n = l.length → (∀ s, had s = (l.take j).filter (fun o => decide (sumT o w = s))) →
    Ev (fun k => spec_Clash.l0 k l w ((l.take j).map (fun o => sumT o w)) j) (clashG w had (l.drop j))
  | 0, j, had, h0, hh => by
    refine Ev.step (fun k => by rw [spec_Clash.l0]) (ev_neg (by omega) (ev_now ?_))
    rw [List.drop_eq_nil_of_le (by omega)]; rfl
  | n + 1, j, had, h0, hh => by
    have e1 : rdOf ByteArray.empty l (j : Int) = l.getD j ByteArray.empty := rfl
    have hx := hs _ (getD_mem ByteArray.empty l j (by omega))
    have dg := drop_get ByteArray.empty l j (by omega)
    have tk : l.take (j + 1) = l.take j ++ [l.getD j ByteArray.empty] := by
      rw [List.take_add_one, List.getD_eq_getElem?_getD, List.getElem?_eq_getElem (by omega)]; rfl
    refine Ev.step (fun k => by rw [spec_Clash.l0]) (ev_pos (by omega) (ev_pos (by omega) ?_))
    rw [e1, dg, clashG]
    have ih := specClash_l0 l w hl hs n (j + 1)
    generalize ht : l.getD j ByteArray.empty = t at hx tk
    refine Ev.bind (specSum_ev t w (by omega)) ?_
    have H := ih (S.upd had (sumT t w) (had (sumT t w) ++ [t])) (by omega) (fun s => by
      rw [tk, List.filter_append]
      unfold S.upd
      by_cases c : s = sumT t w
      · rw [if_pos c, hh, c, List.filter_cons_of_pos (by simp)]; rfl
      · rw [if_neg c, hh, List.filter_cons_of_neg (by simp; exact fun z => c z.symm)]; simp)
    rw [tk, List.map_append] at H
    refine ev_cast ?_ (specClash_l1 l w hl j (by omega) t ht (sumT t w) _ H j 0 (by omega))
    have pe : (fun o => decide (sumT o w = sumT t w) && !(decide (o = t))) = fun a => decide (decide (sumT a w = sumT t w) = true ∧ (!(decide (a = t))) = true) := by
      funext a
      by_cases q1 : sumT a w = sumT t w <;> by_cases q2 : a = t <;> simp [q1, q2]
    rw [List.drop_zero, hh, List.find?_filter, pe]
theorem specClash_ev (l : List ByteArray) (w : Int) (hs : ∀ x ∈ l, x.size ≤ 1048576) (hl0 : l.length ≤ 1048576) : Ev (fun k => spec_Clash.f k l w) (clash l w) := by
  unfold spec_Clash.f
  refine ev_bindc (l1Width_is w) ?_
  unfold clash
  by_cases c : 1 ≤ w ∧ w ≤ 8
  · refine ev_pos (by simpa using c) ?_
    by_cases d : l.length ≤ 2000
    · rw [if_pos ⟨c, d⟩]
      refine Ev.step (fun k => by rw [spec_Clash.j0]) (ev_neg (by simp; omega) ?_)
      exact ev_cast (by rw [List.drop_zero]) (specClash_l0 l w d hs l.length 0 (fun _ => []) (by omega) (fun s => by simp))
    · rw [if_neg (fun z => d z.2)]
      exact Ev.step (fun k => by rw [spec_Clash.j0]) (ev_pos (by simp; omega) (Ev.now _))
  · rw [if_neg (fun z => c z.1)]
    exact ev_neg (by simpa using c) (Ev.step (fun k => by rw [spec_Clash.j0]) (ev_pos rfl (Ev.now _)))

theorem FnExactClash : laws_FnExactClash.Law := by
  intro l w ⟨hl, hs⟩ _
  apply Ev.rounds
  unfold laws_FnExactClash.f
  obtain ⟨r, hr, hq⟩ := szStringS_ev l 1048576 hl hs (by omega) (by omega)
  refine Ev.bind hr ?_
  rcases hq with hq | ⟨q0, _, hn, hx⟩
  · exact ev_pos hq (Ev.now _)
  · refine ev_neg (by omega) ?_
    have hln : l.length ≤ 1048576 := by omega
    have hxs : ∀ x ∈ l, x.size ≤ 1048576 := fun x hx' => by have := hx x hx'; omega
    have hto := toStringS_ev l hln
    refine Ev.bind hto (Ev.bind (specClash_ev l w hxs hln) (Ev.bind hto (Ev.bind (implClash_ev l w hxs) (ev_pos rfl (ev_pos rfl ?_)))))
    refine Ev.step (fun k => by rw [laws_FnExactClash.j0]) (ev_neg (by simp) ?_)
    exact Ev.bind hto (Ev.bind (laws_eqStringS_same l (by omega)) (ev_pos rfl (Ev.now _)))

end Go.Proofs.Ytbmldafgipimbaa.Pure

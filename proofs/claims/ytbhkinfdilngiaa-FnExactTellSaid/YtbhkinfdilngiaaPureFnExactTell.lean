/- The law FnExactTell answers true at every set, bounds and width: the program's Tell is the reference's, owns its memory, and writes into no argument; no condition beyond what the row itself reads. -/
import Derived.Test.YtbhkinfdilngiaaGFnExactTellx
import Derived.Test.YtbhkinfdilngiaaM
namespace Go.Proofs.Ytbhkinfdilngiaa.Pure
open Go.RowKit Go.Proofs.Ytbhkinfdilngiaa.PFnExactTell Go.Proofs.Ytbhkinfdilngiaa.M Go.Proofs.YtbhkinfdilngiaaW.PrintWords Go.Proofs.YtbhkinfdilngiaaW.PrintLast Go.Proofs.YtbhkinfdilngiaaW.PrintMore
set_option linter.unusedVariables false
set_option linter.unusedSimpArgs false

/-! ### Sums of 64 bits: spec_l1Sum64, impl_sum64 -/
theorem l1Sum64_l (s : ByteArray) (hs : s.size ≤ 4611686018427387904) : ∀ (n : Nat) (h i : Int), 0 ≤ i → i + n = s.size → Ev (fun k => spec_l1Sum64.l0 k s h i) (fnv s n h i)
  | 0, h, i, h0, h1 => by
    refine Ev.step (fun k => by rw [spec_l1Sum64.l0]) ?_
    exact ev_neg (by omega) (Ev.now _)
  | n + 1, h, i, h0, h1 => by
    refine Ev.step (fun k => by rw [spec_l1Sum64.l0]) ?_
    refine ev_pos (by omega) (ev_pos h0 ?_)
    rw [w64 (by omega) (by omega)]
    exact l1Sum64_l s hs n _ (i + 1) (by omega) (by omega)
theorem l1Sum64_ev (s : ByteArray) (hs : s.size ≤ 4611686018427387904) : Ev (fun k => spec_l1Sum64.f k s) (sum64 s) :=
  l1Sum64_l s hs s.size _ 0 (by omega) (by omega)
theorem sum64_l (s : ByteArray) (hs : s.size ≤ 4611686018427387904) : ∀ (n : Nat) (h i : Int), 0 ≤ i → i + n = s.size → Ev (fun k => impl_sum64.l0 k s h i) (fnv s n h i)
  | 0, h, i, h0, h1 => by
    refine Ev.step (fun k => by rw [impl_sum64.l0]) ?_
    exact ev_neg (by omega) (Ev.now _)
  | n + 1, h, i, h0, h1 => by
    refine Ev.step (fun k => by rw [impl_sum64.l0]) ?_
    refine ev_pos (by omega) (ev_pos h0 ?_)
    rw [w64 (by omega) (by omega)]
    exact sum64_l s hs n _ (i + 1) (by omega) (by omega)
theorem sum64_ev (s : ByteArray) (hs : s.size ≤ 4611686018427387904) : Ev (fun k => impl_sum64.f k s) (sum64 s) :=
  sum64_l s hs s.size _ 0 (by omega) (by omega)

/-! ### Sums: spec_l1In, spec_l1Width, spec_l1Sum64, spec_l1Bytes, spec_Sum; impl_widthOk, impl_sum64, impl_Sum -/
theorem l1In_is (a b c : Int) : spec_l1In.f a b c = some (decide (b ≤ a ∧ a ≤ c)) := by
  unfold spec_l1In.f
  by_cases h : b ≤ a <;> simp [h]
theorem l1Width_is (w : Int) : spec_l1Width.f w = some (decide (1 ≤ w ∧ w ≤ 8)) := by
  unfold spec_l1Width.f; rw [l1In_is]; rfl
theorem widthOk_is (w : Int) : impl_widthOk.f w = some (decide (1 ≤ w ∧ w ≤ 8)) := by
  unfold impl_widthOk.f
  by_cases h : 1 ≤ w <;> simp [h]
theorem l1Bytes_l : ∀ (n : Nat) (h w i : Int) (out : ByteArray), 0 ≤ i → i + n = w → w ≤ 8 → 0 ≤ h → h < 18446744073709551616 → out.size + n ≤ 8 →
    Ev (fun k => spec_l1Bytes.l0 k h w out i) (strOfNums (beBytes n h) ++ out)
  | 0, h, w, i, out, h0, h1, h2, h3, h4, h5 => by
    refine Ev.step (fun k => by rw [spec_l1Bytes.l0]) ?_
    refine ev_neg (by omega) ?_
    exact ev_now (by rw [show strOfNums (beBytes 0 h) = (⟨#[]⟩ : ByteArray) from rfl, em_app])
  | n + 1, h, w, i, out, h0, h1, h2, h3, h4, h5 => by
    refine Ev.step (fun k => by rw [spec_l1Bytes.l0]) ?_
    refine ev_pos (by omega) ?_
    refine ev_some ?_
    have e1 : Int.tmod h 256 % 256 = h % 256 := by rw [Int.tmod_eq_emod_of_nonneg h3]; omega
    have e2 : IntKind.u64.wrap (Int.tdiv h 256) = h / 256 := by rw [Int.tdiv_eq_ediv_of_nonneg h3, u64w]; omega
    have sz : (strOfNums [Int.tmod h 256 % 256]).size = 1 := by rw [son_size]; rfl
    refine ev_pos (by rw [sz]; omega) ?_
    rw [e1, e2, w64 (by omega) (by omega)]
    refine ev_cast ?_ (l1Bytes_l n (h / 256) w (i + 1) _ (by omega) (by omega) h2 (by omega) (by omega) (by rw [ap_size, son_size]; simp only [List.length_cons, List.length_nil]; omega))
    rw [beBytes, ← ByteArray.append_assoc, son_app]
theorem specSum_ev (s : ByteArray) (w : Int) (hs : s.size ≤ 4611686018427387904) : Ev (fun k => spec_Sum.f k s w) (sumT s w) := by
  unfold spec_Sum.f
  refine ev_bindc (l1Width_is w) ?_
  by_cases h : 1 ≤ w ∧ w ≤ 8
  · refine ev_pos (by simp [h]) ?_
    refine Ev.bind (l1Sum64_ev s hs) ?_
    have z := sum64_range s
    refine Ev.bind (f := fun k t => some t) (l1Bytes_l w.toNat (sum64 s) w 0 ⟨#[]⟩ (by omega) (by omega) h.2 z.1 z.2 (by show 0 + _ ≤ _; omega)) ?_
    exact ev_now (by rw [app_em]; unfold sumT; rw [if_pos h])
  · refine ev_neg (by simp [h]) ?_
    exact ev_now (by unfold sumT; rw [if_neg h])
theorem implSum_l (h : Int) (h0 : 0 ≤ h) (h1 : h < 18446744073709551616) (w : Nat) (hw : w ≤ 8) : ∀ (n : Nat) (i : Int) (xs : List Int), 0 ≤ i → i + n = w → xs.length = w →
    Ev (fun k => impl_Sum.l0 k w h xs w i) (strOfNums (xs.take i.toNat ++ (beBytes w h).drop i.toNat))
  | 0, i, xs, i0, i1, hx => by
    refine Ev.step (fun k => by rw [impl_Sum.l0]) ?_
    refine ev_neg (by omega) (ev_now ?_)
    rw [List.take_of_length_le (by omega), List.drop_eq_nil_of_le (by rw [beBytes_length]; omega), List.append_nil]
  | n + 1, i, xs, i0, i1, hx => by
    refine Ev.step (fun k => by rw [impl_Sum.l0]) ?_
    rw [w64 (n := (w : Int) - 1) (by omega) (by omega), w64 (n := (w : Int) - 1 - i) (by omega) (by omega), w64 (n := 8 * ((w : Int) - 1 - i)) (by omega) (by omega), w64 (n := i + 1) (by omega) (by omega)]
    refine ev_pos (by omega) (ev_pos (by omega) (ev_pos i0 (ev_pos (by omega) ?_)))
    refine ev_cast ?_ (implSum_l h h0 h1 w hw n (i + 1) _ (by omega) (by omega) (by simpa using hx))
    congr 1
    have e : shr .u64 h (8 * ((w : Int) - 1 - i)) % 256 = h / 256 ^ (w - 1 - i.toNat) % 256 := by
      unfold shr
      rw [show (8 * ((w : Int) - 1 - i)).toNat = 8 * (w - 1 - i.toNat) by omega, show IntKind.u64.bits = 64 from rfl, Nat.min_eq_left (by omega), Int.pow_mul]
      rfl
    rw [e, show (i + 1).toNat = i.toNat + 1 by omega]
    have g := beBytes_get w h i.toNat (by omega)
    generalize h / 256 ^ (w - 1 - i.toNat) % 256 = b at g
    rw [List.take_set, List.take_add_one, List.set_append, List.length_take]
    rw [if_neg (by omega)]
    rw [show i.toNat - min i.toNat xs.length = 0 by omega, List.getElem?_eq_getElem (by omega)]
    simp only [Option.toList_some, List.set_cons_zero, List.append_assoc, List.singleton_append]
    congr 1
    obtain ⟨hb, e2⟩ := List.getElem?_eq_some_iff.1 g
    rw [← e2]; exact (List.drop_eq_getElem_cons hb).symm
theorem implSum_ev (s : ByteArray) (w : Int) (hs : s.size ≤ 4611686018427387904) : Ev (fun k => impl_Sum.f k s w) (sumT s w) := by
  unfold impl_Sum.f
  refine ev_bindc (widthOk_is w) ?_
  by_cases h : 1 ≤ w ∧ w ≤ 8
  · refine ev_pos (by simp [h]) ?_
    refine Ev.bind (sum64_ev s hs) ?_
    refine ev_pos (by omega) (ev_pos (by omega) (ev_some ?_))
    have z := sum64_range s
    obtain ⟨m, rfl⟩ : ∃ m : Nat, w = m := ⟨w.toNat, by omega⟩
    have e : (((List.replicate (m : Int).toNat (0 : Int)).length : Nat) : Int) = m := by simp
    rw [e]
    refine ev_cast ?_ (implSum_l (sum64 s) z.1 z.2 m (by omega) m 0 _ (by omega) (by omega) (by simp))
    unfold sumT; rw [if_pos h]; simp
  · refine ev_neg (by simp [h]) ?_
    exact ev_now (by unfold sumT; rw [if_neg h])

/-! ### Two lists of texts: laws_eqStringS -/
theorem laws_eqStringS_l (l0 l1 : List ByteArray) (hl : l0.length ≤ 4611686018427387904) (he : l0.length = l1.length) : ∀ (n : Nat) (i : Int), 0 ≤ i → i + n = l0.length →
    Ev (fun k => laws_eqStringS.l0 k l0 l1 i) (decide (l0.drop i.toNat = l1.drop i.toNat))
  | 0, i, h0, h1 => by
    refine Ev.step (fun k => by rw [laws_eqStringS.l0]) ?_
    refine ev_neg (by omega) (ev_now ?_)
    rw [List.drop_eq_nil_of_le (by omega), List.drop_eq_nil_of_le (by omega)]; simp
  | n + 1, i, h0, h1 => by
    refine Ev.step (fun k => by rw [laws_eqStringS.l0]) ?_
    refine ev_pos (by omega) (ev_pos h0 (ev_pos (by omega) ?_))
    rw [w64 (by omega) (by omega)]
    have d0 : l0.drop i.toNat = rdOf ByteArray.empty l0 i :: l0.drop (i + 1).toNat := by
      rw [List.drop_eq_getElem_cons (by omega), show (i + 1).toNat = i.toNat + 1 by omega]
      unfold rdOf; rw [List.getD_eq_getElem?_getD, List.getElem?_eq_getElem (by omega)]; rfl
    have d1 : l1.drop i.toNat = rdOf ByteArray.empty l1 i :: l1.drop (i + 1).toNat := by
      rw [List.drop_eq_getElem_cons (by omega), show (i + 1).toNat = i.toNat + 1 by omega]
      unfold rdOf; rw [List.getD_eq_getElem?_getD, List.getElem?_eq_getElem (by omega)]; rfl
    rw [d0, d1]
    by_cases e : rdOf ByteArray.empty l0 i = rdOf ByteArray.empty l1 i
    · refine ev_pos (ba_eq.2 e) ?_
      refine ev_cast ?_ (laws_eqStringS_l l0 l1 hl he n (i + 1) (by omega) (by omega))
      rw [e]; simp
    · refine ev_neg (fun h => e (ba_eq.1 h)) (ev_now ?_)
      simp [e]
theorem laws_eqStringS_ev (l0 l1 : List ByteArray) (hl : l0.length ≤ 4611686018427387904) : Ev (fun k => laws_eqStringS.f k l0 l1) (decide (l0 = l1)) := by
  unfold laws_eqStringS.f
  by_cases e : l0.length = l1.length
  · refine ev_pos (by omega) ?_
    exact ev_cast (by simp) (laws_eqStringS_l l0 l1 hl e l0.length 0 (by omega) (by omega))
  · refine ev_neg (by omega) (ev_now ?_)
    have : l0 ≠ l1 := fun h => e (by rw [h])
    simp [this]
theorem laws_eqStringS_same (l0 : List ByteArray) (hl : l0.length ≤ 4611686018427387904) : Ev (fun k => laws_eqStringS.f k l0 l0) true := ev_cast (by simp) (laws_eqStringS_ev l0 l0 hl)

/-! ### Sizes and copies of lists of texts: laws_szStringS, laws_toStringS -/
theorem szStringS_l (l : List ByteArray) (hl : l.length ≤ maxLen) (hs : ∀ x ∈ l, x.size ≤ maxLen) : ∀ (n i : Nat) (left : Int), i + n = l.length → 0 ≤ left → left ≤ 1048576 → l.length ≤ 1048576 →
    ∃ r, Ev (fun k => laws_szStringS.l0 k l left i) r ∧ (r < 0 ∨ (0 ≤ r ∧ r ≤ left ∧ ∀ x ∈ l.drop i, (x.size : Int) ≤ left))
  | 0, i, left, h0, h1, h2, h3 => by
    refine ⟨left, Ev.step (fun k => by rw [laws_szStringS.l0]) (ev_neg (by omega) (Ev.now _)), Or.inr ⟨h1, Int.le_refl _, ?_⟩⟩
    rw [List.drop_eq_nil_of_le (by omega)]; simp
  | n + 1, i, left, h0, h1, h2, h3 => by
    have e : rdOf ByteArray.empty l (i : Int) = l.getD i ByteArray.empty := rfl
    have hx := hs _ (getD_mem ByteArray.empty l i (by omega))
    have dg := drop_get ByteArray.empty l i (by omega)
    have hm : maxLen = 9223372036854775807 := rfl
    generalize l.getD i ByteArray.empty = x at e hx dg
    by_cases c : left - (x.size : Int) < 0
    · refine ⟨-1, Ev.step (fun k => by rw [laws_szStringS.l0]) (ev_pos (by omega) (ev_pos (by omega) ?_)), Or.inl (by omega)⟩
      rw [e, w64 (n := left - (x.size : Int)) (by omega) (by omega)]
      exact ev_pos c (Ev.now _)
    · obtain ⟨r, hr, hq⟩ := szStringS_l l hl hs n (i + 1) (left - x.size) (by omega) (by omega) (by omega) h3
      refine ⟨r, Ev.step (fun k => by rw [laws_szStringS.l0]) (ev_pos (by omega) (ev_pos (by omega) ?_)), ?_⟩
      · rw [e, w64 (n := left - (x.size : Int)) (by omega) (by omega), show wrap64 ((i : Int) + 1) = ((i + 1 : Nat) : Int) by rw [w64 (by omega) (by omega)]; omega]
        exact ev_neg c hr
      · rcases hq with hq | ⟨q0, q1, q2⟩
        · exact Or.inl hq
        · refine Or.inr ⟨q0, by omega, ?_⟩
          rw [dg]; intro y hy
          rcases List.mem_cons.1 hy with rfl | hy
          · omega
          · have := q2 y hy; omega
theorem szStringS_ev (l : List ByteArray) (left : Int) (hl : l.length ≤ maxLen) (hs : ∀ x ∈ l, x.size ≤ maxLen) (h1 : 0 ≤ left) (h2 : left ≤ 1048576) :
    ∃ r, Ev (fun k => laws_szStringS.f k l left) r ∧ (r < 0 ∨ (0 ≤ r ∧ r ≤ left ∧ (l.length : Int) ≤ left ∧ ∀ x ∈ l, (x.size : Int) ≤ left)) := by
  have hm : maxLen = 9223372036854775807 := rfl
  unfold laws_szStringS.f
  rw [w64 (n := left - (l.length : Int)) (by omega) (by omega)]
  by_cases c : left - (l.length : Int) < 0
  · exact ⟨-1, ev_pos c (Ev.now _), Or.inl (by omega)⟩
  · obtain ⟨r, hr, hq⟩ := szStringS_l l hl hs l.length 0 (left - l.length) (by omega) (by omega) (by omega) (by omega)
    refine ⟨r, ev_neg c hr, ?_⟩
    rcases hq with hq | ⟨q0, q1, q2⟩
    · exact Or.inl hq
    · exact Or.inr ⟨q0, by omega, by omega, fun x hx => by have := q2 x (by simpa using hx); omega⟩
theorem toStringS_l (l : List ByteArray) (hl : l.length ≤ 1048576) : ∀ (n i : Nat) (ys : List ByteArray), i + n = l.length → ys.length = l.length → ys.take i = l.take i → Ev (fun k => laws_toStringS.l0 k l ys i) l
  | 0, i, ys, h0, h1, h2 => by
    refine Ev.step (fun k => by rw [laws_toStringS.l0]) (ev_neg (by omega) (ev_now ?_))
    rw [List.take_of_length_le (by omega), List.take_of_length_le (by omega)] at h2; exact h2
  | n + 1, i, ys, h0, h1, h2 => by
    refine Ev.step (fun k => by rw [laws_toStringS.l0]) (ev_pos (by omega) (ev_pos (by omega) (ev_pos (by omega) ?_)))
    have e : rdOf ByteArray.empty l (i : Int) = l.getD i ByteArray.empty := rfl
    rw [e, Int.toNat_natCast, show wrap64 ((i : Int) + 1) = ((i + 1 : Nat) : Int) by rw [w64 (by omega) (by omega)]; omega]
    exact toStringS_l l hl n (i + 1) _ (by omega) (by simpa using h1) (take_set _ l ys i (by omega) h1 h2)
theorem toStringS_ev (l : List ByteArray) (hl : l.length ≤ 1048576) : Ev (fun k => laws_toStringS.f k l) l := by
  unfold laws_toStringS.f
  refine ev_pos (by omega) (ev_pos (by omega) ?_)
  exact toStringS_l l hl l.length 0 _ (by omega) (by simp) (by simp)

/-! ### Marks: laws_markText -/
theorem markText_l : ∀ (n : Nat) (x : Int) (out : ByteArray), 0 ≤ x → x < 10 ^ n → x ≤ 9223372036854775807 → out.size + n ≤ 100 → ∃ t, Ev (fun k => laws_markText.l0 k x out) t
  | 0, x, out, h0, h1, h3, h2 => by
    refine ⟨(⟨#[109]⟩ : ByteArray) ++ out, ?_⟩
    refine Ev.step (fun k => by rw [laws_markText.l0]) ?_
    exact ev_neg (by omega) (ev_pos (by omega) (Ev.now _))
  | n + 1, x, out, h0, h1, h3, h2 => by
    by_cases e : x > 0
    · have e2 : wrap64 (Int.tdiv x 10) = x / 10 := by rw [Int.tdiv_eq_ediv_of_nonneg h0, w64 (by omega) (by omega)]
      obtain ⟨t, ht⟩ := markText_l n (x / 10) (strOfNums [(wrap64 (48 + (Int.tmod x 10))) % 256] ++ out) (by omega) (by rw [Int.pow_succ] at h1; omega) (by omega) (by rw [ap_size, son_size]; simp only [List.length_cons, List.length_nil]; omega)
      refine ⟨t, Ev.step (fun k => by rw [laws_markText.l0]) ?_⟩
      refine ev_pos e (ev_some (ev_pos (by rw [son_size]; simp only [List.length_cons, List.length_nil]; omega) ?_))
      rw [e2]; exact ht
    · refine ⟨(⟨#[109]⟩ : ByteArray) ++ out, ?_⟩
      refine Ev.step (fun k => by rw [laws_markText.l0]) ?_
      exact ev_neg (by omega) (ev_pos (by omega) (Ev.now _))
def MT (x : Int) (t : ByteArray) : Prop := Ev (fun k => laws_markText.f k x) t
theorem markText_ex (x : Int) (h0 : 0 ≤ x) (h1 : x ≤ 9223372036854775807) : ∃ t, MT x t := by
  unfold MT laws_markText.f
  by_cases e : x ≤ 0
  · exact ⟨_, ev_pos e (Ev.now _)⟩
  · obtain ⟨t, ht⟩ := markText_l 19 x ⟨#[]⟩ h0 (by omega) h1 (by show 0 + _ ≤ _; omega)
    exact ⟨t, ev_neg e ht⟩

/-! ### Marks in a list of texts: laws_markStringS, laws_heldStringS -/
/-- The texts of ys from place i on, n of them, are the marks from x on. -/
def Marks (ys : List ByteArray) (i n : Nat) (x : Int) : Prop := ∀ j, j < n → ∃ t, ys[i + j]? = some t ∧ MT (x + j) t
theorem markStringS_l : ∀ (n : Nat) (i x : Int) (xs : List ByteArray), 0 ≤ i → i + n = xs.length → 0 ≤ x → x + n ≤ 4611686018427387904 → xs.length ≤ 4611686018427387904 →
    ∃ ys, Ev (fun k => laws_markStringS.l0 k xs x i) (x + n, ys) ∧ ys.length = xs.length ∧ (∀ j, j < i.toNat → ys[j]? = xs[j]?) ∧ Marks ys i.toNat n x
  | 0, i, x, xs, h0, h1, h2, h3, h4 => by
    refine ⟨xs, Ev.step (fun k => by rw [laws_markStringS.l0]) ?_, rfl, fun _ _ => rfl, fun j hj => absurd hj (by omega)⟩
    exact ev_neg (by omega) (ev_now (by simp))
  | n + 1, i, x, xs, h0, h1, h2, h3, h4 => by
    obtain ⟨t, ht⟩ := markText_ex x h2 (by omega)
    obtain ⟨ys, hy, hl, hk, hm⟩ := markStringS_l n (i + 1) (x + 1) (xs.set i.toNat t) (by omega) (by simp; omega) (by omega) (by omega) (by simp; omega)
    refine ⟨ys, Ev.step (fun k => by rw [laws_markStringS.l0]) ?_, by simpa using hl, ?_, ?_⟩
    · refine ev_pos (by omega) (Ev.bind ht (ev_pos h0 ?_))
      rw [w64 (by omega) (by omega), w64 (by omega) (by omega)]
      exact ev_cast (by rw [show x + 1 + (n : Int) = x + ((n + 1 : Nat) : Int) by omega]) hy
    · intro j hj
      rw [hk j (by omega), List.getElem?_set, if_neg (by omega)]
    · intro j hj
      rcases Nat.eq_zero_or_pos j with rfl | hp
      · refine ⟨t, ?_, by simpa using ht⟩
        rw [hk _ (by omega), List.getElem?_set, if_pos (by omega), if_pos (by omega)]
      · obtain ⟨t', e1, e2⟩ := hm (j - 1) (by omega)
        refine ⟨t', by rw [← e1]; congr 1; omega, ?_⟩
        rw [show x + (j : Int) = x + 1 + ((j - 1 : Nat) : Int) by omega]; exact e2
theorem markStringS_ev (xs : List ByteArray) (x : Int) (h2 : 0 ≤ x) (h3 : x + xs.length ≤ 4611686018427387904) :
    ∃ ys, Ev (fun k => laws_markStringS.f k xs x) (x + xs.length, ys) ∧ ys.length = xs.length ∧ Marks ys 0 xs.length x := by
  obtain ⟨ys, a, b, _, c⟩ := markStringS_l xs.length 0 x xs (by omega) (by omega) h2 h3 (by omega)
  exact ⟨ys, a, b, c⟩
theorem heldStringS_l (xs : List ByteArray) (h4 : xs.length ≤ 4611686018427387904) : ∀ (n : Nat) (i x : Int), 0 ≤ i → i + n = xs.length → 0 ≤ x → x + n ≤ 4611686018427387904 → Marks xs i.toNat n x →
    Ev (fun k => laws_heldStringS.l0 k xs x i) (x + n)
  | 0, i, x, h0, h1, h2, h3, hm => by
    refine Ev.step (fun k => by rw [laws_heldStringS.l0]) ?_
    exact ev_neg (by omega) (ev_now (by simp))
  | n + 1, i, x, h0, h1, h2, h3, hm => by
    obtain ⟨t, e1, e2⟩ := hm 0 (by omega)
    refine Ev.step (fun k => by rw [laws_heldStringS.l0]) ?_
    refine ev_pos (by omega) (ev_pos h0 (Ev.bind (show Ev (fun k => laws_markText.f k x) t by simpa [MT] using e2) ?_))
    refine ev_pos (by unfold rdOf; rw [List.getD_eq_getElem?_getD, show i.toNat = i.toNat + 0 by omega, e1]; rfl) ?_
    rw [w64 (by omega) (by omega), w64 (by omega) (by omega)]
    refine ev_cast (by omega) (heldStringS_l xs h4 n (i + 1) (x + 1) (by omega) (by omega) (by omega) (by omega) ?_)
    intro j hj
    obtain ⟨t', e3, e4⟩ := hm (j + 1) (by omega)
    refine ⟨t', by rw [← e3]; congr 1; omega, ?_⟩
    rw [show x + 1 + (j : Int) = x + ((j + 1 : Nat) : Int) by omega]; exact e4
theorem heldStringS_ev (xs : List ByteArray) (x : Int) (h2 : 0 ≤ x) (h3 : x + xs.length ≤ 4611686018427387904) (hm : Marks xs 0 xs.length x) : Ev (fun k => laws_heldStringS.f k xs x) (x + xs.length) :=
  heldStringS_l xs (by omega) xs.length 0 x (by omega) (by omega) h2 h3 hm

/-! ### Ascending texts: impl_ascending -/
theorem ascending_l (w : Int) (p : List ByteArray) (hp : p.length ≤ 1048576) : ∀ (n i : Nat), i + n = p.length → Ev (fun k => impl_ascending.l0 k p w p p.length i) (ascOk w (decide (i = 0)) (p.getD (i - 1) ByteArray.empty) (p.drop i))
  | 0, i, h0 => by
    refine Ev.step (fun k => by rw [impl_ascending.l0]) (ev_neg (by omega) (ev_now ?_))
    rw [List.drop_eq_nil_of_le (by omega), ascOk]
  | n + 1, i, h0 => by
    refine Ev.step (fun k => by rw [impl_ascending.l0]) (ev_pos (by omega) (ev_pos (by omega) (ev_pos (by omega) ?_)))
    have ih := ascending_l w p hp n (i + 1) (by omega)
    have e : rdOf ByteArray.empty p (i : Int) = p.getD i ByteArray.empty := rfl
    have dg := drop_get ByteArray.empty p i (by omega)
    rw [e, dg, ascOk, show wrap64 ((i : Int) + 1) = ((i + 1 : Nat) : Int) by rw [w64 (by omega) (by omega)]; omega]
    rw [Nat.add_sub_cancel] at ih
    generalize p.getD i ByteArray.empty = x at ih ⊢
    by_cases c : (x.size : Int) = w
    · refine ev_pos c ?_
      by_cases i0 : i = 0
      · refine ev_neg (by omega) (ev_cast ?_ ih)
        simp [c, i0]
      · refine ev_pos (by omega) ?_
        rw [show wrap64 ((i : Int) - 1) = ((i - 1 : Nat) : Int) by rw [w64 (by omega) (by omega)]; omega]
        refine ev_pos (by omega) (ev_pos (by omega) ?_)
        have e2 : rdOf ByteArray.empty p ((i - 1 : Nat) : Int) = p.getD (i - 1) ByteArray.empty := rfl
        rw [e2]
        by_cases b : Op.bytesLess (p.getD (i - 1) ByteArray.empty).toList x.toList = true
        · refine ev_pos b (ev_cast ?_ ih)
          rw [b]; simp [c]
        · refine ev_neg b (ev_now ?_)
          rw [Bool.not_eq_true] at b
          rw [b]; simp [i0]
    · refine ev_neg c (ev_now ?_)
      simp [c]
theorem ascending_ev (w : Int) (p : List ByteArray) (hp : p.length ≤ 1048576) : Ev (fun k => impl_ascending.f k p w) (ascOk w true ⟨#[]⟩ p) := by
  unfold impl_ascending.f
  refine ev_cast ?_ (ascending_l w p hp p.length 0 (by omega))
  cases p <;> rfl

/-! ### Texts behind each other: strings_Join, spec_l6Mix -/
def joinT : List ByteArray → ByteArray
  | [] => ⟨#[]⟩
  | x :: l => x ++ joinT l
theorem joinT_data : ∀ l : List ByteArray, (joinT l).data.toList = (l.map (·.data.toList)).flatten
  | [] => rfl
  | x :: l => by rw [joinT, ByteArray.toList_data_append, joinT_data l]; rfl
theorem join_flat (xs : List (List UInt8)) : Go.Lib.join xs [] = xs.flatten := by
  cases xs with
  | nil => rfl
  | cons x r => rw [Go.Lib.join_cons]; unfold Go.Lib.joinTail; simp
theorem join_is (l : List ByteArray) (h : l.length ≤ 140737488355328) (h2 : (joinT l).size ≤ 140737488355328) : strings_Join.f l (⟨#[]⟩ : ByteArray) = some (joinT l) := by
  unfold strings_Join.f
  have e : Go.Lib.join (l.map (·.data.toList)) ((⟨#[]⟩ : ByteArray).data.toList) = (joinT l).data.toList := by
    rw [joinT_data]; exact join_flat _
  rw [e, if_pos ⟨h, by rw [ba_size]; exact h2⟩]
theorem son_bytes (x : ByteArray) : strOfNums (bytesOf x) = x := by
  apply ba_ext
  rw [son_data]
  unfold bytesOf
  rw [List.map_map]
  conv => rhs; rw [← List.map_id x.data.toList]
  apply List.map_congr_left
  intro a _
  simp
theorem bytesOf_length (x : ByteArray) : (bytesOf x).length = x.size := by
  unfold bytesOf
  rw [List.length_map]; exact ba_size x
theorem ba_assoc (a b c : ByteArray) : (a ++ b) ++ c = a ++ (b ++ c) := by
  apply ba_ext
  rw [ByteArray.toList_data_append, ByteArray.toList_data_append, ByteArray.toList_data_append, ByteArray.toList_data_append, List.append_assoc]
theorem joinT_size (N : Nat) : ∀ l : List ByteArray, (∀ x ∈ l, x.size ≤ N) → (joinT l).size ≤ N * l.length
  | [], _ => Nat.zero_le _
  | x :: l, h => by
    have h1 := h x List.mem_cons_self
    have ih := joinT_size N l (fun y hy => h y (List.mem_cons_of_mem _ hy))
    rw [joinT, ap_size, List.length_cons, Nat.mul_add, Nat.mul_one]; omega
theorem mix_l (w : Int) (l : List ByteArray) (hl : l.length ≤ 1048576) (hx : ∀ x ∈ l, x.size ≤ 8) : ∀ (n i : Nat) (acc : List Int), i + n = l.length → acc.length ≤ 8 * i →
    Ev (fun k => spec_l6Mix.l0 k l w acc i) (sumT (strOfNums acc ++ joinT (l.drop i)) w)
  | 0, i, acc, h0, h1 => by
    refine Ev.step (fun k => by rw [spec_l6Mix.l0]) (ev_neg (by omega) ?_)
    rw [List.drop_eq_nil_of_le (by omega), joinT, app_em]
    exact Ev.bind (specSum_ev _ w (by rw [son_size]; omega)) (Ev.now _)
  | n + 1, i, acc, h0, h1 => by
    have e : rdOf ByteArray.empty l (i : Int) = l.getD i ByteArray.empty := rfl
    have hi := hx _ (getD_mem ByteArray.empty l i (by omega))
    have dg := drop_get ByteArray.empty l i (by omega)
    refine Ev.step (fun k => by rw [spec_l6Mix.l0]) (ev_pos (by omega) (ev_pos (by omega) ?_))
    rw [e, dg, joinT, show wrap64 ((i : Int) + 1) = ((i + 1 : Nat) : Int) by rw [w64 (by omega) (by omega)]; omega]
    generalize l.getD i ByteArray.empty = x at hi ⊢
    refine ev_pos (by omega) (ev_cast ?_ (mix_l w l hl hx n (i + 1) (acc ++ bytesOf x) (by omega) (by rw [List.length_append, bytesOf_length]; omega)))
    rw [← son_app, son_bytes, ba_assoc]
theorem mix_ev (w : Int) (l : List ByteArray) (hl : l.length ≤ 1048576) (hx : ∀ x ∈ l, x.size ≤ 8) : Ev (fun k => spec_l6Mix.f k l w) (sumT (joinT l) w) := by
  unfold spec_l6Mix.f
  refine ev_cast ?_ (mix_l w l hl hx l.length 0 [] (by omega) (by simp))
  rw [List.drop_zero, show strOfNums [] = (⟨#[]⟩ : ByteArray) from rfl, em_app]

/-! ### Tell: spec_l6Set, spec_l6There, spec_Tell, impl_setOk, impl_between, impl_Tell -/
def setOk (l : List ByteArray) (w : Int) : Bool := decide (1 ≤ w ∧ w ≤ 8) && (decide (l.length ≤ 500) && ascOk w true ⟨#[]⟩ l)
theorem asc_any (w : Int) (a b : ByteArray) (l : List ByteArray) : ascOk w true a l = ascOk w true b l := by cases l <;> rfl
theorem l6Set_l (w : Int) (l : List ByteArray) (hl : l.length ≤ 1048576) : ∀ (n j : Nat), j + n = l.length → Ev (fun k => spec_l6Set.l0 k l w j) (ascOk w (decide (j = 0)) (l.getD (j - 1) ByteArray.empty) (l.drop j))
  | 0, j, h0 => by
    refine Ev.step (fun k => by rw [spec_l6Set.l0]) (ev_neg (by omega) (ev_now ?_))
    rw [List.drop_eq_nil_of_le (by omega), ascOk]
  | n + 1, j, h0 => by
    refine Ev.step (fun k => by rw [spec_l6Set.l0]) (ev_pos (by omega) (ev_pos (by omega) ?_))
    have ih := l6Set_l w l hl n (j + 1) (by omega)
    have e : rdOf ByteArray.empty l (j : Int) = l.getD j ByteArray.empty := rfl
    have dg := drop_get ByteArray.empty l j (by omega)
    rw [e, dg, ascOk, show wrap64 ((j : Int) + 1) = ((j + 1 : Nat) : Int) by rw [w64 (by omega) (by omega)]; omega]
    rw [Nat.add_sub_cancel] at ih
    generalize l.getD j ByteArray.empty = x at ih ⊢
    by_cases cc : (x.size : Int) = w
    · refine ev_pos cc ?_
      by_cases j0 : j = 0
      · refine ev_neg (by omega) (ev_cast ?_ ih)
        simp [cc, j0]
      · refine ev_pos (by omega) ?_
        rw [show wrap64 ((j : Int) - 1) = ((j - 1 : Nat) : Int) by rw [w64 (by omega) (by omega)]; omega]
        refine ev_pos (by omega) (ev_pos (by omega) ?_)
        have e2 : rdOf ByteArray.empty l ((j - 1 : Nat) : Int) = l.getD (j - 1) ByteArray.empty := rfl
        rw [e2]
        by_cases q : Op.bytesLess (l.getD (j - 1) ByteArray.empty).toList x.toList = true
        · refine ev_pos q (ev_cast ?_ ih)
          rw [q]; simp [cc]
        · refine ev_neg q (ev_now ?_)
          rw [Bool.not_eq_true] at q
          rw [q]; simp [j0]
    · refine ev_neg cc (ev_now ?_)
      simp [cc]
theorem l6Set_ev (w : Int) (l : List ByteArray) (hl : l.length ≤ 1048576) : Ev (fun k => spec_l6Set.f k l w) (setOk l w) := by
  unfold spec_l6Set.f setOk
  refine ev_bindc (l1Width_is w) ?_
  by_cases c : 1 ≤ w ∧ w ≤ 8
  · refine ev_pos (by simpa using c) ?_
    rw [decide_eq_true c]
    by_cases d : l.length ≤ 500
    · refine Ev.step (fun k => by rw [spec_l6Set.j0]) (ev_neg (by simp; omega) ?_)
      refine ev_cast ?_ (l6Set_l w l hl l.length 0 (by omega))
      rw [decide_eq_true d]
      simp only [Bool.true_and, decide_true, List.drop_zero]
      exact asc_any w _ _ l
    · refine Ev.step (fun k => by rw [spec_l6Set.j0]) (ev_pos (by simp; omega) (ev_now ?_))
      rw [decide_eq_false d]; rfl
  · refine ev_neg (by simpa using c) (Ev.step (fun k => by rw [spec_l6Set.j0]) (ev_pos rfl (ev_now ?_)))
    rw [decide_eq_false c]; rfl
theorem setOk_ev (w : Int) (l : List ByteArray) (hl : l.length ≤ 1048576) : Ev (fun k => impl_setOk.f k l w) (setOk l w) := by
  unfold impl_setOk.f setOk
  refine ev_bindc (widthOk_is w) ?_
  by_cases c : 1 ≤ w ∧ w ≤ 8
  · refine ev_pos (by simpa using c) ?_
    rw [decide_eq_true c]
    by_cases d : l.length ≤ 500
    · refine ev_pos (by omega) (Ev.bind (ascending_ev w l hl) (ev_now ?_))
      rw [decide_eq_true d]; rfl
    · refine ev_neg (by omega) (ev_now ?_)
      rw [decide_eq_false d]; rfl
  · refine ev_neg (by simpa using c) (ev_now ?_)
    rw [decide_eq_false c]; rfl
def betw (a b x : ByteArray) : Bool := !(Op.bytesLess x.toList a.toList) && (decide (b.toList = []) || Op.bytesLess x.toList b.toList)
theorem there_l (l : List ByteArray) (a b : ByteArray) (hl : l.length ≤ 1048576) : ∀ (n i : Nat) (acc : List ByteArray), i + n = l.length → acc.length ≤ i → Ev (fun k => spec_l6There.l0 k l a b acc i) (acc ++ (l.drop i).filter (betw a b))
  | 0, i, acc, h0, h1 => by
    refine Ev.step (fun k => by rw [spec_l6There.l0]) (ev_neg (by omega) (ev_now ?_))
    rw [List.drop_eq_nil_of_le (by omega)]; simp
  | n + 1, i, acc, h0, h1 => by
    have e : rdOf ByteArray.empty l (i : Int) = l.getD i ByteArray.empty := rfl
    have dg := drop_get ByteArray.empty l i (by omega)
    refine Ev.step (fun k => by rw [spec_l6There.l0]) (ev_pos (by omega) (ev_pos (by omega) ?_))
    rw [e, dg, show wrap64 ((i : Int) + 1) = ((i + 1 : Nat) : Int) by rw [w64 (by omega) (by omega)]; omega]
    have ih0 := there_l l a b hl n (i + 1) acc (by omega) (by omega)
    have ih1 := there_l l a b hl n (i + 1) (acc ++ [l.getD i ByteArray.empty]) (by omega) (by simp; omega)
    generalize l.getD i ByteArray.empty = x at ih1 ⊢
    by_cases c : Op.bytesLess x.toList a.toList = true
    · refine ev_pos c (ev_cast ?_ ih0)
      rw [List.filter_cons_of_neg (by unfold betw; rw [c]; simp)]
    · refine ev_neg c ?_
      rw [Bool.not_eq_true] at c
      by_cases d : b.toList = []
      · refine ev_pos d (ev_pos (by omega) (ev_cast ?_ ih1))
        rw [List.filter_cons_of_pos (by unfold betw; rw [c, decide_eq_true d]; rfl)]; simp
      · refine ev_neg d ?_
        by_cases f : Op.bytesLess x.toList b.toList = true
        · refine ev_pos f (ev_pos (by omega) (ev_cast ?_ ih1))
          rw [List.filter_cons_of_pos (by unfold betw; rw [c, f]; simp)]; simp
        · refine ev_neg f (ev_cast ?_ ih0)
          rw [Bool.not_eq_true] at f
          rw [List.filter_cons_of_neg (by unfold betw; rw [f, decide_eq_false d]; simp)]
theorem between_l (l : List ByteArray) (a b : ByteArray) (hl : l.length ≤ 1048576) : ∀ (n i : Nat) (acc : List ByteArray), i + n = l.length → acc.length ≤ i → Ev (fun k => impl_between.l0 k a b acc l l.length i) (acc ++ (l.drop i).filter (betw a b))
  | 0, i, acc, h0, h1 => by
    refine Ev.step (fun k => by rw [impl_between.l0]) (ev_neg (by omega) (ev_now ?_))
    rw [List.drop_eq_nil_of_le (by omega)]; simp
  | n + 1, i, acc, h0, h1 => by
    have e : rdOf ByteArray.empty l (i : Int) = l.getD i ByteArray.empty := rfl
    have dg := drop_get ByteArray.empty l i (by omega)
    refine Ev.step (fun k => by rw [impl_between.l0]) (ev_pos (by omega) (ev_pos (by omega) (ev_pos (by omega) ?_)))
    rw [e, dg, show wrap64 ((i : Int) + 1) = ((i + 1 : Nat) : Int) by rw [w64 (by omega) (by omega)]; omega]
    have ih0 := between_l l a b hl n (i + 1) acc (by omega) (by omega)
    have ih1 := between_l l a b hl n (i + 1) (acc ++ [l.getD i ByteArray.empty]) (by omega) (by simp; omega)
    generalize l.getD i ByteArray.empty = x at ih1 ⊢
    by_cases c : Op.bytesLess x.toList a.toList = true
    · refine ev_pos c (ev_cast ?_ ih0)
      rw [List.filter_cons_of_neg (by unfold betw; rw [c]; simp)]
    · refine ev_neg c ?_
      rw [Bool.not_eq_true] at c
      by_cases d : b.toList = []
      · refine ev_pos d (ev_pos (by omega) (ev_cast ?_ ih1))
        rw [List.filter_cons_of_pos (by unfold betw; rw [c, decide_eq_true d]; rfl)]; simp
      · refine ev_neg d ?_
        by_cases f : Op.bytesLess x.toList b.toList = true
        · refine ev_pos f (ev_pos (by omega) (ev_cast ?_ ih1))
          rw [List.filter_cons_of_pos (by unfold betw; rw [c, f]; simp)]; simp
        · refine ev_neg f (ev_cast ?_ ih0)
          rw [Bool.not_eq_true] at f
          rw [List.filter_cons_of_neg (by unfold betw; rw [f, decide_eq_false d]; simp)]
def tellR (l : List ByteArray) (a b : ByteArray) (w : Int) : ByteArray × ByteArray × Int × ByteArray × Bool × List ByteArray :=
  if setOk l w = true then (a, b, ((l.filter (betw a b)).length : Int), sumT (joinT (l.filter (betw a b))) w, false, []) else (⟨#[]⟩, ⟨#[]⟩, 0, ⟨#[]⟩, false, [])
theorem setOk_facts {l : List ByteArray} {w : Int} (h : setOk l w = true) : l.length ≤ 500 ∧ ∀ x ∈ l, x.size ≤ 8 := by
  unfold setOk at h
  simp only [Bool.and_eq_true, decide_eq_true_eq] at h
  obtain ⟨h1, h2, h3⟩ := h
  have := (asc_sorted w l true ⟨#[]⟩ h3).2.2
  exact ⟨h2, fun x hx => by have := this x hx; omega⟩
theorem specTell_ev (l : List ByteArray) (a b : ByteArray) (w : Int) (hl : l.length ≤ 1048576) : Ev (fun k => spec_Tell.f k l a b w) (tellR l a b w) := by
  unfold spec_Tell.f tellR
  refine Ev.bind (l6Set_ev w l hl) ?_
  by_cases c : setOk l w = true
  · rw [if_pos c]
    obtain ⟨f1, f2⟩ := setOk_facts c
    have z := List.length_filter_le (betw a b) l
    refine ev_pos c (Ev.bind ?_ (Ev.bind (mix_ev w _ (by omega) (fun x hx => f2 x (List.mem_filter.1 hx).1)) (Ev.now _)))
    unfold spec_l6There.f
    exact ev_cast (by simp) (there_l l a b hl l.length 0 [] (by omega) (by simp))
  · rw [if_neg c]
    exact ev_neg c (Ev.now _)
theorem implTell_ev (l : List ByteArray) (a b : ByteArray) (w : Int) (hl : l.length ≤ 1048576) : Ev (fun k => impl_Tell.f k l a b w) (tellR l a b w) := by
  unfold impl_Tell.f tellR
  refine Ev.bind (setOk_ev w l hl) ?_
  by_cases c : setOk l w = true
  · rw [if_pos c]
    obtain ⟨f1, f2⟩ := setOk_facts c
    have z := List.length_filter_le (betw a b) l
    have js := joinT_size 8 (l.filter (betw a b)) (fun x hx => f2 x (List.mem_filter.1 hx).1)
    refine ev_pos c (Ev.bind (a := l.filter (betw a b)) ?_ (ev_bindc (join_is _ (by omega) (by omega)) (Ev.bind (implSum_ev _ w (by omega)) (Ev.now _))))
    unfold impl_between.f
    exact ev_cast (by simp) (between_l l a b hl l.length 0 [] (by omega) (by simp))
  · rw [if_neg c]
    exact ev_neg c (Ev.now _)

/-! ### The law -/
theorem eqNote_same (a b : ByteArray) (c : Int) (d : ByteArray) (f : Bool) (l : List ByteArray) (hl : l.length ≤ 4611686018427387904) : Ev (fun k => laws_eqNote.f k a b c d f l a b c d f l) true := by
  unfold laws_eqNote.f
  exact ev_pos rfl (ev_pos rfl (ev_pos rfl (ev_pos rfl (ev_neg (by simp) (Ev.bind (laws_eqStringS_same l hl) (ev_pos rfl (Ev.now _)))))))
theorem tellR_size (l : List ByteArray) (a b : ByteArray) (w : Int) : (tellR l a b w).2.2.2.2.2.length = 0 := by
  unfold tellR
  split <;> rfl
theorem FnExactTell : laws_FnExactTell.Law := by
  intro l a b w ⟨hl, hs⟩ _ _ _
  apply Ev.rounds
  unfold laws_FnExactTell.f
  by_cases h1 : (a.size : Int) > 1048576
  · exact ev_pos h1 (Ev.now _)
  · refine ev_neg h1 ?_
    by_cases h2 : (b.size : Int) > 1048576
    · exact ev_pos h2 (Ev.now _)
    · refine ev_neg h2 ?_
      obtain ⟨r, hr, hq⟩ := szStringS_ev l 1048576 hl hs (by omega) (by omega)
      refine Ev.bind hr ?_
      rcases hq with hq | ⟨q0, _, hn, hx⟩
      · exact ev_pos hq (Ev.now _)
      · refine ev_neg (by omega) ?_
        have hln : l.length ≤ 1048576 := by omega
        have hto := toStringS_ev l hln
        have g1 := specTell_ev l a b w hln
        have g2 := implTell_ev l a b w hln
        have gs := tellR_size l a b w
        generalize tellR l a b w = R at g1 g2 gs
        obtain ⟨x1, x2, x3, x4, x5, x6⟩ := R
        dsimp only at gs
        have same := eqNote_same x1 x2 x3 x4 x5 x6 (by omega)
        obtain ⟨ys, m1, _, _⟩ := markStringS_ev l 1 (by omega) (by omega)
        obtain ⟨zs, n1, n2, n3⟩ := markStringS_ev x6 1 (by omega) (by omega)
        have n4 := heldStringS_ev zs 1 (by omega) (by omega) (by rw [n2]; exact n3)
        have mn : Ev (fun k => laws_markNote.f k x1 x2 x3 x4 x5 x6 1) (1 + (x6.length : Int), zs) := by
          unfold laws_markNote.f; exact Ev.bind n1 (Ev.now _)
        have hn' : Ev (fun k => laws_heldNote.f k x1 x2 x3 x4 x5 zs 1) (1 + (x6.length : Int)) := by
          unfold laws_heldNote.f; rw [n2] at n4; exact Ev.bind n4 (ev_neg (by omega) (Ev.now _))
        refine Ev.bind hto (Ev.bind g1 (Ev.bind hto (Ev.bind g2 (Ev.bind same (ev_pos rfl (Ev.bind hto (Ev.bind (laws_eqStringS_same l (by omega)) (ev_pos rfl (Ev.bind m1 (ev_neg (by dsimp only; omega) (Ev.bind same ?_)))))))))))
        refine Ev.step (fun k => by rw [laws_FnExactTell.j0]) (ev_neg (by simp) ?_)
        refine Ev.bind mn (Ev.bind hn' (ev_neg (by omega) (ev_pos rfl (Ev.bind hto (Ev.bind g2 (Ev.bind same (ev_pos rfl (Ev.bind hn' (ev_neg (by omega) (ev_pos rfl (Ev.now _)))))))))))

end Go.Proofs.Ytbhkinfdilngiaa.Pure

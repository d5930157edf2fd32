/- The law FnClash answers true at every code: on drawn texts the program's Clash is the reference's, and what it finds are two texts of one sum; no condition beyond what the row itself reads. -/
import Derived.Test.YtbmldafgipimbaaGFnClashx
import Derived.Test.YtbmldafgipimbaaM
namespace Go.Proofs.Ytbmldafgipimbaa.Pure
open Go.RowKit Go.Proofs.Ytbmldafgipimbaa.PFnClash Go.Proofs.Ytbmldafgipimbaa.M Go.Proofs.YtbmldafgipimbaaW.PrintWords Go.Proofs.YtbmldafgipimbaaW.PrintLast Go.Proofs.YtbmldafgipimbaaW.PrintMore
set_option linter.unusedVariables false
set_option linter.unusedSimpArgs false

/-! ### Sums of 64 bits: spec_l1Sum64, impl_sum64 -/
theorem l1Sum64_l (s : ByteArray) (hs : s.size ≤ 4611686018427387904) : ∀ (n : Nat) (h i : Int), 0 ≤ i → i + n = s.size → Ev (fun k => spec_l1Sum64.l0 k s h i) (fnv s n h i)
  | 0, h, i, h0, h1 => by
    refine Ev.step (fun k => by rw [spec_l1Sum64.l0]) ?_
    exact ev_neg (by omega) (Ev.now _)
  | n + 1, h, i, h0, h1 => by
    refine Ev.step (fun k => by rw [spec_l1Sum64.l0]) ?_
    refine ev_pos (by omega) (ev_pos h0 ?_)
    rw [w64 (by omega) (by omega)]
    exact l1Sum64_l s hs n _ (i + 1) (by omega) (by omega)
theorem l1Sum64_ev (s : ByteArray) (hs : s.size ≤ 4611686018427387904) : Ev (fun k => spec_l1Sum64.f k s) (sum64 s) :=
  l1Sum64_l s hs s.size _ 0 (by omega) (by omega)
theorem sum64_l (s : ByteArray) (hs : s.size ≤ 4611686018427387904) : ∀ (n : Nat) (h i : Int), 0 ≤ i → i + n = s.size → Ev (fun k => impl_sum64.l0 k s h i) (fnv s n h i)
  | 0, h, i, h0, h1 => by
    refine Ev.step (fun k => by rw [impl_sum64.l0]) ?_
    exact ev_neg (by omega) (Ev.now _)
  | n + 1, h, i, h0, h1 => by
    refine Ev.step (fun k => by rw [impl_sum64.l0]) ?_
    refine ev_pos (by omega) (ev_pos h0 ?_)
    rw [w64 (by omega) (by omega)]
    exact sum64_l s hs n _ (i + 1) (by omega) (by omega)
theorem sum64_ev (s : ByteArray) (hs : s.size ≤ 4611686018427387904) : Ev (fun k => impl_sum64.f k s) (sum64 s) :=
  sum64_l s hs s.size _ 0 (by omega) (by omega)

/-! ### Sums: spec_l1In, spec_l1Width, spec_l1Sum64, spec_l1Bytes, spec_Sum; impl_widthOk, impl_sum64, impl_Sum -/
theorem l1In_is (a b c : Int) : spec_l1In.f a b c = some (decide (b ≤ a ∧ a ≤ c)) := by
  unfold spec_l1In.f
  by_cases h : b ≤ a <;> simp [h]
theorem l1Width_is (w : Int) : spec_l1Width.f w = some (decide (1 ≤ w ∧ w ≤ 8)) := by
  unfold spec_l1Width.f; rw [l1In_is]; rfl
theorem widthOk_is (w : Int) : impl_widthOk.f w = some (decide (1 ≤ w ∧ w ≤ 8)) := by
  unfold impl_widthOk.f
  by_cases h : 1 ≤ w <;> simp [h]
theorem l1Bytes_l : ∀ (n : Nat) (h w i : Int) (out : ByteArray), 0 ≤ i → i + n = w → w ≤ 8 → 0 ≤ h → h < 18446744073709551616 → out.size + n ≤ 8 →
    Ev (fun k => spec_l1Bytes.l0 k h w out i) (strOfNums (beBytes n h) ++ out)
  | 0, h, w, i, out, h0, h1, h2, h3, h4, h5 => by
    refine Ev.step (fun k => by rw [spec_l1Bytes.l0]) ?_
    refine ev_neg (by omega) ?_
    exact ev_now (by rw [show strOfNums (beBytes 0 h) = (⟨#[]⟩ : ByteArray) from rfl, em_app])
  | n + 1, h, w, i, out, h0, h1, h2, h3, h4, h5 => by
    refine Ev.step (fun k => by rw [spec_l1Bytes.l0]) ?_
    refine ev_pos (by omega) ?_
    refine ev_some ?_
    have e1 : Int.tmod h 256 % 256 = h % 256 := by rw [Int.tmod_eq_emod_of_nonneg h3]; omega
    have e2 : IntKind.u64.wrap (Int.tdiv h 256) = h / 256 := by rw [Int.tdiv_eq_ediv_of_nonneg h3, u64w]; omega
    have sz : (strOfNums [Int.tmod h 256 % 256]).size = 1 := by rw [son_size]; rfl
    refine ev_pos (by rw [sz]; omega) ?_
    rw [e1, e2, w64 (by omega) (by omega)]
    refine ev_cast ?_ (l1Bytes_l n (h / 256) w (i + 1) _ (by omega) (by omega) h2 (by omega) (by omega) (by rw [ap_size, son_size]; simp only [List.length_cons, List.length_nil]; omega))
    rw [beBytes, ← ByteArray.append_assoc, son_app]
theorem specSum_ev (s : ByteArray) (w : Int) (hs : s.size ≤ 4611686018427387904) : Ev (fun k => spec_Sum.f k s w) (sumT s w) := by
  unfold spec_Sum.f
  refine ev_bindc (l1Width_is w) ?_
  by_cases h : 1 ≤ w ∧ w ≤ 8
  · refine ev_pos (by simp [h]) ?_
    refine Ev.bind (l1Sum64_ev s hs) ?_
    have z := sum64_range s
    refine Ev.bind (f := fun k t => some t) (l1Bytes_l w.toNat (sum64 s) w 0 ⟨#[]⟩ (by omega) (by omega) h.2 z.1 z.2 (by show 0 + _ ≤ _; omega)) ?_
    exact ev_now (by rw [app_em]; unfold sumT; rw [if_pos h])
  · refine ev_neg (by simp [h]) ?_
    exact ev_now (by unfold sumT; rw [if_neg h])
theorem implSum_l (h : Int) (h0 : 0 ≤ h) (h1 : h < 18446744073709551616) (w : Nat) (hw : w ≤ 8) : ∀ (n : Nat) (i : Int) (xs : List Int), 0 ≤ i → i + n = w → xs.length = w →
    Ev (fun k => impl_Sum.l0 k w h xs w i) (strOfNums (xs.take i.toNat ++ (beBytes w h).drop i.toNat))
  | 0, i, xs, i0, i1, hx => by
    refine Ev.step (fun k => by rw [impl_Sum.l0]) ?_
    refine ev_neg (by omega) (ev_now ?_)
    rw [List.take_of_length_le (by omega), List.drop_eq_nil_of_le (by rw [beBytes_length]; omega), List.append_nil]
  | n + 1, i, xs, i0, i1, hx => by
    refine Ev.step (fun k => by rw [impl_Sum.l0]) ?_
    rw [w64 (n := (w : Int) - 1) (by omega) (by omega), w64 (n := (w : Int) - 1 - i) (by omega) (by omega), w64 (n := 8 * ((w : Int) - 1 - i)) (by omega) (by omega), w64 (n := i + 1) (by omega) (by omega)]
    refine ev_pos (by omega) (ev_pos (by omega) (ev_pos i0 (ev_pos (by omega) ?_)))
    refine ev_cast ?_ (implSum_l h h0 h1 w hw n (i + 1) _ (by omega) (by omega) (by simpa using hx))
    congr 1
    have e : shr .u64 h (8 * ((w : Int) - 1 - i)) % 256 = h / 256 ^ (w - 1 - i.toNat) % 256 := by
      unfold shr
      rw [show (8 * ((w : Int) - 1 - i)).toNat = 8 * (w - 1 - i.toNat) by omega, show IntKind.u64.bits = 64 from rfl, Nat.min_eq_left (by omega), Int.pow_mul]
      rfl
    rw [e, show (i + 1).toNat = i.toNat + 1 by omega]
    have g := beBytes_get w h i.toNat (by omega)
    generalize h / 256 ^ (w - 1 - i.toNat) % 256 = b at g
    rw [List.take_set, List.take_add_one, List.set_append, List.length_take]
    rw [if_neg (by omega)]
    rw [show i.toNat - min i.toNat xs.length = 0 by omega, List.getElem?_eq_getElem (by omega)]
    simp only [Option.toList_some, List.set_cons_zero, List.append_assoc, List.singleton_append]
    congr 1
    obtain ⟨hb, e2⟩ := List.getElem?_eq_some_iff.1 g
    rw [← e2]; exact (List.drop_eq_getElem_cons hb).symm
theorem implSum_ev (s : ByteArray) (w : Int) (hs : s.size ≤ 4611686018427387904) : Ev (fun k => impl_Sum.f k s w) (sumT s w) := by
  unfold impl_Sum.f
  refine ev_bindc (widthOk_is w) ?_
  by_cases h : 1 ≤ w ∧ w ≤ 8
  · refine ev_pos (by simp [h]) ?_
    refine Ev.bind (sum64_ev s hs) ?_
    refine ev_pos (by omega) (ev_pos (by omega) (ev_some ?_))
    have z := sum64_range s
    obtain ⟨m, rfl⟩ : ∃ m : Nat, w = m := ⟨w.toNat, by omega⟩
    have e : (((List.replicate (m : Int).toNat (0 : Int)).length : Nat) : Int) = m := by simp
    rw [e]
    refine ev_cast ?_ (implSum_l (sum64 s) z.1 z.2 m (by omega) m 0 _ (by omega) (by omega) (by simp))
    unfold sumT; rw [if_pos h]; simp
  · refine ev_neg (by simp [h]) ?_
    exact ev_now (by unfold sumT; rw [if_neg h])

/-! ### Drawing: spec_l1Open, spec_l1Rd_pick, spec_l1Many, spec_l2Thing, spec_l2Near, spec_DrawShared -/
theorem xor_nonneg (a b : Int) (ha : 0 ≤ a) (ha1 : a < 4611686018427387904) (hb : 0 ≤ b) (hb1 : b < 4611686018427387904) : 0 ≤ Go.bits .xor .i64 a b := by
  obtain ⟨m, rfl⟩ : ∃ m : Nat, a = m := ⟨a.toNat, by omega⟩
  obtain ⟨n, rfl⟩ : ∃ n : Nat, b = n := ⟨b.toNat, by omega⟩
  have hm : m < 2 ^ 62 := by omega
  have hn : n < 2 ^ 62 := by omega
  have hx := Nat.xor_lt_two_pow hm hn
  have e1 : m % 2 ^ IntKind.i64.bits = m := Nat.mod_eq_of_lt (by show m < 2 ^ 64; omega)
  have e2 : n % 2 ^ IntKind.i64.bits = n := Nat.mod_eq_of_lt (by show n < 2 ^ 64; omega)
  simp only [Go.bits, BitVec.ofInt_natCast, BitVec.toNat_xor, BitVec.toNat_ofNat, e1, e2]
  rw [IntKind.wrap_i64]
  have : ((m ^^^ n : Nat) : Int) < 4611686018427387904 := by
    have : m ^^^ n < 4611686018427387904 := hx
    omega
  omega
/-- The bytes of a code. -/
def Bytes_ (b : List Int) : Prop := b.length ≤ 2000 ∧ ∀ x ∈ b, 0 ≤ x ∧ x ≤ 255
theorem rd_range {b : List Int} (h : Bytes_ b) (i : Int) : 0 ≤ rd b i ∧ rd b i ≤ 255 := by
  unfold rd; rw [List.getD_eq_getElem?_getD]
  cases e : b[i.toNat]? with
  | none => simp
  | some x => exact h.2 x (List.mem_of_getElem? e)
theorem tmod_range (x n : Int) (hx : 0 ≤ x) (hn : 1 ≤ n) : 0 ≤ Int.tmod x n ∧ Int.tmod x n < n := by
  rw [Int.tmod_eq_emod_of_nonneg hx]; exact ⟨Int.emod_nonneg _ (by omega), Int.emod_lt_of_pos _ (by omega)⟩
theorem pick_ev (b : List Int) (p n : Int) (hb : Bytes_ b) (h0 : 0 ≤ p) (h1 : p ≤ 1099511627776) (hn : n ≤ 4611686018427387904) :
    ∃ v, Ev (fun k => spec_l1Rd_pick.f k b p n) (v, p + 1) ∧ 0 ≤ v ∧ (1 ≤ n → v < n) ∧ (n < 1 → v = 0) := by
  unfold spec_l1Rd_pick.f
  rw [w64 (n := p + 1) (by omega) (by omega)]
  by_cases n1 : n < 1
  · refine ⟨0, ev_pos n1 (Ev.step (fun k => by rw [spec_l1Rd_pick.j0]) (ev_pos rfl (Ev.now _))), by omega, fun h => by omega, fun _ => rfl⟩
  · by_cases l0 : b.length = 0
    · refine ⟨0, ev_neg n1 (Ev.step (fun k => by rw [spec_l1Rd_pick.j0]) (ev_pos (by simp [l0]) (Ev.now _))), by omega, fun h => by omega, fun _ => rfl⟩
    · have key : ∀ v : Int, Ev (fun k => spec_l1Rd_pick.j0 k n ((b.length : Int) == 0) b (p + 1)) (v, p + 1) → Ev (fun k => if n < 1 then spec_l1Rd_pick.j0 k n true b (p + 1) else spec_l1Rd_pick.j0 k n ((b.length : Int) == 0) b (p + 1)) (v, p + 1) := fun v h => ev_neg n1 h
      have lb := hb.1
      have e1 : wrap64 (p + 1 - 1) = p := by rw [show p + 1 - 1 = p by omega, w64 (by omega) (by omega)]
      by_cases hp : p < b.length
      · have r := rd_range hb p
        have e2 : wrap64 (rd b p) = rd b p := w64 (by omega) (by omega)
        have t := tmod_range (rd b p) n r.1 (by omega)
        refine ⟨Int.tmod (rd b p) n, key _ (Ev.step (fun k => by rw [spec_l1Rd_pick.j0]) ?_), t.1, fun _ => t.2, fun h => absurd h n1⟩
        rw [e1, e2]
        exact ev_neg (by simp; exact List.length_pos_iff.1 (by omega)) (ev_pos hp (ev_pos h0 (ev_neg (by omega) (Ev.now _))))
      · have m1 := tmod_range p b.length h0 (by omega)
        have e3 : wrap64 (p * 7) = p * 7 := w64 (by omega) (by omega)
        have e4 : wrap64 (p * 7 + 3) = p * 7 + 3 := w64 (by omega) (by omega)
        have m2 := tmod_range (p * 7 + 3) b.length (by omega) (by omega)
        have r1 := rd_range hb (Int.tmod p b.length)
        have r2 := rd_range hb (Int.tmod (p * 7 + 3) b.length)
        have q : 0 ≤ Int.tdiv p b.length ∧ Int.tdiv p b.length ≤ p := by
          rw [Int.tdiv_eq_ediv_of_nonneg h0]
          exact ⟨Int.ediv_nonneg h0 (by omega), Int.ediv_le_self _ h0⟩
        refine ⟨Int.tmod (Go.bits .xor .i64 (rd b (Int.tmod p b.length) * 131 + rd b (Int.tmod (p * 7 + 3) b.length) * 1117 + p * 29 + Int.tdiv p b.length * 53) (Int.tdiv (rd b (Int.tmod p b.length) * 131 + rd b (Int.tmod (p * 7 + 3) b.length) * 1117 + p * 29 + Int.tdiv p b.length * 53) 64)) n, key _ (Ev.step (fun k => by rw [spec_l1Rd_pick.j0]) ?_), ?_⟩
        · rw [e1, e3, e4]
          generalize rd b (Int.tmod p b.length) = x at r1 ⊢
          generalize rd b (Int.tmod (p * 7 + 3) b.length) = y at r2 ⊢
          generalize Int.tdiv p b.length = z at q ⊢
          rw [w64 (n := x) (by omega) (by omega), w64 (n := y) (by omega) (by omega), w64 (n := z) (by omega) (by omega), w64 (n := x * 131) (by omega) (by omega), w64 (n := y * 1117) (by omega) (by omega), w64 (n := p * 29) (by omega) (by omega), w64 (n := z * 53) (by omega) (by omega), w64 (n := x * 131 + y * 1117) (by omega) (by omega), w64 (n := x * 131 + y * 1117 + p * 29) (by omega) (by omega), w64 (n := x * 131 + y * 1117 + p * 29 + z * 53) (by omega) (by omega)]
          have t64 : wrap64 (Int.tdiv (x * 131 + y * 1117 + p * 29 + z * 53) 64) = Int.tdiv (x * 131 + y * 1117 + p * 29 + z * 53) 64 := by
            rw [Int.tdiv_eq_ediv_of_nonneg (by omega)]; exact w64 (by omega) (by omega)
          rw [t64]
          exact ev_neg (by simp; exact List.length_pos_iff.1 (by omega)) (ev_neg hp (ev_neg (by omega) (ev_pos m1.1 (ev_pos m1.2 (ev_pos m2.1 (ev_pos m2.2 (ev_neg (by omega) (Ev.now _))))))))
        · have g : 0 ≤ rd b (Int.tmod p b.length) * 131 + rd b (Int.tmod (p * 7 + 3) b.length) * 1117 + p * 29 + Int.tdiv p b.length * 53 := by omega
          have g2 : rd b (Int.tmod p b.length) * 131 + rd b (Int.tmod (p * 7 + 3) b.length) * 1117 + p * 29 + Int.tdiv p b.length * 53 < 4611686018427387904 := by omega
          generalize rd b (Int.tmod p b.length) * 131 + rd b (Int.tmod (p * 7 + 3) b.length) * 1117 + p * 29 + Int.tdiv p b.length * 53 = S at g g2 ⊢
          have t := tmod_range (Go.bits .xor .i64 S (Int.tdiv S 64)) n (xor_nonneg S (Int.tdiv S 64) g g2 (by rw [Int.tdiv_eq_ediv_of_nonneg g]; omega) (by rw [Int.tdiv_eq_ediv_of_nonneg g]; omega)) (by omega)
          exact ⟨t.1, fun _ => t.2, fun h => absurd h n1⟩
theorem open_is (l : List Int) (h : ∀ x ∈ l, (Lit.int .u8 x).wf = true) : ∃ b, spec_l1Open.f l = some (b, 0) ∧ Bytes_ b := by
  have hb : ∀ x ∈ l, 0 ≤ x ∧ x ≤ 255 := by
    intro x hx; have := h x hx
    simp [Lit.wf, IntKind.min, IntKind.max, IntKind.bits, IntKind.signed] at this; omega
  unfold spec_l1Open.f
  by_cases e : (l.length : Int) > 2000
  · exact ⟨l.take 2000, by rw [if_pos e, if_pos (by omega)], by rw [List.length_take]; omega, fun x hx => hb x (List.mem_of_mem_take hx)⟩
  · exact ⟨l, by rw [if_neg e], by omega, hb⟩

/-! ### Clash: spec_Clash, impl_Clash -/
/-- The rounds over the texts that are left; had: the texts that came, by their sums. -/
def clashG (w : Int) : (ByteArray → List ByteArray) → List ByteArray → ByteArray × ByteArray × Bool
  | _, [] => (⟨#[]⟩, ⟨#[]⟩, false)
  | had, t :: ts => match (had (sumT t w)).find? (fun o => !(decide (o = t))) with | some o => (o, t, true) | none => clashG w (S.upd had (sumT t w) (had (sumT t w) ++ [t])) ts
def clash (l : List ByteArray) (w : Int) : ByteArray × ByteArray × Bool := if (1 ≤ w ∧ w ≤ 8) ∧ l.length ≤ 2000 then clashG w (fun _ => []) l else (⟨#[]⟩, ⟨#[]⟩, false)
theorem implClash_go (w : Int) : ∀ (l : List ByteArray) (had : ByteArray → List ByteArray), (∀ x ∈ l, x.size ≤ 1048576) → Ev (fun k => impl_Clash.go k w had l) (clashG w had l)
  | [], had, _ => Ev.now _
  | t :: ts, had, h => by
    have hz := sumT_size t w
    have e : ∀ k, impl_Clash.go k w had (t :: ts) = (impl_Sum.f k t w).bind fun s => if s.size ≤ 1048576 then (match (had s).find? (fun o => !(decide (o = t))) with | some o => some (o, t, true) | none => impl_Clash.go k w (S.upd had s (had s ++ [t])) ts) else none := fun k => rfl
    refine Ev.congr e (Ev.bind (implSum_ev t w (by have := h t List.mem_cons_self; omega)) (ev_pos (by omega) ?_))
    unfold clashG
    cases (had (sumT t w)).find? (fun o => !(decide (o = t))) with
    | some o => exact Ev.now _
    | none => exact implClash_go w ts _ (fun x hx => h x (List.mem_cons_of_mem _ hx))
theorem implClash_ev (l : List ByteArray) (w : Int) (h : ∀ x ∈ l, x.size ≤ 1048576) : Ev (fun k => impl_Clash.f k l w) (clash l w) := by
  unfold impl_Clash.f
  refine ev_bindc (widthOk_is w) ?_
  by_cases c : (1 ≤ w ∧ w ≤ 8) ∧ l.length ≤ 2000
  · refine ev_pos ⟨by simpa using c.1, c.2⟩ (ev_cast ?_ (implClash_go w l _ h))
    unfold clash; rw [if_pos c]
  · refine ev_neg (fun z => c ⟨by simpa using z.1, z.2⟩) (ev_now ?_)
    unfold clash; rw [if_neg c]
theorem specClash_l1 (l : List ByteArray) (w : Int) (hl : l.length ≤ 2000) (j : Nat) (hj : j < l.length) (t : ByteArray) (ht : l.getD j ByteArray.empty = t) (s : ByteArray) (R : ByteArray × ByteArray × Bool)
    (H : Ev (fun k => spec_Clash.l0 k l w ((l.take j).map (fun o => sumT o w) ++ [s]) ((j + 1 : Nat) : Int)) R) : ∀ (n i : Nat), i + n = j →
    Ev (fun k => spec_Clash.l1 k l w ((l.take j).map (fun o => sumT o w)) j s i) (match ((l.take j).drop i).find? (fun o => decide (sumT o w = s) && !(decide (o = t))) with | some o => (o, t, true) | none => R)
  | 0, i, h0 => by
    have hlen : ((l.take j).map (fun o => sumT o w)).length = j := by rw [List.length_map, List.length_take]; omega
    refine Ev.step (fun k => by rw [spec_Clash.l1]) (ev_neg (by omega) (ev_pos (by omega) ?_))
    rw [List.drop_eq_nil_of_le (by rw [List.length_take]; omega), show wrap64 ((j : Int) + 1) = ((j + 1 : Nat) : Int) by rw [w64 (by omega) (by omega)]; omega]
    exact H
  | n + 1, i, h0 => by
    have ih := specClash_l1 l w hl j hj t ht s R H n (i + 1) (by omega)
    have hlen : ((l.take j).map (fun o => sumT o w)).length = j := by rw [List.length_map, List.length_take]; omega
    have e1 : rdOf ByteArray.empty l (i : Int) = l.getD i ByteArray.empty := rfl
    have e2 : rdOf ByteArray.empty l (j : Int) = t := ht
    have e3 : rdOf ByteArray.empty ((l.take j).map (fun o => sumT o w)) (i : Int) = sumT (l.getD i ByteArray.empty) w := by
      show ((l.take j).map (fun o => sumT o w)).getD i ByteArray.empty = _
      rw [List.getD_eq_getElem?_getD, List.getElem?_map, List.getElem?_take, if_pos (by omega), List.getD_eq_getElem?_getD, List.getElem?_eq_getElem (by omega)]; rfl
    have dg : (l.take j).drop i = l.getD i ByteArray.empty :: (l.take j).drop (i + 1) := by
      rw [drop_get ByteArray.empty (l.take j) i (by rw [List.length_take]; omega), List.getD_eq_getElem?_getD, List.getElem?_take, if_pos (by omega), ← List.getD_eq_getElem?_getD]
    refine Ev.step (fun k => by rw [spec_Clash.l1]) (ev_pos (by omega) (ev_pos (by omega) (ev_pos (by omega) ?_)))
    rw [e1, e2, e3, dg, show wrap64 ((i : Int) + 1) = ((i + 1 : Nat) : Int) by rw [w64 (by omega) (by omega)]; omega]
    generalize l.getD i ByteArray.empty = o
    by_cases c : sumT o w = s
    · refine ev_pos (by rw [c]) (ev_pos (by omega) (ev_pos (by omega) (ev_pos (by omega) ?_)))
      by_cases d : o = t
      · rw [List.find?_cons_of_neg (by simp [d])]
        exact ev_pos (by rw [d]) ih
      · rw [List.find?_cons_of_pos (by simp [c, d])]
        exact ev_neg (fun z => d (ba_eq.1 z)) (Ev.now _)
    · rw [List.find?_cons_of_neg (by simp [c])]
      exact ev_neg (fun z => c (ba_eq.1 z)) ih
theorem specClash_l0 (l : List ByteArray) (w : Int) (hl : l.length ≤ 2000) (hs : ∀ x ∈ l, x.size ≤ 1048576) : ∀ (n j : Nat) (had : ByteArray → List ByteArray), j + n = l.length → (∀ s, had s = (l.take j).filter (fun o => decide (sumT o w = s))) →
    Ev (fun k => spec_Clash.l0 k l w ((l.take j).map (fun o => sumT o w)) j) (clashG w had (l.drop j))
  | 0, j, had, h0, hh => by
    refine Ev.step (fun k => by rw [spec_Clash.l0]) (ev_neg (by omega) (ev_now ?_))
    rw [List.drop_eq_nil_of_le (by omega)]; rfl
  | n + 1, j, had, h0, hh => by
    have e1 : rdOf ByteArray.empty l (j : Int) = l.getD j ByteArray.empty := rfl
    have hx := hs _ (getD_mem ByteArray.empty l j (by omega))
    have dg := drop_get ByteArray.empty l j (by omega)
    have tk : l.take (j + 1) = l.take j ++ [l.getD j ByteArray.empty] := by
      rw [List.take_add_one, List.getD_eq_getElem?_getD, List.getElem?_eq_getElem (by omega)]; rfl
    refine Ev.step (fun k => by rw [spec_Clash.l0]) (ev_pos (by omega) (ev_pos (by omega) ?_))
    rw [e1, dg, clashG]
    have ih := specClash_l0 l w hl hs n (j + 1)
    generalize ht : l.getD j ByteArray.empty = t at hx tk
    refine Ev.bind (specSum_ev t w (by omega)) ?_
    have H := ih (S.upd had (sumT t w) (had (sumT t w) ++ [t])) (by omega) (fun s => by
      rw [tk, List.filter_append]
      unfold S.upd
      by_cases c : s = sumT t w
      · rw [if_pos c, hh, c, List.filter_cons_of_pos (by simp)]; rfl
      · rw [if_neg c, hh, List.filter_cons_of_neg (by simp; exact fun z => c z.symm)]; simp)
    rw [tk, List.map_append] at H
    refine ev_cast ?_ (specClash_l1 l w hl j (by omega) t ht (sumT t w) _ H j 0 (by omega))
    have pe : (fun o => decide (sumT o w = sumT t w) && !(decide (o = t))) = fun a => decide (decide (sumT a w = sumT t w) = true ∧ (!(decide (a = t))) = true) := by
      funext a
      by_cases q1 : sumT a w = sumT t w <;> by_cases q2 : a = t <;> simp [q1, q2]
    rw [List.drop_zero, hh, List.find?_filter, pe]
theorem specClash_ev (l : List ByteArray) (w : Int) (hs : ∀ x ∈ l, x.size ≤ 1048576) (hl0 : l.length ≤ 1048576) : Ev (fun k => spec_Clash.f k l w) (clash l w) := by
  unfold spec_Clash.f
  refine ev_bindc (l1Width_is w) ?_
  unfold clash
  by_cases c : 1 ≤ w ∧ w ≤ 8
  · refine ev_pos (by simpa using c) ?_
    by_cases d : l.length ≤ 2000
    · rw [if_pos ⟨c, d⟩]
      refine Ev.step (fun k => by rw [spec_Clash.j0]) (ev_neg (by simp; omega) ?_)
      exact ev_cast (by rw [List.drop_zero]) (specClash_l0 l w d hs l.length 0 (fun _ => []) (by omega) (fun s => by simp))
    · rw [if_neg (fun z => d z.2)]
      exact Ev.step (fun k => by rw [spec_Clash.j0]) (ev_pos (by simp; omega) (Ev.now _))
  · rw [if_neg (fun z => c z.1)]
    exact ev_neg (by simpa using c) (Ev.step (fun k => by rw [spec_Clash.j0]) (ev_pos rfl (Ev.now _)))

/-! ### Drawn texts: spec_DrawClash -/
def EvX {α : Type} (g : Nat → Option α) (P : α → Prop) : Prop := ∃ r, Ev g r ∧ P r
theorem ex_bind {α β : Type} {g : Nat → Option α} {f : Nat → α → Option β} {a : α} {P : β → Prop} (h : Ev g a) (H : EvX (fun k => f k a) P) : EvX (fun k => (g k).bind (f k)) P := by
  obtain ⟨r, hr, hp⟩ := H; exact ⟨r, Ev.bind h hr, hp⟩
theorem ex_bindc {α β : Type} {o : Option α} {f : Nat → α → Option β} {a : α} {P : β → Prop} (h : o = some a) (H : EvX (fun k => f k a) P) : EvX (fun k => o.bind (f k)) P := by
  obtain ⟨r, hr, hp⟩ := H; exact ⟨r, ev_bindc h hr, hp⟩
theorem ex_some {α β : Type} {f : Nat → α → Option β} {a : α} {P : β → Prop} (H : EvX (fun k => f k a) P) : EvX (fun k => (some a).bind (f k)) P := H
theorem ex_pos {α : Type} {c : Prop} [Decidable c] {f g : Nat → Option α} {P : α → Prop} (h : c) (H : EvX f P) : EvX (fun k => if c then f k else g k) P := by
  obtain ⟨r, hr, hp⟩ := H; exact ⟨r, ev_pos h hr, hp⟩
theorem ex_neg {α : Type} {c : Prop} [Decidable c] {f g : Nat → Option α} {P : α → Prop} (h : ¬ c) (H : EvX g P) : EvX (fun k => if c then f k else g k) P := by
  obtain ⟨r, hr, hp⟩ := H; exact ⟨r, ev_neg h hr, hp⟩
theorem ex_now {α : Type} {a : α} {P : α → Prop} (h : P a) : EvX (fun _ => some a) P := ⟨a, Ev.now _, h⟩
theorem ex_step {α : Type} {g : Nat → Option α} {f : Nat → Option α} {P : α → Prop} (e : ∀ k, g (k + 1) = f k) (H : EvX f P) : EvX g P := by
  obtain ⟨r, hr, hp⟩ := H; exact ⟨r, Ev.step e hr, hp⟩
def GoodL (z : List ByteArray × Int) : Prop := z.1.length ≤ 2002 ∧ ∀ x ∈ z.1, x.size ≤ 8
theorem drawClash_l1 (b : List Int) (hb : Bytes_ b) : ∀ (n : Nat) (acc : List ByteArray) (p : Int), acc.length + n = 2002 → (∀ x ∈ acc, x.size ≤ 8) → 0 ≤ p → p + n ≤ 1000000 → EvX (fun k => spec_DrawClash.l1 k acc b p) GoodL := by
  intro n
  induction n with
  | zero =>
    intro acc p h0 hx hp hq
    obtain ⟨v, hv, v0, v1, _⟩ := pick_ev b p 2 hb hp (by omega) (by omega)
    have v2 := v1 (by omega)
    refine ex_step (fun k => by rw [spec_DrawClash.l1]) (ex_bind hv ?_)
    dsimp only
    rw [w64 (n := 2000 + v) (by omega) (by omega)]
    refine ex_neg (by omega) (ex_some ?_)
    obtain ⟨u, hu, u0, u1, _⟩ := pick_ev b (p + 1) 5 hb (by omega) (by omega) (by omega)
    have u2 := u1 (by omega)
    exact ex_bind hu (ex_pos u0 (ex_pos u2 (ex_now ⟨by show acc.length ≤ 2002; omega, hx⟩)))
  | succ n ih =>
    intro acc p h0 hx hp hq
    obtain ⟨v, hv, v0, v1, _⟩ := pick_ev b p 2 hb hp (by omega) (by omega)
    have v2 := v1 (by omega)
    refine ex_step (fun k => by rw [spec_DrawClash.l1]) (ex_bind hv ?_)
    dsimp only
    rw [w64 (n := 2000 + v) (by omega) (by omega)]
    by_cases c : (acc.length : Int) < 2000 + v
    · refine ex_pos c (ex_pos (by omega) (ih _ (p + 1) (by simp; omega) (fun x h => ?_) (by omega) (by omega)))
      rcases List.mem_append.1 h with h | h
      · exact hx x h
      · rw [List.mem_singleton] at h; subst h; decide
    · refine ex_neg c (ex_some ?_)
      obtain ⟨u, hu, u0, u1, _⟩ := pick_ev b (p + 1) 5 hb (by omega) (by omega) (by omega)
      have u2 := u1 (by omega)
      exact ex_bind hu (ex_pos u0 (ex_pos u2 (ex_now ⟨by show acc.length ≤ 2002; omega, hx⟩)))
theorem drawClash_l0 (b : List Int) (hb : Bytes_ b) (c : Int) (hc : c ≤ 100) : ∀ (n : Nat) (i : Int) (acc : List ByteArray) (p : Int), 0 ≤ i → i + n = c → acc.length ≤ i → (∀ x ∈ acc, x.size ≤ 8) → 0 ≤ p → p ≤ 100 + 4 * i → EvX (fun k => spec_DrawClash.l0 k acc c i b p) GoodL := by
  intro n
  induction n with
  | zero =>
    intro i acc p h0 h1 hl hx hp hq
    refine ex_step (fun k => by rw [spec_DrawClash.l0]) (ex_neg (by omega) ?_)
    obtain ⟨v, hv, v0, v1, _⟩ := pick_ev b p 24 hb hp (by omega) (by omega)
    refine ex_bind hv ?_
    dsimp only
    by_cases e0 : v = 0
    · exact ex_pos e0 (drawClash_l1 b hb (2002 - acc.length) acc (p + 1) (by omega) hx (by omega) (by omega))
    · refine ex_neg e0 ?_
      by_cases e1 : v = 1
      · refine ex_pos e1 (ex_some ?_)
        obtain ⟨u, hu, u0, u1, _⟩ := pick_ev b (p + 1) 2 hb (by omega) (by omega) (by omega)
        have u2 := u1 (by omega)
        exact ex_bind hu (ex_pos u0 (ex_pos u2 (ex_now ⟨by show acc.length ≤ 2002; omega, hx⟩)))
      · refine ex_neg e1 (ex_some ?_)
        obtain ⟨u, hu, u0, u1, _⟩ := pick_ev b (p + 1) 5 hb (by omega) (by omega) (by omega)
        have u2 := u1 (by omega)
        exact ex_bind hu (ex_pos u0 (ex_pos u2 (ex_now ⟨by show acc.length ≤ 2002; omega, hx⟩)))
  | succ n ih =>
    intro i acc p h0 h1 hl hx hp hq
    refine ex_step (fun k => by rw [spec_DrawClash.l0]) (ex_pos (by omega) ?_)
    obtain ⟨v1, hv1, _⟩ := pick_ev b p 26 hb hp (by omega) (by omega)
    obtain ⟨v2, hv2, _⟩ := pick_ev b (p + 1) 26 hb (by omega) (by omega) (by omega)
    obtain ⟨v3, hv3, _⟩ := pick_ev b (p + 1 + 1) 26 hb (by omega) (by omega) (by omega)
    obtain ⟨v4, hv4, v40, v41, _⟩ := pick_ev b (p + 1 + 1 + 1) 3 hb (by omega) (by omega) (by omega)
    have v42 := v41 (by omega)
    refine ex_bind hv1 (ex_bind hv2 (ex_bind hv3 (ex_some (ex_bind hv4 ?_))))
    dsimp only
    have t := tmod_range (i + v4) 3 (by omega) (by omega)
    rw [w64 (n := i + v4) (by omega) (by omega), w64 (n := 1 + Int.tmod (i + v4) 3) (by omega) (by omega), w64 (n := i + 1) (by omega) (by omega)]
    generalize Int.tmod (i + v4) 3 = m at t ⊢
    refine ex_pos (by omega) (ex_pos (by simp only [List.length_cons, List.length_nil]; omega) (ex_pos (by omega) (ih (i + 1) _ _ (by omega) (by omega) (by simp; omega) (fun x h => ?_) (by omega) (by omega))))
    rcases List.mem_append.1 h with h | h
    · exact hx x h
    · rw [List.mem_singleton] at h
      subst h
      rw [son_size, List.length_take]
      simp only [List.length_cons, List.length_nil]; omega
theorem drawClash_ex (l : List Int) (h : ∀ x ∈ l, (Lit.int .u8 x).wf = true) : EvX (fun k => spec_DrawClash.f k l) GoodL := by
  unfold spec_DrawClash.f
  obtain ⟨b, hb, hg⟩ := open_is l h
  refine ex_bindc hb ?_
  dsimp only
  obtain ⟨v, hv, v0, v1, _⟩ := pick_ev b 0 40 hg (by omega) (by omega) (by omega)
  have v2 := v1 (by omega)
  refine ex_bind hv ?_
  dsimp only
  rw [w64 (n := 10 + v) (by omega) (by omega)]
  exact drawClash_l0 b hg (10 + v) (by omega) (10 + v).toNat 0 [] (0 + 1) (by omega) (by omega) (by simp) (by simp) (by omega) (by omega)

/-! ### The law -/
theorem clashG_prop (w : Int) (x y : ByteArray) : ∀ (l : List ByteArray) (had : ByteArray → List ByteArray), (∀ s, ∀ o ∈ had s, sumT o w = s) → clashG w had l = (x, y, true) → x ≠ y ∧ sumT x w = sumT y w
  | [], had, _, h => by simp [clashG] at h
  | t :: ts, had, hh, h => by
    rw [clashG] at h
    cases e : (had (sumT t w)).find? (fun o => !(decide (o = t))) with
    | some o =>
      rw [e] at h
      simp only [Prod.mk.injEq] at h
      obtain ⟨rfl, rfl, _⟩ := h
      have m := List.mem_of_find?_eq_some e
      have p := List.find?_some e
      exact ⟨by simpa using p, hh _ _ m⟩
    | none =>
      rw [e] at h
      refine clashG_prop w x y ts _ (fun s o ho => ?_) h
      unfold S.upd at ho
      by_cases c : s = sumT t w
      · rw [if_pos c] at ho
        rcases List.mem_append.1 ho with ho | ho
        · rw [c]; exact hh _ _ ho
        · rw [List.mem_singleton] at ho; rw [ho, c]
      · rw [if_neg c] at ho; exact hh _ _ ho
theorem clash_prop (l : List ByteArray) (w : Int) (x y : ByteArray) (h : clash l w = (x, y, true)) : x ≠ y ∧ sumT x w = sumT y w := by
  unfold clash at h
  split at h
  · exact clashG_prop w x y l _ (fun s o ho => by simp at ho) h
  · simp at h
theorem clashG_size (w : Int) (N : Nat) : ∀ (l : List ByteArray) (had : ByteArray → List ByteArray), (∀ x ∈ l, x.size ≤ N) → (∀ s, ∀ o ∈ had s, o.size ≤ N) → (clashG w had l).1.size ≤ N ∧ (clashG w had l).2.1.size ≤ N
  | [], had, _, _ => ⟨Nat.zero_le _, Nat.zero_le _⟩
  | t :: ts, had, hl, hh => by
    rw [clashG]
    cases e : (had (sumT t w)).find? (fun o => !(decide (o = t))) with
    | some o => exact ⟨hh _ _ (List.mem_of_find?_eq_some e), hl t List.mem_cons_self⟩
    | none =>
      refine clashG_size w N ts _ (fun x hx => hl x (List.mem_cons_of_mem _ hx)) (fun s o ho => ?_)
      unfold S.upd at ho
      by_cases c : s = sumT t w
      · rw [if_pos c] at ho
        rcases List.mem_append.1 ho with ho | ho
        · exact hh _ _ ho
        · rw [List.mem_singleton] at ho; rw [ho]; exact hl t List.mem_cons_self
      · rw [if_neg c] at ho; exact hh _ _ ho
theorem clash_size (l : List ByteArray) (w : Int) (h : ∀ x ∈ l, x.size ≤ 8) : (clash l w).1.size ≤ 8 ∧ (clash l w).2.1.size ≤ 8 := by
  unfold clash
  split
  · exact clashG_size w 8 l _ h (fun s o ho => by simp at ho)
  · exact ⟨Nat.zero_le _, Nat.zero_le _⟩
theorem FnClash : laws_FnClash.Law := by
  intro l ⟨_, hl⟩
  apply Ev.rounds
  unfold laws_FnClash.f
  by_cases h : (l.length : Int) > 1048576
  · exact ev_pos h (Ev.now _)
  · refine ev_neg h ?_
    obtain ⟨⟨d, w⟩, hd, hn, hx⟩ := drawClash_ex l hl
    have hx1 : ∀ x ∈ d, x.size ≤ 1048576 := fun x h => by have := hx x h; omega
    have hn1 : d.length ≤ 1048576 := by have : d.length ≤ 2002 := hn; omega
    have cp := clash_prop d w
    have cs := clash_size d w hx
    refine Ev.bind hd (Ev.bind (implClash_ev d w hx1) (Ev.bind (specClash_ev d w hx1 hn1) ?_))
    generalize clash d w = R at cp cs ⊢
    obtain ⟨x, y, f⟩ := R
    refine ev_neg (by simp) (ev_pos rfl ?_)
    refine Ev.step (fun k => by rw [laws_FnClash.j0]) (ev_neg (by simp) ?_)
    cases f with
    | false => exact ev_neg (by simp) (Ev.now _)
    | true =>
      obtain ⟨ne, es⟩ := cp x y rfl
      refine ev_pos rfl (ev_neg (fun z => ne (ba_eq.1 z)) (Ev.bind (implSum_ev x w (by have := cs.1; dsimp only at this; omega)) (Ev.bind (implSum_ev y w (by have := cs.2; dsimp only at this; omega)) (ev_now ?_))))
      rw [es]; simp

end Go.Proofs.Ytbmldafgipimbaa.Pure

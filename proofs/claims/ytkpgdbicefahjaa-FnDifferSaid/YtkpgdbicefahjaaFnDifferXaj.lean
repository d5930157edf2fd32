/- A machine over values for Go functions, proved sound, and functions run on it: texts VE, F9. -/
import Derived.Test.YtkpgdbicefahjaaFnDifferXai
/- The talk of two sets: just what differs, and how many notes. -/
namespace Go.Proofs.Ytkpgdbicefahjaa.Mx
set_option linter.all false
open Go Go.RowKit
attribute [local instance 100000] instBEqOfDecidableEq
def lg (n : Nat) : Nat := if h : n ≤ 1 then 0 else lg ((n + 1) / 2) + 1
  termination_by n
  decreasing_by omega
theorem lg_le1 {n : Nat} (h : n ≤ 1) : lg n = 0 := by rw [lg, dif_pos h]
theorem lg_half {n : Nat} (h : 1 < n) : lg n = lg ((n + 1) / 2) + 1 := by rw [lg, dif_neg (by omega)]
theorem lg_mono : ∀ (n m : Nat), m ≤ n → lg m ≤ lg n := by
  intro n
  induction n using Nat.strongRecOn with
  | _ n ih =>
    intro m h
    by_cases hm : m ≤ 1
    · rw [lg_le1 hm]; exact Nat.zero_le _
    · rw [lg_half (by omega), lg_half (by omega : 1 < n)]
      have := ih ((n + 1) / 2) (by omega) ((m + 1) / 2) (by omega)
      omega
theorem lg_pow : ∀ (k n : Nat), n ≤ 2 ^ k → lg n ≤ k
  | 0, n, h => by rw [lg_le1 (by simpa using h)]; omega
  | k + 1, n, h => by
    by_cases hn : n ≤ 1
    · rw [lg_le1 hn]; omega
    · rw [lg_half (by omega)]
      have := lg_pow k ((n + 1) / 2) (by rw [Nat.pow_succ] at h; omega)
      omega
theorem asc_mk {w : Int} : ∀ {p : Option Str} {l : List Str}, (∀ x ∈ l, (x.size : Int) = w) → Up1 l → (∀ q, p = some q → ∀ x ∈ l, lts q x = true) → ascF w p l = true
  | p, [], _, _, _ => by unfold ascF; rfl
  | p, s :: r, h1, h2, h3 => by
    replace h2 := List.pairwise_cons.1 h2
    rw [ascF, decide_eq_true (h1 s (by simp)), asc_mk (fun x hx => h1 x (by simp [hx])) h2.2 (fun q hq x hx => by cases hq; exact h2.1 x hx)]
    cases p with
    | none => rfl
    | some q => have := h3 q rfl s (by simp); simpa [aft] using this
theorem asc_size {w : Int} {l : List Str} (h : ascF w none l = true) : ∀ x ∈ l, (x.size : Int) = w := fun x hx => by
  obtain ⟨i, hi⟩ := List.getElem?_of_mem hx
  exact (asc_get h hi).1
theorem setB_filter {l : List Str} {w : Int} (h : setB l w = true) (p : Str → Bool) : setB (l.filter p) w = true := by
  have hu := (setB_up h).1
  unfold setB at h ⊢
  simp only [Bool.and_eq_true, decide_eq_true_eq] at h ⊢
  have := List.length_filter_le p l
  exact ⟨⟨h.1.1, by omega⟩, asc_mk (fun x hx => asc_size h.2 x (List.mem_filter.1 hx).1) (hu.filter _) (by simp)⟩
theorem up_ext : ∀ {l m : List Str}, Up1 l → Up1 m → (∀ x, x ∈ l ↔ x ∈ m) → l = m
  | [], [], _, _, _ => rfl
  | [], b :: s, _, _, h => by have := (h b).2 (by simp); simp at this
  | a :: r, [], _, _, h => by have := (h a).1 (by simp); simp at this
  | a :: r, b :: s, h1, h2, h => by
    replace h1 := List.pairwise_cons.1 h1
    replace h2 := List.pairwise_cons.1 h2
    have e : a = b := by
      rcases List.mem_cons.1 ((h a).1 (by simp)) with e | e
      · exact e
      · rcases List.mem_cons.1 ((h b).2 (by simp)) with f | f
        · exact f.symm
        · have := lts_trans (h2.1 a e) (h1.1 b f)
          rw [lts_irrefl] at this; cases this
    subst e
    rw [up_ext h1.2 h2.2 fun x => ?_]
    constructor
    · intro hx
      rcases List.mem_cons.1 ((h x).1 (by simp [hx])) with e | e
      · have := h1.1 x hx; rw [e, lts_irrefl] at this; cases this
      · exact e
    · intro hx
      rcases List.mem_cons.1 ((h x).2 (by simp [hx])) with e | e
      · have := h2.1 x hx; rw [e, lts_irrefl] at this; cases this
      · exact e
theorem up_nodup {l : List Str} (h : Up1 l) : l.Nodup := by
  rw [List.nodup_iff_pairwise_ne]
  exact h.imp fun {a b} hab e => by rw [e, lts_irrefl] at hab; cases hab
theorem sub_back {l m : List Str} (hl : l.Nodup) (hs : ∀ x ∈ l, x ∈ m) (hn : m.length ≤ l.length) : ∀ x ∈ m, x ∈ l := fun x hx => by
  apply Classical.byContradiction
  intro hh
  have := nodup_len (l := x :: l) (m := m) (List.nodup_cons.2 ⟨hh, hl⟩) (fun y hy => by
    rcases List.mem_cons.1 hy with rfl | hy
    · exact hx
    · exact hs y hy)
  simp only [List.length_cons] at this
  omega
theorem thr_mem {l : List Str} {fr to x : Str} : x ∈ thr l fr to ↔ x ∈ l ∧ inT fr to x = true := List.mem_filter
theorem minus_mem {a b : List Str} {x : Str} : x ∈ minusS a b ↔ x ∈ a ∧ x ∉ b := by
  unfold minusS
  rw [List.mem_filter]
  constructor
  · rintro ⟨h, k⟩
    refine ⟨h, fun q => ?_⟩
    rw [(inL_iff _ _).2 q] at k; cases k
  · rintro ⟨h, k⟩
    refine ⟨h, ?_⟩
    cases e : inL b x with
    | false => rfl
    | true => exact (k ((inL_iff _ _).1 e)).elim
theorem minus_thr (a b : List Str) (fr to : Str) : minusS (thr a fr to) (thr b fr to) = thr (minusS a b) fr to := by
  unfold minusS thr
  rw [List.filter_filter, List.filter_filter]
  apply List.filter_congr
  intro x _
  cases h : inT fr to x with
  | false => simp
  | true =>
    have : inL (b.filter (inT fr to)) x = inL b x := by
      rw [Bool.eq_iff_iff, inL_iff, inL_iff, List.mem_filter]
      simp [h]
    rw [this]; simp
theorem thr_up {l : List Str} (h : Up1 l) (fr to : Str) : Up1 (thr l fr to) := h.filter _
theorem minus_up {l m : List Str} (h : Up1 l) : Up1 (minusS l m) := h.filter _
theorem thr_thr (l : List Str) (fr to : Str) : thr (thr l fr to) fr to = thr l fr to := by
  unfold thr; rw [List.filter_filter]; simp
theorem up_take : ∀ {T : List Str} {j : Nat} {m : Str}, Up1 T → T[j]? = some m → T.filter (fun x => lts x m) = T.take j
  | [], j, m, _, h => by simp at h
  | a :: r, 0, m, hu, h => by
    simp at h; subst h
    replace hu := List.pairwise_cons.1 hu
    rw [List.take_zero, List.filter_eq_nil_iff]
    intro x hx
    rcases List.mem_cons.1 hx with rfl | hx
    · rw [lts_irrefl]; simp
    · intro q
      have := lts_trans q (hu.1 x hx)
      rw [lts_irrefl] at this; cases this
  | a :: r, j + 1, m, hu, h => by
    replace hu := List.pairwise_cons.1 hu
    rw [List.getElem?_cons_succ] at h
    rw [List.filter_cons, if_pos (hu.1 m (List.mem_of_getElem? h)), List.take_succ_cons, up_take hu.2 h]
theorem thr_below {l : List Str} {fr to mid : Str} (h : to = em ∨ lts mid to = true) (hm : mid ≠ em) : thr l fr mid = (thr l fr to).filter (fun x => lts x mid) := by
  unfold thr
  rw [List.filter_filter]
  apply List.filter_congr
  intro x _
  unfold inT
  rw [decide_eq_false hm, Bool.false_or]
  cases e : lts x mid with
  | false => simp
  | true =>
    have : (decide (to = em) || lts x to) = true := by
      rcases h with h | h
      · simp [h]
      · rw [lts_trans e h]; simp
    rw [this]; simp
def pt (S L : List Str) (n : Note) : Nat := 1 + if n.has = true then 0 else ((thr (minusS S L) n.fr n.to).length + (thr (minusS L S) n.fr n.to).length) * (1 + 2 * (lg (thr S n.fr n.to).length + lg (thr L n.fr n.to).length))
theorem pt_comm (S L : List Str) (n : Note) : pt S L n = pt L S n := by
  unfold pt; rw [Nat.add_comm (thr (minusS S L) n.fr n.to).length, Nat.add_comm (lg (thr S n.fr n.to).length)]
/-- a note as it is told -/
inductive WfN (S : List Str) (w : Int) : Note → Prop
  | tell (fr to : Str) (h : to = em ∨ lts fr to = true) : WfN S w (tellN S fr to w)
  | has (fr to : Str) (h : to = em ∨ lts fr to = true) : WfN S w ⟨fr, to, 0, em, true, thr S fr to⟩
/-- what a note brings -/
structure Hl (S L : List Str) (w : Int) (n : Note) (R : List Note × List Str × List Str) : Prop where
  wf : ∀ m ∈ R.1, WfN L w m
  pot : 1 + (R.1.map (pt S L)).sum ≤ pt S L n
  sx : ∀ x ∈ R.2.1, x ∈ minusS S L
  sy : ∀ x ∈ R.2.2, x ∈ minusS L S
  cx : ∀ x ∈ minusS S L, inT n.fr n.to x = true → x ∈ R.2.1 ∨ ∃ m ∈ R.1, inT m.fr m.to x = true
  cy : ∀ x ∈ minusS L S, inT n.fr n.to x = true → x ∈ R.2.2 ∨ ∃ m ∈ R.1, inT m.fr m.to x = true
theorem rg_or {fr to : Str} (h : to = em ∨ lts fr to = true) : (decide (to = em) || lts fr to) = true := by
  rcases h with h | h
  · simp [h]
  · simp [h]
theorem hear_law {S L : List Str} {w : Int} (hS : setB S w = true) (hL : setB L w = true) {n : Note} (hn : WfN S w n)
    (hm : n.has = false → (thr L n.fr n.to).length = n.n → mixS (thr L n.fr n.to) w = n.mix → ∀ x ∈ thr L n.fr n.to, x ∈ S) : Hl S L w n (hearN L n w) := by
  obtain ⟨uS, lS, eS⟩ := setB_up hS
  obtain ⟨uL, lL, eL⟩ := setB_up hL
  cases hn with
  | has fr to h =>
    have hb : noteB L ⟨fr, to, 0, em, true, thr S fr to⟩ w = true := by
      unfold noteB
      simp only [hL, rg_or h, setB_filter hS, thr, thr_thr, Bool.true_and, Bool.and_true, cond_true]
      have := thr_thr S fr to
      unfold thr at this
      simp [this]
    have hr : hearN L ⟨fr, to, 0, em, true, thr S fr to⟩ w = ([], thr (minusS S L) fr to, thr (minusS L S) fr to) := by
      unfold hearN
      rw [if_neg (by rw [hb]; simp), if_pos rfl, minus_thr, minus_thr]
    rw [hr]
    refine ⟨by simp, by simp [pt], fun x hx => (thr_mem.1 hx).1, fun x hx => (thr_mem.1 hx).1, fun x hx h => .inl (thr_mem.2 ⟨hx, h⟩), fun x hx h => .inl (thr_mem.2 ⟨hx, h⟩)⟩
  | tell fr to h =>
    rw [has_tell hS] at hm ⊢
    simp only [forall_const] at hm
    have hb : noteB L ⟨fr, to, (thr S fr to).length, mixS (thr S fr to) w, false, []⟩ w = true := by
      unfold noteB
      simp [hL, rg_or h]
    unfold hearN
    rw [if_neg (by rw [hb]; simp), if_neg (by simp)]
    simp only
    split
    · rename_i he
      have hsub := hm he.1 he.2
      have hle : (thr L fr to).length = (thr S fr to).length := by omega
      have h1 : ∀ x ∈ thr L fr to, x ∈ thr S fr to := fun x hx => thr_mem.2 ⟨hsub x hx, (thr_mem.1 hx).2⟩
      have h2 := sub_back (up_nodup (thr_up uL fr to)) h1 (by omega)
      refine ⟨by simp, by simp [pt], by simp, by simp, fun x hx hi => ?_, fun x hx hi => ?_⟩
      · obtain ⟨q1, q2⟩ := minus_mem.1 hx
        exact (q2 (thr_mem.1 (h2 x (thr_mem.2 ⟨q1, hi⟩))).1).elim
      · obtain ⟨q1, q2⟩ := minus_mem.1 hx
        exact (q2 (thr_mem.1 (h1 x (thr_mem.2 ⟨q1, hi⟩))).1).elim
    rename_i he
    have hd : 1 ≤ (thr (minusS S L) fr to).length + (thr (minusS L S) fr to).length := by
      apply Classical.byContradiction
      intro hc
      have z1 : thr (minusS S L) fr to = [] := List.length_eq_zero_iff.1 (by omega)
      have z2 : thr (minusS L S) fr to = [] := List.length_eq_zero_iff.1 (by omega)
      have : thr L fr to = thr S fr to := up_ext (thr_up uL fr to) (thr_up uS fr to) fun x => by
        constructor
        · intro hx
          apply Classical.byContradiction
          intro hh
          have h3 := thr_mem.1 hx
          have : x ∈ thr (minusS L S) fr to := thr_mem.2 ⟨minus_mem.2 ⟨h3.1, fun q => hh (thr_mem.2 ⟨q, h3.2⟩)⟩, h3.2⟩
          rw [z2] at this; cases this
        · intro hx
          apply Classical.byContradiction
          intro hh
          have h3 := thr_mem.1 hx
          have : x ∈ thr (minusS S L) fr to := thr_mem.2 ⟨minus_mem.2 ⟨h3.1, fun q => hh (thr_mem.2 ⟨q, h3.2⟩)⟩, h3.2⟩
          rw [z1] at this; cases this
      exact he ⟨by rw [this], by rw [this]⟩
    have hpos : ∀ c, 1 ≤ ((thr (minusS S L) fr to).length + (thr (minusS L S) fr to).length) * (1 + c) := fun c => Nat.mul_pos hd (by omega)
    split
    · refine ⟨fun m hm => ?_, ?_, by simp, by simp, fun x hx hi => .inr ⟨_, List.mem_singleton.2 rfl, hi⟩, fun x hx hi => .inr ⟨_, List.mem_singleton.2 rfl, hi⟩⟩
      · rw [List.mem_singleton.1 hm]; exact .has fr to h
      · have := hpos (2 * (lg (thr S fr to).length + lg (thr L fr to).length))
        simp [pt]; omega
    rename_i hq
    have hlen : 5 ≤ (thr L fr to).length := by omega
    obtain ⟨T, hT⟩ : ∃ T, T = thr L fr to := ⟨_, rfl⟩
    have hmi : T.length / 2 < T.length := by rw [hT]; omega
    obtain ⟨mid, hmid⟩ : ∃ m, m = T.getD (T.length / 2) em := ⟨_, rfl⟩
    rw [← hT, ← hmid]
    have hget : T[T.length / 2]? = some mid := by rw [hmid, List.getD_eq_getElem?_getD, List.getElem?_eq_getElem hmi]; rfl
    have upT : Up1 T := by rw [hT]; exact thr_up uL fr to
    have hml := thr_mem.1 (show mid ∈ thr L fr to by rw [← hT]; exact List.mem_of_getElem? hget)
    have hin := hml.2
    unfold inT at hin
    simp only [Bool.and_eq_true, Bool.not_eq_true', Bool.or_eq_true, decide_eq_true_eq] at hin
    have hme := eL mid hml.1
    have hfm : lts fr mid = true := by
      have h0 := thr_mem.1 (show T[0] ∈ thr L fr to by rw [← hT]; exact List.getElem_mem _)
      have hlt : lts T[0] mid = true := by
        have := (List.pairwise_iff_getElem.1 upT) 0 (T.length / 2) (by omega) hmi (by rw [hT]; omega)
        rw [List.getElem?_eq_getElem hmi] at hget
        cases hget; exact this
      have h2 := h0.2
      unfold inT at h2
      simp only [Bool.and_eq_true, Bool.not_eq_true'] at h2
      by_cases e : fr = T[0]
      · rw [e]; exact hlt
      · exact lts_trans (lts_tri h2.1 (Ne.symm e)) hlt
    have cut := fun l => thr_cut hin.1 hin.2 hme l
    have cD := cut (minusS S L)
    have cE := cut (minusS L S)
    have cS := cut S
    have cL := cut L
    have bl : (thr L fr mid).length = T.length / 2 := by
      rw [thr_below hin.2 hme, ← hT, up_take upT hget, List.length_take]; omega
    rw [← hT] at cL hlen
    have g1 : lg (thr L fr mid).length ≤ lg ((T.length + 1) / 2) := lg_mono _ _ (by omega)
    have g2 : lg (thr L mid to).length ≤ lg ((T.length + 1) / 2) := lg_mono _ _ (by omega)
    have g3 : lg (thr S fr mid).length ≤ lg (thr S fr to).length := lg_mono _ _ (by omega)
    have g4 : lg (thr S mid to).length ≤ lg (thr S fr to).length := lg_mono _ _ (by omega)
    have g5 := lg_half (show 1 < T.length by omega)
    refine ⟨fun m hm => ?_, ?_, by simp, by simp, fun x hx hi => .inr ?_, fun x hx hi => .inr ?_⟩
    · simp only [List.mem_cons, List.not_mem_nil, or_false] at hm
      rcases hm with rfl | rfl
      · exact .tell fr mid (.inr hfm)
      · exact .tell mid to hin.2
    · rw [has_tell hL, has_tell hL]
      simp only [pt, List.map_cons, List.map_nil, List.sum_cons, List.sum_nil, Bool.false_eq_true, if_false]
      rw [← hT]
      generalize lg (thr S fr to).length = p at *
      generalize lg (thr S fr mid).length = p1 at *
      generalize lg (thr S mid to).length = p2 at *
      generalize lg (thr L fr mid).length = q1 at *
      generalize lg (thr L mid to).length = q2 at *
      generalize lg ((T.length + 1) / 2) = q0 at *
      generalize lg T.length = q at *
      have e1 : (thr (minusS S L) fr mid).length + (thr (minusS L S) fr mid).length + ((thr (minusS S L) mid to).length + (thr (minusS L S) mid to).length) = (thr (minusS S L) fr to).length + (thr (minusS L S) fr to).length := by omega
      rw [← e1] at hd ⊢
      generalize (thr (minusS S L) fr mid).length + (thr (minusS L S) fr mid).length = d1 at *
      generalize (thr (minusS S L) mid to).length + (thr (minusS L S) mid to).length = d2 at *
      have m1 : d1 * (1 + 2 * (p1 + q1)) ≤ d1 * (1 + 2 * (p + q0)) := Nat.mul_le_mul_left _ (by omega)
      have m2 : d2 * (1 + 2 * (p2 + q2)) ≤ d2 * (1 + 2 * (p + q0)) := Nat.mul_le_mul_left _ (by omega)
      have m3 : (d1 + d2) * (1 + 2 * (p + q)) = d1 * (1 + 2 * (p + q0)) + d2 * (1 + 2 * (p + q0)) + (d1 + d2) * 2 := by
        rw [show 1 + 2 * (p + q) = 1 + 2 * (p + q0) + 2 by omega, Nat.mul_add, Nat.add_mul]
      rw [m3]
      omega
    all_goals
      rw [has_tell hL, has_tell hL]
      have := (inT_cut hin.1 hin.2 hme x).1
      rw [hi] at this
      cases e : inT fr mid x with
      | true => exact ⟨_, by simp only [List.mem_cons]; exact .inl rfl, e⟩
      | false =>
        rw [e, Bool.false_or] at this
        exact ⟨_, by simp only [List.mem_cons]; exact .inr (.inl rfl), this.symm⟩
/-! the whole talk -/
/-- are two lists with one sum held against each other? -/
def mixT (a b : List Str) (w : Int) (t : Tn) : Prop := t.1.has = false ∧ (thr (bif t.2 then b else a) t.1.fr t.1.to).length = t.1.n ∧ mixS (thr (bif t.2 then b else a) t.1.fr t.1.to) w = t.1.mix ∧ ∃ x ∈ thr (bif t.2 then b else a) t.1.fr t.1.to, x ∉ (bif t.2 then a else b)
def qs (a b : List Str) (w : Int) : Nat → List Tn
  | 0 => [(tellN a em em w, true)]
  | i + 1 => match (qs a b w i)[i]? with
    | some t => qs a b w i ++ moreN a b w t
    | none => qs a b w i
theorem qs_step {a b : List Str} {w : Int} {i : Nat} {t : Tn} (h : (qs a b w i)[i]? = some t) : qs a b w (i + 1) = qs a b w i ++ moreN a b w t := by rw [qs, h]
theorem qs_done {a b : List Str} {w : Int} {i : Nat} (h : (qs a b w i)[i]? = none) : ∀ k, qs a b w (i + k) = qs a b w i ∧ (qs a b w (i + k))[i + k]? = none
  | 0 => ⟨rfl, h⟩
  | k + 1 => by
    obtain ⟨h1, h2⟩ := qs_done h k
    have : qs a b w (i + (k + 1)) = qs a b w i := by
      rw [show i + (k + 1) = i + k + 1 by omega, qs, h2]; exact h1
    refine ⟨this, ?_⟩
    rw [this]
    rw [List.getElem?_eq_none_iff] at h ⊢
    omega
def mixed (a b : List Str) (w : Int) : Prop := ∃ i t, (qs a b w i)[i]? = some t ∧ mixT a b w t
structure DI (a b : List Str) (w : Int) (q : List Tn) (i : Nat) (A B : List Str) : Prop where
  wf : ∀ t ∈ q, WfN (bif t.2 then a else b) w t.1
  pot : i + ((q.drop i).map fun t => pt a b t.1).sum ≤ pt a b (tellN a em em w)
  sA : ∀ x ∈ A, x ∈ minusS a b
  sB : ∀ x ∈ B, x ∈ minusS b a
  cA : ∀ x ∈ minusS a b, x ∈ A ∨ ∃ t ∈ q.drop i, inT t.1.fr t.1.to x = true
  cB : ∀ x ∈ minusS b a, x ∈ B ∨ ∃ t ∈ q.drop i, inT t.1.fr t.1.to x = true
theorem inT_em (x : Str) : inT em em x = true := by
  unfold inT
  have : lts x em = false := by
    rw [lts_def]
    exact decide_eq_false (by simp [em])
  rw [this]; simp
theorem thr_em (l : List Str) : thr l em em = l := by
  unfold thr; rw [List.filter_eq_self]; intro x _; exact inT_em x
theorem di_init {a b : List Str} {w : Int} (ha : setB a w = true) : DI a b w [(tellN a em em w, true)] 0 [] [] := by
  refine ⟨fun t ht => ?_, by simp, by simp, by simp, fun x hx => .inr ⟨_, List.mem_singleton.2 rfl, ?_⟩, fun x hx => .inr ⟨_, List.mem_singleton.2 rfl, ?_⟩⟩
  · rw [List.mem_singleton.1 ht]; exact .tell em em (.inl rfl)
  · rw [has_tell ha]; exact inT_em x
  · rw [has_tell ha]; exact inT_em x
theorem ask_law {a b : List Str} {w : Int} (ha : setB a w = true) (hb : setB b w = true) {t : Tn} (hw : WfN (bif t.2 then a else b) w t.1) (hm : ¬ mixT a b w t) :
    (∀ m ∈ moreN a b w t, WfN (bif m.2 then a else b) w m.1) ∧ 1 + ((moreN a b w t).map fun m => pt a b m.1).sum ≤ pt a b t.1 ∧ (∀ x ∈ onA a b w t, x ∈ minusS a b) ∧ (∀ x ∈ onB a b w t, x ∈ minusS b a) ∧
    (∀ x ∈ minusS a b, inT t.1.fr t.1.to x = true → x ∈ onA a b w t ∨ ∃ m ∈ moreN a b w t, inT m.1.fr m.1.to x = true) ∧
    (∀ x ∈ minusS b a, inT t.1.fr t.1.to x = true → x ∈ onB a b w t ∨ ∃ m ∈ moreN a b w t, inT m.1.fr m.1.to x = true) := by
  obtain ⟨n, s⟩ := t
  unfold mixT at hm
  have hm' : n.has = false → (thr (bif s then b else a) n.fr n.to).length = n.n → mixS (thr (bif s then b else a) n.fr n.to) w = n.mix → ∀ x ∈ thr (bif s then b else a) n.fr n.to, x ∈ (bif s then a else b) := fun h1 h2 h3 x hx => by
    apply Classical.byContradiction
    intro hh
    exact hm ⟨h1, h2, h3, x, hx, hh⟩
  cases s with
  | true =>
    simp only [cond_true] at hw hm'
    have H := hear_law ha hb hw hm'
    unfold moreN onA onB askN
    simp only [cond_true, Bool.not_true, List.map_map]
    generalize hearN b n w = R at *
    refine ⟨fun m hm => ?_, H.pot, H.sx, H.sy, fun x hx hi => (H.cx x hx hi).imp id ?_, fun x hx hi => (H.cy x hx hi).imp id ?_⟩
    · obtain ⟨m', hm', rfl⟩ := List.mem_map.1 hm
      exact H.wf m' hm'
    · rintro ⟨m, hm, h⟩; exact ⟨(m, false), List.mem_map.2 ⟨m, hm, rfl⟩, h⟩
    · rintro ⟨m, hm, h⟩; exact ⟨(m, false), List.mem_map.2 ⟨m, hm, rfl⟩, h⟩
  | false =>
    simp only [cond_false] at hw hm'
    have H := hear_law hb ha hw hm'
    unfold moreN onA onB askN
    simp only [cond_false, Bool.not_false, List.map_map]
    generalize hearN a n w = R at *
    refine ⟨fun m hm => ?_, ?_, H.sy, H.sx, fun x hx hi => (H.cy x hx hi).imp id ?_, fun x hx hi => (H.cx x hx hi).imp id ?_⟩
    · obtain ⟨m', hm', rfl⟩ := List.mem_map.1 hm
      exact H.wf m' hm'
    · have := H.pot
      rw [pt_comm] at this
      have e : R.1.map (pt b a) = R.1.map ((fun m : Tn => pt a b m.1) ∘ fun n => (n, true)) := List.map_congr_left fun m _ => pt_comm b a m
      rw [e] at this; exact this
    · rintro ⟨m, hm, h⟩; exact ⟨(m, true), List.mem_map.2 ⟨m, hm, rfl⟩, h⟩
    · rintro ⟨m, hm, h⟩; exact ⟨(m, true), List.mem_map.2 ⟨m, hm, rfl⟩, h⟩
theorem DI.step {a b : List Str} {w : Int} {q : List Tn} {i : Nat} {A B : List Str} (h : DI a b w q i A B) (ha : setB a w = true) (hb : setB b w = true) {t : Tn} (ht : q[i]? = some t) (hm : ¬ mixT a b w t) :
    DI a b w (q ++ moreN a b w t) (i + 1) (A ++ onA a b w t) (B ++ onB a b w t) := by
  have hi := idx_lt ht
  have hd : q.drop i = t :: q.drop (i + 1) := drop_step ht
  have hd2 : (q ++ moreN a b w t).drop (i + 1) = q.drop (i + 1) ++ moreN a b w t := List.drop_append_of_le_length (by omega)
  obtain ⟨k1, k2, k3, k4, k5, k6⟩ := ask_law ha hb (h.wf t (List.mem_of_getElem? ht)) hm
  have hp := h.pot
  have hA := h.cA
  have hB := h.cB
  rw [hd] at hp hA hB
  refine ⟨fun x hx => (List.mem_append.1 hx).elim (h.wf x) (k1 x), ?_, fun x hx => (List.mem_append.1 hx).elim (h.sA x) (k3 x), fun x hx => (List.mem_append.1 hx).elim (h.sB x) (k4 x), fun x hx => ?_, fun x hx => ?_⟩
  · rw [hd2, List.map_append, List.sum_append]
    rw [List.map_cons, List.sum_cons] at hp
    omega
  · rw [hd2]
    rcases hA x hx with q | ⟨m, hm, hi⟩
    · exact .inl (List.mem_append.2 (.inl q))
    · rcases List.mem_cons.1 hm with rfl | hm
      · rcases k5 x hx hi with q | ⟨m, hm, hi⟩
        · exact .inl (List.mem_append.2 (.inr q))
        · exact .inr ⟨m, List.mem_append.2 (.inr hm), hi⟩
      · exact .inr ⟨m, List.mem_append.2 (.inl hm), hi⟩
  · rw [hd2]
    rcases hB x hx with q | ⟨m, hm, hi⟩
    · exact .inl (List.mem_append.2 (.inl q))
    · rcases List.mem_cons.1 hm with rfl | hm
      · rcases k6 x hx hi with q | ⟨m, hm, hi⟩
        · exact .inl (List.mem_append.2 (.inr q))
        · exact .inr ⟨m, List.mem_append.2 (.inr hm), hi⟩
      · exact .inr ⟨m, List.mem_append.2 (.inl hm), hi⟩
theorem talk_end {a b : List Str} {w : Int} (ha : setB a w = true) (hb : setB b w = true) (hn : ¬ mixed a b w) : ∀ (n i : Nat) (A B : List Str), costs a b ((qs a b w i).drop i) ≤ n → TkI a b w (talkR a b w) (qs a b w i) i A B → DI a b w (qs a b w i) i A B →
    (talkR a b w).1 ≤ pt a b (tellN a em em w) ∧ (∀ x, x ∈ (talkR a b w).2.1 ↔ x ∈ minusS a b) ∧ (∀ x, x ∈ (talkR a b w).2.2 ↔ x ∈ minusS b a) := by
  intro n
  induction n with
  | zero =>
    intro i A B hc hI hD
    have := costs_len a b ((qs a b w i).drop i)
    have hle := hI.le
    rw [List.length_drop] at this
    have hi : i = (qs a b w i).length := by omega
    generalize qs a b w i = q at *
    subst hi
    rw [hI.done]
    have h1 := hD.pot
    have h2 := hD.cA
    have h3 := hD.cB
    rw [List.drop_length] at h1 h2 h3
    refine ⟨by simpa using h1, fun x => ⟨hD.sA x, fun hx => ?_⟩, fun x => ⟨hD.sB x, fun hx => ?_⟩⟩
    · rcases h2 x hx with q | ⟨m, hm, _⟩
      · exact q
      · cases hm
    · rcases h3 x hx with q | ⟨m, hm, _⟩
      · exact q
      · cases hm
  | succ n ih =>
    intro i A B hc hI hD
    have hle := hI.le
    by_cases h : i < (qs a b w i).length
    · obtain ⟨t, hx⟩ := ex_get h
      obtain ⟨hst, hlt⟩ := hI.step ha hb hx
      have hm : ¬ mixT a b w t := fun q => hn ⟨i, t, hx, q⟩
      have hDs := hD.step ha hb hx hm
      rw [← qs_step hx] at hst hlt hDs
      exact ih (i + 1) _ _ (by omega) hst hDs
    · have hi : i = (qs a b w i).length := by omega
      refine (ih i A B ?_ hI hD)
      have : (qs a b w i).drop i = [] := List.drop_eq_nil_of_le (by omega)
      rw [this]; exact Nat.zero_le _
theorem talk_exact {a b : List Str} {w : Int} (ha : setB a w = true) (hb : setB b w = true) (hn : ¬ mixed a b w) :
    (talkR a b w).1 ≤ 1 + ((minusS a b).length + (minusS b a).length) * (1 + 2 * (lg a.length + lg b.length)) ∧ (talkR a b w).2.1.foldl addS [] = minusS a b ∧ (talkR a b w).2.2.foldl addS [] = minusS b a := by
  obtain ⟨h1, h2, h3⟩ := talk_end ha hb hn _ 0 [] [] (Nat.le_refl _) (tk_init ha hb) (di_init ha)
  rw [has_tell ha] at h1
  simp only [pt, thr_em, Bool.false_eq_true, if_false] at h1
  refine ⟨h1, ?_, ?_⟩
  · have f := fold_ins (talkR a b w).2.1 [] [] List.Pairwise.nil (List.Perm.refl _)
    refine up_ext f.1 (minus_up (setB_up ha).1) fun x => ?_
    rw [f.2.mem_iff, insL_mem, ← h2]; simp
  · have f := fold_ins (talkR a b w).2.2 [] [] List.Pairwise.nil (List.Perm.refl _)
    refine up_ext f.1 (minus_up (setB_up hb).1) fun x => ?_
    rw [f.2.mem_iff, insL_mem, ← h3]; simp
end Go.Proofs.Ytkpgdbicefahjaa.Mx

/- Sets that differ: the reference's. -/
namespace Go.Proofs.Ytkpgdbicefahjaa.Mx
set_option linter.all false
open Go Go.RowKit Go.Proofs
set_option linter.unusedSimpArgs false
def E18 : Env := { T := T0, kp := look [(0, [0, 1]), (1, [0, 1]), (2, []), (3, [0, 1]), (4, [0, 1, 5]), (5, [0, 1, 5]), (6, [0, 1, 5]), (7, []), (8, [])], dp := look2 [(6, [[], [], [0, 1], [0, 1, 2], [0, 1, 2, 3], [], [0, 1, 2, 3, 4, 5], [0, 1, 2, 3, 4, 5, 6], [0, 1, 2, 3, 4, 5, 6, 7], [0, 1, 2, 3, 4, 5, 6, 7, 8], [0, 1, 2, 3, 4, 5, 6, 7, 8, 9], [0, 1, 2, 3, 4, 5, 6, 7, 8, 9, 10], [0, 1, 2, 3, 4, 5, 6, 7, 8, 9, 10], [0, 1, 2, 3, 4, 5, 6, 7, 8, 9, 10, 12], [0, 1, 2, 3, 4, 5, 6, 7, 8, 9, 10, 11, 12, 13], [0, 1, 2, 3, 4, 5, 6, 7, 8, 9, 10, 11, 12, 13, 14], [0, 1, 2, 3, 4, 5, 6, 7, 8, 9, 10], [0, 1, 2, 3, 4, 5, 6, 7, 8, 9, 10], [0, 1, 2, 3, 4, 5, 6, 7, 8, 9, 10, 16, 17], [0, 1, 2, 3, 4, 5, 6, 7, 8, 9, 10, 16, 17, 18], [0, 1, 2, 3, 4, 5, 6, 7, 8, 9, 10, 11, 12, 13, 14, 15, 16, 17, 18, 19], [0, 1, 2, 3, 4, 5, 6, 7, 8, 9, 10, 11, 12, 13, 14, 15, 16, 17, 18, 19, 20], [0, 1, 2, 3, 4, 5, 6, 7, 8, 9, 10, 11, 12, 13, 14, 15, 16, 17, 18, 19, 20, 21]])] }
attribute [local push_cast] E18
theorem l6Set (l : List Str) (w : Int) (hl : l.length ≤ 2097152) : Does Try.prog 18 [.sl false 1 (l.map strR), .sc (.int .i64 w)] (.sc (.bool (setB l w)), []) := by
  refine does_of (E := E18) (rs := [.tmp 4]) (lent := []) tOk rfl Try.func18 rfl (by decide) rfl rfl (Nat.le_of_ble_eq_true rfl) (Nat.le_of_ble_eq_true rfl) ?_
  (simp -dsimp (disch := first | omega | (simp only [List.length_cons, List.length_nil, List.length_map, List.length_append, List.length_take, List.length_drop, List.length_replicate, List.length_set, mkG_len] <;> omega) | fail) only [push_cast, if_pos, decide_eq_true, decide_eq_false, Nat.reduceAdd, Nat.reduceSub, Nat.reduceMul, Nat.reduceBEq, Nat.reduceEqDiff, Nat.reduceLT, Nat.reduceLeDiff, Int.reduceToNat, Int.reduceLE, Int.reduceLT, Int.reduceAdd, Int.reduceSub, Int.reduceMul, Int.reduceEq, Int.reduceNeg, ↓reduceIte, reduceCtorEq]) <;> (repeat (refine (aw_draw (by kernel_rfl)).2 ?_; simp -dsimp (disch := first | omega | (simp only [List.length_cons, List.length_nil, List.length_map, List.length_append, List.length_take, List.length_drop, List.length_replicate, List.length_set, mkG_len] <;> omega) | fail) only [push_cast, if_pos, decide_eq_true, decide_eq_false, Nat.reduceAdd, Nat.reduceSub, Nat.reduceMul, Nat.reduceBEq, Nat.reduceEqDiff, Nat.reduceLT, Nat.reduceLeDiff, Int.reduceToNat, Int.reduceLE, Int.reduceLT, Int.reduceAdd, Int.reduceSub, Int.reduceMul, Int.reduceEq, Int.reduceNeg, ↓reduceIte, reduceCtorEq]))
  refine callC (l1Width ..) ?_
  cases c1 : inB w 1 8 with
  | false =>
    have hv : setB l w = false := by simp [setB, c1]
    (simp -dsimp (disch := first | omega | (simp only [hv, List.length_cons, List.length_nil, List.length_map, List.length_append, List.length_take, List.length_drop, List.length_replicate, List.length_set, mkG_len] <;> omega) | fail) only [push_cast, if_pos, decide_eq_true, decide_eq_false, hv, Nat.reduceAdd, Nat.reduceSub, Nat.reduceMul, Nat.reduceBEq, Nat.reduceEqDiff, Nat.reduceLT, Nat.reduceLeDiff, Int.reduceToNat, Int.reduceLE, Int.reduceLT, Int.reduceAdd, Int.reduceSub, Int.reduceMul, Int.reduceEq, Int.reduceNeg, ↓reduceIte, reduceCtorEq]) <;> (repeat (refine (aw_draw (by kernel_rfl)).2 ?_; simp -dsimp (disch := first | omega | (simp only [hv, List.length_cons, List.length_nil, List.length_map, List.length_append, List.length_take, List.length_drop, List.length_replicate, List.length_set, mkG_len] <;> omega) | fail) only [push_cast, if_pos, decide_eq_true, decide_eq_false, hv, Nat.reduceAdd, Nat.reduceSub, Nat.reduceMul, Nat.reduceBEq, Nat.reduceEqDiff, Nat.reduceLT, Nat.reduceLeDiff, Int.reduceToNat, Int.reduceLE, Int.reduceLT, Int.reduceAdd, Int.reduceSub, Int.reduceMul, Int.reduceEq, Int.reduceNeg, ↓reduceIte, reduceCtorEq]))
  | true =>
  by_cases c2 : l.length ≤ 500
  rotate_left
  · have hv : setB l w = false := by simp [setB, c2]
    (simp -dsimp (disch := first | omega | (simp only [hv, List.length_cons, List.length_nil, List.length_map, List.length_append, List.length_take, List.length_drop, List.length_replicate, List.length_set, mkG_len] <;> omega) | fail) only [push_cast, if_pos, decide_eq_true, decide_eq_false, hv, Nat.reduceAdd, Nat.reduceSub, Nat.reduceMul, Nat.reduceBEq, Nat.reduceEqDiff, Nat.reduceLT, Nat.reduceLeDiff, Int.reduceToNat, Int.reduceLE, Int.reduceLT, Int.reduceAdd, Int.reduceSub, Int.reduceMul, Int.reduceEq, Int.reduceNeg, ↓reduceIte, reduceCtorEq]) <;> (repeat (refine (aw_draw (by kernel_rfl)).2 ?_; simp -dsimp (disch := first | omega | (simp only [hv, List.length_cons, List.length_nil, List.length_map, List.length_append, List.length_take, List.length_drop, List.length_replicate, List.length_set, mkG_len] <;> omega) | fail) only [push_cast, if_pos, decide_eq_true, decide_eq_false, hv, Nat.reduceAdd, Nat.reduceSub, Nat.reduceMul, Nat.reduceBEq, Nat.reduceEqDiff, Nat.reduceLT, Nat.reduceLeDiff, Int.reduceToNat, Int.reduceLE, Int.reduceLT, Int.reduceAdd, Int.reduceSub, Int.reduceMul, Int.reduceEq, Int.reduceNeg, ↓reduceIte, reduceCtorEq]))
  rw [show setB l w = ascF w none l by simp [setB, c1, c2]]
  generalize hM : ascF w none l = M
  (simp -dsimp (disch := first | omega | (simp only [List.length_cons, List.length_nil, List.length_map, List.length_append, List.length_take, List.length_drop, List.length_replicate, List.length_set, mkG_len] <;> omega) | fail) only [push_cast, if_pos, decide_eq_true, decide_eq_false, Nat.reduceAdd, Nat.reduceSub, Nat.reduceMul, Nat.reduceBEq, Nat.reduceEqDiff, Nat.reduceLT, Nat.reduceLeDiff, Int.reduceToNat, Int.reduceLE, Int.reduceLT, Int.reduceAdd, Int.reduceSub, Int.reduceMul, Int.reduceEq, Int.reduceNeg, ↓reduceIte, reduceCtorEq]) <;> (repeat (refine (aw_draw (by kernel_rfl)).2 ?_; simp -dsimp (disch := first | omega | (simp only [List.length_cons, List.length_nil, List.length_map, List.length_append, List.length_take, List.length_drop, List.length_replicate, List.length_set, mkG_len] <;> omega) | fail) only [push_cast, if_pos, decide_eq_true, decide_eq_false, Nat.reduceAdd, Nat.reduceSub, Nat.reduceMul, Nat.reduceBEq, Nat.reduceEqDiff, Nat.reduceLT, Nat.reduceLeDiff, Int.reduceToNat, Int.reduceLE, Int.reduceLT, Int.reduceAdd, Int.reduceSub, Int.reduceMul, Int.reduceEq, Int.reduceNeg, ↓reduceIte, reduceCtorEq]))
  refine loop_ind (α := Nat) (fun i => i ≤ l.length ∧ ascF w (bif i == 0 then none else l[i - 1]?) (l.drop i) = M) (fun i => ⟨[(0, .sl false 1 (l.map strR)), (1, .sc (.int .i64 w)), (5, .sc (.int .i64 i))], [], 1⟩) (fun i => l.length - i) 0 ⟨Nat.zero_le _, hM⟩ ?_ ?_
  · simp -dsimp (disch := first | omega | (simp only [List.length_cons, List.length_nil, List.length_map, List.length_append, List.length_take, List.length_drop, List.length_replicate, List.length_set, mkG_len] <;> omega) | fail) only [push_cast, if_pos, decide_eq_true, decide_eq_false, Nat.reduceAdd, Nat.reduceSub, Nat.reduceMul, Nat.reduceBEq, Nat.reduceEqDiff, Nat.reduceLT, Nat.reduceLeDiff, Int.reduceToNat, Int.reduceLE, Int.reduceLT, Int.reduceAdd, Int.reduceSub, Int.reduceMul, Int.reduceEq, Int.reduceNeg, ↓reduceIte, reduceCtorEq]
  rintro i ⟨hi, hy⟩ ih
  by_cases h : i < l.length
  · obtain ⟨s, hx⟩ := ex_get h
    rw [drop_step hx, ascF] at hy
    have hs : ∀ P, (bif i + 1 == 0 then none else l[i + 1 - 1]?) = P → P = some s := fun P e => by rw [← e, show (i + 1 == 0) = false by simp, cond_false, Nat.add_sub_cancel, hx]
    by_cases e1 : (s.size : Int) = w
    rotate_left
    · rw [show decide ((s.size : Int) = w) = false by simp [e1], Bool.false_and, Bool.false_and] at hy
      (simp -dsimp (disch := first | omega | (simp only [hx, e1, ← hy, List.length_cons, List.length_nil, List.length_map, List.length_append, List.length_take, List.length_drop, List.length_replicate, List.length_set, mkG_len] <;> omega) | fail) only [push_cast, if_pos, decide_eq_true, decide_eq_false, hx, e1, ← hy, Nat.reduceAdd, Nat.reduceSub, Nat.reduceMul, Nat.reduceBEq, Nat.reduceEqDiff, Nat.reduceLT, Nat.reduceLeDiff, Int.reduceToNat, Int.reduceLE, Int.reduceLT, Int.reduceAdd, Int.reduceSub, Int.reduceMul, Int.reduceEq, Int.reduceNeg, ↓reduceIte, reduceCtorEq]) <;> (repeat (refine (aw_draw (by kernel_rfl)).2 ?_; simp -dsimp (disch := first | omega | (simp only [hx, e1, ← hy, List.length_cons, List.length_nil, List.length_map, List.length_append, List.length_take, List.length_drop, List.length_replicate, List.length_set, mkG_len] <;> omega) | fail) only [push_cast, if_pos, decide_eq_true, decide_eq_false, hx, e1, ← hy, Nat.reduceAdd, Nat.reduceSub, Nat.reduceMul, Nat.reduceBEq, Nat.reduceEqDiff, Nat.reduceLT, Nat.reduceLeDiff, Int.reduceToNat, Int.reduceLE, Int.reduceLT, Int.reduceAdd, Int.reduceSub, Int.reduceMul, Int.reduceEq, Int.reduceNeg, ↓reduceIte, reduceCtorEq]))
    rw [show decide ((s.size : Int) = w) = true by simp [e1], Bool.true_and] at hy
    by_cases e2 : i = 0
    · subst e2
      rw [show aft (bif 0 == 0 then none else l[0 - 1]?) s = true from rfl, Bool.true_and] at hy
      (simp -dsimp (disch := first | omega | (simp only [hx, e1, List.length_cons, List.length_nil, List.length_map, List.length_append, List.length_take, List.length_drop, List.length_replicate, List.length_set, mkG_len] <;> omega) | fail) only [push_cast, if_pos, decide_eq_true, decide_eq_false, hx, e1, Nat.reduceAdd, Nat.reduceSub, Nat.reduceMul, Nat.reduceBEq, Nat.reduceEqDiff, Nat.reduceLT, Nat.reduceLeDiff, Int.reduceToNat, Int.reduceLE, Int.reduceLT, Int.reduceAdd, Int.reduceSub, Int.reduceMul, Int.reduceEq, Int.reduceNeg, ↓reduceIte, reduceCtorEq]) <;> (repeat (refine (aw_draw (by kernel_rfl)).2 ?_; simp -dsimp (disch := first | omega | (simp only [hx, e1, List.length_cons, List.length_nil, List.length_map, List.length_append, List.length_take, List.length_drop, List.length_replicate, List.length_set, mkG_len] <;> omega) | fail) only [push_cast, if_pos, decide_eq_true, decide_eq_false, hx, e1, Nat.reduceAdd, Nat.reduceSub, Nat.reduceMul, Nat.reduceBEq, Nat.reduceEqDiff, Nat.reduceLT, Nat.reduceLeDiff, Int.reduceToNat, Int.reduceLE, Int.reduceLT, Int.reduceAdd, Int.reduceSub, Int.reduceMul, Int.reduceEq, Int.reduceNeg, ↓reduceIte, reduceCtorEq]))
      refine ih 1 _ (by omega) ⟨h, by rw [hs _ rfl]; exact hy⟩ ?_
      simp -dsimp (disch := first | omega | (simp only [wr_id, List.length_cons, List.length_nil, List.length_map, List.length_append, List.length_take, List.length_drop, List.length_replicate, List.length_set, mkG_len] <;> omega) | fail) only [push_cast, if_pos, decide_eq_true, decide_eq_false, wr_id, Nat.reduceAdd, Nat.reduceSub, Nat.reduceMul, Nat.reduceBEq, Nat.reduceEqDiff, Nat.reduceLT, Nat.reduceLeDiff, Int.reduceToNat, Int.reduceLE, Int.reduceLT, Int.reduceAdd, Int.reduceSub, Int.reduceMul, Int.reduceEq, Int.reduceNeg, ↓reduceIte, reduceCtorEq]
    · obtain ⟨q, hq⟩ := ex_get (show i - 1 < l.length by omega)
      rw [show (bif i == 0 then none else l[i - 1]?) = some q by rw [show (i == 0) = false by simp [e2]]; exact hq, show aft (some q) s = lts q s from rfl] at hy
      have e3 : ((i : Int) - 1).toNat = i - 1 := by omega
      cases e4 : lts q s with
      | false =>
        rw [e4, Bool.false_and] at hy
        (simp -dsimp (disch := first | omega | (simp only [hx, hq, e1, e3, wr_id, e4, ← hy, List.length_cons, List.length_nil, List.length_map, List.length_append, List.length_take, List.length_drop, List.length_replicate, List.length_set, mkG_len] <;> omega) | fail) only [push_cast, if_pos, decide_eq_true, decide_eq_false, hx, hq, e1, e3, wr_id, e4, ← hy, Nat.reduceAdd, Nat.reduceSub, Nat.reduceMul, Nat.reduceBEq, Nat.reduceEqDiff, Nat.reduceLT, Nat.reduceLeDiff, Int.reduceToNat, Int.reduceLE, Int.reduceLT, Int.reduceAdd, Int.reduceSub, Int.reduceMul, Int.reduceEq, Int.reduceNeg, ↓reduceIte, reduceCtorEq]) <;> (repeat (refine (aw_draw (by kernel_rfl)).2 ?_; simp -dsimp (disch := first | omega | (simp only [hx, hq, e1, e3, wr_id, e4, ← hy, List.length_cons, List.length_nil, List.length_map, List.length_append, List.length_take, List.length_drop, List.length_replicate, List.length_set, mkG_len] <;> omega) | fail) only [push_cast, if_pos, decide_eq_true, decide_eq_false, hx, hq, e1, e3, wr_id, e4, ← hy, Nat.reduceAdd, Nat.reduceSub, Nat.reduceMul, Nat.reduceBEq, Nat.reduceEqDiff, Nat.reduceLT, Nat.reduceLeDiff, Int.reduceToNat, Int.reduceLE, Int.reduceLT, Int.reduceAdd, Int.reduceSub, Int.reduceMul, Int.reduceEq, Int.reduceNeg, ↓reduceIte, reduceCtorEq]))
      | true =>
        rw [e4, Bool.true_and] at hy
        (simp -dsimp (disch := first | omega | (simp only [hx, hq, e1, e3, wr_id, e4, List.length_cons, List.length_nil, List.length_map, List.length_append, List.length_take, List.length_drop, List.length_replicate, List.length_set, mkG_len] <;> omega) | fail) only [push_cast, if_pos, decide_eq_true, decide_eq_false, hx, hq, e1, e3, wr_id, e4, Nat.reduceAdd, Nat.reduceSub, Nat.reduceMul, Nat.reduceBEq, Nat.reduceEqDiff, Nat.reduceLT, Nat.reduceLeDiff, Int.reduceToNat, Int.reduceLE, Int.reduceLT, Int.reduceAdd, Int.reduceSub, Int.reduceMul, Int.reduceEq, Int.reduceNeg, ↓reduceIte, reduceCtorEq]) <;> (repeat (refine (aw_draw (by kernel_rfl)).2 ?_; simp -dsimp (disch := first | omega | (simp only [hx, hq, e1, e3, wr_id, e4, List.length_cons, List.length_nil, List.length_map, List.length_append, List.length_take, List.length_drop, List.length_replicate, List.length_set, mkG_len] <;> omega) | fail) only [push_cast, if_pos, decide_eq_true, decide_eq_false, hx, hq, e1, e3, wr_id, e4, Nat.reduceAdd, Nat.reduceSub, Nat.reduceMul, Nat.reduceBEq, Nat.reduceEqDiff, Nat.reduceLT, Nat.reduceLeDiff, Int.reduceToNat, Int.reduceLE, Int.reduceLT, Int.reduceAdd, Int.reduceSub, Int.reduceMul, Int.reduceEq, Int.reduceNeg, ↓reduceIte, reduceCtorEq]))
        refine ih (i + 1) _ (by omega) ⟨h, by rw [hs _ rfl]; exact hy⟩ ?_
        simp -dsimp (disch := first | omega | (simp only [wr_id, List.length_cons, List.length_nil, List.length_map, List.length_append, List.length_take, List.length_drop, List.length_replicate, List.length_set, mkG_len] <;> omega) | fail) only [push_cast, if_pos, decide_eq_true, decide_eq_false, wr_id, Nat.reduceAdd, Nat.reduceSub, Nat.reduceMul, Nat.reduceBEq, Nat.reduceEqDiff, Nat.reduceLT, Nat.reduceLeDiff, Int.reduceToNat, Int.reduceLE, Int.reduceLT, Int.reduceAdd, Int.reduceSub, Int.reduceMul, Int.reduceEq, Int.reduceNeg, ↓reduceIte, reduceCtorEq]
  · rw [List.drop_eq_nil_of_le (by omega), ascF] at hy
    (simp -dsimp (disch := first | omega | (simp only [← hy, List.length_cons, List.length_nil, List.length_map, List.length_append, List.length_take, List.length_drop, List.length_replicate, List.length_set, mkG_len] <;> omega) | fail) only [push_cast, if_pos, decide_eq_true, decide_eq_false, ← hy, Nat.reduceAdd, Nat.reduceSub, Nat.reduceMul, Nat.reduceBEq, Nat.reduceEqDiff, Nat.reduceLT, Nat.reduceLeDiff, Int.reduceToNat, Int.reduceLE, Int.reduceLT, Int.reduceAdd, Int.reduceSub, Int.reduceMul, Int.reduceEq, Int.reduceNeg, ↓reduceIte, reduceCtorEq]) <;> (repeat (refine (aw_draw (by kernel_rfl)).2 ?_; simp -dsimp (disch := first | omega | (simp only [← hy, List.length_cons, List.length_nil, List.length_map, List.length_append, List.length_take, List.length_drop, List.length_replicate, List.length_set, mkG_len] <;> omega) | fail) only [push_cast, if_pos, decide_eq_true, decide_eq_false, ← hy, Nat.reduceAdd, Nat.reduceSub, Nat.reduceMul, Nat.reduceBEq, Nat.reduceEqDiff, Nat.reduceLT, Nat.reduceLeDiff, Int.reduceToNat, Int.reduceLE, Int.reduceLT, Int.reduceAdd, Int.reduceSub, Int.reduceMul, Int.reduceEq, Int.reduceNeg, ↓reduceIte, reduceCtorEq]))
def E29 : Env := { T := T0, kp := look [(0, [0, 1, 2]), (1, [0, 1, 2]), (2, [0, 1, 2, 7]), (3, [0, 1, 2, 7, 8]), (4, [0, 1, 2, 7, 8]), (5, [0, 1, 2, 7, 8]), (6, [0, 1, 2, 7, 8]), (7, [7])] }
attribute [local push_cast] E29
theorem l6There (l : List Str) (fr to : Str) (hl : l.length ≤ 2097152) : Does Try.prog 29 [.sl false 1 (l.map strR), .sc (.string fr), .sc (.string to)] (.sl true 1 ((thr l fr to).map strR), []) := by
  refine does_of (E := E29) (rs := [.tmp 6]) (lent := []) tOk rfl Try.func29 rfl (by decide) rfl rfl (Nat.le_of_ble_eq_true rfl) (Nat.le_of_ble_eq_true rfl) ?_
  obtain ⟨M, hM⟩ : ∃ M, M = thr l fr to := ⟨_, rfl⟩
  rw [← hM]
  simp -dsimp (disch := first | omega | (simp only [List.length_cons, List.length_nil, List.length_map, List.length_append, List.length_take, List.length_drop, List.length_replicate, List.length_set, mkG_len] <;> omega) | fail) only [push_cast, if_pos, decide_eq_true, decide_eq_false, Nat.reduceAdd, Nat.reduceSub, Nat.reduceMul, Nat.reduceBEq, Nat.reduceEqDiff, Nat.reduceLT, Nat.reduceLeDiff, Int.reduceToNat, Int.reduceLE, Int.reduceLT, Int.reduceAdd, Int.reduceSub, Int.reduceMul, Int.reduceEq, Int.reduceNeg, ↓reduceIte, reduceCtorEq]
  refine loop_ind (α := Nat) (fun i => i ≤ l.length) (fun i => ⟨[(0, .sl false 1 (l.map strR)), (1, .sc (.string fr)), (2, .sc (.string to)), (7, .ow 1 0 (thr (l.take i) fr to).length), (8, .sc (.int .i64 i))], [(1, .ar 1 0 ((thr (l.take i) fr to).map strR))], 2⟩) (fun i => l.length - i) 0 (Nat.zero_le _) ?_ ?_
  · simp -dsimp (disch := first | omega | (simp only [thr, List.take_zero, List.filter_nil, List.length_cons, List.length_nil, List.length_map, List.length_append, List.length_take, List.length_drop, List.length_replicate, List.length_set, mkG_len] <;> omega) | fail) only [push_cast, if_pos, decide_eq_true, decide_eq_false, thr, List.take_zero, List.filter_nil, Nat.reduceAdd, Nat.reduceSub, Nat.reduceMul, Nat.reduceBEq, Nat.reduceEqDiff, Nat.reduceLT, Nat.reduceLeDiff, Int.reduceToNat, Int.reduceLE, Int.reduceLT, Int.reduceAdd, Int.reduceSub, Int.reduceMul, Int.reduceEq, Int.reduceNeg, ↓reduceIte, reduceCtorEq]
  intro i hi ih
  by_cases h : i < l.length
  · obtain ⟨x, hx⟩ := ex_get h
    have hst : thr (l.take (i + 1)) fr to = thr (l.take i) fr to ++ (bif inT fr to x then [x] else []) := filter_step hx
    have hlen := thr_len (l.take i) fr to
    rw [List.length_take] at hlen
    cases e1 : lts x fr with
    | true =>
      rw [show inT fr to x = false by simp [inT, e1], cond_false, List.append_nil] at hst
      simp -dsimp (disch := first | omega | (simp only [hx, e1, List.length_cons, List.length_nil, List.length_map, List.length_append, List.length_take, List.length_drop, List.length_replicate, List.length_set, mkG_len] <;> omega) | fail) only [push_cast, if_pos, decide_eq_true, decide_eq_false, hx, e1, Nat.reduceAdd, Nat.reduceSub, Nat.reduceMul, Nat.reduceBEq, Nat.reduceEqDiff, Nat.reduceLT, Nat.reduceLeDiff, Int.reduceToNat, Int.reduceLE, Int.reduceLT, Int.reduceAdd, Int.reduceSub, Int.reduceMul, Int.reduceEq, Int.reduceNeg, ↓reduceIte, reduceCtorEq]
      refine ih (i + 1) _ (by omega) h ?_
      simp -dsimp (disch := first | omega | (simp only [wr_id, hst, List.length_cons, List.length_nil, List.length_map, List.length_append, List.length_take, List.length_drop, List.length_replicate, List.length_set, mkG_len] <;> omega) | fail) only [push_cast, if_pos, decide_eq_true, decide_eq_false, wr_id, hst, Nat.reduceAdd, Nat.reduceSub, Nat.reduceMul, Nat.reduceBEq, Nat.reduceEqDiff, Nat.reduceLT, Nat.reduceLeDiff, Int.reduceToNat, Int.reduceLE, Int.reduceLT, Int.reduceAdd, Int.reduceSub, Int.reduceMul, Int.reduceEq, Int.reduceNeg, ↓reduceIte, reduceCtorEq]
    | false =>
    by_cases e2 : to = ⟨#[]⟩
    · rw [show inT fr to x = true by simp [inT, e1, e2, em], cond_true] at hst
      subst e2
      simp -dsimp (disch := first | omega | (simp only [hx, e1, List.length_cons, List.length_nil, List.length_map, List.length_append, List.length_take, List.length_drop, List.length_replicate, List.length_set, mkG_len] <;> omega) | fail) only [push_cast, if_pos, decide_eq_true, decide_eq_false, hx, e1, Nat.reduceAdd, Nat.reduceSub, Nat.reduceMul, Nat.reduceBEq, Nat.reduceEqDiff, Nat.reduceLT, Nat.reduceLeDiff, Int.reduceToNat, Int.reduceLE, Int.reduceLT, Int.reduceAdd, Int.reduceSub, Int.reduceMul, Int.reduceEq, Int.reduceNeg, ↓reduceIte, reduceCtorEq]
      refine ih (i + 1) _ (by omega) h ?_
      simp -dsimp (disch := first | omega | (simp only [wr_id, hst, List.map_append, List.length_append, List.length_cons, List.length_nil, List.length_map, List.length_append, List.length_take, List.length_drop, List.length_replicate, List.length_set, mkG_len] <;> omega) | fail) only [push_cast, if_pos, decide_eq_true, decide_eq_false, wr_id, hst, List.map_append, List.length_append, Nat.reduceAdd, Nat.reduceSub, Nat.reduceMul, Nat.reduceBEq, Nat.reduceEqDiff, Nat.reduceLT, Nat.reduceLeDiff, Int.reduceToNat, Int.reduceLE, Int.reduceLT, Int.reduceAdd, Int.reduceSub, Int.reduceMul, Int.reduceEq, Int.reduceNeg, ↓reduceIte, reduceCtorEq]
    · cases e3 : lts x to with
      | true =>
        rw [show inT fr to x = true by simp [inT, e1, e3], cond_true] at hst
        simp -dsimp (disch := first | omega | (simp only [hx, e1, e2, e3, List.length_cons, List.length_nil, List.length_map, List.length_append, List.length_take, List.length_drop, List.length_replicate, List.length_set, mkG_len] <;> omega) | fail) only [push_cast, if_pos, decide_eq_true, decide_eq_false, hx, e1, e2, e3, Nat.reduceAdd, Nat.reduceSub, Nat.reduceMul, Nat.reduceBEq, Nat.reduceEqDiff, Nat.reduceLT, Nat.reduceLeDiff, Int.reduceToNat, Int.reduceLE, Int.reduceLT, Int.reduceAdd, Int.reduceSub, Int.reduceMul, Int.reduceEq, Int.reduceNeg, ↓reduceIte, reduceCtorEq]
        refine ih (i + 1) _ (by omega) h ?_
        simp -dsimp (disch := first | omega | (simp only [wr_id, hst, List.map_append, List.length_append, List.length_cons, List.length_nil, List.length_map, List.length_append, List.length_take, List.length_drop, List.length_replicate, List.length_set, mkG_len] <;> omega) | fail) only [push_cast, if_pos, decide_eq_true, decide_eq_false, wr_id, hst, List.map_append, List.length_append, Nat.reduceAdd, Nat.reduceSub, Nat.reduceMul, Nat.reduceBEq, Nat.reduceEqDiff, Nat.reduceLT, Nat.reduceLeDiff, Int.reduceToNat, Int.reduceLE, Int.reduceLT, Int.reduceAdd, Int.reduceSub, Int.reduceMul, Int.reduceEq, Int.reduceNeg, ↓reduceIte, reduceCtorEq]
      | false =>
        rw [show inT fr to x = false by unfold inT; rw [e3]; simp [em, e2], cond_false, List.append_nil] at hst
        simp -dsimp (disch := first | omega | (simp only [hx, e1, e2, e3, List.length_cons, List.length_nil, List.length_map, List.length_append, List.length_take, List.length_drop, List.length_replicate, List.length_set, mkG_len] <;> omega) | fail) only [push_cast, if_pos, decide_eq_true, decide_eq_false, hx, e1, e2, e3, Nat.reduceAdd, Nat.reduceSub, Nat.reduceMul, Nat.reduceBEq, Nat.reduceEqDiff, Nat.reduceLT, Nat.reduceLeDiff, Int.reduceToNat, Int.reduceLE, Int.reduceLT, Int.reduceAdd, Int.reduceSub, Int.reduceMul, Int.reduceEq, Int.reduceNeg, ↓reduceIte, reduceCtorEq]
        refine ih (i + 1) _ (by omega) h ?_
        simp -dsimp (disch := first | omega | (simp only [wr_id, hst, List.length_cons, List.length_nil, List.length_map, List.length_append, List.length_take, List.length_drop, List.length_replicate, List.length_set, mkG_len] <;> omega) | fail) only [push_cast, if_pos, decide_eq_true, decide_eq_false, wr_id, hst, Nat.reduceAdd, Nat.reduceSub, Nat.reduceMul, Nat.reduceBEq, Nat.reduceEqDiff, Nat.reduceLT, Nat.reduceLeDiff, Int.reduceToNat, Int.reduceLE, Int.reduceLT, Int.reduceAdd, Int.reduceSub, Int.reduceMul, Int.reduceEq, Int.reduceNeg, ↓reduceIte, reduceCtorEq]
  · have ht : l.take i = l := List.take_of_length_le (by omega)
    simp -dsimp (disch := first | omega | (simp only [hM, ht, List.length_cons, List.length_nil, List.length_map, List.length_append, List.length_take, List.length_drop, List.length_replicate, List.length_set, mkG_len] <;> omega) | fail) only [push_cast, if_pos, decide_eq_true, decide_eq_false, hM, ht, Nat.reduceAdd, Nat.reduceSub, Nat.reduceMul, Nat.reduceBEq, Nat.reduceEqDiff, Nat.reduceLT, Nat.reduceLeDiff, Int.reduceToNat, Int.reduceLE, Int.reduceLT, Int.reduceAdd, Int.reduceSub, Int.reduceMul, Int.reduceEq, Int.reduceNeg, ↓reduceIte, reduceCtorEq]
def E32 : Env := { T := T0, kp := look [(0, [0, 1]), (1, [0, 1]), (2, [0, 1, 5]), (3, [0, 1, 5, 6]), (4, [0, 1, 5, 6]), (5, [0, 1, 5, 6]), (6, [0, 1, 5, 6]), (7, [5])] }
attribute [local push_cast] E32
theorem l6Minus (a b : List Str) (ha : a.length ≤ 2097152) (hb : b.length ≤ 2097152) : Does Try.prog 32 [.sl false 1 (a.map strR), .sl false 1 (b.map strR)] (.sl true 1 ((minusS a b).map strR), []) := by
  refine does_of (E := E32) (rs := [.tmp 4]) (lent := []) tOk rfl Try.func32 rfl (by decide) rfl rfl (Nat.le_of_ble_eq_true rfl) (Nat.le_of_ble_eq_true rfl) ?_
  obtain ⟨M, hM⟩ : ∃ M, M = minusS a b := ⟨_, rfl⟩
  rw [← hM]
  simp -dsimp (disch := first | omega | (simp only [List.length_cons, List.length_nil, List.length_map, List.length_append, List.length_take, List.length_drop, List.length_replicate, List.length_set, mkG_len] <;> omega) | fail) only [push_cast, if_pos, decide_eq_true, decide_eq_false, Nat.reduceAdd, Nat.reduceSub, Nat.reduceMul, Nat.reduceBEq, Nat.reduceEqDiff, Nat.reduceLT, Nat.reduceLeDiff, Int.reduceToNat, Int.reduceLE, Int.reduceLT, Int.reduceAdd, Int.reduceSub, Int.reduceMul, Int.reduceEq, Int.reduceNeg, ↓reduceIte, reduceCtorEq]
  refine loop_ind (α := Nat) (fun i => i ≤ a.length) (fun i => ⟨[(0, .sl false 1 (a.map strR)), (1, .sl false 1 (b.map strR)), (5, .ow 1 0 (minusS (a.take i) b).length), (6, .sc (.int .i64 i))], [(1, .ar 1 0 ((minusS (a.take i) b).map strR))], 2⟩) (fun i => a.length - i) 0 (Nat.zero_le _) ?_ ?_
  · simp -dsimp (disch := first | omega | (simp only [minusS, List.take_zero, List.filter_nil, List.length_cons, List.length_nil, List.length_map, List.length_append, List.length_take, List.length_drop, List.length_replicate, List.length_set, mkG_len] <;> omega) | fail) only [push_cast, if_pos, decide_eq_true, decide_eq_false, minusS, List.take_zero, List.filter_nil, Nat.reduceAdd, Nat.reduceSub, Nat.reduceMul, Nat.reduceBEq, Nat.reduceEqDiff, Nat.reduceLT, Nat.reduceLeDiff, Int.reduceToNat, Int.reduceLE, Int.reduceLT, Int.reduceAdd, Int.reduceSub, Int.reduceMul, Int.reduceEq, Int.reduceNeg, ↓reduceIte, reduceCtorEq]
  intro i hi ih
  by_cases h : i < a.length
  · obtain ⟨x, hx⟩ := ex_get h
    have hst : minusS (a.take (i + 1)) b = minusS (a.take i) b ++ (bif !inL b x then [x] else []) := filter_step hx
    have hlen : (minusS (a.take i) b).length ≤ (a.take i).length := List.length_filter_le ..
    rw [List.length_take] at hlen
    simp -dsimp (disch := first | omega | (simp only [hx, List.length_cons, List.length_nil, List.length_map, List.length_append, List.length_take, List.length_drop, List.length_replicate, List.length_set, mkG_len] <;> omega) | fail) only [push_cast, if_pos, decide_eq_true, decide_eq_false, hx, Nat.reduceAdd, Nat.reduceSub, Nat.reduceMul, Nat.reduceBEq, Nat.reduceEqDiff, Nat.reduceLT, Nat.reduceLeDiff, Int.reduceToNat, Int.reduceLE, Int.reduceLT, Int.reduceAdd, Int.reduceSub, Int.reduceMul, Int.reduceEq, Int.reduceNeg, ↓reduceIte, reduceCtorEq]
    refine callC (l2In b x hb) ?_
    cases e : inL b x with
    | true =>
      rw [e] at hst
      rw [show (bif !true then [x] else []) = ([] : List Str) from rfl, List.append_nil] at hst
      simp -dsimp (disch := first | omega | (simp only [List.length_cons, List.length_nil, List.length_map, List.length_append, List.length_take, List.length_drop, List.length_replicate, List.length_set, mkG_len] <;> omega) | fail) only [push_cast, if_pos, decide_eq_true, decide_eq_false, Nat.reduceAdd, Nat.reduceSub, Nat.reduceMul, Nat.reduceBEq, Nat.reduceEqDiff, Nat.reduceLT, Nat.reduceLeDiff, Int.reduceToNat, Int.reduceLE, Int.reduceLT, Int.reduceAdd, Int.reduceSub, Int.reduceMul, Int.reduceEq, Int.reduceNeg, ↓reduceIte, reduceCtorEq]
      refine ih (i + 1) _ (by omega) h ?_
      simp -dsimp (disch := first | omega | (simp only [wr_id, hst, List.length_cons, List.length_nil, List.length_map, List.length_append, List.length_take, List.length_drop, List.length_replicate, List.length_set, mkG_len] <;> omega) | fail) only [push_cast, if_pos, decide_eq_true, decide_eq_false, wr_id, hst, Nat.reduceAdd, Nat.reduceSub, Nat.reduceMul, Nat.reduceBEq, Nat.reduceEqDiff, Nat.reduceLT, Nat.reduceLeDiff, Int.reduceToNat, Int.reduceLE, Int.reduceLT, Int.reduceAdd, Int.reduceSub, Int.reduceMul, Int.reduceEq, Int.reduceNeg, ↓reduceIte, reduceCtorEq]
    | false =>
      rw [e] at hst
      simp -dsimp (disch := first | omega | (simp only [hx, List.length_cons, List.length_nil, List.length_map, List.length_append, List.length_take, List.length_drop, List.length_replicate, List.length_set, mkG_len] <;> omega) | fail) only [push_cast, if_pos, decide_eq_true, decide_eq_false, hx, Nat.reduceAdd, Nat.reduceSub, Nat.reduceMul, Nat.reduceBEq, Nat.reduceEqDiff, Nat.reduceLT, Nat.reduceLeDiff, Int.reduceToNat, Int.reduceLE, Int.reduceLT, Int.reduceAdd, Int.reduceSub, Int.reduceMul, Int.reduceEq, Int.reduceNeg, ↓reduceIte, reduceCtorEq]
      refine ih (i + 1) _ (by omega) h ?_
      simp -dsimp (disch := first | omega | (simp only [wr_id, hst, List.map_append, List.length_append, List.length_cons, List.length_nil, List.length_map, List.length_append, List.length_take, List.length_drop, List.length_replicate, List.length_set, mkG_len] <;> omega) | fail) only [push_cast, if_pos, decide_eq_true, decide_eq_false, wr_id, hst, List.map_append, List.length_append, Nat.reduceAdd, Nat.reduceSub, Nat.reduceMul, Nat.reduceBEq, Nat.reduceEqDiff, Nat.reduceLT, Nat.reduceLeDiff, Int.reduceToNat, Int.reduceLE, Int.reduceLT, Int.reduceAdd, Int.reduceSub, Int.reduceMul, Int.reduceEq, Int.reduceNeg, ↓reduceIte, reduceCtorEq]
  · have ht : a.take i = a := List.take_of_length_le (by omega)
    simp -dsimp (disch := first | omega | (simp only [hM, ht, List.length_cons, List.length_nil, List.length_map, List.length_append, List.length_take, List.length_drop, List.length_replicate, List.length_set, mkG_len] <;> omega) | fail) only [push_cast, if_pos, decide_eq_true, decide_eq_false, hM, ht, Nat.reduceAdd, Nat.reduceSub, Nat.reduceMul, Nat.reduceBEq, Nat.reduceEqDiff, Nat.reduceLT, Nat.reduceLeDiff, Int.reduceToNat, Int.reduceLE, Int.reduceLT, Int.reduceAdd, Int.reduceSub, Int.reduceMul, Int.reduceEq, Int.reduceNeg, ↓reduceIte, reduceCtorEq]
theorem bytesOf_row (l : List UInt8) : bytesOf (l.map byteRow) = some l := by
  induction l with
  | nil => rfl
  | cons x r ih =>
    rw [List.map_cons]
    unfold bytesOf
    rw [show byteOf (byteRow x) = some (UInt8.ofNat x.toNat) by simp [byteOf, byteRow]]
    simp only []
    rw [ih]
    simp
theorem flat_byte (l : List UInt8) : flatR (l.map byteRow) = true := by simp [flatR, byteRow, isSc]
def E30 : Env := { T := T0, kp := look [(0, [0, 1]), (1, [0, 1]), (2, [0, 1, 5]), (3, [0, 1, 5, 6]), (4, [0, 1, 5, 6]), (5, [0, 1, 5, 6]), (6, [1, 5])] }
attribute [local push_cast] E30
theorem l6Mix (l : List Str) (w : Int) (hl : l.length ≤ 2097152) (hj : (jb l).length ≤ 140737488355328) : Does Try.prog 30 [.sl false 1 (l.map strR), .sc (.int .i64 w)] (.sc (.string (mixS l w)), []) := by
  refine does_of (E := E30) (rs := [.tmp 4]) (lent := []) tOk rfl Try.func30 rfl (by decide) rfl rfl (Nat.le_of_ble_eq_true rfl) (Nat.le_of_ble_eq_true rfl) ?_
  simp -dsimp (disch := first | omega | (simp only [List.length_cons, List.length_nil, List.length_map, List.length_append, List.length_take, List.length_drop, List.length_replicate, List.length_set, mkG_len] <;> omega) | fail) only [push_cast, if_pos, decide_eq_true, decide_eq_false, Nat.reduceAdd, Nat.reduceSub, Nat.reduceMul, Nat.reduceBEq, Nat.reduceEqDiff, Nat.reduceLT, Nat.reduceLeDiff, Int.reduceToNat, Int.reduceLE, Int.reduceLT, Int.reduceAdd, Int.reduceSub, Int.reduceMul, Int.reduceEq, Int.reduceNeg, ↓reduceIte, reduceCtorEq]
  refine loop_ind (α := Nat) (fun i => i ≤ l.length) (fun i => ⟨[(0, .sl false 1 (l.map strR)), (1, .sc (.int .i64 w)), (5, .ow 1 0 (jb (l.take i)).length), (6, .sc (.int .i64 i))], [(1, .ar 1 0 ((jb (l.take i)).map byteRow))], 2⟩) (fun i => l.length - i) 0 (Nat.zero_le _) ?_ ?_
  · simp -dsimp (disch := first | omega | (simp only [jb, List.take_zero, List.length_cons, List.length_nil, List.length_map, List.length_append, List.length_take, List.length_drop, List.length_replicate, List.length_set, mkG_len] <;> omega) | fail) only [push_cast, if_pos, decide_eq_true, decide_eq_false, jb, List.take_zero, Nat.reduceAdd, Nat.reduceSub, Nat.reduceMul, Nat.reduceBEq, Nat.reduceEqDiff, Nat.reduceLT, Nat.reduceLeDiff, Int.reduceToNat, Int.reduceLE, Int.reduceLT, Int.reduceAdd, Int.reduceSub, Int.reduceMul, Int.reduceEq, Int.reduceNeg, ↓reduceIte, reduceCtorEq]
  intro i hi ih
  by_cases h : i < l.length
  · obtain ⟨x, hx⟩ := ex_get h
    have hst : jb (l.take (i + 1)) = jb (l.take i) ++ bt x := by rw [take_step hx, jb_app, jb_one]
    have hle := congrArg (fun l => (jb l).length) (List.take_append_drop (i + 1) l)
    simp only [jb_app, List.length_append, hst] at hle
    simp -dsimp (disch := first | omega | (simp only [hx, flat_byte, List.length_cons, List.length_nil, List.length_map, List.length_append, List.length_take, List.length_drop, List.length_replicate, List.length_set, mkG_len] <;> omega) | fail) only [push_cast, if_pos, decide_eq_true, decide_eq_false, hx, flat_byte, Nat.reduceAdd, Nat.reduceSub, Nat.reduceMul, Nat.reduceBEq, Nat.reduceEqDiff, Nat.reduceLT, Nat.reduceLeDiff, Int.reduceToNat, Int.reduceLE, Int.reduceLT, Int.reduceAdd, Int.reduceSub, Int.reduceMul, Int.reduceEq, Int.reduceNeg, ↓reduceIte, reduceCtorEq]
    refine ih (i + 1) _ (by omega) h ?_
    simp -dsimp (disch := first | omega | (simp only [wr_id, hst, List.map_append, List.length_append, List.length_cons, List.length_nil, List.length_map, List.length_append, List.length_take, List.length_drop, List.length_replicate, List.length_set, mkG_len] <;> omega) | fail) only [push_cast, if_pos, decide_eq_true, decide_eq_false, wr_id, hst, List.map_append, List.length_append, Nat.reduceAdd, Nat.reduceSub, Nat.reduceMul, Nat.reduceBEq, Nat.reduceEqDiff, Nat.reduceLT, Nat.reduceLeDiff, Int.reduceToNat, Int.reduceLE, Int.reduceLT, Int.reduceAdd, Int.reduceSub, Int.reduceMul, Int.reduceEq, Int.reduceNeg, ↓reduceIte, reduceCtorEq]
  · have ht : l.take i = l := List.take_of_length_le (by omega)
    simp -dsimp (disch := first | omega | (simp only [ht, bytesOf_row, List.length_cons, List.length_nil, List.length_map, List.length_append, List.length_take, List.length_drop, List.length_replicate, List.length_set, mkG_len] <;> omega) | fail) only [push_cast, if_pos, decide_eq_true, decide_eq_false, ht, bytesOf_row, Nat.reduceAdd, Nat.reduceSub, Nat.reduceMul, Nat.reduceBEq, Nat.reduceEqDiff, Nat.reduceLT, Nat.reduceLeDiff, Int.reduceToNat, Int.reduceLE, Int.reduceLT, Int.reduceAdd, Int.reduceSub, Int.reduceMul, Int.reduceEq, Int.reduceNeg, ↓reduceIte, reduceCtorEq]
    refine callC (specSum _ _ (by show (jb l).toArray.size < _; simp; omega)) ?_
    simp -dsimp (disch := first | omega | (simp only [mixS, List.length_cons, List.length_nil, List.length_map, List.length_append, List.length_take, List.length_drop, List.length_replicate, List.length_set, mkG_len] <;> omega) | fail) only [push_cast, if_pos, decide_eq_true, decide_eq_false, mixS, Nat.reduceAdd, Nat.reduceSub, Nat.reduceMul, Nat.reduceBEq, Nat.reduceEqDiff, Nat.reduceLT, Nat.reduceLeDiff, Int.reduceToNat, Int.reduceLE, Int.reduceLT, Int.reduceAdd, Int.reduceSub, Int.reduceMul, Int.reduceEq, Int.reduceNeg, ↓reduceIte, reduceCtorEq]
end Go.Proofs.Ytkpgdbicefahjaa.Mx

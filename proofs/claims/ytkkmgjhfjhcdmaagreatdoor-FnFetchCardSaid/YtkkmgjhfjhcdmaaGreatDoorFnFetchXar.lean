/- A machine over values for Go functions, proved sound, and functions run on it: texts F78, F79, F17, F80, F82, F83, F22, F60. -/
import Derived.Test.YtkkmgjhfjhcdmaaGreatDoorFnFetchXai
import Derived.Test.YtkkmgjhfjhcdmaaGreatDoorFnFetchXak
import Derived.Test.YtkkmgjhfjhcdmaaGreatDoorFnFetchXal
import Derived.Test.YtkkmgjhfjhcdmaaGreatDoorFnFetchXan
import Derived.Test.YtkkmgjhfjhcdmaaGreatDoorFnFetchXao
import Derived.Test.YtkkmgjhfjhcdmaaGreatDoorFnFetchXap
import Derived.Test.YtkkmgjhfjhcdmaaGreatDoorFnFetchXaq
set_option linter.all false
namespace Go.Proofs.YtkkmgjhfjhcdmaaGreatDoor.Mx
open Go Go.RowKit Go.Proofs
theorem rF78_0 {p q : Prop} (k : q) (h : p = q := by conv => lhs; simp -dsimp (disch := first | omega | (simp only [zF, lrep5, LR] <;> omega) | fail) only [push_cast, zF, lrep5, simprocAttr, -Nat.reduceSubDiff]) : p := h.mpr k
theorem rF78_1 {p q : Prop} (k : q) (h : p = q := by conv => lhs; simp -dsimp (disch := first | omega | (simp only [zF, wr_id, List.map_append, List.length_append, List.length_cons, List.length_nil, List.map_cons, List.map_nil, LR] <;> omega) | fail) only [push_cast, zF, wr_id, List.map_append, List.length_append, List.length_cons, List.length_nil, List.map_cons, List.map_nil, simprocAttr, -Nat.reduceSubDiff]) : p := h.mpr k
def ldR (c : List Int) (p K : Int) (r : Ans) : Prop := ∃ (f : Fetch) (ss : List Store) (t : Str) (p' : Int), r = (.tu [.ag (fetchC true f), .sl true 4 (ss.map (storeC true)), .sc (.string t)], [some (.pb true (rdC1 c p'))]) ∧ okFetch f ∧ okL okStore ss ∧ liesQ f.Q = 0 ∧ p ≤ p' ∧ p' ≤ p + K
theorem okL_app1 {α : Type} {ok : α → Prop} {l : List α} {x : α} (h : okL ok l) (hl : l.length ≤ 100) (hx : ok x) : okL ok (l ++ [x]) :=
  ⟨by rw [List.length_append, List.length_singleton]; omega, fun a ha => by
    rcases List.mem_append.1 ha with q | q
    · exact h.2 a q
    · rw [List.mem_singleton.1 q]; exact hx⟩
theorem nil_okS (w r : Int) : okStore ⟨w, r, [], []⟩ := ⟨⟨Nat.zero_le _, fun a h => by cases h⟩, ⟨Nat.zero_le _, fun a h => by cases h⟩⟩
def E145 : Env := { T := T0, kp := look [(0, [0]), (1, [0, 2]), (2, [0, 2, 5]), (3, [0, 2, 5, 6]), (4, [0, 2, 5, 6]), (5, [0, 2, 5, 6]), (6, [0, 2, 5, 6, 7]), (7, [0, 2, 5, 6, 7]), (8, [0, 2, 5, 6, 7, 8]), (9, [0, 2, 5, 6, 7, 8]), (10, [0, 2, 5, 6, 7, 9, 10]), (11, [0, 2, 5, 6, 7, 9]), (12, [0, 2, 5, 6, 7]), (13, [0, 2, 5, 6, 7, 11]), (14, [0, 2, 5, 6, 11, 12]), (15, [0, 2, 5, 6, 11, 12, 13]), (16, [0, 2, 5, 6, 11, 12, 13, 14]), (17, [0, 2, 5, 6, 11, 12, 13, 14]), (18, [0, 2, 5, 6, 11, 12, 13, 14]), (19, [0, 2, 5, 6, 11, 12, 13, 14, 15]), (20, [0, 2, 5, 6, 11, 12, 13, 14, 15]), (21, [0, 2, 5, 6, 11, 12, 13, 14, 15, 16, 17]), (22, [0, 2, 5, 6, 11, 12, 13, 14, 15, 16]), (23, [0, 2, 5, 6, 11, 12, 13, 14, 15]), (24, [0, 2, 5, 6, 11, 12, 13, 14, 15]), (25, [0, 2, 5, 6, 11, 12, 13, 14, 15, 18, 19]), (26, [0, 2, 5, 6, 11, 12, 13, 14, 15, 18]), (27, [0, 2, 5, 6, 11, 12, 13, 14, 15]), (28, [0, 2, 6, 12, 13])], dp := look2 [(13, [[], [], [], [1, 2], [], [0, 1, 2, 3, 4], [], [0, 1, 2, 3, 4, 5, 6]]), (24, [[], [], [], [1, 2], [0, 1, 2, 3], [0, 1, 2, 3, 4], [0, 1, 2, 3, 4, 5], [0, 1, 2, 3, 4, 5], [], [0, 1, 2, 3, 4, 5, 6, 8], [0, 1, 2, 3, 4, 5, 6, 7, 8, 9]])], md := look3 [(1, 1, [1, 0, 0]), (2, 1, [1]), (3, 5, [1, 0]), (5, 3, [1, 0]), (6, 1, [1, 0]), (7, 2, [1, 0]), (12, 1, [1, 0]), (19, 1, [1, 0]), (23, 1, [1, 0]), (24, 3, [1, 0])] }
attribute [local push_cast] E145
set_option maxRecDepth 20000 in
set_option maxHeartbeats 16000000 in
theorem l7Draw (c : List Int) (p : Int) (hc : okCode c) (hp : 0 ≤ p) (hp2 : p ≤ 2000) : ∃ r, ldR c p 400 r ∧ Does Tryz.prog 145 [.pb true (rdC1 c p)] r := by
  refine does_ex (E := E145) (rs := [.cell 2 53, .tmp 3, .tmp 4]) (lent := [true]) tOk rfl Tryz.func145 rfl (by decide) rfl rfl (Nat.le_of_ble_eq_true rfl) (Nat.le_of_ble_eq_true rfl) ?_
  ((refine go0 ?_ <;> repeat (refine dx ?_; refine go0 ?_)) <;> try exact nop)
  refine ex_some (l1DrawWidth c p hc hp (by omega)) ?_
  rintro _ ⟨w, rfl, hw1, hw8⟩
  ((refine go0 ?_ <;> repeat (refine dx ?_; refine go0 ?_)) <;> try exact nop)
  refine ex_some (l2Thing c (p + 1) hc (by omega) (by omega)) ?_
  rintro _ ⟨t0, i0, rfl, ht0, hi1, hi2⟩
  obtain ⟨k4, hk4, hd4⟩ := pick_nat c i0 4 hc (by omega) (by omega) (by omega) (by omega)
  have hT : ∃ (T : Str) (i : Int), p + 1 ≤ i ∧ i ≤ p + 12 ∧ T.size ≤ 10000 ∧ (i = i0 ∧ T = t0 ∧ ¬ 600 < t0.size ∨ i0 + 1 = i ∧ T = t0 ∧ 600 < t0.size ∧ ¬ 0 < k4 ∨ i0 + 1 = i ∧ t0.extract 0 600 = T ∧ 600 < t0.size ∧ 0 < k4) := by
    by_cases q : 600 < t0.size
    · by_cases k0 : 0 < k4
      · exact ⟨_, i0 + 1, by omega, by omega, by have := ext_le t0 0 600; omega, .inr (.inr ⟨rfl, rfl, q, k0⟩)⟩
      · exact ⟨t0, i0 + 1, by omega, by omega, ht0, .inr (.inl ⟨rfl, rfl, q, k0⟩)⟩
    · exact ⟨t0, i0, by omega, by omega, ht0, .inl ⟨rfl, rfl, q⟩⟩
  obtain ⟨T, i, j1, j2, hTs, hT⟩ := hT
  rcases hT with ⟨rfl, rfl, q⟩ | ⟨e, rfl, q, k0⟩ | ⟨e, e2, q, k0⟩
  (have zF := q; (refine go0 ?_ <;> repeat (refine dx ?_; refine go0 ?_)) <;> first | exact nop | clear zF)
  rotate_left
  (have zF := q; (refine go0 ?_ <;> repeat (refine dx ?_; refine go0 ?_)) <;> first | exact nop | clear zF)
  refine ex_call hd4 ?_
  rw [e]
  (have zF := an q k0; (refine go0 ?_ <;> repeat (refine dx ?_; refine go0 ?_)) <;> first | exact nop | clear zF)
  rotate_left
  (have zF := q; (refine go0 ?_ <;> repeat (refine dx ?_; refine go0 ?_)) <;> first | exact nop | clear zF)
  refine ex_call hd4 ?_
  rw [e]
  (have zF := an q (an k0 e2); (refine go0 ?_ <;> repeat (refine dx ?_; refine go0 ?_)) <;> first | exact nop | clear zF)
  all_goals
    clear q hd4 hk4
    obtain ⟨k, hk, hd⟩ := pick_nat c i 5 hc (by omega) (by omega) (by omega) (by omega)
    refine ex_call hd ?_
    clear hd
    have hr : ∃ R : Int, ([[AV.sc (.int .i64 300)], [.sc (.int .i64 1000)], [.sc (.int .i64 4000)], [.sc (.int .i64 60000)], [.sc (.int .i64 60000)]] : List Row)[k]? = some [.sc (.int .i64 R)] := by
      rcases (show k = 0 ∨ k = 1 ∨ k = 2 ∨ k = 3 ∨ k = 4 by omega) with rfl | rfl | rfl | rfl | rfl <;> exact ⟨_, rfl⟩
    obtain ⟨R, hR⟩ := hr
    obtain ⟨m, hm, hd⟩ := pick_nat c (i + 1) 2 hc (by omega) (by omega) (by omega) (by omega)
    (have zF := hR; (refine rF78_0 ?_ <;> repeat (refine dx ?_; refine rF78_0 ?_)) <;> first | exact nop | clear zF)
    refine ex_call hd ?_
    clear hd hR hk
    by_cases m0 : m = 0
    case' neg =>
      (have zF := m0; (refine go0 ?_ <;> repeat (refine dx ?_; refine go0 ?_)) <;> first | exact nop | clear zF)
      obtain ⟨j, hj⟩ : ∃ j, j = i + 1 + 1 := ⟨_, rfl⟩
      rw [← hj]
      replace j1 : p ≤ j := by omega
      replace j2 : j ≤ p + 40 := by omega
      have key : ∃ nf : Str → Int → Fetch, ∀ nn q, okStr nn → (okFetch (nf nn q) ∧ liesQ (nf nn q).Q = 0) ∧ Does Tryz.prog 177 [.ag (storeC false ⟨w, R, [], []⟩), .sc (.string nn), .sc (.int .i64 q)] (.ag (fetchC true (nf nn q)), []) := ⟨newF ⟨w, R, [], []⟩, fun nn q h => ⟨⟨newF_ok (nil_okS w R) h, newF_lies⟩, specNewFetch _ nn q (nil_okS w R) h⟩⟩
      clear hj m0
    case' pos =>
      subst m0
      ((refine go0 ?_ <;> repeat (refine dx ?_; refine go0 ?_)) <;> try exact nop)
      refine ex_some (l2Near c (i + 1 + 1) T hc (by omega) (by omega) (by omega)) ?_
      rintro _ ⟨N, j, rfl, hN, hq1, hq2⟩
      replace j1 : p ≤ j := by omega
      replace j2 : j ≤ p + 40 := by omega
      clear hq1 hq2
      by_cases hn : N.size < 900
      case' neg =>
        (have zF := hn; (refine go0 ?_ <;> repeat (refine dx ?_; refine go0 ?_)) <;> first | exact nop | clear zF)
        have key : ∃ nf : Str → Int → Fetch, ∀ nn q, okStr nn → (okFetch (nf nn q) ∧ liesQ (nf nn q).Q = 0) ∧ Does Tryz.prog 177 [.ag (storeC false ⟨w, R, [], []⟩), .sc (.string nn), .sc (.int .i64 q)] (.ag (fetchC true (nf nn q)), []) := ⟨newF ⟨w, R, [], []⟩, fun nn q h => ⟨⟨newF_ok (nil_okS w R) h, newF_lies⟩, specNewFetch _ nn q (nil_okS w R) h⟩⟩
        clear hn
      case' pos =>
        (have zF := hn; (refine go0 ?_ <;> repeat (refine dx ?_; refine go0 ?_)) <;> first | exact nop | clear zF)
        refine ex_call (specSave ⟨w, R, [], []⟩ N 1 (nil_okS w R) (by omega)) ?_
        have so := save_ok (t := N) (now := 1) (nil_okS w R)
        generalize saveF ⟨w, R, [], []⟩ N 1 = A at *
        obtain ⟨x, kk⟩ := A
        simp only at so
        by_cases hk : kk = 0
        case' neg =>
          (have zF := hk; (refine go0 ?_ <;> repeat (refine dx ?_; refine go0 ?_)) <;> first | exact nop | clear zF)
          have key : ∃ nf : Str → Int → Fetch, ∀ nn q, okStr nn → (okFetch (nf nn q) ∧ liesQ (nf nn q).Q = 0) ∧ Does Tryz.prog 177 [.ag (storeC false ⟨w, R, [], []⟩), .sc (.string nn), .sc (.int .i64 q)] (.ag (fetchC true (nf nn q)), []) := ⟨newF ⟨w, R, [], []⟩, fun nn q h => ⟨⟨newF_ok (nil_okS w R) h, newF_lies⟩, specNewFetch _ nn q (nil_okS w R) h⟩⟩
          clear hn hk so
        case' pos =>
          subst hk
          ((refine go0 ?_ <;> repeat (refine dx ?_; refine go0 ?_)) <;> try exact nop)
          have key : ∃ nf : Str → Int → Fetch, ∀ nn q, okStr nn → (okFetch (nf nn q) ∧ liesQ (nf nn q).Q = 0) ∧ Does Tryz.prog 177 [.ag (storeC false x), .sc (.string nn), .sc (.int .i64 q)] (.ag (fetchC true (nf nn q)), []) := ⟨newF x, fun nn q h => ⟨⟨newF_ok so h, newF_lies⟩, specNewFetch _ nn q so h⟩⟩
          clear hn
  all_goals
    obtain ⟨nf, key⟩ := key
    obtain ⟨n0, hn0, hd⟩ := pick_nat c j 4 hc (by omega) (by omega) (by omega) (by omega)
    refine ex_call hd ?_
    clear hd
    obtain ⟨⟨fo, fl⟩, dN⟩ := key (nameS T w) (1 + (n0 : Int)) (by have := nameS_le T w; show _ ≤ 2097152; omega)
    generalize nf (nameS T w) (1 + (n0 : Int)) = f at fo fl dN
    ((refine go1 ?_ <;> repeat (refine dx ?_; refine go1 ?_)) <;> try exact nop)
    refine ex_call (specName T w (by omega)) ?_
    ((refine go0 ?_ <;> repeat (refine dx ?_; refine go0 ?_)) <;> try exact nop)
    refine ex_call dN ?_
    ((refine go0 ?_ <;> repeat (refine dx ?_; refine go0 ?_)) <;> try exact nop)
    clear dN key nf
    obtain ⟨f1, f2, f3⟩ := fo
    have y1 := f2.1.1
    have y2 := f2.2.1
    have y3 := f3.1
    refine ex_loop (α := Nat × List Store × Int) (fun q => q.1 ≤ n0 + 1 ∧ q.2.1.length = q.1 ∧ okL okStore q.2.1 ∧ p ≤ q.2.2 ∧ q.2.2 ≤ p + 41 + 40 * q.1)
      (fun q => ⟨[(0, .pt 1 0 0), (2, .pt 2 0 0), (5, .sc (.int .i64 w)), (6, .sc (.string T)), (11, .sc (.int .i64 (1 + (n0 : Int)))), (12, .pt 6 0 0), (13, .ow 10 0 q.2.1.length), (14, .sc (.int .i64 q.1))],
        [(1, .bx (rdC1 c q.2.2)), (2, .bx [.sc (.string ⟨#[]⟩), .sc (.int .i64 0), .sc (.bool false), .sc (.int .i64 0), .sc (.int .i64 0), .ow 3 0 0, .ow 4 0 0, .ow 5 0 0]), (3, .ar 2 0 []), (4, .ar 1 0 []), (5, .ar 5 0 []),
         (6, .bx [.sc (.string f.nm), .sc (.int .i64 f.now), .sc (.bool f.full), .sc (.int .i64 f.st.w), .sc (.int .i64 f.st.r), .ow 7 0 f.st.I.length, .ow 8 0 f.st.P.length, .ow 9 0 f.Q.length]), (7, .ar 2 0 (f.st.I.map (itemC true))), (8, .ar 1 0 (f.st.P.map strR)), (9, .ar 5 0 (f.Q.map (peerC true))), (10, .ar 4 0 (q.2.1.map (storeC true)))], 11⟩) (fun q => n0 + 1 - q.1) (0, [], j + 1) ⟨Nat.zero_le _, rfl, ⟨Nat.zero_le _, fun a h => by cases h⟩, by show p ≤ j + 1; omega, by show j + 1 ≤ p + 41 + 40 * ((0 : Nat) : Int); omega⟩ ?_ ?_
    · ((refine go0 ?_) <;> try exact nop)
    rintro ⟨i, ss, z⟩ ⟨g1, g2, g3, g4, g5⟩ ih
    replace g1 : i ≤ n0 + 1 := g1
    replace g2 : ss.length = i := g2
    replace g3 : okL okStore ss := g3
    replace g4 : p ≤ z := g4
    replace g5 : z ≤ p + 41 + 40 * (i : Int) := g5
    by_cases h : i < n0 + 1
    case' neg =>
      ((refine go0 ?_ <;> repeat (refine dx ?_; refine go0 ?_)) <;> try exact nop)
      exact ⟨_, ⟨f, ss, T, z, rfl, ⟨f1, f2, f3⟩, g3, fl, by omega, by omega⟩, rfl⟩
    have key : ∀ s, okStore s → ∀ z' : Int, z ≤ z' → z' ≤ z + 40 → (fun q : Nat × List Store × Int => q.1 ≤ n0 + 1 ∧ q.2.1.length = q.1 ∧ okL okStore q.2.1 ∧ p ≤ q.2.2 ∧ q.2.2 ≤ p + 41 + 40 * q.1) (i + 1, ss ++ [s], z') := fun s hs z' a b =>
      ⟨by show i + 1 ≤ n0 + 1; omega, by show (ss ++ [s]).length = i + 1; rw [List.length_append, List.length_singleton, g2], okL_app1 g3 (by omega) hs, by show p ≤ z'; omega, by show z' ≤ p + 41 + 40 * ((i + 1 : Nat) : Int); omega⟩
    obtain ⟨a, ha, hd⟩ := pick_nat c z 3 hc (by omega) (by omega) (by omega) (by omega)
    ((refine go0 ?_ <;> repeat (refine dx ?_; refine go0 ?_)) <;> try exact nop)
    refine ex_call hd ?_
    clear hd
    by_cases a0 : 0 < a
    · (have zF := a0; (refine go0 ?_ <;> repeat (refine dx ?_; refine go0 ?_)) <;> first | exact nop | clear zF)
      refine ex_call (specSave ⟨w, 60000, [], []⟩ T 0 (nil_okS w 60000) (by omega)) ?_
      have so := save_ok (t := T) (now := 0) (nil_okS w 60000)
      generalize saveF ⟨w, 60000, [], []⟩ T 0 = A at *
      obtain ⟨x, kk⟩ := A
      simp only at so
      by_cases hk : kk = 0
      · subst hk
        ((refine go0 ?_ <;> repeat (refine dx ?_; refine go0 ?_)) <;> try exact nop)
        refine ex_call (l4Copy x so) ?_
        ((refine go0 ?_ <;> repeat (refine dx ?_; refine go0 ?_)) <;> try exact nop)
        refine ih (i + 1, ss ++ [x], z + 1) _ (by show n0 + 1 - (i + 1) < n0 + 1 - i; omega) (key x so _ (by omega) (by omega)) ?_
        ((refine rF78_1 ?_) <;> try exact nop)
      · (have zF := hk; (refine go0 ?_ <;> repeat (refine dx ?_; refine go0 ?_)) <;> first | exact nop | clear zF)
        refine ex_call (l4Copy ⟨w, 60000, [], []⟩ (nil_okS w 60000)) ?_
        ((refine go0 ?_ <;> repeat (refine dx ?_; refine go0 ?_)) <;> try exact nop)
        refine ih (i + 1, ss ++ [⟨w, 60000, [], []⟩], z + 1) _ (by show n0 + 1 - (i + 1) < n0 + 1 - i; omega) (key _ (nil_okS w 60000) _ (by omega) (by omega)) ?_
        ((refine rF78_1 ?_) <;> try exact nop)
    obtain ⟨b, hb, hd⟩ := pick_nat c (z + 1) 2 hc (by omega) (by omega) (by omega) (by omega)
    (have zF := a0; (refine go0 ?_ <;> repeat (refine dx ?_; refine go0 ?_)) <;> first | exact nop | clear zF)
    refine ex_call hd ?_
    clear hd
    by_cases b0 : b = 0
    · subst b0
      ((refine go0 ?_ <;> repeat (refine dx ?_; refine go0 ?_)) <;> try exact nop)
      refine ex_some (l2Near c (z + 1 + 1) T hc (by omega) (by omega) (by omega)) ?_
      rintro _ ⟨N, z2, rfl, hN, hq1, hq2⟩
      ((refine go0 ?_ <;> repeat (refine dx ?_; refine go0 ?_)) <;> try exact nop)
      refine ex_call (specSave ⟨w, 60000, [], []⟩ N 0 (nil_okS w 60000) (by omega)) ?_
      have so := save_ok (t := N) (now := 0) (nil_okS w 60000)
      generalize saveF ⟨w, 60000, [], []⟩ N 0 = A at *
      obtain ⟨x, kk⟩ := A
      simp only at so
      by_cases hk : kk = 0
      · subst hk
        ((refine go0 ?_ <;> repeat (refine dx ?_; refine go0 ?_)) <;> try exact nop)
        refine ex_call (l4Copy x so) ?_
        ((refine go0 ?_ <;> repeat (refine dx ?_; refine go0 ?_)) <;> try exact nop)
        refine ih (i + 1, ss ++ [x], z2) _ (by show n0 + 1 - (i + 1) < n0 + 1 - i; omega) (key x so _ (by omega) (by omega)) ?_
        ((refine rF78_1 ?_) <;> try exact nop)
      · (have zF := hk; (refine go0 ?_ <;> repeat (refine dx ?_; refine go0 ?_)) <;> first | exact nop | clear zF)
        refine ex_call (l4Copy ⟨w, 60000, [], []⟩ (nil_okS w 60000)) ?_
        ((refine go0 ?_ <;> repeat (refine dx ?_; refine go0 ?_)) <;> try exact nop)
        refine ih (i + 1, ss ++ [⟨w, 60000, [], []⟩], z2) _ (by show n0 + 1 - (i + 1) < n0 + 1 - i; omega) (key _ (nil_okS w 60000) _ (by omega) (by omega)) ?_
        ((refine rF78_1 ?_) <;> try exact nop)
    · (have zF := b0; (refine go0 ?_ <;> repeat (refine dx ?_; refine go0 ?_)) <;> first | exact nop | clear zF)
      refine ex_call (l4Copy ⟨w, 60000, [], []⟩ (nil_okS w 60000)) ?_
      ((refine go0 ?_ <;> repeat (refine dx ?_; refine go0 ?_)) <;> try exact nop)
      refine ih (i + 1, ss ++ [⟨w, 60000, [], []⟩], z + 1 + 1) _ (by show n0 + 1 - (i + 1) < n0 + 1 - i; omega) (key _ (nil_okS w 60000) _ (by omega) (by omega)) ?_
      ((refine rF78_1 ?_) <;> try exact nop)
end Go.Proofs.YtkkmgjhfjhcdmaaGreatDoor.Mx

namespace Go.Proofs.YtkkmgjhfjhcdmaaGreatDoor.Mx
open Go Go.RowKit Go.Proofs
theorem rF79_0 {p q : Prop} (k : q) (h : p = q := by conv => lhs; simp -dsimp (disch := first | omega | (simp only [zF, wr_id, lrep3, LR] <;> omega) | fail) only [push_cast, zF, wr_id, lrep3, simprocAttr, -Nat.reduceSubDiff]) : p := h.mpr k
def evR (c : List Int) (w : World) (p K : Int) (r : Ans) : Prop := ∃ (e : Evt) (p' : Int), r = (.ag (evtC true e), [some (.pb true (rdC1 c p')), some (.ag (worldC true w))]) ∧ okEvt e ∧ p ≤ p' ∧ p' ≤ p + K
theorem em_okM (a b : Int) (h : Bool) : okMessage ⟨a, b, em, h, em⟩ := ⟨by show em.size ≤ 2097152; decide, by show em.size ≤ 2097152; decide⟩
def E148 : Env := { T := T0, kp := look [(0, [0, 1]), (1, [0, 1, 3, 4]), (2, [0, 1, 3, 4, 5]), (3, [0, 1, 3, 4, 5, 6]), (4, [0, 1, 3, 4, 5]), (5, [0, 1, 3, 4, 5, 6]), (6, [0, 1, 3, 4, 5, 6, 7]), (7, [0, 1, 4]), (8, [0, 1, 3, 4, 5, 6, 7]), (9, [0, 1, 4, 6]), (10, [0, 1, 3, 4, 5, 6, 7]), (11, [0, 1, 4, 6]), (12, [0, 1, 3, 4, 5, 6, 7]), (13, [0, 1, 4, 6]), (14, [0, 1, 3, 4, 5, 7]), (15, [0, 1, 4, 7]), (16, [0, 1, 3, 4, 5, 7]), (17, [0, 1, 4, 7]), (18, [0, 1, 3, 4, 5, 7]), (19, [0, 1, 4, 7]), (20, [0, 1, 3, 4, 7]), (21, [0, 1, 3, 4, 7, 8]), (22, [0, 1, 3, 4, 7, 8]), (23, [0, 1, 3, 4, 8]), (24, [0, 1, 3, 4, 8]), (25, [0, 1, 3, 4, 8]), (26, [0, 1, 4, 8])], md := look3 [(1, 1, [1, 0]), (2, 1, [1, 0]), (3, 1, [1, 0]), (5, 4, [1, 0]), (19, 2, [1, 0]), (20, 2, [1, 0]), (20, 5, [1]), (20, 8, [1, 0]), (23, 1, [1, 0])] }
attribute [local push_cast] E148
set_option maxRecDepth 20000 in
set_option maxHeartbeats 8000000 in
theorem l8Event (c : List Int) (p : Int) (w : World) (hc : okCode c) (hp : 0 ≤ p) (hp2 : p ≤ 9000) (hw : okWorld w) (hu1 : 0 < w.up.length) (hu2 : w.up.length ≤ 5) (hq : w.f.Q.length ≤ 5) (hfw : 1 ≤ w.f.st.w ∧ w.f.st.w ≤ 8) :
    ∃ r, evR c w p 20 r ∧ Does Tryz.prog 148 [.pb true (rdC1 c p), .ag (worldC true w)] r := by
  refine does_ex (E := E148) (rs := [.cell 4 170]) (lent := [true, true]) tOk rfl Tryz.func148 rfl (by decide) rfl rfl (Nat.le_of_ble_eq_true rfl) (Nat.le_of_ble_eq_true rfl) ?_
  obtain ⟨y1, y2, y3, y4, y5, y6⟩ := okW_b hw
  obtain ⟨k, hk, hd⟩ := pick_nat c p 40 hc hp (by omega) (by omega) (by omega)
  ((refine go0 ?_ <;> repeat (refine dx ?_; refine go0 ?_)) <;> try exact nop)
  refine ex_call hd ?_
  clear hd
  obtain ⟨a, ha, hd⟩ := pick_nat c (p + 1) 8 hc (by omega) (by omega) (by omega) (by omega)
  ((refine go0 ?_ <;> repeat (refine dx ?_; refine go0 ?_)) <;> try exact nop)
  refine ex_call hd ?_
  clear hd
  obtain ⟨b, hb, hd⟩ := pick_nat c (p + 1 + 1) 2 hc (by omega) (by omega) (by omega) (by omega)
  ((refine go0 ?_ <;> repeat (refine dx ?_; refine go0 ?_)) <;> try exact nop)
  refine ex_call hd ?_
  clear hd
  obtain ⟨d, hd0, hd⟩ := pick_nat c (p + 1 + 1 + 1) w.up.length hc (by omega) (by omega) (by omega) (by omega)
  by_cases b0 : b = 0
  case' pos =>
    subst b0
    ((refine go0 ?_ <;> repeat (refine dx ?_; refine go0 ?_)) <;> try exact nop)
  case' neg =>
    (have zF := b0; (refine go0 ?_ <;> repeat (refine dx ?_; refine go0 ?_)) <;> first | exact nop | clear zF)
  all_goals
    refine ex_call hd ?_
    clear hd
    by_cases k1 : k < 10
    · ((refine go1 ?_ <;> repeat (refine dx ?_; refine go1 ?_)) <;> try exact nop)
      exact ⟨_, ⟨⟨1, 0, 0, ⟨0, 0, em, false, em⟩⟩, _, rfl, em_okM .., by omega, by omega⟩, rfl⟩
    by_cases k2 : k < 26
    · (have zF := k1; (refine go1 ?_ <;> repeat (refine dx ?_; refine go1 ?_)) <;> first | exact nop | clear zF)
      exact ⟨_, ⟨⟨2, _, 0, ⟨0, 0, em, false, em⟩⟩, _, rfl, em_okM .., by omega, by omega⟩, rfl⟩
    by_cases k3 : k < 28
    · (have zF := an k1 k2; (refine go1 ?_ <;> repeat (refine dx ?_; refine go1 ?_)) <;> first | exact nop | clear zF)
      exact ⟨_, ⟨⟨3, _, 0, ⟨0, 0, em, false, em⟩⟩, _, rfl, em_okM .., by omega, by omega⟩, rfl⟩
    by_cases k4 : k < 30
    · (have zF := an k1 (an k2 k3); (refine go1 ?_ <;> repeat (refine dx ?_; refine go1 ?_)) <;> first | exact nop | clear zF)
      exact ⟨_, ⟨⟨4, _, 0, ⟨0, 0, em, false, em⟩⟩, _, rfl, em_okM .., by omega, by omega⟩, rfl⟩
    by_cases k5 : k = 30
    · subst k5
      ((refine go1 ?_ <;> repeat (refine dx ?_; refine go1 ?_)) <;> try exact nop)
      exact ⟨_, ⟨⟨6, _, 0, ⟨0, 0, em, false, em⟩⟩, _, rfl, em_okM .., by omega, by omega⟩, rfl⟩
    by_cases k6 : k < 33
    · (have zF := an k1 (an k2 (an k3 (an k4 k5))); (refine go1 ?_ <;> repeat (refine dx ?_; refine go1 ?_)) <;> first | exact nop | clear zF)
      exact ⟨_, ⟨⟨7, _, 0, ⟨0, 0, em, false, em⟩⟩, _, rfl, em_okM .., by omega, by omega⟩, rfl⟩
    by_cases k7 : k = 33
    · subst k7
      obtain ⟨g, hg, hd⟩ := pick_nat c (p + 1 + 1 + 1 + 1) 6 hc (by omega) (by omega) (by omega) (by omega)
      ((refine go1 ?_ <;> repeat (refine dx ?_; refine go1 ?_)) <;> try exact nop)
      refine ex_call hd ?_
      clear hd
      ((refine go0 ?_ <;> repeat (refine dx ?_; refine go0 ?_)) <;> try exact nop)
      exact ⟨_, ⟨⟨8, _, _, ⟨0, 0, em, false, em⟩⟩, _, rfl, em_okM .., by omega, by omega⟩, rfl⟩
    obtain ⟨g, hg, hd⟩ := pick_nat c (p + 1 + 1 + 1 + 1) 4 hc (by omega) (by omega) (by omega) (by omega)
    (have zF := an k1 (an k2 (an k3 (an k4 (an k5 (an k6 k7))))); (refine go1 ?_ <;> repeat (refine dx ?_; refine go1 ?_)) <;> first | exact nop | clear zF)
    refine ex_call hd ?_
    clear hd
    ((refine go1 ?_ <;> repeat (refine dx ?_; refine go1 ?_)) <;> try exact nop)
    refine ex_some (l2Thing c (p + 1 + 1 + 1 + 1 + 1) hc (by omega) (by omega)) ?_
    rintro _ ⟨t, j, rfl, ht, hq1, hq2⟩
    obtain ⟨h3, hh3, hd⟩ := pick_nat c j 3 hc (by omega) (by omega) (by omega) (by omega)
    ((refine rF79_0 ?_ <;> repeat (refine dx ?_; refine rF79_0 ?_)) <;> try exact nop)
    refine ex_call hd ?_
    clear hd
    have hr : ∃ X : Str, X.size ≤ 10000 ∧ ([[AV.sc (.string ⟨#[108, 105, 101]⟩)], [.sc (.string ⟨#[]⟩)], [.sc (.string t)]] : List Row)[h3]? = some [.sc (.string X)] := by
      rcases (show h3 = 0 ∨ h3 = 1 ∨ h3 = 2 by omega) with rfl | rfl | rfl
      · exact ⟨_, by decide, rfl⟩
      · exact ⟨_, by decide, rfl⟩
      · exact ⟨_, ht, rfl⟩
    obtain ⟨X, hX, hR⟩ := hr
    obtain ⟨h6, hh6, hd⟩ := pick_nat c (j + 1) 6 hc (by omega) (by omega) (by omega) (by omega)
    by_cases hqd : 1 + (d : Int) ≤ w.f.Q.length
    case' pos =>
      obtain ⟨q, hqq⟩ := ex_get (show d < w.f.Q.length by omega)
      have hqo : q.ask.size ≤ 2097152 := (hw.1.2.2.2 q (List.mem_of_getElem? hqq)).1
      have ed : 1 + (d : Int) - 1 = d := by omega
      (have zF := an hR (an hqq ed); (refine rF79_0 ?_ <;> repeat (refine dx ?_; refine rF79_0 ?_)) <;> first | exact nop | clear zF)
    case' neg =>
      (have zF := hR; (refine rF79_0 ?_ <;> repeat (refine dx ?_; refine rF79_0 ?_)) <;> first | exact nop | clear zF)
    all_goals
      refine ex_call hd ?_
      clear hd
      by_cases h0 : h6 = 0
      · subst h0
        ((refine go0 ?_ <;> repeat (refine dx ?_; refine go0 ?_)) <;> try exact nop)
        refine ex_call (specFormList ⟨3, []⟩ w.f.st.w (Nat.zero_le _)) ?_
        have hfl := formL_len (l := ⟨3, []⟩) (w := w.f.st.w)
        ((refine go0 ?_ <;> repeat (refine dx ?_; refine go0 ?_)) <;> try exact nop)
        exact ⟨_, ⟨⟨5, 0, 0, ⟨_, 0, w.f.nm, _, formL ⟨3, []⟩ w.f.st.w⟩⟩, _, rfl, ⟨hw.1.1, by show (formL ⟨3, []⟩ w.f.st.w).size ≤ 2097152; omega⟩, by omega, by omega⟩, rfl⟩
      · (have zF := h0; (refine go0 ?_ <;> repeat (refine dx ?_; refine go0 ?_)) <;> first | exact nop | clear zF)
        first
        | exact ⟨_, ⟨⟨5, 0, 0, ⟨_, 0, q.ask, _, X⟩⟩, _, rfl, ⟨hqo, by show X.size ≤ 2097152; omega⟩, by omega, by omega⟩, rfl⟩
        | exact ⟨_, ⟨⟨5, 0, 0, ⟨_, 0, em, _, X⟩⟩, _, rfl, ⟨by show em.size ≤ 2097152; decide, by show X.size ≤ 2097152; omega⟩, by omega, by omega⟩, rfl⟩
end Go.Proofs.YtkkmgjhfjhcdmaaGreatDoor.Mx

namespace Go.Proofs.YtkkmgjhfjhcdmaaGreatDoor.Mx
open Go Go.RowKit Go.Proofs
theorem rF17_0 {p q : Prop} (k : q) (h : p = q := by conv => lhs; simp -dsimp (disch := first | omega | (simp only [zF, zW, LR] <;> omega) | fail) only [push_cast, zF, zW, simprocAttr, -Nat.reduceSubDiff]) : p := h.mpr k
theorem rF17_1 {p q : Prop} (k : q) (h : p = q := by conv => lhs; simp -dsimp (disch := first | omega | (simp only [zF, List.take_length, zW, LR] <;> omega) | fail) only [push_cast, zF, List.take_length, zW, simprocAttr, -Nat.reduceSubDiff]) : p := h.mpr k
theorem rF17_2 {p q : Prop} (k : q) (h : p = q := by conv => lhs; simp -dsimp (disch := first | omega | (simp only [zF, List.take_zero, zW, LR] <;> omega) | fail) only [push_cast, zF, List.take_zero, zW, simprocAttr, -Nat.reduceSubDiff]) : p := h.mpr k
theorem rF17_3 {p q : Prop} (k : q) (h : p = q := by conv => lhs; simp -dsimp (disch := first | omega | (simp only [zF, wr_id, List.map_append, zW, LR] <;> omega) | fail) only [push_cast, zF, wr_id, List.map_append, zW, simprocAttr, -Nat.reduceSubDiff]) : p := h.mpr k
theorem ups (k : Nat) : List.replicate k true ++ [true] = List.replicate (k + 1) true := List.replicate_succ'.symm
def zW (k : Nat) : Row := [.sc (.string ⟨#[]⟩), .sc (.int .i64 0), .sc (.bool false), .sc (.int .i64 0), .sc (.int .i64 0), .ow k 0 0, .ow (k + 1) 0 0, .ow (k + 2) 0 0, .ow (k + 3) 0 0, .ow (k + 4) 0 0, .ow (k + 5) 0 0, .sc (.int .i64 0)]
def E146 : Env := { T := T0, kp := look [(0, [0, 1]), (1, [1, 2, 4]), (2, [4]), (3, [1, 2, 4]), (4, [1, 2, 4, 5]), (5, [1, 2, 4, 5, 6]), (6, [1, 2, 4, 5, 6]), (7, [1, 2, 4, 5, 6]), (8, [4]), (9, [1, 2, 4, 5, 6]), (10, [1, 2, 4, 5, 6]), (11, [4, 5])], dp := look2 [(7, [[], [], [0, 1], [0, 1, 2], [0, 1, 2, 3], [0, 1, 2, 3, 4], [0, 1, 2, 3, 4, 5], [0, 1, 2, 3, 4, 5, 6], [0, 1, 2, 3, 4, 5, 6], [0, 1, 2, 3, 4, 5, 6, 7, 8], [0, 1, 2, 3, 4, 5, 6, 7, 8, 9], [0, 1, 2, 3, 4, 5, 6, 7, 8, 9, 10], [0, 1, 2, 3, 4, 5, 6], [0, 1, 2, 3, 4, 5, 6, 12], [0, 1, 2, 3, 4, 5, 6, 12, 13], [0, 1, 2, 3, 4, 5, 6, 7, 8, 9, 10, 11, 12, 13, 14], [0, 1, 2, 3, 4, 5, 6, 7, 8, 9, 10, 11, 12, 13, 14, 15]]), (10, [[], [0], [], [], [2, 3], [2, 3, 4], [2, 3, 4, 5], [2, 3, 4, 5, 6], [0, 1, 2, 3, 4, 5, 6, 7], [0, 1, 2, 3, 4, 5, 6, 7, 8], [0, 1, 2, 3, 4, 5, 6, 7, 8, 9]])] }
attribute [local push_cast] E146
set_option maxRecDepth 20000 in
set_option maxHeartbeats 4000000 in
theorem specNewWorld (f : Fetch) (ss : List Store) (hf : okFetch f) (hs : okL okStore ss) : Does Tryz.prog 146 [.ag (fetchC false f), .sl false 4 (ss.map (storeC false))] (.ag (worldC true (newW f ss)), []) := by
  refine does_of (E := E146) (rs := [.cell 4 125]) (lent := []) tOk rfl Tryz.func146 rfl (by decide) rfl rfl (Nat.le_of_ble_eq_true rfl) (Nat.le_of_ble_eq_true rfl) ?_
  have hl := hf.2.2.1
  have hsl := hs.1
  obtain ⟨M, hM⟩ : ∃ M, M = newW f ss := ⟨_, rfl⟩
  rw [← hM]
  unfold newW at hM
  ((refine go0 ?_ <;> repeat (refine dr ?_; refine go0 ?_)) <;> try exact nop)
  refine callC (specValidFetch f hf) ?_
  cases c1 : validF f with
  | false =>
    rw [if_neg (by simp [c1])] at hM
    subst hM
    ((refine go0 ?_ <;> repeat (refine dr ?_; refine go0 ?_)) <;> try exact nop)
    rfl
  | true =>
  by_cases c2 : ss.length = f.Q.length
  rotate_left
  · rw [if_neg (by simp [c2])] at hM
    subst hM
    (have zF := c2; (refine go0 ?_ <;> repeat (refine dr ?_; refine go0 ?_)) <;> first | exact nop | clear zF)
    rfl
  have hQ : f.Q.length ≤ 5 := by
    unfold validF at c1
    simp only [Bool.and_eq_true] at c1
    have := c1.1.2
    unfold inB at this
    have := of_decide_eq_true this
    omega
  simp only [c1, c2, true_and] at hM
  rw [← c2] at hM
  (have zF := c2; (refine go0 ?_ <;> repeat (refine dr ?_; refine go0 ?_)) <;> first | exact nop | clear zF)
  refine callC (l7Copy f hf) ?_
  ((refine go0 ?_ <;> repeat (refine dr ?_; refine go0 ?_)) <;> try exact nop)
  refine loop_ind (α := Nat) (fun i => i ≤ ss.length ∧ M = if (ss.drop i).all (storeB f.st.w) = true then ⟨f, List.replicate ss.length true, ss, [], 0⟩ else emW)
    (fun i => ⟨[(1, .sl false 4 (ss.map (storeC false))), (2, .pt 1 0 0), (4, .pt 2 0 0), (5, .pt 9 0 0), (6, .sc (.int .i64 i))],
    [(1, .bx (fetchC false f)), (2, .bx (zW 3)), (3, .ar 2 0 []), (4, .ar 1 0 []), (5, .ar 5 0 []), (6, .ar 1 0 []), (7, .ar 4 0 []), (8, .ar 5 0 []),
     (9, .bx [.sc (.string f.nm), .sc (.int .i64 f.now), .sc (.bool f.full), .sc (.int .i64 f.st.w), .sc (.int .i64 f.st.r), .ow 10 0 f.st.I.length, .ow 11 0 f.st.P.length, .ow 12 0 f.Q.length, .ow 13 0 i, .ow 14 0 i, .ow 15 0 0, .sc (.int .i64 0)]),
     (10, .ar 2 0 (f.st.I.map (itemC true))), (11, .ar 1 0 (f.st.P.map strR)), (12, .ar 5 0 (f.Q.map (peerC true))), (13, .ar 1 0 ((List.replicate i true).map boolR)), (14, .ar 4 0 ((ss.take i).map (storeC true))), (15, .ar 5 0 [])], 16⟩) (fun i => ss.length - i) 0 ⟨Nat.zero_le _, hM⟩ ?_ ?_
  · ((refine rF17_2 ?_) <;> try exact nop)
  clear hM
  rintro i ⟨hi, hM⟩ ih
  by_cases h : i < ss.length
  · obtain ⟨s, hx⟩ := ex_get h
    have hs1 := hs.2 s (List.mem_of_getElem? hx)
    have hq := len_take_le ss hi
    have hst := take_step hx
    rw [all_drop hx] at hM
    (have zF := hx; (refine go0 ?_ <;> repeat (refine dr ?_; refine go0 ?_)) <;> first | exact nop | clear zF)
    refine callC (specValidStore s hs1) ?_
    cases d1 : validSt s with
    | false =>
      rw [show storeB f.st.w s = false by simp [storeB, d1], Bool.false_and, if_neg (by simp)] at hM
      subst hM
      ((refine rF17_0 ?_ <;> repeat (refine dr ?_; refine rF17_0 ?_)) <;> try exact nop)
      rfl
    | true =>
    by_cases d2 : s.w = f.st.w
    rotate_left
    · rw [show storeB f.st.w s = false by simp [storeB, d2], Bool.false_and, if_neg (by simp)] at hM
      subst hM
      (have zF := an hx d2; (refine rF17_0 ?_ <;> repeat (refine dr ?_; refine rF17_0 ?_)) <;> first | exact nop | clear zF)
      rfl
    rw [show storeB f.st.w s = true by simp [storeB, d1, d2], Bool.true_and] at hM
    have d2 := decide_eq_true d2
    (have zF := an hx (an d2 hq); (refine go0 ?_ <;> repeat (refine dr ?_; refine go0 ?_)) <;> first | exact nop | clear zF)
    refine callC (l4Copy s hs1) ?_
    (have zF := an hx hq; (refine go0 ?_ <;> repeat (refine dr ?_; refine go0 ?_)) <;> first | exact nop | clear zF)
    refine ih (i + 1) _ (by omega) ⟨h, hM⟩ ?_
    rw [hst, ← ups i]
    ((refine rF17_3 ?_) <;> try exact nop)
  · have hi : i = ss.length := by omega
    subst hi
    rw [List.drop_eq_nil_of_le (by omega), List.all_nil, if_pos rfl] at hM
    subst hM
    ((refine rF17_1 ?_ <;> repeat (refine dr ?_; refine rF17_1 ?_)) <;> try exact nop)
end Go.Proofs.YtkkmgjhfjhcdmaaGreatDoor.Mx

namespace Go.Proofs.YtkkmgjhfjhcdmaaGreatDoor.Mx
open Go Go.RowKit Go.Proofs
def wlW (w : World) : Prop := okWorld w ∧ (w = emW ∨ goodW w ∧ wasteW w ∧ 1 ≤ w.up.length)
def wlR (c : List Int) (p K : Int) (r : Ans) : Prop := ∃ (w : World) (p' : Int), r = (.ag (worldC true w), [some (.pb true (rdC1 c p'))]) ∧ wlW w ∧ p ≤ p' ∧ p' ≤ p + K
theorem newW_okW {f : Fetch} {ss : List Store} (hf : okFetch f) (hs : okL okStore ss) : okWorld (newW f ss) := by
  unfold newW
  split
  · refine ⟨hf, ⟨by show (List.replicate _ _).length ≤ _; rw [List.length_replicate]; exact hs.1, fun a h => trivial⟩, hs, ⟨Nat.zero_le _, fun a h => by cases h⟩⟩
  · exact ⟨emFok, ⟨Nat.zero_le _, fun a h => by cases h⟩, ⟨Nat.zero_le _, fun a h => by cases h⟩, ⟨Nat.zero_le _, fun a h => by cases h⟩⟩
theorem up_len {w : World} (h : goodW w) : 1 ≤ w.up.length ∧ w.up.length ≤ 5 := by
  have := (validF_up h.1).2.2.2.1
  rw [h.2.1]
  exact this
def E104 : Env := { T := T0, kp := look [(0, [0]), (1, [0, 2]), (2, [0, 2, 3, 4]), (3, [0, 2, 6]), (4, [0, 2, 6]), (5, [0, 2, 6]), (6, [0, 2, 6, 7]), (7, [0, 2, 6, 7]), (8, [0, 2, 6, 7]), (9, [0, 2, 6])], dp := look2 [(8, [[], [], [], [1, 2], [0, 1, 2, 3], [0, 1, 2, 3, 4]])], md := look3 [(1, 1, [1, 0, 0]), (5, 1, [1, 0]), (8, 3, [1, 1]), (8, 4, [2, 0])] }
attribute [local push_cast] E104
set_option maxRecDepth 20000 in
set_option maxHeartbeats 8000000 in
theorem l8Reached (c : List Int) (p : Int) (hc : okCode c) (hp : 0 ≤ p) (hp2 : p ≤ 1000) : ∃ r, wlR c p 1500 r ∧ Does Tryz.prog 104 [.pb true (rdC1 c p)] r := by
  refine does_ex (E := E104) (rs := [.cell 2 125]) (lent := [true]) tOk rfl Tryz.func104 rfl (by decide) rfl rfl (Nat.le_of_ble_eq_true rfl) (Nat.le_of_ble_eq_true rfl) ?_
  ((refine go0 ?_ <;> repeat (refine dx ?_; refine go0 ?_)) <;> try exact nop)
  refine ex_some (l7Draw c p hc hp (by omega)) ?_
  rintro _ ⟨f, ss, t, i, rfl, hf, hs, hl, hi1, hi2⟩
  ((refine go0 ?_ <;> repeat (refine dx ?_; refine go0 ?_)) <;> try exact nop)
  refine ex_call (specNewWorld f ss hf hs) ?_
  have hwo := newW_okW hf hs
  have hwg := newW_good (f := f) (ss := ss)
  have hem : (newW f ss).up.length = 0 → newW f ss = emW := fun h => by
    unfold newW at h ⊢
    split
    · rename_i hc
      rw [if_pos hc] at h
      have h : (List.replicate ss.length true).length = 0 := h
      rw [List.length_replicate] at h
      have := (validF_up hc.1).2.2.2.1.1
      omega
    · rfl
  generalize newW f ss = w at *
  obtain ⟨y1, y2, y3, y4, y5, y6⟩ := okW_b hwo
  by_cases h0 : w.up.length = 0
  · have he := hem h0
    (have zF := h0; (refine go0 ?_ <;> repeat (refine dx ?_; refine go0 ?_)) <;> first | exact nop | clear zF)
    exact ⟨_, ⟨w, i, rfl, ⟨hwo, .inl he⟩, by omega, by omega⟩, rfl⟩
  obtain ⟨hg, hwa, hwf⟩ := hwg h0
  have hwst : wasteW w := by unfold wasteW; rw [hwa, hwf, hl]
  clear hem hwg
  obtain ⟨n, hn, hd⟩ := pick_nat c i 50 hc (by omega) (by omega) (by omega) (by omega)
  (have zF := h0; (refine go0 ?_ <;> repeat (refine dx ?_; refine go0 ?_)) <;> first | exact nop | clear zF)
  refine ex_call hd ?_
  clear hd
  ((refine go0 ?_ <;> repeat (refine dx ?_; refine go0 ?_)) <;> try exact nop)
  refine ex_loop (α := Nat × World × Int) (fun q => q.1 ≤ n ∧ okWorld q.2.1 ∧ goodW q.2.1 ∧ wasteW q.2.1 ∧ p ≤ q.2.2 ∧ q.2.2 + 20 * q.1 ≤ i + 1 + 20 * n)
    (fun q => ⟨[(0, .pt 1 0 0), (2, .pt 2 0 0), (6, .pt 9 0 0), (7, .sc (.int .i64 q.1))], [(1, .bx (rdC1 c q.2.2)), (2, .bx [.sc (.string ⟨#[]⟩), .sc (.int .i64 0), .sc (.bool false), .sc (.int .i64 0), .sc (.int .i64 0), .ow 3 0 0, .ow 4 0 0, .ow 5 0 0, .ow 6 0 0, .ow 7 0 0, .ow 8 0 0, .sc (.int .i64 0)]), (3, .ar 2 0 []), (4, .ar 1 0 []), (5, .ar 5 0 []), (6, .ar 1 0 []), (7, .ar 4 0 []), (8, .ar 5 0 []), (9, .bx [.sc (.string q.2.1.f.nm), .sc (.int .i64 q.2.1.f.now), .sc (.bool q.2.1.f.full), .sc (.int .i64 q.2.1.f.st.w), .sc (.int .i64 q.2.1.f.st.r), .ow 10 0 q.2.1.f.st.I.length, .ow 11 0 q.2.1.f.st.P.length, .ow 12 0 q.2.1.f.Q.length, .ow 13 0 q.2.1.up.length, .ow 14 0 q.2.1.ss.length, .ow 15 0 q.2.1.fl.length, .sc (.int .i64 q.2.1.wa)]), (10, .ar 2 0 (q.2.1.f.st.I.map (itemC true))), (11, .ar 1 0 (q.2.1.f.st.P.map strR)), (12, .ar 5 0 (q.2.1.f.Q.map (peerC true))), (13, .ar 1 0 (q.2.1.up.map boolR)), (14, .ar 4 0 (q.2.1.ss.map (storeC true))), (15, .ar 5 0 (q.2.1.fl.map (messageC true)))], 16⟩) (fun q => q.1) (n, w, i + 1) ⟨Nat.le_refl _, hwo, hg, hwst, by show p ≤ i + 1; omega, by show i + 1 + 20 * (n : Int) ≤ i + 1 + 20 * n; omega⟩ ?_ ?_
  · ((refine go0 ?_) <;> try exact nop)
  clear hwst hg hwo y1 y2 y3 y4 y5 y6 h0 hwa hwf
  rintro ⟨k, x, z⟩ ⟨g1, g2, g3, g4, g5, g6⟩ ih
  replace g1 : k ≤ n := g1
  replace g2 : okWorld x := g2
  replace g3 : goodW x := g3
  replace g4 : wasteW x := g4
  replace g5 : p ≤ z := g5
  replace g6 : z + 20 * (k : Int) ≤ i + 1 + 20 * n := g6
  obtain ⟨y1, y2, y3, y4, y5, y6⟩ := okW_b g2
  have hu := up_len g3
  by_cases h : 0 < k
  case' neg =>
    (have zF := h; (refine go0 ?_ <;> repeat (refine dx ?_; refine go0 ?_)) <;> first | exact nop | clear zF)
    refine ex_call (l8Copy x g2) ?_
    ((refine go0 ?_ <;> repeat (refine dx ?_; refine go0 ?_)) <;> try exact nop)
    exact ⟨_, ⟨x, z, rfl, ⟨g2, .inr ⟨g3, g4, hu.1⟩⟩, by omega, by omega⟩, rfl⟩
  have hq := (validF_up g3.1).2.2.2.1.2
  obtain ⟨k', hk'⟩ : ∃ k' : Nat, k' + 1 = k := ⟨k - 1, by omega⟩
  have ek : ((k : Int) - 1) = (k' : Int) := by omega
  (have zF := h; (refine go0 ?_ <;> repeat (refine dx ?_; refine go0 ?_)) <;> first | exact nop | clear zF)
  refine ex_some (l8Event c z x hc (by omega) (by omega) g2 (by omega) (by omega) hq (width8 (validF_up g3.1).1)) ?_
  rintro _ ⟨e, z2, rfl, he, hq1, hq2⟩
  have hd := l8Do x e g2 g3 he
  have n2 := do_okW g2 g3 he
  have n3 := do_valid e g3
  have n4 := do_waste e g3 g4
  generalize doW x e = y at *
  obtain ⟨z1, z2', z3, z4, z5, z6⟩ := okW_b n2
  ((refine go0 ?_ <;> repeat (refine dx ?_; refine go0 ?_)) <;> try exact nop)
  refine ex_call hd ?_
  ((refine go0 ?_ <;> repeat (refine dx ?_; refine go0 ?_)) <;> try exact nop)
  refine ih (k', y, z2) _ (by show k' < k; omega) ⟨by show k' ≤ n; omega, n2, n3, n4, by show p ≤ z2; omega, by show z2 + 20 * (k' : Int) ≤ i + 1 + 20 * n; omega⟩ ?_
  (have zF := ek; (refine go1 ?_) <;> first | exact nop | clear zF)
end Go.Proofs.YtkkmgjhfjhcdmaaGreatDoor.Mx

namespace Go.Proofs.YtkkmgjhfjhcdmaaGreatDoor.Mx
open Go Go.RowKit Go.Proofs
theorem rF82_0 {p q : Prop} (k : q) (h : p = q := by conv => lhs; simp -dsimp (disch := first | omega | (simp only [zF, lrep2, LR] <;> omega) | fail) only [push_cast, zF, lrep2, simprocAttr, -Nat.reduceSubDiff]) : p := h.mpr k
theorem rF82_1 {p q : Prop} (k : q) (h : p = q := by conv => lhs; simp -dsimp (disch := first | omega | (simp only [zF, lrep4, LR] <;> omega) | fail) only [push_cast, zF, lrep4, simprocAttr, -Nat.reduceSubDiff]) : p := h.mpr k
theorem rF82_2 {p q : Prop} (k : q) (h : p = q := by conv => lhs; simp -dsimp (disch := first | omega | (simp only [zF, lrep3, LR] <;> omega) | fail) only [push_cast, zF, lrep3, simprocAttr, -Nat.reduceSubDiff]) : p := h.mpr k
theorem rF82_3 {p q : Prop} (k : q) (h : p = q := by conv => lhs; simp -dsimp (disch := first | omega | (simp only [zF, lrep3, set_peer, LR] <;> omega) | fail) only [push_cast, zF, lrep3, set_peer, simprocAttr, -Nat.reduceSubDiff]) : p := h.mpr k
theorem rF82_4 {p q : Prop} (k : q) (h : p = q := by conv => lhs; simp -dsimp (disch := first | omega | (simp only [zF, lrep4, set_peer, LR] <;> omega) | fail) only [push_cast, zF, lrep4, set_peer, simprocAttr, -Nat.reduceSubDiff]) : p := h.mpr k
theorem rF82_5 {p q : Prop} (k : q) (h : p = q := by conv => lhs; simp -dsimp (disch := first | omega | (simp only [zF, lrep3, wr_id, LR] <;> omega) | fail) only [push_cast, zF, lrep3, wr_id, simprocAttr, -Nat.reduceSubDiff]) : p := h.mpr k
theorem rF82_6 {p q : Prop} (k : q) (h : p = q := by conv => lhs; simp -dsimp (disch := first | omega | (simp only [zF, lrep3, set_peer, wr_id, LR] <;> omega) | fail) only [push_cast, zF, lrep3, set_peer, wr_id, simprocAttr, -Nat.reduceSubDiff]) : p := h.mpr k
theorem rF82_7 {p q : Prop} (k : q) (h : p = q := by conv => lhs; simp -dsimp (disch := first | omega | (simp only [zF, lrep2, wr_id, List.getElem?_set_self, List.set_set, List.getD_eq_getElem?_getD, LR] <;> omega) | fail) only [push_cast, zF, lrep2, wr_id, List.getElem?_set_self, List.set_set, List.getD_eq_getElem?_getD, simprocAttr, -Nat.reduceSubDiff]) : p := h.mpr k
theorem rF82_8 {p q : Prop} (k : q) (h : p = q := by conv => lhs; simp -dsimp (disch := first | omega | (simp only [zF, seg_tk, wr_id, List.take_length, LR] <;> omega) | fail) only [push_cast, zF, seg_tk, wr_id, List.take_length, simprocAttr, -Nat.reduceSubDiff]) : p := h.mpr k
theorem rF82_9 {p q : Prop} (k : q) (h : p = q := by conv => lhs; simp -dsimp (disch := first | omega | (simp only [zF, wr_id, List.map_append, List.length_append, List.length_cons, List.length_nil, List.map_cons, List.map_nil, em, LR] <;> omega) | fail) only [push_cast, zF, wr_id, List.map_append, List.length_append, List.length_cons, List.length_nil, List.map_cons, List.map_nil, em, simprocAttr, -Nat.reduceSubDiff]) : p := h.mpr k
def flR (c : List Int) (f0 : Fetch) (p K : Int) (r : Ans) : Prop := ∃ (f : Fetch) (p' : Int), r = (.ag (fetchC true f), [some (.pb true (rdC1 c p')), some (.ag (fetchC true f0))]) ∧ okFetch f ∧ p ≤ p' ∧ p' ≤ p + K
theorem valid_gS {s : Store} (hs : okStore s) (hv : validSt s = true) : gS s := by
  obtain ⟨v1, v2, v3, v4, _⟩ := (valid_iff s).1 hv
  exact ⟨hs, v4, v1.1, v1.2, v3⟩
theorem okF_set {f : Fetch} {k : Nat} {q : Peer} (hf : okFetch f) (hq : okPeer q) : okFetch { f with Q := f.Q.set k q } := ⟨hf.1, hf.2.1, okL_set2 hf.2.2 hq⟩
theorem lrep4 {α : Type} (a : α) : List.replicate 4 a = [a, a, a, a] := rfl
def E106 : Env := { T := T0, kp := look [(0, [0, 1]), (1, [0, 1, 3, 4]), (2, [0, 1, 4, 5]), (3, [0, 1, 4, 5]), (4, [0, 1, 4, 5]), (5, [0, 1, 4, 5, 6]), (6, [0, 1, 4, 5]), (7, [0, 1, 4, 5]), (8, [0, 1, 4, 5]), (9, [0, 1, 4, 5, 6, 20]), (10, [0, 1, 4, 5]), (11, [0, 1, 4, 5, 6, 20]), (12, [0, 1, 4, 5]), (13, [0, 1, 4, 5, 6, 20]), (14, [0, 1, 4, 5]), (15, [0, 1, 4, 5, 6, 20]), (16, [0, 1, 4, 5, 6]), (17, [0, 1, 4, 5, 6, 20]), (18, [0, 1, 4, 5, 6]), (19, [0, 1, 4, 5, 6, 20]), (20, [0, 1, 4, 5, 6]), (21, [0, 1, 4, 5, 6, 20]), (22, [0, 1, 4, 5, 6]), (23, [0, 1, 4, 5, 6, 20]), (24, [0, 1, 4, 5, 6]), (25, [0, 1, 4, 5])], dp := look2 [(8, [[], [0], [], [2], [2, 3], [0, 1, 2, 3, 4], [0, 1, 2, 3, 4, 5], [0, 1, 2, 3, 4, 5, 6]]), (16, [[], [0], [], [], [], [4], [3, 4, 5], [3, 4, 5, 6], [0, 1, 2, 3, 4, 5, 6, 7], [0, 1, 2, 3, 4, 5, 6, 7, 8], [0, 1, 2, 3, 4, 5, 6, 7, 8, 9]]), (18, [[], [0], [], [], [], [4], [3, 4, 5], [3, 4, 5, 6], [0, 1, 2, 3, 4, 5, 6, 7], [0, 1, 2, 3, 4, 5, 6, 7, 8], [0, 1, 2, 3, 4, 5, 6, 7, 8, 9]]), (20, [[], [0], [], [], [3], [], [5], [5, 6], [3, 4, 5, 6, 7], [], [9], [3, 4, 5, 6, 7, 8, 9, 10], [3, 4, 5, 6, 7, 8, 9, 10, 11], [0, 1, 2, 3, 4, 5, 6, 7, 8, 9, 10, 11, 12], [0, 1, 2, 3, 4, 5, 6, 7, 8, 9, 10, 11, 12, 13], [0, 1, 2, 3, 4, 5, 6, 7, 8, 9, 10, 11, 12, 13, 14]]), (22, [[], [0], [], [], [3], [3, 4], [3, 4, 5], [3, 4, 5, 6], [3, 4, 5, 6, 7], [], [3, 4, 5, 6, 7, 9], [3, 4, 5, 6, 7, 8, 9, 10], [3, 4, 5, 6, 7, 8, 9, 10, 11], [0, 1, 2, 3, 4, 5, 6, 7, 8, 9, 10, 11, 12], [0, 1, 2, 3, 4, 5, 6, 7, 8, 9, 10, 11, 12, 13], [0, 1, 2, 3, 4, 5, 6, 7, 8, 9, 10, 11, 12, 13, 14]]), (24, [[], [0], [], [], [3], [], [3, 4, 5], [3, 4, 5, 6], [3, 4, 5, 6, 7], [], [9], [9, 10], [9, 10, 11], [9, 10, 11, 12], [9, 10, 11, 12, 13], [], [9, 10, 11, 12, 13, 15], [9, 10, 11, 12, 13, 14, 15, 16], [9, 10, 11, 12, 13, 14, 15, 16, 17], [9, 10, 11, 12, 13, 14, 15, 16, 17, 18], [3, 4, 5, 6, 7, 8, 9, 10, 11, 12, 13, 14, 15, 16, 17, 18, 19], [0, 1, 2, 3, 4, 5, 6, 7, 8, 9, 10, 11, 12, 13, 14, 15, 16, 17, 18, 19, 20], [0, 1, 2, 3, 4, 5, 6, 7, 8, 9, 10, 11, 12, 13, 14, 15, 16, 17, 18, 19, 20, 21], [0, 1, 2, 3, 4, 5, 6, 7, 8, 9, 10, 11, 12, 13, 14, 15, 16, 17, 18, 19, 20, 21, 22]])], md := look3 [(4, 4, [1, 0]), (5, 1, [1, 0]), (8, 3, [1, 0]), (10, 2, [1, 0]), (12, 2, [1, 0]), (14, 3, [1, 2]), (16, 5, [1, 0]), (18, 5, [1, 0]), (20, 10, [1, 0]), (22, 10, [1, 0]), (24, 16, [1, 0])] }
attribute [local push_cast] E106
set_option maxRecDepth 20000 in
set_option maxHeartbeats 8000000 in
theorem l7Spoil (c : List Int) (p : Int) (f : Fetch) (hc : okCode c) (hp : 0 ≤ p) (hp2 : p ≤ 8000) (hf : okFetch f) (hv : validF f = true) : ∃ r, flR c f p 40 r ∧ Does Tryz.prog 106 [.pb true (rdC1 c p), .ag (fetchC true f)] r := by
  refine does_ex (E := E106) (rs := [.cell 4 53]) (lent := [true, true]) tOk rfl Tryz.func106 rfl (by decide) rfl rfl (Nat.le_of_ble_eq_true rfl) (Nat.le_of_ble_eq_true rfl) ?_
  obtain ⟨v1, _, v3, v4, v5⟩ := validF_up hv
  have hw := width8 v1
  have y1 := hf.2.1.1.1
  have y2 := hf.2.1.2.1
  ((refine go0 ?_ <;> repeat (refine dx ?_; refine go0 ?_)) <;> try exact nop)
  refine ex_call (l7Copy f hf) ?_
  obtain ⟨kk, hkk, hd⟩ := pick_nat c p f.Q.length hc hp (by omega) (by omega) (by omega)
  obtain ⟨q, hq⟩ := ex_get (show kk < f.Q.length by omega)
  have hqo := hf.2.2.2 q (List.mem_of_getElem? hq)
  have hqN := hqo.2.1
  ((refine go0 ?_ <;> repeat (refine dx ?_; refine go0 ?_)) <;> try exact nop)
  refine ex_call hd ?_
  clear hd
  obtain ⟨k, hk, hd⟩ := pick_nat c (p + 1) 9 hc (by omega) (by omega) (by omega) (by omega)
  ((refine go0 ?_ <;> repeat (refine dx ?_; refine go0 ?_)) <;> try exact nop)
  refine ex_call hd ?_
  clear hd
  by_cases k0 : k = 0
  · subst k0
    obtain ⟨d, hd0, hd⟩ := pick_nat c (p + 1 + 1) 2 hc (by omega) (by omega) (by omega) (by omega)
    ((refine rF82_0 ?_ <;> repeat (refine dx ?_; refine rF82_0 ?_)) <;> try exact nop)
    refine ex_call hd ?_
    clear hd
    rcases (show d = 0 ∨ d = 1 by omega) with rfl | rfl
    · ((refine rF82_0 ?_ <;> repeat (refine dx ?_; refine rF82_0 ?_)) <;> try exact nop)
      exact ⟨_, ⟨{ f with nm := em }, _, rfl, ⟨by show em.size ≤ 2097152; decide, hf.2⟩, by omega, by omega⟩, rfl⟩
    · ((refine rF82_0 ?_ <;> repeat (refine dx ?_; refine rF82_0 ?_)) <;> try exact nop)
      exact ⟨_, ⟨{ f with nm := ⟨#[49, 50, 51, 52, 53, 54, 55, 56]⟩ }, _, rfl, ⟨by show (⟨#[49, 50, 51, 52, 53, 54, 55, 56]⟩ : ByteArray).size ≤ 2097152; decide, hf.2⟩, by omega, by omega⟩, rfl⟩
  by_cases k1 : k = 1
  · subst k1
    obtain ⟨d, hd0, hd⟩ := pick_nat c (p + 1 + 1) 4 hc (by omega) (by omega) (by omega) (by omega)
    ((refine rF82_1 ?_ <;> repeat (refine dx ?_; refine rF82_1 ?_)) <;> try exact nop)
    refine ex_call hd ?_
    clear hd
    have fin : ∀ z : Int, flR c f p 40 (.ag (fetchC true { f with now := z }), [some (.pb true (rdC1 c (p + 1 + 1 + 1))), some (.ag (fetchC true f))]) := fun z => ⟨_, p + 1 + 1 + 1, rfl, ⟨hf.1, hf.2⟩, by omega, by omega⟩
    rcases (show d = 0 ∨ d = 1 ∨ d = 2 ∨ d = 3 by omega) with rfl | rfl | rfl | rfl
    all_goals
      ((refine rF82_1 ?_ <;> repeat (refine dx ?_; refine rF82_1 ?_)) <;> try exact nop)
      first | exact ⟨_, fin (-1), rfl⟩ | exact ⟨_, fin 0, rfl⟩ | exact ⟨_, fin 1000000, rfl⟩ | exact ⟨_, fin 1000001, rfl⟩
  by_cases k2 : k = 2
  · subst k2
    ((refine go0 ?_ <;> repeat (refine dx ?_; refine go0 ?_)) <;> try exact nop)
    refine ex_some (l4Spoil c (p + 1 + 1) f.st hc (by omega) (by omega) (valid_gS hf.2.1 v1)) ?_
    rintro _ ⟨s, i, rfl, hs, hi1, hi2⟩
    have z1 := hs.1.1
    have z2 := hs.2.1
    ((refine go0 ?_ <;> repeat (refine dx ?_; refine go0 ?_)) <;> try exact nop)
    exact ⟨_, ⟨{ f with st := s }, _, rfl, ⟨hf.1, hs, hf.2.2⟩, by omega, by omega⟩, rfl⟩
  by_cases k3 : k = 3
  · subst k3
    obtain ⟨d, hd0, hd⟩ := pick_nat c (p + 1 + 1) 3 hc (by omega) (by omega) (by omega) (by omega)
    ((refine rF82_2 ?_ <;> repeat (refine dx ?_; refine rF82_2 ?_)) <;> try exact nop)
    refine ex_call hd ?_
    clear hd
    have fin : ∀ z : Int, flR c f p 40 (.ag (fetchC true { f with Q := f.Q.set kk ⟨z, q.wait, q.last, q.ask, q.N⟩ }), [some (.pb true (rdC1 c (p + 1 + 1 + 1))), some (.ag (fetchC true f))]) := fun z => ⟨_, p + 1 + 1 + 1, rfl, okF_set hf ⟨hqo.1, hqo.2⟩, by omega, by omega⟩
    rcases (show d = 0 ∨ d = 1 ∨ d = 2 by omega) with rfl | rfl | rfl
    all_goals
      (have zF := hq; (refine rF82_3 ?_ <;> repeat (refine dx ?_; refine rF82_3 ?_)) <;> first | exact nop | clear zF)
      exact ⟨_, fin _, rfl⟩
  by_cases k4 : k = 4
  · subst k4
    obtain ⟨d, hd0, hd⟩ := pick_nat c (p + 1 + 1) 4 hc (by omega) (by omega) (by omega) (by omega)
    ((refine rF82_1 ?_ <;> repeat (refine dx ?_; refine rF82_1 ?_)) <;> try exact nop)
    refine ex_call hd ?_
    clear hd
    have fin : ∀ z : Int, flR c f p 40 (.ag (fetchC true { f with Q := f.Q.set kk ⟨q.lies, z, q.last, q.ask, q.N⟩ }), [some (.pb true (rdC1 c (p + 1 + 1 + 1))), some (.ag (fetchC true f))]) := fun z => ⟨_, p + 1 + 1 + 1, rfl, okF_set hf ⟨hqo.1, hqo.2⟩, by omega, by omega⟩
    rcases (show d = 0 ∨ d = 1 ∨ d = 2 ∨ d = 3 by omega) with rfl | rfl | rfl | rfl
    all_goals
      (have zF := hq; (refine rF82_4 ?_ <;> repeat (refine dx ?_; refine rF82_4 ?_)) <;> first | exact nop | clear zF)
      exact ⟨_, fin _, rfl⟩
  by_cases k5 : k = 5
  · subst k5
    obtain ⟨d, hd0, hd⟩ := pick_nat c (p + 1 + 1) 3 hc (by omega) (by omega) (by omega) (by omega)
    ((refine rF82_5 ?_ <;> repeat (refine dx ?_; refine rF82_5 ?_)) <;> try exact nop)
    refine ex_call hd ?_
    clear hd
    have fin : ∀ z : Int, flR c f p 40 (.ag (fetchC true { f with Q := f.Q.set kk ⟨q.lies, q.wait, z, q.ask, q.N⟩ }), [some (.pb true (rdC1 c (p + 1 + 1 + 1))), some (.ag (fetchC true f))]) := fun z => ⟨_, p + 1 + 1 + 1, rfl, okF_set hf ⟨hqo.1, hqo.2⟩, by omega, by omega⟩
    rcases (show d = 0 ∨ d = 1 ∨ d = 2 by omega) with rfl | rfl | rfl
    all_goals
      (have zF := hq; (refine rF82_6 ?_ <;> repeat (refine dx ?_; refine rF82_6 ?_)) <;> first | exact nop | clear zF)
      exact ⟨_, fin _, rfl⟩
  obtain ⟨wn, hwn⟩ : ∃ wn : Nat, f.st.w.tmod 9 = wn ∧ wn ≤ 8 := by
    have := Int.tmod_eq_emod_of_nonneg (a := f.st.w) (b := 9) (by omega)
    exact ⟨(f.st.w % 9).toNat, by omega, by omega⟩
  by_cases k6 : k = 6
  · subst k6
    (have zF := hwn.1; (refine rF82_2 ?_ <;> repeat (refine dx ?_; refine rF82_2 ?_)) <;> first | exact nop | clear zF)
    refine ex_some (l1Many ⟨#[97]⟩ wn 8 (by omega) (by rw [sz1b]; omega) (by omega) (by rw [sz1b]; omega)) ?_
    rintro _ ⟨t, rfl, ht⟩
    obtain ⟨d, hd0, hd⟩ := pick_nat c (p + 1 + 1) 3 hc (by omega) (by omega) (by omega) (by omega)
    ((refine rF82_2 ?_ <;> repeat (refine dx ?_; refine rF82_2 ?_)) <;> try exact nop)
    refine ex_call hd ?_
    clear hd
    have fin : ∀ u : Str, u.size ≤ 8 → flR c f p 40 (.ag (fetchC true { f with Q := f.Q.set kk ⟨q.lies, q.wait, q.last, u, q.N⟩ }), [some (.pb true (rdC1 c (p + 1 + 1 + 1))), some (.ag (fetchC true f))]) := fun u hu =>
      ⟨_, p + 1 + 1 + 1, rfl, okF_set hf ⟨by show u.size ≤ 2097152; omega, hqo.2⟩, by omega, by omega⟩
    rcases (show d = 0 ∨ d = 1 ∨ d = 2 by omega) with rfl | rfl | rfl
    · (have zF := hq; (refine rF82_6 ?_ <;> repeat (refine dx ?_; refine rF82_6 ?_)) <;> first | exact nop | clear zF)
      exact ⟨_, fin em (by decide), rfl⟩
    · (have zF := hq; (refine rF82_6 ?_ <;> repeat (refine dx ?_; refine rF82_6 ?_)) <;> first | exact nop | clear zF)
      exact ⟨_, fin ⟨#[120]⟩ (by decide), rfl⟩
    · (have zF := hq; (refine rF82_6 ?_ <;> repeat (refine dx ?_; refine rF82_6 ?_)) <;> first | exact nop | clear zF)
      exact ⟨_, fin t (by omega), rfl⟩
  by_cases k7 : k = 7
  · subst k7
    (have zF := an hq hwn.1; (refine rF82_0 ?_ <;> repeat (refine dx ?_; refine rF82_0 ?_)) <;> first | exact nop | clear zF)
    refine ex_some (l1Many ⟨#[97]⟩ wn 8 (by omega) (by rw [sz1b]; omega) (by omega) (by rw [sz1b]; omega)) ?_
    rintro _ ⟨t, rfl, ht⟩
    obtain ⟨d, hd0, hd⟩ := pick_nat c (p + 1 + 1) 2 hc (by omega) (by omega) (by omega) (by omega)
    (have zF := hq; (refine rF82_0 ?_ <;> repeat (refine dx ?_; refine rF82_0 ?_)) <;> first | exact nop | clear zF)
    refine ex_call hd ?_
    clear hd
    have fin : ∀ u : Str, u.size ≤ 8 → flR c f p 40 (.ag (fetchC true { f with Q := f.Q.set kk ⟨q.lies, q.wait, q.last, q.ask, q.N ++ [u]⟩ }), [some (.pb true (rdC1 c (p + 1 + 1 + 1))), some (.ag (fetchC true f))]) := fun u hu =>
      ⟨_, p + 1 + 1 + 1, rfl, okF_set hf ⟨hqo.1, okL_snoc hqo.2 (by have := (peerB_up (v5 q (List.mem_of_getElem? hq))).2.2.2.1; omega) (by show u.size ≤ 2097152; omega)⟩, by omega, by omega⟩
    have hset := fun u : Str => set_peer f.Q kk q.lies q.wait q.last q.ask (q.N ++ [u])
    simp only [List.map_append, List.map_cons, List.map_nil, strR] at hset
    have hNl := (peerB_up (v5 q (List.mem_of_getElem? hq))).2.2.2.1
    rcases (show d = 0 ∨ d = 1 by omega) with rfl | rfl
    · (have zF := an hq hset; (refine rF82_7 ?_ <;> repeat (refine dx ?_; refine rF82_7 ?_)) <;> first | exact nop | clear zF)
      exact ⟨_, fin em (by decide), rfl⟩
    · (have zF := an hq hset; (refine rF82_7 ?_ <;> repeat (refine dx ?_; refine rF82_7 ?_)) <;> first | exact nop | clear zF)
      exact ⟨_, fin t (by omega), rfl⟩
  have k8 : k = 8 := by omega
  subst k8
  ((refine go0 ?_ <;> repeat (refine dx ?_; refine go0 ?_)) <;> try exact nop)
  refine ex_loop (α := List Peer) (fun Q => Q.length ≤ 6 ∧ okL okPeer Q)
    (fun Q => ⟨[(0, .pt 1 0 0), (1, .ag [.sc (.string f.nm), .sc (.int .i64 f.now), .sc (.bool f.full), .sc (.int .i64 f.st.w), .sc (.int .i64 f.st.r), .ow 2 0 f.st.I.length, .ow 3 0 f.st.P.length, .ow 4 0 f.Q.length]), (4, .pt 5 0 0), (5, .pt 9 0 0)],
      [(1, .bx (rdC1 c (p + 1 + 1))), (2, .ar 2 0 (f.st.I.map (itemC true))), (3, .ar 1 0 (f.st.P.map strR)), (4, .ar 5 0 (f.Q.map (peerC true))), (5, .bx [.sc (.string ⟨#[]⟩), .sc (.int .i64 0), .sc (.bool false), .sc (.int .i64 0), .sc (.int .i64 0), .ow 6 0 0, .ow 7 0 0, .ow 8 0 0]), (6, .ar 2 0 []), (7, .ar 1 0 []), (8, .ar 5 0 []),
       (9, .bx [.sc (.string f.nm), .sc (.int .i64 f.now), .sc (.bool f.full), .sc (.int .i64 f.st.w), .sc (.int .i64 f.st.r), .ow 10 0 f.st.I.length, .ow 11 0 f.st.P.length, .ow 12 0 Q.length]), (10, .ar 2 0 (f.st.I.map (itemC true))), (11, .ar 1 0 (f.st.P.map strR)), (12, .ar 5 0 (Q.map (peerC true)))], 13⟩) (fun Q => 6 - Q.length) f.Q ⟨by omega, hf.2.2⟩ ?_ ?_
  · ((refine go0 ?_) <;> try exact nop)
  rintro Q ⟨g1, g2⟩ ih
  by_cases h : Q.length < 6
  · (have zF := h; (refine go0 ?_ <;> repeat (refine dx ?_; refine go0 ?_)) <;> first | exact nop | clear zF)
    refine ih (Q ++ [⟨0, 0, -1, em, []⟩]) _ (by rw [List.length_append, List.length_singleton]; omega) ⟨by rw [List.length_append, List.length_singleton]; omega, okL_snoc g2 (by omega) ⟨by show em.size ≤ 2097152; decide, ⟨Nat.zero_le _, fun a h => by cases h⟩⟩⟩ ?_
    ((refine rF82_9 ?_) <;> try exact nop)
  · have g6 : Q.length = 6 := by omega
    obtain ⟨d, hd0, hd⟩ := pick_nat c (p + 1 + 1) 2 hc (by omega) (by omega) (by omega) (by omega)
    (have zF := h; (refine go0 ?_ <;> repeat (refine dx ?_; refine go0 ?_)) <;> first | exact nop | clear zF)
    refine ex_call hd ?_
    clear hd
    have e1 : ((5 : Int) + (d : Int)).toNat = 5 + d := by omega
    have tl : (Q.take (5 + d)).length = 5 + d := by rw [List.length_take]; omega
    (have zF := e1; (refine rF82_8 ?_ <;> repeat (refine dx ?_; refine rF82_8 ?_)) <;> first | exact nop | clear zF)
    exact ⟨_, ⟨{ f with Q := Q.take (5 + d) }, p + 1 + 1 + 1, rfl, ⟨hf.1, hf.2.1, ⟨by show (Q.take (5 + d)).length ≤ 2097152; omega, fun a ha => g2.2 a (List.mem_of_mem_take ha)⟩⟩, by omega, by omega⟩, rfl⟩
end Go.Proofs.YtkkmgjhfjhcdmaaGreatDoor.Mx

namespace Go.Proofs.YtkkmgjhfjhcdmaaGreatDoor.Mx
open Go Go.RowKit Go.Proofs
theorem rF83_0 {p q : Prop} (k : q) (h : p = q := by conv => lhs; simp -dsimp (disch := first | omega | (simp only [zF, sz1b, sz0e, LR] <;> omega) | fail) only [push_cast, zF, sz1b, sz0e, simprocAttr, -Nat.reduceSubDiff]) : p := h.mpr k
theorem rF83_1 {p q : Prop} (k : q) (h : p = q := by conv => lhs; simp -dsimp (disch := first | omega | (simp only [zF, sz1b, LR] <;> omega) | fail) only [push_cast, zF, sz1b, simprocAttr, -Nat.reduceSubDiff]) : p := h.mpr k
theorem rF83_2 {p q : Prop} (k : q) (h : p = q := by conv => lhs; simp -dsimp (disch := first | omega | (simp only [zF, lrep3, LR] <;> omega) | fail) only [push_cast, zF, lrep3, simprocAttr, -Nat.reduceSubDiff]) : p := h.mpr k
theorem rF83_3 {p q : Prop} (k : q) (h : p = q := by conv => lhs; simp -dsimp (disch := first | omega | (simp only [zF, sz8, LR] <;> omega) | fail) only [push_cast, zF, sz8, simprocAttr, -Nat.reduceSubDiff]) : p := h.mpr k
theorem rF83_4 {p q : Prop} (k : q) (h : p = q := by conv => lhs; simp -dsimp (disch := first | omega | (simp only [zF, eqs, LR] <;> omega) | fail) only [push_cast, zF, eqs, simprocAttr, -Nat.reduceSubDiff]) : p := h.mpr k
def ftR (r : Ans) : Prop := ∃ (f : Fetch) (m : Message), r = (.tu [.ag (fetchC true f), .ag (messageC true m)], []) ∧ okFetch f ∧ okMessage m
theorem emM_ok : okMessage ⟨0, 0, em, false, em⟩ := ⟨by show em.size ≤ 2097152; decide, by show em.size ≤ 2097152; decide⟩
theorem sz0e : (⟨#[]⟩ : ByteArray).size = 0 := rfl
theorem tmod_nat2 (a b : Nat) : (a : Int).tmod (b : Int) = ((a % b : Nat) : Int) := (Int.ofNat_tmod a b).symm
def E46 : Env := { T := T0, kp := look [(0, [0]), (1, [0, 2, 3]), (2, [2, 3, 4]), (3, [2, 3, 4, 5]), (4, [2, 3]), (5, [2, 3, 4, 5]), (6, [2, 3, 4, 5]), (7, [2, 3, 4, 5, 6]), (8, [2, 3, 4, 5, 6, 7]), (9, [2, 3, 4, 5, 6, 7, 8]), (10, [2, 3, 4, 5, 6, 7, 8]), (11, [2, 3, 4, 5, 6, 7, 8]), (12, [2, 3, 4, 5, 6, 7]), (13, [2, 3, 4, 5, 6, 7, 9]), (14, [2, 3, 4, 5, 6, 7, 9, 10]), (15, [2, 3, 4, 5, 6, 7, 9, 10]), (16, [2, 3, 4, 5, 6, 7, 9, 10]), (17, [2, 3, 4, 6, 7, 9]), (18, [2, 3, 4, 6, 7, 9, 91]), (19, [2, 3, 6, 9]), (20, [2, 3, 4, 6, 7, 9, 91]), (21, [2, 3, 6, 9]), (22, [2, 3, 4, 6, 7, 9, 91]), (23, [2, 3, 6, 9]), (24, [2, 3, 4, 6, 7, 9, 91]), (25, [2, 3, 4, 6, 9]), (26, [2, 3, 4, 6, 7, 9, 91]), (27, [2, 3, 6, 9]), (28, [2, 3, 6, 9]), (29, [2, 3, 4, 6, 7, 9, 91]), (30, [2, 3, 6, 9]), (31, [2, 3, 4, 6, 7, 9, 91]), (32, [2, 3, 4, 6, 9]), (33, [2, 3, 6, 7, 9, 91]), (34, [2, 3, 6, 7, 9]), (35, [2, 3, 6, 7, 9, 11]), (36, [2, 3, 6, 7, 9, 11]), (37, [2, 3, 6, 7, 9, 11]), (38, [2, 3, 6, 9, 11]), (39, [2, 3, 6, 9, 11]), (40, [2, 3, 6, 9])], dp := look2 [(13, [[], [0], [], [0, 1, 2], [0, 1, 2, 3], [], [5], [0, 1, 2, 3, 4, 5, 6], [0, 1, 2, 3, 4, 5, 6, 7]]), (37, [[], [0], [0, 1], [0, 1, 2], [], [4], [0, 1, 2, 3, 4, 5], [0, 1, 2, 3, 4, 5, 6], [0, 1, 2, 3, 4, 5, 6, 7], [0, 1, 2, 3, 4, 5, 6, 7, 8], [0, 1, 2, 3, 4, 5, 6, 7], [0, 1, 2, 3, 4, 5, 6, 7, 8, 9, 10], [0, 1, 2, 3, 4, 5, 6, 7, 8, 9, 10, 11], [0, 1, 2, 3, 4, 5, 6, 7, 8, 9, 10, 11, 12], [0, 1, 2, 3, 4, 5, 6, 7], [0, 1, 2, 3, 4, 5, 6, 7, 14], [0, 1, 2, 3, 4, 5, 6, 7, 8, 9, 10, 11, 12, 13, 14, 15], [0, 1, 2, 3, 4, 5, 6, 7, 8, 9, 10, 11, 12, 13, 14, 15, 16]]), (40, [[], [], [0], [0, 1, 2]])], md := look3 [(2, 1, [1, 0, 0]), (5, 1, [2, 0]), (7, 4, [1, 0]), (14, 4, [1, 0]), (17, 1, [1, 0]), (25, 2, [1, 0]), (32, 2, [1, 1])] }
attribute [local push_cast] E46
set_option maxRecDepth 20000 in
set_option maxHeartbeats 16000000 in
theorem drawFetchTake (c : List Int) (hc0 : c.length ≤ 1048576) (hb : ∀ x ∈ c, 0 ≤ x ∧ x ≤ 255) : ∃ r, ftR r ∧ Does Tryz.prog 46 [.sl false 1 (c.map numR)] r := by
  refine does_ex (E := E46) (rs := [.cell 2 53, .cell 3 70]) (lent := []) tOk rfl Tryz.func46 rfl (by decide) rfl rfl (Nat.le_of_ble_eq_true rfl) (Nat.le_of_ble_eq_true rfl) ?_
  ((refine go0 ?_ <;> repeat (refine dx ?_; refine go0 ?_)) <;> try exact nop)
  refine ex_call (l1Open c hc0) ?_
  have hc := take_code hc0 hb
  generalize c.take 2000 = c at *
  ((refine go0 ?_ <;> repeat (refine dx ?_; refine go0 ?_)) <;> try exact nop)
  refine ex_some (l8Reached c 0 hc (by omega) (by omega)) ?_
  rintro _ ⟨w, i, rfl, ⟨hw, hg⟩, hi1, hi2⟩
  obtain ⟨y1, y2, y3, y4, y5, y6⟩ := okW_b hw
  by_cases h0 : w.up.length = 0
  · (have zF := h0; (refine go0 ?_ <;> repeat (refine dx ?_; refine go0 ?_)) <;> first | exact nop | clear zF)
    exact ⟨_, ⟨emF, ⟨0, 0, em, false, em⟩, rfl, emFok, emM_ok⟩, rfl⟩
  have hg : goodW w := by
    rcases hg with rfl | ⟨a, _⟩
    · exact (h0 rfl).elim
    · exact a
  have hd := l8Tick w hw hg.1
  have n1 := tick_okW hw hg.1
  have n2 := tick_valid hg
  (have zF := h0; (refine go0 ?_ <;> repeat (refine dx ?_; refine go0 ?_)) <;> first | exact nop | clear zF)
  refine ex_call hd ?_
  clear hd hg hw y1 y2 y3 y4 y5 y6 h0
  generalize tickW w = w at *
  obtain ⟨y1, y2, y3, y4, y5, y6⟩ := okW_b n1
  obtain ⟨v1, v2, v3, v4, v5⟩ := validF_up n2.1
  ((refine go0 ?_ <;> repeat (refine dx ?_; refine go0 ?_)) <;> try exact nop)
  refine ex_call (l7Copy w.f n1.1) ?_
  obtain ⟨k, hk, hd⟩ := pick_nat c i w.f.Q.length hc (by omega) (by omega) (by omega) (by omega)
  ((refine go0 ?_ <;> repeat (refine dx ?_; refine go0 ?_)) <;> try exact nop)
  refine ex_call hd ?_
  clear hd
  ((refine go0 ?_ <;> repeat (refine dx ?_; refine go0 ?_)) <;> try exact nop)
  refine ex_loop (α := Nat × Nat) (fun q => q.1 ≤ w.f.Q.length ∧ q.2 < w.f.Q.length)
    (fun q => ⟨[(2, .pt 1 0 0), (3, .pt 5 0 0), (4, .pt 6 0 0), (5, .pt 7 0 0), (6, .pt 14 0 0), (7, .sc (.int .i64 q.2)), (8, .sc (.int .i64 q.1))],
      [(1, .bx [.sc (.string ⟨#[]⟩), .sc (.int .i64 0), .sc (.bool false), .sc (.int .i64 0), .sc (.int .i64 0), .ow 2 0 0, .ow 3 0 0, .ow 4 0 0]), (2, .ar 2 0 []), (3, .ar 1 0 []), (4, .ar 5 0 []),
       (5, .bx [.sc (.int .i64 0), .sc (.int .i64 0), .sc (.string ⟨#[]⟩), .sc (.bool false), .sc (.string ⟨#[]⟩)]), (6, .bx (rdC1 c (i + 1))), (7, .bx [.sc (.string w.f.nm), .sc (.int .i64 w.f.now), .sc (.bool w.f.full), .sc (.int .i64 w.f.st.w), .sc (.int .i64 w.f.st.r), .ow 8 0 w.f.st.I.length, .ow 9 0 w.f.st.P.length, .ow 10 0 w.f.Q.length, .ow 11 0 w.up.length, .ow 12 0 w.ss.length, .ow 13 0 w.fl.length, .sc (.int .i64 w.wa)]), (8, .ar 2 0 (w.f.st.I.map (itemC true))), (9, .ar 1 0 (w.f.st.P.map strR)), (10, .ar 5 0 (w.f.Q.map (peerC true))), (11, .ar 1 0 (w.up.map boolR)), (12, .ar 4 0 (w.ss.map (storeC true))), (13, .ar 5 0 (w.fl.map (messageC true))),
       (14, .bx [.sc (.string w.f.nm), .sc (.int .i64 w.f.now), .sc (.bool w.f.full), .sc (.int .i64 w.f.st.w), .sc (.int .i64 w.f.st.r), .ow 15 0 w.f.st.I.length, .ow 16 0 w.f.st.P.length, .ow 17 0 w.f.Q.length]), (15, .ar 2 0 (w.f.st.I.map (itemC true))), (16, .ar 1 0 (w.f.st.P.map strR)), (17, .ar 5 0 (w.f.Q.map (peerC true)))], 18⟩) (fun q => w.f.Q.length - q.1) (0, k) ⟨Nat.zero_le _, by omega⟩ ?_ ?_
  · ((refine go0 ?_) <;> try exact nop)
  clear hk
  rintro ⟨j, k⟩ ⟨g1, g2⟩ ih
  replace g1 : j ≤ w.f.Q.length := g1
  replace g2 : k < w.f.Q.length := g2
  obtain ⟨p, hp⟩ := ex_get g2
  have hb2 := peerB_up (v5 p (List.mem_of_getElem? hp))
  have ed := tmod_nat2 (k + 1) w.f.Q.length
  have el := Nat.mod_lt (k + 1) (show 0 < w.f.Q.length by omega)
  have ec : ((k : Int) + 1) = ((k + 1 : Nat) : Int) := rfl
  by_cases h : j < w.f.Q.length ∧ p.wait = 0
  · obtain ⟨h1, h2⟩ := h
    rw [← ec] at ed
    generalize (k + 1) % w.f.Q.length = k' at *
    (have zF := an h1 (an hp (an h2 ed)); (refine go1 ?_ <;> repeat (refine dx ?_; refine go1 ?_)) <;> first | exact nop | clear zF)
    refine ih (j + 1, k') _ (by show w.f.Q.length - (j + 1) < w.f.Q.length - j; omega) ⟨h1, el⟩ ?_
    ((refine go1 ?_) <;> try exact nop)
  clear ih ed el ec
  obtain ⟨s, hs⟩ := ex_get (show k < w.ss.length by have := n2.2.2.1; omega)
  have hso := n1.2.2.1.2 s (List.mem_of_getElem? hs)
  have hkl := (List.getElem?_eq_some_iff.1 hs).1
  have hsv := n2.2.2.2.2.1 s (List.mem_of_getElem? hs)
  have hpo := n1.1.2.2.2 p (List.mem_of_getElem? hp)
  have hw8 := width8 v1
  have hask : p.ask.size ≤ 8 := by
    obtain ⟨a1, a2⟩ := askB_up hb2.2.2.2.2.1
    by_cases q : p.wait = 0
    · rw [a2 q]; decide
    · have := a1 (by omega); omega
  have two : (¬ j < w.f.Q.length) ∨ (j < w.f.Q.length ∧ ¬ p.wait = 0) := by omega
  have fin : ∀ (F : Fetch) (a b : Int) (u : Str) (h : Bool) (x : Str), okFetch F → u.size ≤ 2097152 → x.size ≤ 2097152 → ftR (.tu [.ag (fetchC true F), .ag [.sc (.int .i64 a), .sc (.int .i64 b), .sc (.string u), .sc (.bool h), .sc (.string x)]], []) := fun F a b u h x h1 h2 h3 => ⟨F, ⟨a, b, u, h, x⟩, rfl, h1, h2, h3⟩
  rcases two with q | q
  all_goals
    (have zF := an q (an hp hs); (refine go1 ?_ <;> repeat (refine dx ?_; refine go1 ?_)) <;> first | exact nop | clear zF)
    refine ex_call (l4At s p.ask hso) ?_
    by_cases hat : 0 ≤ atI s.w p.ask s.I
    case' neg =>
      (have zF := hat; (refine go0 ?_ <;> repeat (refine dx ?_; refine go0 ?_)) <;> first | exact nop | clear zF)
      obtain ⟨hh, hhe⟩ : ∃ hh : Bool, hh = false := ⟨_, rfl⟩
      obtain ⟨tt, tte⟩ : ∃ tt : Str, tt = ⟨#[]⟩ := ⟨_, rfl⟩
      have tts : tt.size ≤ 7000 := by rw [tte]; decide
      obtain ⟨z, hz⟩ : ∃ z, z = i + 1 := ⟨_, rfl⟩
      rw [← hz]
      replace hz : 0 ≤ z ∧ z ≤ 2000 := by omega
    case' pos =>
      obtain ⟨jj, y, h2, h3, _⟩ := at_get hat
      have hjl := (List.getElem?_eq_some_iff.1 h3).1
      have hyt : y.t.size ≤ 7000 := by
        have := ((valid_iff s).1 hsv.1).2.2.2.2.2.2.1 y (List.mem_of_getElem? h3)
        unfold okIt at this
        rw [Bool.and_eq_true] at this
        have := of_decide_eq_true this.1
        omega
      rw [h2]
      obtain ⟨e, he, hd⟩ := pick_nat c (i + 1) 6 hc (by omega) (by omega) (by omega) (by omega)
      ((refine go0 ?_ <;> repeat (refine dx ?_; refine go0 ?_)) <;> try exact nop)
      refine ex_call hd ?_
      clear hd
      by_cases e0 : 0 < e
      case' pos =>
        (have zF := an e0 (an hs h3); (refine go0 ?_ <;> repeat (refine dx ?_; refine go0 ?_)) <;> first | exact nop | clear zF)
        obtain ⟨hh, hhe⟩ : ∃ hh : Bool, hh = true := ⟨_, rfl⟩
        obtain ⟨tt, tte⟩ : ∃ tt : Str, tt = y.t := ⟨_, rfl⟩
        have tts : tt.size ≤ 7000 := by rw [tte]; exact hyt
      case' neg =>
        (have zF := e0; (refine go0 ?_ <;> repeat (refine dx ?_; refine go0 ?_)) <;> first | exact nop | clear zF)
        obtain ⟨hh, hhe⟩ : ∃ hh : Bool, hh = false := ⟨_, rfl⟩
        obtain ⟨tt, tte⟩ : ∃ tt : Str, tt = ⟨#[]⟩ := ⟨_, rfl⟩
        have tts : tt.size ≤ 7000 := by rw [tte]; decide
      all_goals
        obtain ⟨z, hz⟩ : ∃ z, z = i + 1 + 1 := ⟨_, rfl⟩
        rw [← hz]
        replace hz : 0 ≤ z ∧ z ≤ 2000 := by omega
  all_goals
    obtain ⟨g, hg, hd⟩ := pick_nat c z 14 hc (by omega) (by omega) (by omega) (by omega)
    refine ex_call hd ?_
    clear hd
    by_cases a0 : g = 0
    · subst a0
      ((refine rF83_0 ?_ <;> repeat (refine dx ?_; refine rF83_0 ?_)) <;> try exact nop)
      subst tte
      exact ⟨_, fin _ _ _ _ _ _ n1.1 (by omega) (by rw [ByteArray.size_append, sz1b]; omega), rfl⟩
    by_cases a1 : g = 1
    · subst a1
      ((refine rF83_1 ?_ <;> repeat (refine dx ?_; refine rF83_1 ?_)) <;> try exact nop)
      subst tte
      exact ⟨_, fin _ _ _ _ _ _ n1.1 (by rw [ByteArray.size_append, sz1b]; omega) (by omega), rfl⟩
    by_cases a2 : g = 2
    · subst a2
      ((refine go0 ?_ <;> repeat (refine dx ?_; refine go0 ?_)) <;> try exact nop)
      subst tte
      exact ⟨_, fin _ _ _ _ _ _ n1.1 (by omega) (by omega), rfl⟩
    by_cases a3 : g = 3
    · subst a3
      obtain ⟨d, hd0, hd⟩ := pick_nat c (z + 1) 3 hc (by omega) (by omega) (by omega) (by omega)
      ((refine rF83_2 ?_ <;> repeat (refine dx ?_; refine rF83_2 ?_)) <;> try exact nop)
      refine ex_call hd ?_
      clear hd
      rcases (show d = 0 ∨ d = 1 ∨ d = 2 by omega) with rfl | rfl | rfl
      all_goals
        ((refine rF83_2 ?_ <;> repeat (refine dx ?_; refine rF83_2 ?_)) <;> try exact nop)
        subst tte
        exact ⟨_, fin _ _ _ _ _ _ n1.1 (by omega) (by omega), rfl⟩
    by_cases a4 : g = 4
    · subst a4
      ((refine go0 ?_ <;> repeat (refine dx ?_; refine go0 ?_)) <;> try exact nop)
      exact ⟨_, fin _ _ _ _ _ ⟨#[108, 105, 101]⟩ n1.1 (by omega) (by decide), rfl⟩
    by_cases a5 : g = 5
    · subst a5
      ((refine go0 ?_ <;> repeat (refine dx ?_; refine go0 ?_)) <;> try exact nop)
      refine ex_call (l4Bytes w.f.st n1.1.2.1) ?_
      ((refine go0 ?_ <;> repeat (refine dx ?_; refine go0 ?_)) <;> try exact nop)
      subst tte
      exact ⟨_, fin { w.f with st := { w.f.st with r := bytes w.f.st.I } } _ _ _ _ _ n1.1 (by omega) (by omega), rfl⟩
    by_cases a6 : g = 6
    · subst a6
      ((refine go0 ?_ <;> repeat (refine dx ?_; refine go0 ?_)) <;> try exact nop)
      refine ex_some (l7Spoil c (z + 1) w.f hc (by omega) (by omega) n1.1 n2.1) ?_
      rintro _ ⟨F, z2, rfl, hF, _, _⟩
      obtain ⟨F1, ⟨⟨F2, _⟩, ⟨F3, _⟩⟩, ⟨F4, _⟩⟩ := id hF
      ((refine go0 ?_ <;> repeat (refine dx ?_; refine go0 ?_)) <;> try exact nop)
      subst tte
      exact ⟨_, fin F _ _ _ _ _ hF (by omega) (by omega), rfl⟩
    by_cases a7 : g = 7
    case' neg =>
      (have zF := an a0 (an a1 (an a2 (an a3 (an a4 (an a5 (an a6 a7)))))); (refine go0 ?_ <;> repeat (refine dx ?_; refine go0 ?_)) <;> first | exact nop | clear zF)
      subst tte
      exact ⟨_, fin _ _ _ _ _ _ n1.1 (by omega) (by omega), rfl⟩
    subst a7
    ((refine go0 ?_ <;> repeat (refine dx ?_; refine go0 ?_)) <;> try exact nop)
    refine ex_loop (α := Nat) (fun i => i ≤ 3000)
      (fun i => ⟨[(2, .pt 1 0 0), (3, .pt 5 0 0), (6, .pt 6 0 0), (7, .sc (.int .i64 k)), (9, .pt 10 0 0), (11, .sc (.int .i64 i))],
        [(1, .bx [.sc (.string ⟨#[]⟩), .sc (.int .i64 0), .sc (.bool false), .sc (.int .i64 0), .sc (.int .i64 0), .ow 2 0 0, .ow 3 0 0, .ow 4 0 0]), (2, .ar 2 0 []), (3, .ar 1 0 []), (4, .ar 5 0 []),
         (5, .bx [.sc (.int .i64 0), .sc (.int .i64 0), .sc (.string ⟨#[]⟩), .sc (.bool false), .sc (.string ⟨#[]⟩)]),
         (6, .bx [.sc (.string w.f.nm), .sc (.int .i64 w.f.now), .sc (.bool w.f.full), .sc (.int .i64 w.f.st.w), .sc (.int .i64 w.f.st.r), .ow 7 0 w.f.st.I.length, .ow 8 0 w.f.st.P.length, .ow 9 0 w.f.Q.length]), (7, .ar 2 0 (w.f.st.I.map (itemC true))), (8, .ar 1 0 (w.f.st.P.map strR)), (9, .ar 5 0 (w.f.Q.map (peerC true))),
         (10, .bx [.sc (.int .i64 (k + 1)), .sc (.int .i64 0), .sc (.string p.ask), .sc (.bool hh), .sc (.string tt)])], 11⟩) (fun i => 3000 - i) 0 (Nat.zero_le _) ?_ ?_
    · (have zF := an hhe tte; (refine go0 ?_) <;> first | exact nop | clear zF)
    clear hhe tte
    intro i hi ih
    have two : (¬ i < 3000) ∨ (i < 3000 ∧ ¬ w.f.st.w = 1) ∨ (i < 3000 ∧ w.f.st.w = 1) := by omega
    rcases two with q1 | ⟨q1, q2⟩ | ⟨q1, q2⟩
    · (have zF := q1; (refine go0 ?_ <;> repeat (refine dx ?_; refine go0 ?_)) <;> first | exact nop | clear zF)
      exact ⟨_, fin _ _ _ _ _ tt n1.1 (by omega) (by omega), rfl⟩
    · (have zF := an q1 q2; (refine go0 ?_ <;> repeat (refine dx ?_; refine go0 ?_)) <;> first | exact nop | clear zF)
      exact ⟨_, fin _ _ _ _ _ tt n1.1 (by omega) (by omega), rfl⟩
    have q2d := decide_eq_true q2
    have hdl : (stB (Lib.decDigits i)).size ≤ 3010 := by have := decD_len i; rw [stB_size]; omega
    have hl3 := l3Dec i (by omega)
    generalize stB (Lib.decDigits i) = D at *
    (have zF := an q1 q2d; (refine go0 ?_ <;> repeat (refine dx ?_; refine go0 ?_)) <;> first | exact nop | clear zF)
    refine ex_call hl3 ?_
    (have zF := an q1 q2d; (refine rF83_3 ?_ <;> repeat (refine dx ?_; refine rF83_3 ?_)) <;> first | exact nop | clear zF)
    refine ex_call (specSum _ 1 (by rw [ByteArray.size_append, sz8]; omega)) ?_
    by_cases e1 : sumS (⟨#[110, 111, 32, 108, 105, 115, 116, 32]⟩ ++ D) 1 = w.f.nm ∧ p.ask = w.f.nm
    · obtain ⟨e1, e2⟩ := e1
      have e1d := decide_eq_true e1
      have e2d := decide_eq_true e2
      (have zF := an e1 (an e2 hp); (refine rF83_4 ?_ <;> repeat (refine dx ?_; refine rF83_4 ?_)) <;> first | exact nop | clear zF)
      refine ex_call hl3 ?_
      ((refine rF83_3 ?_ <;> repeat (refine dx ?_; refine rF83_3 ?_)) <;> try exact nop)
      exact ⟨_, fin _ _ _ w.f.nm _ (⟨#[110, 111, 32, 108, 105, 115, 116, 32]⟩ ++ D) n1.1 n1.1.1 (by rw [ByteArray.size_append, sz8]; omega), rfl⟩
    · have two : (¬ sumS (⟨#[110, 111, 32, 108, 105, 115, 116, 32]⟩ ++ D) 1 = w.f.nm) ∨ (sumS (⟨#[110, 111, 32, 108, 105, 115, 116, 32]⟩ ++ D) 1 = w.f.nm ∧ ¬ p.ask = w.f.nm) := by
        by_cases e2 : sumS (⟨#[110, 111, 32, 108, 105, 115, 116, 32]⟩ ++ D) 1 = w.f.nm
        · exact .inr ⟨e2, fun e3 => e1 ⟨e2, e3⟩⟩
        · exact .inl e2
      rcases two with e2 | ⟨e2, e3⟩
      · (have zF := an e2 hp; (refine go0 ?_ <;> repeat (refine dx ?_; refine go0 ?_)) <;> first | exact nop | clear zF)
        refine ih (i + 1) _ (by omega) q1 ?_
        ((refine go1 ?_) <;> try exact nop)
      · (have zF := an e2 (an e3 hp); (refine go0 ?_ <;> repeat (refine dx ?_; refine go0 ?_)) <;> first | exact nop | clear zF)
        refine ih (i + 1) _ (by omega) q1 ?_
        ((refine go1 ?_) <;> try exact nop)
end Go.Proofs.YtkkmgjhfjhcdmaaGreatDoor.Mx

namespace Go.Proofs.YtkkmgjhfjhcdmaaGreatDoor.Mx
open Go Go.RowKit Go.Proofs
def E28 : Env := { T := T0, kp := look [(0, [0, 1]), (1, [0, 1]), (2, [0, 1, 5]), (3, [0, 1, 5]), (4, [0, 1, 5]), (5, []), (6, [])] }
attribute [local push_cast] E28
theorem wIn (l : List Str) (s : Str) (hl : l.length ≤ 2097152) : Does Tryz.prog 28 [.sl false 1 (l.map strR), .sc (.string s)] (.sc (.bool (inL l s)), []) := by
  refine does_of (E := E28) (rs := [.tmp 4]) (lent := []) tOk rfl Tryz.func28 rfl (by decide) rfl rfl (Nat.le_of_ble_eq_true rfl) (Nat.le_of_ble_eq_true rfl) ?_
  generalize hM : inL l s = M
  ((refine go0 ?_) <;> try exact nop)
  refine loop_ind (α := Nat) (fun i => i ≤ l.length ∧ inL (l.drop i) s = M) (fun i => ⟨[(0, .sl false 1 (l.map strR)), (1, .sc (.string s)), (5, .sc (.int .i64 i))], [], 1⟩) (fun i => l.length - i) 0 ⟨Nat.zero_le _, hM⟩ ?_ ?_
  · ((refine go0 ?_) <;> try exact nop)
  rintro i ⟨hi, hy⟩ ih
  by_cases h : i < l.length
  · obtain ⟨x, hx⟩ := ex_get h
    rw [drop_step hx] at hy
    by_cases e : x = s
    · have hy : true = M := by rw [← hy]; simp [inL, e]
      (have zF := an hx (an e ((hy).symm)); (refine go0 ?_) <;> first | exact nop | clear zF)
    · (have zF := an hx e; (refine go0 ?_) <;> first | exact nop | clear zF)
      refine ih (i + 1) _ (by omega) ⟨h, by rw [← hy]; simp [inL, e]⟩ ?_
      ((refine go1 ?_) <;> try exact nop)
  · rw [List.drop_eq_nil_of_le (by omega)] at hy
    have hy : false = M := by rw [← hy]; rfl
    (have zF := (hy).symm; (refine go0 ?_) <;> first | exact nop | clear zF)
def E29 : Env := { T := T0, kp := look [(0, [0, 1]), (1, [0, 1]), (2, []), (3, [0, 1]), (4, [0, 1, 5]), (5, [0, 1, 5]), (6, [0, 1, 5]), (7, []), (8, [])], dp := look2 [(6, [[], [], [0, 1], [0, 1, 2], [], [], [4, 5], [4, 5, 6], [0, 1, 2, 3, 4, 5, 6, 7]])] }
attribute [local push_cast] E29
theorem wTexts (l : List Str) (hl : l.length ≤ 2097152) : Does Tryz.prog 29 [.sl false 1 (l.map strR), .sl false 1 (l.map strR)] (.sc (.bool true), []) := by
  refine does_of (E := E29) (rs := [.tmp 4]) (lent := []) tOk rfl Tryz.func29 rfl (by decide) rfl rfl (Nat.le_of_ble_eq_true rfl) (Nat.le_of_ble_eq_true rfl) ?_
  ((refine go0 ?_ <;> repeat (refine dr ?_; refine go0 ?_)) <;> try exact nop)
  refine loop_ind (α := Nat) (fun i => i ≤ l.length) (fun i => ⟨[(0, .sl false 1 (l.map strR)), (1, .sl false 1 (l.map strR)), (5, .sc (.int .i64 i))], [], 1⟩) (fun i => l.length - i) 0 (Nat.zero_le _) ?_ ?_
  · ((refine go0 ?_) <;> try exact nop)
  intro i hi ih
  by_cases h : i < l.length
  · obtain ⟨x, hx⟩ := ex_get h
    (have zF := hx; (refine go0 ?_ <;> repeat (refine dr ?_; refine go0 ?_)) <;> first | exact nop | clear zF)
    refine ih (i + 1) _ (by omega) h ?_
    ((refine go1 ?_) <;> try exact nop)
  · ((refine go0 ?_ <;> repeat (refine dr ?_; refine go0 ?_)) <;> try exact nop)
end Go.Proofs.YtkkmgjhfjhcdmaaGreatDoor.Mx

namespace Go.Proofs.YtkkmgjhfjhcdmaaGreatDoor.Mx
open Go Go.RowKit Go.Proofs
theorem rF60_0 {p q : Prop} (k : q) (h : p = q := by conv => lhs; simp -dsimp (disch := first | omega | (simp only [zF, eqF, eq1, eqs, LR] <;> omega) | fail) only [push_cast, zF, eqF, eq1, eqs, simprocAttr, -Nat.reduceSubDiff]) : p := h.mpr k
def E26 : Env := { T := T0, kp := look [(0, [0, 1]), (1, [2, 3]), (2, []), (3, [2, 3]), (4, [2, 3, 5]), (5, [2, 3, 5]), (6, [2, 3, 5]), (7, []), (8, [])], dp := look2 [(6, [[], [0], [], [0, 1, 2], [0, 1, 2, 3], [], [5], [], [5, 6, 7], [5, 6, 7, 8], [0, 1, 2, 3, 4, 5, 6, 7, 8, 9]])] }
attribute [local push_cast] E26
set_option maxHeartbeats 1000000 in
theorem wStore (s : Store) (hs : okStore s) : Does Tryz.prog 26 [.ag (storeC false s), .ag (storeC false s)] (.sc (.bool true), []) := by
  refine does_of (E := E26) (rs := [.tmp 4]) (lent := []) tOk rfl Tryz.func26 rfl (by decide) rfl rfl (Nat.le_of_ble_eq_true rfl) (Nat.le_of_ble_eq_true rfl) ?_
  have hl := hs.1.1
  ((refine go0 ?_ <;> repeat (refine dr ?_; refine go0 ?_)) <;> try exact nop)
  refine callC (wTexts s.P hs.2.1) ?_
  ((refine go0 ?_ <;> repeat (refine dr ?_; refine go0 ?_)) <;> try exact nop)
  refine loop_ind (α := Nat) (fun i => i ≤ s.I.length) (fun i => ⟨[(2, .pt 1 0 0), (3, .pt 2 0 0), (5, .sc (.int .i64 i))], [(1, .bx (storeC false s)), (2, .bx (storeC false s))], 3⟩) (fun i => s.I.length - i) 0 (Nat.zero_le _) ?_ ?_
  · ((refine go0 ?_) <;> try exact nop)
  intro i hi ih
  by_cases h : i < s.I.length
  · obtain ⟨x, hx⟩ := ex_get h
    (have zF := an h hx; (refine rF60_0 ?_ <;> repeat (refine dr ?_; refine rF60_0 ?_)) <;> first | exact nop | clear zF)
    refine ih (i + 1) _ (by omega) h ?_
    ((refine go1 ?_) <;> try exact nop)
  · (have zF := h; (refine go0 ?_ <;> repeat (refine dr ?_; refine go0 ?_)) <;> first | exact nop | clear zF)
end Go.Proofs.YtkkmgjhfjhcdmaaGreatDoor.Mx

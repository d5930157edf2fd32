-- Walks of printed functions (by wip/gen.py of this session, with the kit's program).
import Derived.Test.YtbmldafgipimbaaGFnExactClashx0
import Derived.Test.YtbmldafgipimbaaGFnExactClashx1
import Derived.Test.YtbmldafgipimbaaGFnExactClashx2
namespace Go.Proofs.Ytbmldafgipimbaa.PFnExactClash
open Go.RowKit Go.Proofs.YtbmldafgipimbaaW.PrintWords Go.Proofs.YtbmldafgipimbaaW.PrintLast Go.Proofs.YtbmldafgipimbaaW.PrintMore
attribute [local go_sem] max2_int min2_int max_two min_two max_three min_three max_four min_four   -- for this text's walks alone
attribute [local go_sem] Go.Proofs.Ytbmldafgipimbaa.L.str_geq
set_option linter.unusedVariables false
set_option linter.unusedSimpArgs false

/-! ### impl_Clash: function 22 -/
/-- The rounds over the texts that are left; had: the texts that came, by their sums. -/
def impl_Clash.go (k : Nat) (a1 : Int) : (ByteArray → List ByteArray) → List ByteArray → Option (ByteArray × ByteArray × Bool)
  | _, [] => some (⟨#[]⟩, ⟨#[]⟩, false)
  | had, t :: ts => (impl_Sum.f k t a1).bind fun s => if s.size ≤ 1048576 then (match (had s).find? (fun o => !(decide (o = t))) with | some o => some (o, t, true) | none => impl_Clash.go k a1 (S.upd had s (had s ++ [t])) ts) else none
def impl_Clash.f (k : Nat) (l0 : List ByteArray) (a1 : Int) : Option (ByteArray × ByteArray × Bool) :=
  (impl_widthOk.f a1).bind fun ok => if ok = true ∧ l0.length ≤ 2000 then impl_Clash.go k a1 (fun _ => []) l0 else some (⟨#[]⟩, ⟨#[]⟩, false)
theorem impl_Clash.mono_go (k : Nat) (a1 : Int) : ∀ (l : List ByteArray) (had : ByteArray → List ByteArray), LeO (impl_Clash.go k a1 had l) (impl_Clash.go (k + 1) a1 had l)
  | [], had => LeO.refl _
  | t :: ts, had => by
    unfold impl_Clash.go
    refine LeO.bind (impl_Sum.mono _ _ _) (fun s => ?_)
    refine LeO.ite ?_ (LeO.refl _)
    cases (had s).find? (fun o => !(decide (o = t))) with
    | some o => exact LeO.refl _
    | none => exact impl_Clash.mono_go k a1 ts _
theorem impl_Clash.mono : ∀ a0 a1 k, LeO (impl_Clash.f k a0 a1) (impl_Clash.f (k + 1) a0 a1) := by
  intro a0 a1 k
  unfold impl_Clash.f
  exact LeO.bind (LeO.refl _) (fun _ => LeO.ite (impl_Clash.mono_go k a1 a0 _) (LeO.refl _))
theorem impl_Clash.info9 : (Try.prog.info? 9).map (fun i => (i.zero, i.size, i.bytes)) = some (some (.string ⟨#[]⟩), 1, 16) := by kernel_rfl
theorem impl_Clash.zero_slice (w : World) : (zeroValue 27).run Try.prog w = .ok (.slice none 0 0) w := by kernel_rfl
/-- A row of texts that a slice owns: its form, and its cells. -/
theorem impl_Clash.open_row {w : World} {base : Nat} {e : TypeId} {v : Value} {ys : List ByteArray} (h : w.ownsRow base e 1 v ys.length (ys.map Value.string)) :
    ∃ A c, v = .slice A ys.length c ∧ ∀ (j : Nat) (x : ByteArray), ys[j]? = some x → ∃ g, A = some ⟨g, 0, none⟩ ∧ w.cell? ⟨g, j, none⟩ = some (.string x) := by
  obtain ⟨_, h2⟩ := h
  rcases h2 with ⟨rfl, h0⟩ | ⟨g, cap, cur, rfl, _, hh, _, _, _, ht⟩
  · obtain rfl := List.length_eq_zero_iff.1 h0
    exact ⟨none, 0, rfl, fun j x hj => by simp at hj⟩
  · refine ⟨_, _, rfl, fun j x hj => ⟨g, rfl, ?_⟩⟩
    have hl := (List.getElem?_eq_some_iff.1 hj).1
    have h3 : (ys.map Value.string)[j]? = some (.string x) := by rw [List.getElem?_map, hj]; rfl
    rw [← ht, List.getElem?_take, if_pos (by omega)] at h3
    rw [blk_cell hh, ← Array.getElem?_toList]; exact h3
theorem impl_Clash.find_first (t x : ByteArray) : ∀ (l : List ByteArray) (m : Nat), (∀ q, q < m → l[q]? = some t) → l[m]? = some x → x ≠ t → l.find? (fun o => !(decide (o = t))) = some x
  | [], m, _, h, _ => by simp at h
  | y :: l, 0, _, h, hx => by
    obtain rfl : y = x := by simpa using h
    rw [List.find?_cons_of_pos (by simp [hx])]
  | y :: l, m + 1, h0, h, hx => by
    obtain rfl : y = t := by simpa using h0 0 (by omega)
    rw [List.find?_cons_of_neg (by simp)]
    exact impl_Clash.find_first y x l m (fun q hq => by simpa using h0 (q + 1) (by omega)) (by simpa using h) hx
theorem impl_Clash.find_none (t : ByteArray) (l : List ByteArray) (h : ∀ q, q < l.length → l[q]? = some t) : l.find? (fun o => !(decide (o = t))) = none := by
  rw [List.find?_eq_none]
  intro x hx
  obtain ⟨q, hq, e⟩ := List.mem_iff_getElem.1 hx
  have := h q hq
  rw [List.getElem?_eq_getElem hq, e] at this
  simpa using this
set_option maxHeartbeats 1600000 in
set_option maxRecDepth 100000 in
theorem impl_Clash.calls (k : Nat) (A0 : Option Addr) (c0 : Nat) (l0 : List ByteArray) (a1 : Int) (r1 : ByteArray) (r2 : ByteArray) (r3 : Bool) (w : World) (hr0 : Kd.C Kd.string w A0 l0.length l0) (hc0 : l0.length ≤ c0) (h : impl_Clash.f k l0 a1 = some (r1, r2, r3)) :
    Calls Try.prog 22 #[.slice A0 l0.length c0, .int .i64 a1] w fun e w' => e = .returned (.tuple #[.string r1, .string r2, .bool r3]) ∧ Below w.heap.size w w' := by
  have HR0 := Aside0.mk hr0
  clear hr0 hc0
  obtain ⟨ok, hok, h⟩ := Option.bind_eq_some_iff.mp h
  replace h : (if ok = true ∧ l0.length ≤ 2000 then impl_Clash.go k a1 (fun _ => []) l0 else some (⟨#[]⟩, ⟨#[]⟩, false)) = some (r1, r2, r3) := h
  have HK := Aside0.mk hok
  have H := Aside0.mk h
  clear hok h
  have hmm := @run_makeMap Try.prog
  have HB := Aside0.mk (Below.refl w.heap.size w)
  go_enter Try.func22, Try.ntmps22
  go_upto_region 1 with (fail)
  repeat (go_quiet (fail); go_upto_region 1 with (fail))
  go_cut [20] (fun v20 wc => ∃ b : Bool, v20 = .bool b ∧ Aside0 (b = !(decide (ok = true ∧ l0.length ≤ 2000))) ∧ Aside0 (Below w.heap.size w wc))
  case first =>
    cases ok with
    | true =>
      by_cases c : (l0.length : Int) > 2000
      · have cb : decide (2000 < (l0.length : Int)) = true := decide_eq_true c
        have e : (!(decide (true = true ∧ l0.length ≤ 2000))) = true := by simp; omega
        go_wp2_with (first | (go_at_call 29; (with_reducible refine (impl_widthOk.calls a1 true _ HK.out).mono ?_); rintro e w' ⟨rfl, ⟨nd, rfl⟩⟩; (try first | exact ⟨rfl, _, World.drewN_drewN _ _ _⟩ | exact ⟨rfl, _, Eq.trans (World.drewN_drewN _ _ _) (congrArg (World.drewN _) (Nat.add_assoc _ _ _))⟩)))
        repeat (go_quiet (first | (go_at_call 29; (with_reducible refine (impl_widthOk.calls a1 true _ HK.out).mono ?_); rintro e w' ⟨rfl, ⟨nd, rfl⟩⟩; (try first | exact ⟨rfl, _, World.drewN_drewN _ _ _⟩ | exact ⟨rfl, _, Eq.trans (World.drewN_drewN _ _ _) (congrArg (World.drewN _) (Nat.add_assoc _ _ _))⟩))); try go_wp2_with (fail))
        go_meet
        case rel => exact ⟨true, (by first | rfl | (simp; done) | (simp [*]; done)), ⟨e.symm⟩, ⟨by repeat (first | (with_reducible first | exact HB.out | apply below_alloc | apply pw_below_drewN | apply below_drew1) | exact HB.out)⟩⟩
      · have cb : decide (2000 < (l0.length : Int)) = false := decide_eq_false c
        have e : (!(decide (true = true ∧ l0.length ≤ 2000))) = false := by simp; omega
        go_wp2_with (first | (go_at_call 29; (with_reducible refine (impl_widthOk.calls a1 true _ HK.out).mono ?_); rintro e w' ⟨rfl, ⟨nd, rfl⟩⟩; (try first | exact ⟨rfl, _, World.drewN_drewN _ _ _⟩ | exact ⟨rfl, _, Eq.trans (World.drewN_drewN _ _ _) (congrArg (World.drewN _) (Nat.add_assoc _ _ _))⟩)))
        repeat (go_quiet (first | (go_at_call 29; (with_reducible refine (impl_widthOk.calls a1 true _ HK.out).mono ?_); rintro e w' ⟨rfl, ⟨nd, rfl⟩⟩; (try first | exact ⟨rfl, _, World.drewN_drewN _ _ _⟩ | exact ⟨rfl, _, Eq.trans (World.drewN_drewN _ _ _) (congrArg (World.drewN _) (Nat.add_assoc _ _ _))⟩))); try go_wp2_with (fail))
        go_meet
        case rel => exact ⟨false, (by first | rfl | (simp; done) | (simp [*]; done)), ⟨e.symm⟩, ⟨by repeat (first | (with_reducible first | exact HB.out | apply below_alloc | apply pw_below_drewN | apply below_drew1) | exact HB.out)⟩⟩
    | false =>
      go_wp2_with (first | (go_at_call 29; (with_reducible refine (impl_widthOk.calls a1 false _ HK.out).mono ?_); rintro e w' ⟨rfl, ⟨nd, rfl⟩⟩; (try first | exact ⟨rfl, _, World.drewN_drewN _ _ _⟩ | exact ⟨rfl, _, Eq.trans (World.drewN_drewN _ _ _) (congrArg (World.drewN _) (Nat.add_assoc _ _ _))⟩)))
      repeat (go_quiet (first | (go_at_call 29; (with_reducible refine (impl_widthOk.calls a1 false _ HK.out).mono ?_); rintro e w' ⟨rfl, ⟨nd, rfl⟩⟩; (try first | exact ⟨rfl, _, World.drewN_drewN _ _ _⟩ | exact ⟨rfl, _, Eq.trans (World.drewN_drewN _ _ _) (congrArg (World.drewN _) (Nat.add_assoc _ _ _))⟩))); try go_wp2_with (fail))
      go_meet
      case rel => exact ⟨true, (by first | rfl | (simp; done) | (simp [*]; done)), ⟨by simp⟩, ⟨by repeat (first | (with_reducible first | exact HB.out | apply below_alloc | apply pw_below_drewN | apply below_drew1) | exact HB.out)⟩⟩
  case rest =>
    clear HB
    obtain ⟨b, rfl, hb, HB⟩ := hcut
    by_cases c : ok = true ∧ l0.length ≤ 2000
    · have h := H.out
      rw [if_pos c] at h
      have e := hb.out
      rw [decide_eq_true c] at e
      simp only [Bool.not_true] at e
      subst e
      go_wp2
      go_loopw [24] (fun i wr => ∃ (j : Nat) (hd : ByteArray → Value) (xs : ByteArray → List ByteArray), j ≤ l0.length ∧ i = .int .i64 j ∧ S.Groups Try.prog 9 9 wr wc.heap.size (wc.heap.size + 1) j hd xs ∧ (∀ s, (xs s).length ≤ j) ∧ Aside0 (impl_Clash.go k a1 xs (l0.drop j) = some (r1, r2, r3)) ∧ Below w.heap.size w wr)
        (fun i _ => l0.length - (intOf i).toNat)
      case atStart => exact ⟨0, _, _, Nat.zero_le _, rfl, S.Groups.made wc, fun _ => Nat.le_refl _, ⟨h⟩, HB.out.alloc HB.out.size _⟩
      case round =>
        clear h
        obtain ⟨j, hd, xs, hj, rfl, hgr, hlen, hgo, hbel⟩ := hrel
        have hgo1 := hgo.out
        clear hgo
        by_cases hlt : j < l0.length
        · obtain ⟨bb, off, eA, hcl⟩ := L.cells_at (Kd.C_below HR0.out hbel) (by omega)
          subst eA
          have hx : l0[j]? = some l0[j] := List.getElem?_eq_getElem hlt
          have hcell := hcl j _ hx
          rw [List.drop_eq_getElem_cons hlt, impl_Clash.go] at hgo1
          generalize hxe : l0[j] = t at hx hcell hgo1
          obtain ⟨s, hs, hgo2⟩ := Option.bind_eq_some_iff.mp hgo1
          replace hgo2 : (if s.size ≤ 1048576 then (match (xs s).find? (fun o => !(decide (o = t))) with | some o => some (o, t, true) | none => impl_Clash.go k a1 (S.upd xs s (xs s ++ [t])) (l0.drop (j + 1))) else none) = some (r1, r2, r3) := hgo2
          by_cases hs0 : s.size ≤ 1048576
          case neg => rw [if_neg hs0] at hgo2; exact absurd hgo2 (by simp)
          rw [if_pos hs0] at hgo2
          have hsz : s.size ≤ maxLen := by unfold maxLen; omega
          have hS := Aside0.mk hs
          have hG := Aside0.mk hgo2
          clear hs hgo1 hgo2 hcl
          go_wp2_with (first | ((with_reducible refine gate_callee (f := 11) rfl ?_); refine goesL_ (some 30) rfl rfl Try.func11 (by kernel_rfl) rfl #[.string t, .int .i64 a1] rfl (by (try simp only [List.map_toArray, List.map_cons, List.map_nil]); first | done | rfl) ?_; (with_reducible refine (impl_Sum.calls k t a1 s _ hS.out).mono ?_); rintro e w2 ⟨rfl, hb2⟩; refine ⟨_, rfl, ?_⟩; have hgr2 := hgr.keep (w' := w2) ⟨hb2.os, hb2.tape, hb2.output, hb2.size, fun i hi _ => hb2.block i hi⟩; have hbel2 := below_step hbel hb2; obtain ⟨A, c, eh, hcell2⟩ := impl_Clash.open_row (hgr2.row s)) | (at_lookup; refine S.wpList_lookup_group _ rfl _ _ 49 rfl 9 27 9 Try.underlying9 Try.underlying49 (impl_Clash.zero_slice _) wc.heap.size (wc.heap.size + 1) j hd xs rfl hgr2 s rfl hsz ?_; rw [eh]))
          go_loopw [35] (fun i wi => ∃ m : Nat, m ≤ (xs s).length ∧ i = .int .i64 m ∧ (∀ q, q < m → (xs s)[q]? = some t) ∧ S.Groups Try.prog 9 9 wi wc.heap.size (wc.heap.size + 1) j hd xs ∧ (∀ (q : Nat) (x : ByteArray), (xs s)[q]? = some x → ∃ g, A = some ⟨g, 0, none⟩ ∧ wi.cell? ⟨g, q, none⟩ = some (.string x)) ∧ Below w.heap.size w wi)
            (fun i _ => (xs s).length - (intOf i).toNat)
          case atStart => exact ⟨0, Nat.zero_le _, rfl, fun q hq => absurd hq (by omega), hgr2, hcell2, hbel2⟩
          case round =>
            clear hcell hgr hbel hgr2 hcell2 hbel2
            obtain ⟨m, hm, rfl, hsame, hgr3, hcell3, hbel3⟩ := hrel
            have hlm := hlen s
            by_cases hml : m < (xs s).length
            · have hy : (xs s)[m]? = some (xs s)[m] := List.getElem?_eq_getElem hml
              obtain ⟨g, eg, hc3⟩ := hcell3 m _ hy
              subst eg
              generalize hye : (xs s)[m] = y at hy hc3
              by_cases hyt : y = t
              · have q1 : (y.toList == t.toList) = true := by rw [hyt]; simp
                have q2 : (y.toList != t.toList) = false := by rw [hyt]; simp
                go_wp2
                go_roundw
                case rel =>
                  refine ⟨m + 1, by omega, by go_num, fun q hq => ?_, hgr3, hcell3, hbel3⟩
                  by_cases e : q = m
                  · rw [e, hy, hyt]
                  · exact hsame q (by omega)
                case measure => simp [intOf]; omega
              · have q0 : ¬ y.toList = t.toList := fun z => hyt (by rw [ByteArray.toList_eq, ByteArray.toList_eq] at z; cases y; cases t; simp at z; rw [z])
                have q1 : (y.toList == t.toList) = false := beq_eq_false_iff_ne.2 q0
                have q2 : (y.toList != t.toList) = true := bne_iff_ne.2 q0
                have hG1 := hG.out
                rw [impl_Clash.find_first t y (xs s) m hsame hy hyt] at hG1
                simp only [Option.some.injEq, Prod.mk.injEq] at hG1
                obtain ⟨rfl, rfl, rfl⟩ := hG1
                go_wp2
                go_ret3
                exact ⟨rfl, hbel3⟩
            · obtain rfl : m = (xs s).length := by omega
              have hG1 := hG.out
              rw [impl_Clash.find_none t (xs s) hsame] at hG1
              replace hG1 : impl_Clash.go k a1 (S.upd xs s (xs s ++ [t])) (l0.drop (j + 1)) = some (r1, r2, r3) := hG1
              have hG2 := Aside0.mk hG1
              clear hG1 hG
              obtain ⟨i0, hi, hz0, hz1, hz2⟩ := info_parts impl_Clash.info9
              have hbase := hgr3.lt
              have hbelc := HB.out.size
              have hbels := hbel3.size
              go_wp2_with (first
                | (at_lookup; refine S.wpList_lookup_group _ rfl _ _ 49 rfl 9 27 9 Try.underlying9 Try.underlying49 (impl_Clash.zero_slice _) wc.heap.size (wc.heap.size + 1) j hd xs rfl hgr3 s rfl hsz ?_; rw [eh])
                | (at_builtin; refine wpList_append_own_at _ rfl _ _ 27 rfl (wc.heap.size + 1) 9 i0 (.string ⟨#[]⟩) 1 16 Try.underlying27 hi hz0 hz1 hz2 rfl (by decide) _ (xs s).length _ rfl (by rw [← eh]; exact (hgr3.row s).alloc _) _ 1 1 [.string t] rfl rfl (cell_one_new _ _ _) (by simp [Value.oneCell']) (by unfold maxLen; omega) (by omega) (by simp; omega) ?_; intro v' w4 hrow4 hg4 hnil4 hloc4)
                | (at_mapUpdate; refine S.wpList_update_group _ rfl _ _ _ 49 rfl 9 27 9 Try.underlying9 Try.underlying49 wc.heap.size (wc.heap.size + 1) j hd xs rfl hgr3 (by unfold maxLen; omega) s rfl hsz v' (xs s ++ [t]) rfl (by rw [eh]; exact S.grown_trans (World.grownBy_alloc _ _ none) hg4) (by simpa using hrow4) (by rw [eh]; exact hloc4.imp id (fun z => ⟨_, z, by simp⟩)) ?_; intro w5 hgr5 hg5))
              go_roundw
              case rel =>
                refine ⟨j + 1, _, _, by omega, by go_num, hgr5, fun u => ?_, hG2, ((hbel3.alloc hbel3.size _).grown hg4 (by simp; omega) (fun i hi => ?_)).grown hg5 (by have := hg4.size; simp at this; omega) (fun i hi => by cases hi; exact hbelc)⟩
                · unfold S.upd
                  by_cases e : u = s
                  · rw [if_pos e]; simp; omega
                  · rw [if_neg e]; have := hlen u; omega
                · rw [← eh] at hi; have := (hgr3.row s).lt i hi; omega
              case measure => simp [intOf]; omega
        · obtain rfl : j = l0.length := by omega
          rw [List.drop_length, impl_Clash.go] at hgo1
          simp only [Option.some.injEq, Prod.mk.injEq] at hgo1
          obtain ⟨rfl, rfl, rfl⟩ := hgo1
          go_wp2
          go_ret3
          exact ⟨rfl, hbel⟩
    · have h := H.out
      rw [if_neg c] at h
      have e := hb.out
      rw [decide_eq_false c] at e
      simp only [Bool.not_false] at e
      subst e
      simp only [Option.some.injEq, Prod.mk.injEq] at h
      obtain ⟨rfl, rfl, rfl⟩ := h
      go_wp2
      go_ret3
      exact ⟨rfl, HB.out⟩

/-! ### laws_FnExactClash: function 7 -/
def laws_FnExactClash.j0 : Nat → List ByteArray → List ByteArray → Bool → Option (Bool)
  | 0, _, _, _ => none
  | k + 1, x0, x9, x47 => if x47 = true then (some false) else ((laws_toStringS.f k x0).bind fun t149 => ((laws_eqStringS.f k x9 t149).bind fun t152 => (if t152 = true then (some true) else (some false))))
def laws_FnExactClash.f (k : Nat) (l0 : List ByteArray) (a1 : Int) : Option (Bool) := (laws_szStringS.f k l0 1048576).bind fun t136 => (if t136 < 0 then (some true) else ((laws_toStringS.f k l0).bind fun t137 => ((spec_Clash.f k t137 a1).bind fun bt140 => ((laws_toStringS.f k l0).bind fun t143 => ((impl_Clash.f k t143 a1).bind fun bt146 => (if bt146.1.toList = bt140.1.toList then (if bt146.2.1.toList = bt140.2.1.toList then (laws_FnExactClash.j0 k l0 t143 (bt146.2.2 != bt140.2.2)) else (laws_FnExactClash.j0 k l0 t143 true)) else (laws_FnExactClash.j0 k l0 t143 true)))))))
theorem laws_FnExactClash.mono_l : ∀ k, (∀ y0 y1 y2, LeO (laws_FnExactClash.j0 k y0 y1 y2) (laws_FnExactClash.j0 (k + 1) y0 y1 y2))
  | 0 => fun _ _ _ r h => by simp [laws_FnExactClash.j0] at h
  | k + 1 => by
    have ih0 := laws_FnExactClash.mono_l k
    · intro y0 y1 y2
      unfold laws_FnExactClash.j0
      repeat' first
      | (with_reducible exact ih0 _ _ _)
      | (with_reducible exact impl_Clash.mono _ _ _)
      | (with_reducible exact laws_eqStringS.mono _ _ _)
      | (with_reducible exact laws_szStringS.mono _ _ _)
      | (with_reducible exact laws_toStringS.mono _ _)
      | (with_reducible exact spec_Clash.mono _ _ _)
      | (with_reducible exact LeO.refl _)
      | (with_reducible exact LeO.none _)
      | (with_reducible refine LeO.ite ?_ ?_)
      | (with_reducible refine LeO.bind ?_ (fun _ => ?_))
      | exact ih0 _ _ _
      | exact impl_Clash.mono _ _ _
      | exact laws_eqStringS.mono _ _ _
      | exact laws_szStringS.mono _ _ _
      | exact laws_toStringS.mono _ _
      | exact spec_Clash.mono _ _ _
      | exact LeO.none _
      | refine LeO.ite ?_ ?_
      | refine LeO.bind ?_ (fun _ => ?_)
theorem laws_FnExactClash.mono : ∀ a0 a1 k, LeO (laws_FnExactClash.f k a0 a1) (laws_FnExactClash.f (k + 1) a0 a1) := by
  intro a0 a1 k
  have ih0 := laws_FnExactClash.mono_l k
  unfold laws_FnExactClash.f
  repeat' first
      | (with_reducible exact ih0 _ _ _)
      | (with_reducible exact impl_Clash.mono _ _ _)
      | (with_reducible exact laws_eqStringS.mono _ _ _)
      | (with_reducible exact laws_szStringS.mono _ _ _)
      | (with_reducible exact laws_toStringS.mono _ _)
      | (with_reducible exact spec_Clash.mono _ _ _)
      | (with_reducible exact LeO.refl _)
      | (with_reducible exact LeO.none _)
      | (with_reducible refine LeO.ite ?_ ?_)
      | (with_reducible refine LeO.bind ?_ (fun _ => ?_))
      | exact ih0 _ _ _
      | exact impl_Clash.mono _ _ _
      | exact laws_eqStringS.mono _ _ _
      | exact laws_szStringS.mono _ _ _
      | exact laws_toStringS.mono _ _
      | exact spec_Clash.mono _ _ _
      | exact LeO.none _
      | refine LeO.ite ?_ ?_
      | refine LeO.bind ?_ (fun _ => ?_)
set_option maxHeartbeats 8000000 in
set_option maxRecDepth 100000 in
theorem laws_FnExactClash.calls (k : Nat) (A0 : Option Addr) (c0 : Nat) (l0 : List ByteArray) (a1 : Int) (r : Bool) (w : World) (hr0 : Kd.C Kd.string w A0 l0.length l0) (hc0 : l0.length ≤ c0) (h : laws_FnExactClash.f k l0 a1 = some r) :
    Calls Try.prog 7 #[.slice A0 l0.length c0, .int .i64 a1] w fun e w' => e = .returned (.bool r) ∧ Below w.heap.size w w' := by
  have HR0 := Aside0.mk hr0
  have HC0 := Aside0.mk hc0
  clear hr0 hc0
  have HB := Aside0.mk (Below.refl w.heap.size w)
  have H : ((laws_szStringS.f k l0 1048576).bind fun t136 => (if t136 < 0 then (some true) else ((laws_toStringS.f k l0).bind fun t137 => ((spec_Clash.f k t137 a1).bind fun bt140 => ((laws_toStringS.f k l0).bind fun t143 => ((impl_Clash.f k t143 a1).bind fun bt146 => (if bt146.1.toList = bt140.1.toList then (if bt146.2.1.toList = bt140.2.1.toList then (laws_FnExactClash.j0 k l0 t143 (bt146.2.2 != bt140.2.2)) else (laws_FnExactClash.j0 k l0 t143 true)) else (laws_FnExactClash.j0 k l0 t143 true)))))))) = some r := h
  clear h
  replace H := Option.bind_eq_some_iff.mp H
  obtain ⟨t136, A30, H⟩ := H
  replace H : (if t136 < 0 then (some true) else ((laws_toStringS.f k l0).bind fun t137 => ((spec_Clash.f k t137 a1).bind fun bt140 => ((laws_toStringS.f k l0).bind fun t143 => ((impl_Clash.f k t143 a1).bind fun bt146 => (if bt146.1.toList = bt140.1.toList then (if bt146.2.1.toList = bt140.2.1.toList then (laws_FnExactClash.j0 k l0 t143 (bt146.2.2 != bt140.2.2)) else (laws_FnExactClash.j0 k l0 t143 true)) else (laws_FnExactClash.j0 k l0 t143 true))))))) = some r := H
  have A3 := Aside0.mk A30
  clear A30
  by_cases c4 : t136 < 0
  · rw [if_pos c4] at H
    have c4b0 : decide (t136 < 0) = true := decide_eq_true c4
    clear c4
    obtain rfl := Option.some.inj H
    go_enter Try.func7, Try.ntmps7
    go_wp2_with (first | ((with_reducible refine gate_callee (f := 19) rfl ?_); refine goesL_ (some 15) rfl rfl Try.func19 (by kernel_rfl) rfl #[.slice A0 l0.length c0, .int .i64 1048576] rfl (by (try simp only [List.map_toArray, List.map_cons, List.map_nil]); first | done | rfl | (simp only [List.length_drop, List.length_take]; rfl)) ?_; (with_reducible refine (laws_szStringS.calls k _ _ l0 1048576 t136 _ ?side1 ?side2 A3.out).mono ?_); (case side1 => repeat (first | exact HR0.out | (with_reducible refine Kd.C_alloc ?_ _) | (with_reducible refine Kd.C_drewN ?_ _) | (with_reducible refine Kd.C_drew ?_))); (case side2 => exact HC0.out); rintro e w' ⟨rfl, ⟨nd, rfl⟩⟩; refine ⟨_, rfl, ?_⟩))
    go_ret
    exact ⟨by first | rfl | (simp [errW_none, errW_some] <;> rfl) | (simp [*, errW_none, errW_some] <;> rfl), by repeat (first | (with_reducible first | exact HB.out | apply below_alloc | apply pw_below_drewN | apply below_drew1) | exact HB.out)⟩
  · rw [if_neg c4] at H
    have c4b0 : decide (t136 < 0) = false := decide_eq_false c4
    clear c4
    replace H := Option.bind_eq_some_iff.mp H
    obtain ⟨t137, A50, H⟩ := H
    replace H : ((spec_Clash.f k t137 a1).bind fun bt140 => ((laws_toStringS.f k l0).bind fun t143 => ((impl_Clash.f k t143 a1).bind fun bt146 => (if bt146.1.toList = bt140.1.toList then (if bt146.2.1.toList = bt140.2.1.toList then (laws_FnExactClash.j0 k l0 t143 (bt146.2.2 != bt140.2.2)) else (laws_FnExactClash.j0 k l0 t143 true)) else (laws_FnExactClash.j0 k l0 t143 true))))) = some r := H
    have A5 := Aside0.mk A50
    clear A50
    replace H := Option.bind_eq_some_iff.mp H
    obtain ⟨⟨t140, t141, t142⟩, A60, H⟩ := H
    replace H : ((laws_toStringS.f k l0).bind fun t143 => ((impl_Clash.f k t143 a1).bind fun bt146 => (if bt146.1.toList = t140.toList then (if bt146.2.1.toList = t141.toList then (laws_FnExactClash.j0 k l0 t143 (bt146.2.2 != t142)) else (laws_FnExactClash.j0 k l0 t143 true)) else (laws_FnExactClash.j0 k l0 t143 true)))) = some r := H
    have A6 := Aside0.mk A60
    clear A60
    replace H := Option.bind_eq_some_iff.mp H
    obtain ⟨t143, A70, H⟩ := H
    replace H : ((impl_Clash.f k t143 a1).bind fun bt146 => (if bt146.1.toList = t140.toList then (if bt146.2.1.toList = t141.toList then (laws_FnExactClash.j0 k l0 t143 (bt146.2.2 != t142)) else (laws_FnExactClash.j0 k l0 t143 true)) else (laws_FnExactClash.j0 k l0 t143 true))) = some r := H
    have A7 := Aside0.mk A70
    clear A70
    replace H := Option.bind_eq_some_iff.mp H
    obtain ⟨⟨t146, t147, t148⟩, A80, H⟩ := H
    replace H : (if t146.toList = t140.toList then (if t147.toList = t141.toList then (laws_FnExactClash.j0 k l0 t143 (t148 != t142)) else (laws_FnExactClash.j0 k l0 t143 true)) else (laws_FnExactClash.j0 k l0 t143 true)) = some r := H
    have A8 := Aside0.mk A80
    clear A80
    have HC9 := Aside0.mk H
    clear H
    go_enter Try.func7, Try.ntmps7
    go_upto_region 8 with (first | ((with_reducible refine gate_callee (f := 19) rfl ?_); refine goesL_ (some 15) rfl rfl Try.func19 (by kernel_rfl) rfl #[.slice A0 l0.length c0, .int .i64 1048576] rfl (by (try simp only [List.map_toArray, List.map_cons, List.map_nil]); first | done | rfl | (simp only [List.length_drop, List.length_take]; rfl)) ?_; (with_reducible refine (laws_szStringS.calls k _ _ l0 1048576 t136 _ ?side1 ?side2 A3.out).mono ?_); (case side1 => repeat (first | exact HR0.out | (with_reducible refine Kd.C_alloc ?_ _) | (with_reducible refine Kd.C_drewN ?_ _) | (with_reducible refine Kd.C_drew ?_))); (case side2 => exact HC0.out); rintro e w' ⟨rfl, ⟨nd, rfl⟩⟩; refine ⟨_, rfl, ?_⟩) | ((with_reducible refine gate_callee (f := 21) rfl ?_); refine goesL_ (some 20) rfl rfl Try.func21 (by kernel_rfl) rfl #[.slice A0 l0.length c0] rfl (by (try simp only [List.map_toArray, List.map_cons, List.map_nil]); first | done | rfl | (simp only [List.length_drop, List.length_take]; rfl)) ?_; (with_reducible refine (laws_toStringS.calls k _ _ l0 t137 _ ?side1 ?side2 A5.out).mono ?_); (case side1 => repeat (first | exact HR0.out | (with_reducible refine Kd.C_alloc ?_ _) | (with_reducible refine Kd.C_drewN ?_ _) | (with_reducible refine Kd.C_drew ?_))); (case side2 => exact HC0.out); rintro e w10 ⟨v138, rfl, ho0, hb⟩; refine ⟨_, rfl, ?_⟩; have n0_ := Aside0.mk (Kd.R_lower ho0 (below_size (by repeat (first | (with_reducible first | exact HB.out | apply below_alloc | apply pw_below_drewN | apply below_drew1) | exact HB.out)))); have n1_ := Aside0.mk (below_step (by repeat (first | (with_reducible first | exact HB.out | apply below_alloc | apply pw_below_drewN | apply below_drew1) | exact HB.out)) hb); clear HB; have HO139 := n0_; have HB := n1_; clear n0_ n1_; (try clear hb); (try clear hb2); (try clear hk); (try clear hi); (try clear ho0); obtain ⟨Ao11, co11, eo11⟩ := Kd.R_slice HO139.out; subst eo11) | ((with_reducible refine gate_callee (f := 20) rfl ?_); refine goesL_ (some 22) rfl rfl Try.func20 (by kernel_rfl) rfl #[.slice Ao11 t137.length co11, .int .i64 a1] rfl (by (try simp only [List.map_toArray, List.map_cons, List.map_nil]); first | done | rfl | (simp only [List.length_drop, List.length_take]; rfl)) ?_; (with_reducible refine (spec_Clash.calls k _ _ t137 a1 t140 t141 t142 _ ?side1 ?side2 A6.out).mono ?_); (case side1 => repeat (first | exact (Kd.R_reads' HO139.out).2.2 | (with_reducible refine Kd.C_alloc ?_ _) | (with_reducible refine Kd.C_drewN ?_ _) | (with_reducible refine Kd.C_drew ?_))); (case side2 => exact (Kd.R_reads' HO139.out).2.1); rintro e w12 ⟨rfl, hb⟩; refine ⟨_, rfl, ?_⟩; have n0_ := Aside0.mk (Kd.R_below (by (with_reducible repeat (first | apply Kd.R_alloc | apply Kd.R_drewN | apply Kd.R_drew)); exact HO139.out) hb); have n1_ := Aside0.mk (below_step (by repeat (first | (with_reducible first | exact HB.out | apply below_alloc | apply pw_below_drewN | apply below_drew1) | exact HB.out)) hb); clear HO139; clear HB; have HO139 := n0_; have HB := n1_; clear n0_ n1_; (try clear hb); (try clear hb2); (try clear hk); (try clear hi)) | ((with_reducible refine gate_callee (f := 21) rfl ?_); refine goesL_ (some 27) rfl rfl Try.func21 (by kernel_rfl) rfl #[.slice A0 l0.length c0] rfl (by (try simp only [List.map_toArray, List.map_cons, List.map_nil]); first | done | rfl | (simp only [List.length_drop, List.length_take]; rfl)) ?_; (with_reducible refine (laws_toStringS.calls k _ _ l0 t143 _ ?side1 ?side2 A7.out).mono ?_); (case side1 => repeat (first | exact (Kd.C_below HR0.out HB.out) | (with_reducible refine Kd.C_alloc ?_ _) | (with_reducible refine Kd.C_drewN ?_ _) | (with_reducible refine Kd.C_drew ?_))); (case side2 => exact HC0.out); rintro e w13 ⟨v144, rfl, ho0, hb⟩; refine ⟨_, rfl, ?_⟩; have n0_ := Aside0.mk (Kd.R_elder' (by (with_reducible repeat (first | apply Kd.R_alloc | apply Kd.R_drewN | apply Kd.R_drew)); exact HO139.out) (Kd.R_base ho0) hb); have n1_ := Aside0.mk (Kd.R_lower (Kd.R_new' ho0 (Kd.R_lt (by (with_reducible repeat (first | apply Kd.R_alloc | apply Kd.R_drewN | apply Kd.R_drew)); exact HO139.out))) (below_size (by repeat (first | (with_reducible first | exact HB.out | apply below_alloc | apply pw_below_drewN | apply below_drew1) | exact HB.out)))); have n2_ := Aside0.mk (below_step (by repeat (first | (with_reducible first | exact HB.out | apply below_alloc | apply pw_below_drewN | apply below_drew1) | exact HB.out)) hb); clear HO139; clear HB; have HO139 := n0_; have HO145 := n1_; have HB := n2_; clear n0_ n1_ n2_; (try clear hb); (try clear hb2); (try clear hk); (try clear hi); (try clear ho0); obtain ⟨Ao14, co14, eo14⟩ := Kd.R_slice HO145.out; subst eo14) | ((with_reducible refine gate_callee (f := 22) rfl ?_); refine goesL_ (some 31) rfl rfl Try.func22 (by kernel_rfl) rfl #[.slice Ao14 t143.length co14, .int .i64 a1] rfl (by (try simp only [List.map_toArray, List.map_cons, List.map_nil]); first | done | rfl | (simp only [List.length_drop, List.length_take]; rfl)) ?_; (with_reducible refine (impl_Clash.calls k _ _ t143 a1 t146 t147 t148 _ ?side1 ?side2 A8.out).mono ?_); (case side1 => repeat (first | exact (Kd.R_reads' HO145.out).2.2 | (with_reducible refine Kd.C_alloc ?_ _) | (with_reducible refine Kd.C_drewN ?_ _) | (with_reducible refine Kd.C_drew ?_))); (case side2 => exact (Kd.R_reads' HO145.out).2.1); rintro e w15 ⟨rfl, hb⟩; refine ⟨_, rfl, ?_⟩; have n0_ := Aside0.mk (Kd.R_below (by (with_reducible repeat (first | apply Kd.R_alloc | apply Kd.R_drewN | apply Kd.R_drew)); exact HO139.out) hb); have n1_ := Aside0.mk (Kd.R_below (by (with_reducible repeat (first | apply Kd.R_alloc | apply Kd.R_drewN | apply Kd.R_drew)); exact HO145.out) hb); have n2_ := Aside0.mk (below_step (by repeat (first | (with_reducible first | exact HB.out | apply below_alloc | apply pw_below_drewN | apply below_drew1) | exact HB.out)) hb); clear HO139; clear HO145; clear HB; have HO139 := n0_; have HO145 := n1_; have HB := n2_; clear n0_ n1_ n2_; (try clear hb); (try clear hb2); (try clear hk); (try clear hi)))
    (try simp only [Act.put, List.setIfInBounds_toArray, List.set_cons_zero, List.set_cons_succ])
    go_cut [47] (fun v47 wc => ∃ (kq : Nat) (x47_8 : Bool), v47 = .bool x47_8 ∧ Aside0 (laws_FnExactClash.j0 kq l0 t143 x47_8 = some r) ∧ Aside0 (kq ≤ k) ∧ Aside0 (Kd.R Kd.string 9 wc w.heap.size (fun _ => True) (.slice Ao14 t143.length co14) t143) ∧ Aside0 (Below w.heap.size w wc))
    case first =>
      have H := HC9.out
      clear HC9
      by_cases c16 : t146.toList = t140.toList
      · rw [if_pos c16] at H
        have c16b0 : (t146.toList == t140.toList) = true := beq_iff_eq.mpr c16
        have c16b1 : (t146.toList != t140.toList) = false := bne_eq_false_iff_eq.mpr c16
        clear c16
        (first | rw [c16b0] | (simp only [i64_w, i32_w]; rw [c16b0]) | skip)
        by_cases c17 : t147.toList = t141.toList
        · rw [if_pos c17] at H
          have c17b0 : (t147.toList == t141.toList) = true := beq_iff_eq.mpr c17
          have c17b1 : (t147.toList != t141.toList) = false := bne_eq_false_iff_eq.mpr c17
          clear c17
          have H' := Aside0.mk H
          clear H
          go_wp2
          go_meet
          case rel => exact ⟨_, ((t148 != t142)), (by first | rfl | (simp; done) | (simp [*]; done)), H', ⟨by first | omega | exact Nat.le_refl _⟩, ⟨by (with_reducible repeat (first | apply Kd.R_alloc | apply Kd.R_drewN | apply Kd.R_drew)); exact Kd.R_mono HO145.out (fun _ hk => trivial)⟩, ⟨by repeat (first | (with_reducible first | exact HB.out | apply below_alloc | apply pw_below_drewN | apply below_drew1) | exact HB.out)⟩⟩
        · rw [if_neg c17] at H
          have c17b0 : (t147.toList == t141.toList) = false := beq_eq_false_iff_ne.mpr c17
          have c17b1 : (t147.toList != t141.toList) = true := bne_iff_ne.mpr c17
          have H' := Aside0.mk H
          clear H
          go_wp2
          go_meet
          case rel => exact ⟨_, (true), (by first | rfl | (simp; done) | (simp [*]; done)), H', ⟨by first | omega | exact Nat.le_refl _⟩, ⟨by (with_reducible repeat (first | apply Kd.R_alloc | apply Kd.R_drewN | apply Kd.R_drew)); exact Kd.R_mono HO145.out (fun _ hk => trivial)⟩, ⟨by repeat (first | (with_reducible first | exact HB.out | apply below_alloc | apply pw_below_drewN | apply below_drew1) | exact HB.out)⟩⟩
      · rw [if_neg c16] at H
        have c16b0 : (t146.toList == t140.toList) = false := beq_eq_false_iff_ne.mpr c16
        have c16b1 : (t146.toList != t140.toList) = true := bne_iff_ne.mpr c16
        (first | rw [c16b0] | (simp only [i64_w, i32_w]; rw [c16b0]) | skip)
        have H' := Aside0.mk H
        clear H
        go_wp2
        go_meet
        case rel => exact ⟨_, (true), (by first | rfl | (simp; done) | (simp [*]; done)), H', ⟨by first | omega | exact Nat.le_refl _⟩, ⟨by (with_reducible repeat (first | apply Kd.R_alloc | apply Kd.R_drewN | apply Kd.R_drew)); exact Kd.R_mono HO145.out (fun _ hk => trivial)⟩, ⟨by repeat (first | (with_reducible first | exact HB.out | apply below_alloc | apply pw_below_drewN | apply below_drew1) | exact HB.out)⟩⟩
    case rest =>
      clear HC9
      try clear c1
      try clear c2
      try clear p2
      try clear c4
      try clear c4b0
      try clear c7
      try clear c16
      try clear c16b0
      try clear c16b1
      try clear c17
      try clear c17b0
      try clear c17b1
      obtain ⟨kq, x47_8, rfl, HA, HJ8, HO_9, HB⟩ := hcut
      cases kq with
      | zero => exact absurd HA.out (by simp [laws_FnExactClash.j0])
      | succ kj8 =>
        have H := HA.out
        clear HA
        simp only [laws_FnExactClash.j0] at H
        by_cases c18 : x47_8 = true
        · subst c18
          have H1 : (some false) = some r := by rw [if_pos rfl] at H; exact H
          clear H
          have H := H1
          clear H1
          obtain rfl := Option.some.inj H
          go_wp2
          go_ret
          exact ⟨by first | rfl | (simp [errW_none, errW_some] <;> rfl) | (simp [*, errW_none, errW_some] <;> rfl), by repeat (first | (with_reducible first | exact HB.out | apply below_alloc | apply pw_below_drewN | apply below_drew1) | exact HB.out)⟩
        · replace c18 := Bool.eq_false_iff.mpr c18
          subst c18
          have H1 : ((laws_toStringS.f kj8 l0).bind fun t149 => ((laws_eqStringS.f kj8 t143 t149).bind fun t152 => (if t152 = true then (some true) else (some false)))) = some r := by rw [if_neg (show ¬ (false = true) by decide)] at H; exact H
          clear H
          have H := H1
          clear H1
          replace H := Option.bind_eq_some_iff.mp H
          obtain ⟨t149, A190, H⟩ := H
          replace H : ((laws_eqStringS.f kj8 t143 t149).bind fun t152 => (if t152 = true then (some true) else (some false))) = some r := H
          have A19 := Aside0.mk A190
          clear A190
          replace H := Option.bind_eq_some_iff.mp H
          obtain ⟨t152, A200, H⟩ := H
          replace H : (if t152 = true then (some true) else (some false)) = some r := H
          have A20 := Aside0.mk A200
          clear A200
          by_cases c21 : t152 = true
          · subst c21
            have H1 : (some true) = some r := by rw [if_pos rfl] at H; exact H
            clear H
            have H := H1
            clear H1
            obtain rfl := Option.some.inj H
            go_wp2_with (first | ((with_reducible refine gate_callee (f := 21) rfl ?_); refine goesL_ (some 50) rfl rfl Try.func21 (by kernel_rfl) rfl #[.slice A0 l0.length c0] rfl (by (try simp only [List.map_toArray, List.map_cons, List.map_nil]); first | done | rfl | (simp only [List.length_drop, List.length_take]; rfl)) ?_; (with_reducible refine (laws_toStringS.calls kj8 _ _ l0 t149 _ ?side1 ?side2 A19.out).mono ?_); (case side1 => repeat (first | exact (Kd.C_below HR0.out HB.out) | (with_reducible refine Kd.C_alloc ?_ _) | (with_reducible refine Kd.C_drewN ?_ _) | (with_reducible refine Kd.C_drew ?_))); (case side2 => exact HC0.out); rintro e w22 ⟨v150, rfl, ho0, hb⟩; refine ⟨_, rfl, ?_⟩; have n0_ := Aside0.mk (Kd.R_elder' (by (with_reducible repeat (first | apply Kd.R_alloc | apply Kd.R_drewN | apply Kd.R_drew)); exact HO_9.out) (Kd.R_base ho0) hb); have n1_ := Aside0.mk (Kd.R_lower (Kd.R_new' ho0 (Kd.R_lt (by (with_reducible repeat (first | apply Kd.R_alloc | apply Kd.R_drewN | apply Kd.R_drew)); exact HO_9.out))) (below_size (by repeat (first | (with_reducible first | exact HB.out | apply below_alloc | apply pw_below_drewN | apply below_drew1) | exact HB.out)))); have n2_ := Aside0.mk (below_step (by repeat (first | (with_reducible first | exact HB.out | apply below_alloc | apply pw_below_drewN | apply below_drew1) | exact HB.out)) hb); clear HO_9; clear HB; have HO_9 := n0_; have HO151 := n1_; have HB := n2_; clear n0_ n1_ n2_; (try clear hb); (try clear hb2); (try clear hk); (try clear hi); (try clear ho0); obtain ⟨Ao23, co23, eo23⟩ := Kd.R_slice HO151.out; subst eo23) | ((with_reducible refine gate_callee (f := 16) rfl ?_); refine goesL_ (some 51) rfl rfl Try.func16 (by kernel_rfl) rfl #[.slice Ao14 t143.length co14, .slice Ao23 t149.length co23] rfl (by (try simp only [List.map_toArray, List.map_cons, List.map_nil]); first | done | rfl | (simp only [List.length_drop, List.length_take]; rfl)) ?_; (with_reducible refine (laws_eqStringS.calls kj8 _ _ t143 _ _ t149 true _ ?side1 ?side2 ?side3 ?side4 A20.out).mono ?_); (case side1 => repeat (first | exact (Kd.R_reads' HO_9.out).2.2 | (with_reducible refine Kd.C_alloc ?_ _) | (with_reducible refine Kd.C_drewN ?_ _) | (with_reducible refine Kd.C_drew ?_))); (case side2 => exact (Kd.R_reads' HO_9.out).2.1); (case side3 => repeat (first | exact (Kd.R_reads' HO151.out).2.2 | (with_reducible refine Kd.C_alloc ?_ _) | (with_reducible refine Kd.C_drewN ?_ _) | (with_reducible refine Kd.C_drew ?_))); (case side4 => exact (Kd.R_reads' HO151.out).2.1); rintro e w' ⟨rfl, ⟨nd, rfl⟩⟩; refine ⟨_, rfl, ?_⟩))
            go_ret
            exact ⟨by first | rfl | (simp [errW_none, errW_some] <;> rfl) | (simp [*, errW_none, errW_some] <;> rfl), by repeat (first | (with_reducible first | exact HB.out | apply below_alloc | apply pw_below_drewN | apply below_drew1) | exact HB.out)⟩
          · replace c21 := Bool.eq_false_iff.mpr c21
            subst c21
            have H1 : (some false) = some r := by rw [if_neg (show ¬ (false = true) by decide)] at H; exact H
            clear H
            have H := H1
            clear H1
            obtain rfl := Option.some.inj H
            go_wp2_with (first | ((with_reducible refine gate_callee (f := 21) rfl ?_); refine goesL_ (some 50) rfl rfl Try.func21 (by kernel_rfl) rfl #[.slice A0 l0.length c0] rfl (by (try simp only [List.map_toArray, List.map_cons, List.map_nil]); first | done | rfl | (simp only [List.length_drop, List.length_take]; rfl)) ?_; (with_reducible refine (laws_toStringS.calls kj8 _ _ l0 t149 _ ?side1 ?side2 A19.out).mono ?_); (case side1 => repeat (first | exact (Kd.C_below HR0.out HB.out) | (with_reducible refine Kd.C_alloc ?_ _) | (with_reducible refine Kd.C_drewN ?_ _) | (with_reducible refine Kd.C_drew ?_))); (case side2 => exact HC0.out); rintro e w24 ⟨v150, rfl, ho0, hb⟩; refine ⟨_, rfl, ?_⟩; have n0_ := Aside0.mk (Kd.R_elder' (by (with_reducible repeat (first | apply Kd.R_alloc | apply Kd.R_drewN | apply Kd.R_drew)); exact HO_9.out) (Kd.R_base ho0) hb); have n1_ := Aside0.mk (Kd.R_lower (Kd.R_new' ho0 (Kd.R_lt (by (with_reducible repeat (first | apply Kd.R_alloc | apply Kd.R_drewN | apply Kd.R_drew)); exact HO_9.out))) (below_size (by repeat (first | (with_reducible first | exact HB.out | apply below_alloc | apply pw_below_drewN | apply below_drew1) | exact HB.out)))); have n2_ := Aside0.mk (below_step (by repeat (first | (with_reducible first | exact HB.out | apply below_alloc | apply pw_below_drewN | apply below_drew1) | exact HB.out)) hb); clear HO_9; clear HB; have HO_9 := n0_; have HO151 := n1_; have HB := n2_; clear n0_ n1_ n2_; (try clear hb); (try clear hb2); (try clear hk); (try clear hi); (try clear ho0); obtain ⟨Ao25, co25, eo25⟩ := Kd.R_slice HO151.out; subst eo25) | ((with_reducible refine gate_callee (f := 16) rfl ?_); refine goesL_ (some 51) rfl rfl Try.func16 (by kernel_rfl) rfl #[.slice Ao14 t143.length co14, .slice Ao25 t149.length co25] rfl (by (try simp only [List.map_toArray, List.map_cons, List.map_nil]); first | done | rfl | (simp only [List.length_drop, List.length_take]; rfl)) ?_; (with_reducible refine (laws_eqStringS.calls kj8 _ _ t143 _ _ t149 false _ ?side1 ?side2 ?side3 ?side4 A20.out).mono ?_); (case side1 => repeat (first | exact (Kd.R_reads' HO_9.out).2.2 | (with_reducible refine Kd.C_alloc ?_ _) | (with_reducible refine Kd.C_drewN ?_ _) | (with_reducible refine Kd.C_drew ?_))); (case side2 => exact (Kd.R_reads' HO_9.out).2.1); (case side3 => repeat (first | exact (Kd.R_reads' HO151.out).2.2 | (with_reducible refine Kd.C_alloc ?_ _) | (with_reducible refine Kd.C_drewN ?_ _) | (with_reducible refine Kd.C_drew ?_))); (case side4 => exact (Kd.R_reads' HO151.out).2.1); rintro e w' ⟨rfl, ⟨nd, rfl⟩⟩; refine ⟨_, rfl, ?_⟩))
            go_ret
            exact ⟨by first | rfl | (simp [errW_none, errW_some] <;> rfl) | (simp [*, errW_none, errW_some] <;> rfl), by repeat (first | (with_reducible first | exact HB.out | apply below_alloc | apply pw_below_drewN | apply below_drew1) | exact HB.out)⟩

/-- The pure statement of the law. -/
def laws_FnExactClash.Law : Prop := ∀ (l0 : List ByteArray) (a1 : Int), (l0.length ≤ maxLen ∧ ∀ x ∈ l0, x.size ≤ maxLen) → ((Lit.int .i64 a1).wf = true) → ∃ k, laws_FnExactClash.f k l0 a1 = some true

end Go.Proofs.Ytbmldafgipimbaa.PFnExactClash

-- Walks of printed functions (by wip/gen.py of this session, with the kit's program).
import Derived.Test.YtbmldafgipimbaaGFnClashx0
import Derived.Test.YtbmldafgipimbaaGFnClashx1
import Derived.Test.YtbmldafgipimbaaGFnClashx2
import Derived.Test.YtbmldafgipimbaaGFnClashx4
namespace Go.Proofs.Ytbmldafgipimbaa.PFnClash
open Go.RowKit Go.Proofs.YtbmldafgipimbaaW.PrintWords Go.Proofs.YtbmldafgipimbaaW.PrintLast Go.Proofs.YtbmldafgipimbaaW.PrintMore
attribute [local go_sem] max2_int min2_int max_two min_two max_three min_three max_four min_four   -- for this text's walks alone
attribute [local go_sem] Go.Proofs.Ytbmldafgipimbaa.L.str_geq
set_option linter.unusedVariables false
set_option linter.unusedSimpArgs false

/-! ### laws_FnClash: function 8 -/
def laws_FnClash.j0 : Nat → Int → ByteArray → ByteArray → Bool → Bool → Option (Bool)
  | 0, _, _, _, _, _ => none
  | k + 1, x4, x5, x6, x7, x45 => if x45 = true then (some false) else (if x7 = true then (if x5.toList = x6.toList then (some false) else ((impl_Sum.f k x5 x4).bind fun t195 => ((impl_Sum.f k x6 x4).bind fun t196 => (some (t195.toList == t196.toList))))) else (some true))
def laws_FnClash.f (k : Nat) (l0 : List Int) : Option (Bool) := if (l0.length : Int) > 1048576 then (some true) else ((spec_DrawClash.f k l0).bind fun bt185 => ((impl_Clash.f k bt185.1 bt185.2).bind fun bt189 => ((spec_Clash.f k bt185.1 bt185.2).bind fun bt192 => (if (bt189.2.2 != bt192.2.2) = true then (laws_FnClash.j0 k bt185.2 bt189.1 bt189.2.1 bt189.2.2 true) else (if bt189.1.toList = bt192.1.toList then (laws_FnClash.j0 k bt185.2 bt189.1 bt189.2.1 bt189.2.2 (bt189.2.1.toList != bt192.2.1.toList)) else (laws_FnClash.j0 k bt185.2 bt189.1 bt189.2.1 bt189.2.2 true))))))
theorem laws_FnClash.mono_l : ∀ k, (∀ y0 y1 y2 y3 y4, LeO (laws_FnClash.j0 k y0 y1 y2 y3 y4) (laws_FnClash.j0 (k + 1) y0 y1 y2 y3 y4))
  | 0 => fun _ _ _ _ _ r h => by simp [laws_FnClash.j0] at h
  | k + 1 => by
    have ih0 := laws_FnClash.mono_l k
    · intro y0 y1 y2 y3 y4
      unfold laws_FnClash.j0
      repeat' first
      | (with_reducible exact ih0 _ _ _ _ _)
      | (with_reducible exact impl_Clash.mono _ _ _)
      | (with_reducible exact impl_Sum.mono _ _ _)
      | (with_reducible exact spec_Clash.mono _ _ _)
      | (with_reducible exact spec_DrawClash.mono _ _)
      | (with_reducible exact LeO.refl _)
      | (with_reducible exact LeO.none _)
      | (with_reducible refine LeO.ite ?_ ?_)
      | (with_reducible refine LeO.bind ?_ (fun _ => ?_))
      | exact ih0 _ _ _ _ _
      | exact impl_Clash.mono _ _ _
      | exact impl_Sum.mono _ _ _
      | exact spec_Clash.mono _ _ _
      | exact spec_DrawClash.mono _ _
      | exact LeO.none _
      | refine LeO.ite ?_ ?_
      | refine LeO.bind ?_ (fun _ => ?_)
theorem laws_FnClash.mono : ∀ a0 k, LeO (laws_FnClash.f k a0) (laws_FnClash.f (k + 1) a0) := by
  intro a0 k
  have ih0 := laws_FnClash.mono_l k
  unfold laws_FnClash.f
  repeat' first
      | (with_reducible exact ih0 _ _ _ _ _)
      | (with_reducible exact impl_Clash.mono _ _ _)
      | (with_reducible exact impl_Sum.mono _ _ _)
      | (with_reducible exact spec_Clash.mono _ _ _)
      | (with_reducible exact spec_DrawClash.mono _ _)
      | (with_reducible exact LeO.refl _)
      | (with_reducible exact LeO.none _)
      | (with_reducible refine LeO.ite ?_ ?_)
      | (with_reducible refine LeO.bind ?_ (fun _ => ?_))
      | exact ih0 _ _ _ _ _
      | exact impl_Clash.mono _ _ _
      | exact impl_Sum.mono _ _ _
      | exact spec_Clash.mono _ _ _
      | exact spec_DrawClash.mono _ _
      | exact LeO.none _
      | refine LeO.ite ?_ ?_
      | refine LeO.bind ?_ (fun _ => ?_)
set_option maxHeartbeats 8000000 in
set_option maxRecDepth 100000 in
theorem laws_FnClash.calls (k : Nat) (A0 : Option Addr) (c0 : Nat) (l0 : List Int) (r : Bool) (w : World) (hr0 : Kd.C (Kd.int .u8) w A0 l0.length l0) (hc0 : l0.length ≤ c0) (h : laws_FnClash.f k l0 = some r) :
    Calls Try.prog 8 #[.slice A0 l0.length c0] w fun e w' => e = .returned (.bool r) ∧ Below w.heap.size w w' := by
  have HR0 := Aside0.mk hr0
  have HC0 := Aside0.mk hc0
  clear hr0 hc0
  have HB := Aside0.mk (Below.refl w.heap.size w)
  have H : (if (l0.length : Int) > 1048576 then (some true) else ((spec_DrawClash.f k l0).bind fun bt185 => ((impl_Clash.f k bt185.1 bt185.2).bind fun bt189 => ((spec_Clash.f k bt185.1 bt185.2).bind fun bt192 => (if (bt189.2.2 != bt192.2.2) = true then (laws_FnClash.j0 k bt185.2 bt189.1 bt189.2.1 bt189.2.2 true) else (if bt189.1.toList = bt192.1.toList then (laws_FnClash.j0 k bt185.2 bt189.1 bt189.2.1 bt189.2.2 (bt189.2.1.toList != bt192.2.1.toList)) else (laws_FnClash.j0 k bt185.2 bt189.1 bt189.2.1 bt189.2.2 true))))))) = some r := h
  clear h
  by_cases c2 : (l0.length : Int) > 1048576
  · rw [if_pos c2] at H
    have c2b0 : decide (1048576 < (l0.length : Int)) = true := decide_eq_true c2
    have c2b1 : decide (1048576 < l0.length) = true := decide_eq_true (by omega)
    clear c2
    obtain rfl := Option.some.inj H
    go_enter Try.func8, Try.ntmps8
    go_wp2
    go_ret
    exact ⟨by first | rfl | (simp [errW_none, errW_some] <;> rfl) | (simp [*, errW_none, errW_some] <;> rfl), by repeat (first | (with_reducible first | exact HB.out | apply below_alloc | apply pw_below_drewN | apply below_drew1) | exact HB.out)⟩
  · rw [if_neg c2] at H
    have c2b0 : decide (1048576 < (l0.length : Int)) = false := decide_eq_false c2
    have c2b1 : decide (1048576 < l0.length) = false := decide_eq_false (by omega)
    clear c2
    replace H := Option.bind_eq_some_iff.mp H
    obtain ⟨⟨t185, t186⟩, A30, H⟩ := H
    replace H : ((impl_Clash.f k t185 t186).bind fun bt189 => ((spec_Clash.f k t185 t186).bind fun bt192 => (if (bt189.2.2 != bt192.2.2) = true then (laws_FnClash.j0 k t186 bt189.1 bt189.2.1 bt189.2.2 true) else (if bt189.1.toList = bt192.1.toList then (laws_FnClash.j0 k t186 bt189.1 bt189.2.1 bt189.2.2 (bt189.2.1.toList != bt192.2.1.toList)) else (laws_FnClash.j0 k t186 bt189.1 bt189.2.1 bt189.2.2 true))))) = some r := H
    have A3 := Aside0.mk A30
    clear A30
    replace H := Option.bind_eq_some_iff.mp H
    obtain ⟨⟨t189, t190, t191⟩, A40, H⟩ := H
    replace H : ((spec_Clash.f k t185 t186).bind fun bt192 => (if (t191 != bt192.2.2) = true then (laws_FnClash.j0 k t186 t189 t190 t191 true) else (if t189.toList = bt192.1.toList then (laws_FnClash.j0 k t186 t189 t190 t191 (t190.toList != bt192.2.1.toList)) else (laws_FnClash.j0 k t186 t189 t190 t191 true)))) = some r := H
    have A4 := Aside0.mk A40
    clear A40
    replace H := Option.bind_eq_some_iff.mp H
    obtain ⟨⟨t192, t193, t194⟩, A50, H⟩ := H
    replace H : (if (t191 != t194) = true then (laws_FnClash.j0 k t186 t189 t190 t191 true) else (if t189.toList = t192.toList then (laws_FnClash.j0 k t186 t189 t190 t191 (t190.toList != t193.toList)) else (laws_FnClash.j0 k t186 t189 t190 t191 true))) = some r := H
    have A5 := Aside0.mk A50
    clear A50
    have HC6 := Aside0.mk H
    clear H
    go_enter Try.func8, Try.ntmps8
    go_upto_region 6 with (first | ((with_reducible refine gate_callee (f := 23) rfl ?_); refine goesL_ (some 16) rfl rfl Try.func23 (by kernel_rfl) rfl #[.slice A0 l0.length c0] rfl (by (try simp only [List.map_toArray, List.map_cons, List.map_nil]); first | done | rfl | (simp only [List.length_drop, List.length_take]; rfl)) ?_; (with_reducible refine (spec_DrawClash.calls k _ _ l0 t185 t186 _ ?side1 ?side2 A3.out).mono ?_); (case side1 => repeat (first | exact HR0.out | (with_reducible refine Kd.C_alloc ?_ _) | (with_reducible refine Kd.C_drewN ?_ _) | (with_reducible refine Kd.C_drew ?_))); (case side2 => exact HC0.out); rintro e w7 ⟨v187, rfl, ho0, hb⟩; refine ⟨_, rfl, ?_⟩; have n0_ := Aside0.mk (Kd.R_lower ho0 (below_size (by repeat (first | (with_reducible first | exact HB.out | apply below_alloc | apply pw_below_drewN | apply below_drew1) | exact HB.out)))); have n1_ := Aside0.mk (below_step (by repeat (first | (with_reducible first | exact HB.out | apply below_alloc | apply pw_below_drewN | apply below_drew1) | exact HB.out)) hb); clear HB; have HO188 := n0_; have HB := n1_; clear n0_ n1_; (try clear hb); (try clear hb2); (try clear hk); (try clear hi); (try clear ho0); obtain ⟨Ao8, co8, eo8⟩ := Kd.R_slice HO188.out; subst eo8) | ((with_reducible refine gate_callee (f := 22) rfl ?_); refine goesL_ (some 22) rfl rfl Try.func22 (by kernel_rfl) rfl #[.slice Ao8 t185.length co8, .int .i64 t186] rfl (by (try simp only [List.map_toArray, List.map_cons, List.map_nil]); first | done | rfl | (simp only [List.length_drop, List.length_take]; rfl)) ?_; (with_reducible refine (impl_Clash.calls k _ _ t185 t186 t189 t190 t191 _ ?side1 ?side2 A4.out).mono ?_); (case side1 => repeat (first | exact (Kd.R_reads' HO188.out).2.2 | (with_reducible refine Kd.C_alloc ?_ _) | (with_reducible refine Kd.C_drewN ?_ _) | (with_reducible refine Kd.C_drew ?_))); (case side2 => exact (Kd.R_reads' HO188.out).2.1); rintro e w9 ⟨rfl, hb⟩; refine ⟨_, rfl, ?_⟩; have n0_ := Aside0.mk (Kd.R_below (by (with_reducible repeat (first | apply Kd.R_alloc | apply Kd.R_drewN | apply Kd.R_drew)); exact HO188.out) hb); have n1_ := Aside0.mk (below_step (by repeat (first | (with_reducible first | exact HB.out | apply below_alloc | apply pw_below_drewN | apply below_drew1) | exact HB.out)) hb); clear HO188; clear HB; have HO188 := n0_; have HB := n1_; clear n0_ n1_; (try clear hb); (try clear hb2); (try clear hk); (try clear hi)) | ((with_reducible refine gate_callee (f := 20) rfl ?_); refine goesL_ (some 29) rfl rfl Try.func20 (by kernel_rfl) rfl #[.slice Ao8 t185.length co8, .int .i64 t186] rfl (by (try simp only [List.map_toArray, List.map_cons, List.map_nil]); first | done | rfl | (simp only [List.length_drop, List.length_take]; rfl)) ?_; (with_reducible refine (spec_Clash.calls k _ _ t185 t186 t192 t193 t194 _ ?side1 ?side2 A5.out).mono ?_); (case side1 => repeat (first | exact (Kd.R_reads' HO188.out).2.2 | (with_reducible refine Kd.C_alloc ?_ _) | (with_reducible refine Kd.C_drewN ?_ _) | (with_reducible refine Kd.C_drew ?_))); (case side2 => exact (Kd.R_reads' HO188.out).2.1); rintro e w10 ⟨rfl, hb⟩; refine ⟨_, rfl, ?_⟩; have n0_ := Aside0.mk (Kd.R_below (by (with_reducible repeat (first | apply Kd.R_alloc | apply Kd.R_drewN | apply Kd.R_drew)); exact HO188.out) hb); have n1_ := Aside0.mk (below_step (by repeat (first | (with_reducible first | exact HB.out | apply below_alloc | apply pw_below_drewN | apply below_drew1) | exact HB.out)) hb); clear HO188; clear HB; have HO188 := n0_; have HB := n1_; clear n0_ n1_; (try clear hb); (try clear hb2); (try clear hk); (try clear hi)))
    (try simp only [Act.put, List.setIfInBounds_toArray, List.set_cons_zero, List.set_cons_succ])
    go_cut [45] (fun v45 wc => ∃ (kq : Nat) (x45_5 : Bool), v45 = .bool x45_5 ∧ Aside0 (laws_FnClash.j0 kq t186 t189 t190 t191 x45_5 = some r) ∧ Aside0 (kq ≤ k) ∧ Aside0 (Below w.heap.size w wc))
    case first =>
      have H := HC6.out
      clear HC6
      by_cases c11 : (t191 != t194) = true
      · rw [if_pos c11] at H
        have c11b0 : (t191 != t194) = true := c11
        (try (have c11b1 : decide (t191 = t194) = false := by simpa using c11))
        (try (have c11b2 : (t191 == t194) = false := by simpa using c11))
        (try (have c11b3 : ¬ (t191 = t194) := by simpa using c11))
        clear c11
        (first | rw [c11b0] | (simp only [i64_w, i32_w]; rw [c11b0]) | skip)
        have H' := Aside0.mk H
        clear H
        go_wp2
        go_meet
        case rel => exact ⟨_, (true), (by first | rfl | (simp; done) | (simp [*]; done)), H', ⟨by first | omega | exact Nat.le_refl _⟩, ⟨by repeat (first | (with_reducible first | exact HB.out | apply below_alloc | apply pw_below_drewN | apply below_drew1) | exact HB.out)⟩⟩
      · rw [if_neg c11] at H
        have c11b0 : (t191 != t194) = false := by simpa using c11
        (try (have c11b1 : decide (t191 = t194) = true := by simpa using c11))
        (try (have c11b2 : (t191 == t194) = true := by simpa using c11))
        clear c11
        (first | rw [c11b0] | (simp only [i64_w, i32_w]; rw [c11b0]) | skip)
        by_cases c12 : t189.toList = t192.toList
        · rw [if_pos c12] at H
          have c12b0 : (t189.toList == t192.toList) = true := beq_iff_eq.mpr c12
          have c12b1 : (t189.toList != t192.toList) = false := bne_eq_false_iff_eq.mpr c12
          clear c12
          have H' := Aside0.mk H
          clear H
          go_wp2
          go_meet
          case rel => exact ⟨_, ((t190.toList != t193.toList)), (by first | rfl | (simp; done) | (simp [*]; done)), H', ⟨by first | omega | exact Nat.le_refl _⟩, ⟨by repeat (first | (with_reducible first | exact HB.out | apply below_alloc | apply pw_below_drewN | apply below_drew1) | exact HB.out)⟩⟩
        · rw [if_neg c12] at H
          have c12b0 : (t189.toList == t192.toList) = false := beq_eq_false_iff_ne.mpr c12
          have c12b1 : (t189.toList != t192.toList) = true := bne_iff_ne.mpr c12
          have H' := Aside0.mk H
          clear H
          go_wp2
          go_meet
          case rel => exact ⟨_, (true), (by first | rfl | (simp; done) | (simp [*]; done)), H', ⟨by first | omega | exact Nat.le_refl _⟩, ⟨by repeat (first | (with_reducible first | exact HB.out | apply below_alloc | apply pw_below_drewN | apply below_drew1) | exact HB.out)⟩⟩
    case rest =>
      clear HC6
      try clear c1
      try clear c2
      try clear c2b0
      try clear c2b1
      try clear p2
      try clear c8
      try clear c11
      try clear c11b0
      try clear c11b1
      try clear c11b2
      try clear c12
      try clear c12b0
      try clear c12b1
      obtain ⟨kq, x45_5, rfl, HA, HJ5, HB⟩ := hcut
      cases kq with
      | zero => exact absurd HA.out (by simp [laws_FnClash.j0])
      | succ kj5 =>
        have H := HA.out
        clear HA
        simp only [laws_FnClash.j0] at H
        by_cases c13 : x45_5 = true
        · subst c13
          have H1 : (some false) = some r := by rw [if_pos rfl] at H; exact H
          clear H
          have H := H1
          clear H1
          obtain rfl := Option.some.inj H
          go_wp2
          go_ret
          exact ⟨by first | rfl | (simp [errW_none, errW_some] <;> rfl) | (simp [*, errW_none, errW_some] <;> rfl), by repeat (first | (with_reducible first | exact HB.out | apply below_alloc | apply pw_below_drewN | apply below_drew1) | exact HB.out)⟩
        · replace c13 := Bool.eq_false_iff.mpr c13
          subst c13
          have H1 : (if t191 = true then (if t189.toList = t190.toList then (some false) else ((impl_Sum.f kj5 t189 t186).bind fun t195 => ((impl_Sum.f kj5 t190 t186).bind fun t196 => (some (t195.toList == t196.toList))))) else (some true)) = some r := by rw [if_neg (show ¬ (false = true) by decide)] at H; exact H
          clear H
          have H := H1
          clear H1
          by_cases c14 : t191 = true
          · subst c14
            have H1 : (if t189.toList = t190.toList then (some false) else ((impl_Sum.f kj5 t189 t186).bind fun t195 => ((impl_Sum.f kj5 t190 t186).bind fun t196 => (some (t195.toList == t196.toList))))) = some r := by rw [if_pos rfl] at H; exact H
            clear H
            have H := H1
            clear H1
            by_cases c15 : t189.toList = t190.toList
            · rw [if_pos c15] at H
              have c15b0 : (t189.toList == t190.toList) = true := beq_iff_eq.mpr c15
              have c15b1 : (t189.toList != t190.toList) = false := bne_eq_false_iff_eq.mpr c15
              clear c15
              obtain rfl := Option.some.inj H
              go_wp2
              go_ret
              exact ⟨by first | rfl | (simp [errW_none, errW_some] <;> rfl) | (simp [*, errW_none, errW_some] <;> rfl), by repeat (first | (with_reducible first | exact HB.out | apply below_alloc | apply pw_below_drewN | apply below_drew1) | exact HB.out)⟩
            · rw [if_neg c15] at H
              have c15b0 : (t189.toList == t190.toList) = false := beq_eq_false_iff_ne.mpr c15
              have c15b1 : (t189.toList != t190.toList) = true := bne_iff_ne.mpr c15
              replace H := Option.bind_eq_some_iff.mp H
              obtain ⟨t195, A160, H⟩ := H
              replace H : ((impl_Sum.f kj5 t190 t186).bind fun t196 => (some (t195.toList == t196.toList))) = some r := H
              have A16 := Aside0.mk A160
              clear A160
              replace H := Option.bind_eq_some_iff.mp H
              obtain ⟨t196, A170, H⟩ := H
              replace H : (some (t195.toList == t196.toList)) = some r := H
              have A17 := Aside0.mk A170
              clear A170
              obtain rfl := Option.some.inj H
              go_wp2_with (first | (go_at_call 11; (with_reducible refine (impl_Sum.calls kj5 t189 t186 t195 _ A16.out).mono ?_); rintro e w18 ⟨rfl, hb⟩; have n0_ := Aside0.mk (below_step (by repeat (first | (with_reducible first | exact HB.out | apply below_alloc | apply pw_below_drewN | apply below_drew1) | exact HB.out)) hb); clear HB; have HB := n0_; clear n0_; (try clear hb); (try clear hb2); (try clear hk); (try clear hi)) | (go_at_call 11; (with_reducible refine (impl_Sum.calls kj5 t190 t186 t196 _ A17.out).mono ?_); rintro e w19 ⟨rfl, hb⟩; have n0_ := Aside0.mk (below_step (by repeat (first | (with_reducible first | exact HB.out | apply below_alloc | apply pw_below_drewN | apply below_drew1) | exact HB.out)) hb); clear HB; have HB := n0_; clear n0_; (try clear hb); (try clear hb2); (try clear hk); (try clear hi)))
              go_ret
              exact ⟨by first | rfl | (simp [errW_none, errW_some] <;> rfl) | (simp [*, errW_none, errW_some] <;> rfl), by repeat (first | (with_reducible first | exact HB.out | apply below_alloc | apply pw_below_drewN | apply below_drew1) | exact HB.out)⟩
          · replace c14 := Bool.eq_false_iff.mpr c14
            subst c14
            have H1 : (some true) = some r := by rw [if_neg (show ¬ (false = true) by decide)] at H; exact H
            clear H
            have H := H1
            clear H1
            obtain rfl := Option.some.inj H
            go_wp2
            go_ret
            exact ⟨by first | rfl | (simp [errW_none, errW_some] <;> rfl) | (simp [*, errW_none, errW_some] <;> rfl), by repeat (first | (with_reducible first | exact HB.out | apply below_alloc | apply pw_below_drewN | apply below_drew1) | exact HB.out)⟩

/-- THE ONE PURE STATEMENT of laws_FnClash: yours. -/
def laws_FnClash.Pure : Prop := ∀ (l0 : List Int), l0.length ≤ maxLen → l0.length * 1 ≤ 140737488351232 → (∀ x ∈ l0, (Lit.int .u8 x).wf = true) → ∃ k, laws_FnClash.f k l0 = some true
theorem laws_FnClash.walk (P : laws_FnClash.Pure) (a0 : Option Addr) (len0 cap0 : Nat) (z0 : List Int) (w : World) (w0 : (a0 = none ∧ len0 = 0 ∧ cap0 = 0 ∧ z0 = []) ∨ ∃ x, a0 = some x ∧ len0 ≤ cap0 ∧ cap0 ≤ maxLen ∧ z0.length = cap0 ∧ (∀ i, i < z0.length → w.cell? (x.add i) = some (.int .u8 (z0.getD i 0))) ∧ ∀ n ∈ z0, (Lit.int .u8 n).wf = true) (y0 : len0 * 1 ≤ 140737488351232) :
    Calls Try.prog 8 #[.slice a0 len0 cap0] w fun e w' => e = .returned (.bool true) ∧ Below w.heap.size w w' := by
  obtain ⟨l0, rfl, hr0, hm0, hw0, hc0⟩ := ReadsInt.ofRowC w0
  obtain ⟨k, h⟩ := P l0 hm0 y0 hw0
  refine (laws_FnClash.calls k _ _ l0 true w (Kd.C_of_reads (d := (0 : Int)) (h1 := fun _ => rfl) hr0) hc0 h).mono ?_
  rintro e w' ⟨rfl, hd⟩
  exact ⟨rfl, hd⟩

/-- The pure statement of the law. -/
def laws_FnClash.Law : Prop := ∀ (l0 : List Int), (l0.length ≤ maxLen ∧ ∀ x ∈ l0, (Lit.int .u8 x).wf = true) → ∃ k, laws_FnClash.f k l0 = some true

end Go.Proofs.Ytbmldafgipimbaa.PFnClash

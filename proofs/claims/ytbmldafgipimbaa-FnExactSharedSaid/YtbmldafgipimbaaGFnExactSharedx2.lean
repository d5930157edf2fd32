-- Walks of printed functions (by wip/gen.py of this session, with the kit's program).
import Derived.Test.YtbmldafgipimbaaGFnExactSharedx0
import Derived.Test.YtbmldafgipimbaaGFnExactSharedx1
namespace Go.Proofs.Ytbmldafgipimbaa.PFnExactShared
open Go.RowKit Go.Proofs.YtbmldafgipimbaaW.PrintWords Go.Proofs.YtbmldafgipimbaaW.PrintLast Go.Proofs.YtbmldafgipimbaaW.PrintMore
attribute [local go_sem] max2_int min2_int max_two min_two max_three min_three max_four min_four   -- for this text's walks alone
attribute [local go_sem] Go.Proofs.Ytbmldafgipimbaa.L.str_geq
set_option linter.unusedVariables false
set_option linter.unusedSimpArgs false

/-! ### impl_Pieces: function 15 -/
def impl_Pieces.l0 : Nat → ByteArray → List ByteArray → Int → Int → Int → Option (List ByteArray)
  | 0, _, _, _, _, _ => none
  | k + 1, x0, x3, x4, x11, x12 => if x12 < x11 then (if (wrap64 ((wrap64 (x12 + 1)) - x4)) = 64 then (if 0 ≤ x4 then (if x4 ≤ (wrap64 (x12 + 1)) then (if (wrap64 (x12 + 1)) ≤ (x0.size : Int) then (if x3.length < 8796093022208 then (impl_Pieces.l0 k x0 (x3 ++ [x0.extract (x4 : Int).toNat ((wrap64 (x12 + 1)) : Int).toNat]) (wrap64 (x12 + 1)) x11 (wrap64 (x12 + 1))) else (none)) else (none)) else (none)) else (none)) else (if (wrap64 ((wrap64 (x12 + 1)) - x4)) ≥ 8 then (if 0 ≤ (wrap64 ((wrap64 (x12 + 1)) - 8)) then (if (wrap64 ((wrap64 (x12 + 1)) - 8)) ≤ (wrap64 (x12 + 1)) then (if (wrap64 (x12 + 1)) ≤ (x0.size : Int) then ((impl_sum64.f k (x0.extract ((wrap64 ((wrap64 (x12 + 1)) - 8)) : Int).toNat ((wrap64 (x12 + 1)) : Int).toNat)).bind fun t125 => (if (Int.tmod t125 16) = 0 then (if 0 ≤ x4 then (if x4 ≤ (wrap64 (x12 + 1)) then (if x3.length < 8796093022208 then (impl_Pieces.l0 k x0 (x3 ++ [x0.extract (x4 : Int).toNat ((wrap64 (x12 + 1)) : Int).toNat]) (wrap64 (x12 + 1)) x11 (wrap64 (x12 + 1))) else (none)) else (none)) else (none)) else (impl_Pieces.l0 k x0 x3 x4 x11 (wrap64 (x12 + 1))))) else (none)) else (none)) else (none)) else (impl_Pieces.l0 k x0 x3 x4 x11 (wrap64 (x12 + 1))))) else (if x4 < (x0.size : Int) then (if 0 ≤ x4 then (if x4 ≤ (x0.size : Int) then (if x3.length < 8796093022208 then (some (x3 ++ [x0.extract (x4 : Int).toNat x0.size])) else (none)) else (none)) else (none)) else (some x3))
def impl_Pieces.f (k : Nat) (a0 : ByteArray) : Option (List ByteArray) := if (a0.size : Int) > 3000 then (some ([] : List ByteArray)) else (impl_Pieces.l0 k a0 ([] : List ByteArray) 0 (a0.size : Int) 0)
theorem impl_Pieces.mono_l : ∀ k, (∀ y0 y1 y2 y3 y4, LeO (impl_Pieces.l0 k y0 y1 y2 y3 y4) (impl_Pieces.l0 (k + 1) y0 y1 y2 y3 y4))
  | 0 => fun _ _ _ _ _ r h => by simp [impl_Pieces.l0] at h
  | k + 1 => by
    have ih0 := impl_Pieces.mono_l k
    · intro y0 y1 y2 y3 y4
      unfold impl_Pieces.l0
      repeat' first
      | (with_reducible exact ih0 _ _ _ _ _)
      | (with_reducible exact impl_sum64.mono _ _)
      | (with_reducible exact LeO.refl _)
      | (with_reducible exact LeO.none _)
      | (with_reducible refine LeO.ite ?_ ?_)
      | (with_reducible refine LeO.bind ?_ (fun _ => ?_))
      | exact ih0 _ _ _ _ _
      | exact impl_sum64.mono _ _
      | exact LeO.none _
      | refine LeO.ite ?_ ?_
      | refine LeO.bind ?_ (fun _ => ?_)
theorem impl_Pieces.mono : ∀ a0 k, LeO (impl_Pieces.f k a0) (impl_Pieces.f (k + 1) a0) := by
  intro a0 k
  have ih0 := impl_Pieces.mono_l k
  unfold impl_Pieces.f
  repeat' first
      | (with_reducible exact ih0 _ _ _ _ _)
      | (with_reducible exact impl_sum64.mono _ _)
      | (with_reducible exact LeO.refl _)
      | (with_reducible exact LeO.none _)
      | (with_reducible refine LeO.ite ?_ ?_)
      | (with_reducible refine LeO.bind ?_ (fun _ => ?_))
      | exact ih0 _ _ _ _ _
      | exact impl_sum64.mono _ _
      | exact LeO.none _
      | refine LeO.ite ?_ ?_
      | refine LeO.bind ?_ (fun _ => ?_)
set_option maxHeartbeats 8000000 in
set_option maxRecDepth 100000 in
theorem impl_Pieces.calls (k : Nat) (a0 : ByteArray) (r : List ByteArray) (w : World) (h : impl_Pieces.f k a0 = some r) :
    Calls Try.prog 15 #[.string a0] w fun e w' => ∃ v0_ : Value, e = .returned (v0_) ∧ Kd.R Kd.string 9 w' w.heap.size (fun _ => True) v0_ r ∧ Below w.heap.size w w' := by
  have HB := Aside0.mk (Below.refl w.heap.size w)
  have H : (if (a0.size : Int) > 3000 then (some ([] : List ByteArray)) else (impl_Pieces.l0 k a0 ([] : List ByteArray) 0 (a0.size : Int) 0)) = some r := h
  clear h
  by_cases c2 : (a0.size : Int) > 3000
  · rw [if_pos c2] at H
    have c2b0 : decide (3000 < (a0.size : Int)) = true := decide_eq_true c2
    have c2b1 : decide (3000 < a0.size) = true := decide_eq_true (by omega)
    clear c2
    obtain rfl := Option.some.inj H
    go_enter Try.func15, Try.ntmps15
    go_wp2
    go_ret
    exact ⟨_, by first | rfl | (simp [errW_none, errW_some] <;> rfl) | (simp [*, errW_none, errW_some] <;> rfl), by first | exact Kd.R_nil _ _ _ _ _ | exact Kd.N_nil _ _ _ _ _ | exact Kd.V_nil _ _ _ _ _ | exact Kd.Q_nil _ _ _ _ _ | exact Kd.S_nil _ _ _ _ _, by repeat (first | (with_reducible first | exact HB.out | apply below_alloc | apply pw_below_drewN | apply below_drew1) | exact HB.out)⟩
  · rw [if_neg c2] at H
    have c2b0 : decide (3000 < (a0.size : Int)) = false := decide_eq_false c2
    have c2b1 : decide (3000 < a0.size) = false := decide_eq_false (by omega)
    clear c2
    have H' := Aside0.mk H
    clear H
    go_enter Try.func15, Try.ntmps15
    go_wp2
    go_loopg [3, 4, 12] k (fun kq v3 v4 v12 w' => ∃ (x3_1 : List ByteArray) (x4_1 : Int) (x12_1 : Int), v4 = .int .i64 x4_1 ∧ v12 = .int .i64 x12_1 ∧ Aside0 (impl_Pieces.l0 kq a0 x3_1 x4_1 (a0.size : Int) x12_1 = some r) ∧ Aside0 (kq ≤ k) ∧ Aside0 (Kd.R Kd.string 9 w' w.heap.size (fun _ => True) v3 x3_1) ∧ Aside0 (Below w.heap.size w w'))
    case atStart => exact ⟨(([] : List ByteArray)), (0), (0), (by first | rfl | (simp; done) | (simp [*]; done)), (by first | rfl | (simp; done) | (simp [*]; done)), H', ⟨Nat.le_refl _⟩, ⟨by first | exact Kd.R_nil _ _ _ _ _ | exact Kd.N_nil _ _ _ _ _ | exact Kd.V_nil _ _ _ _ _ | exact Kd.Q_nil _ _ _ _ _ | exact Kd.S_nil _ _ _ _ _⟩, ⟨by repeat (first | (with_reducible first | exact HB.out | apply below_alloc | apply pw_below_drewN | apply below_drew1) | exact HB.out)⟩⟩
    case round =>
      clear H'
      try clear c1
      try clear c2
      try clear c2b0
      try clear c2b1
      try clear p2
      obtain ⟨x3_1, x4_1, x12_1, rfl, rfl, HA, HK1, HO_3, HB⟩ := hrel
      cases gk with
      | zero => exact absurd HA.out (by simp [impl_Pieces.l0])
      | succ k1 =>
        have H := HA.out
        clear HA
        simp only [impl_Pieces.l0] at H
        by_cases c3 : x12_1 < (a0.size : Int)
        · rw [if_pos c3] at H
          have c3b0 : decide (x12_1 < (a0.size : Int)) = true := decide_eq_true c3
          clear c3
          by_cases c4 : (wrap64 ((wrap64 (x12_1 + 1)) - x4_1)) = 64
          · rw [if_pos c4] at H
            have c4b0 : ((wrap64 ((wrap64 (x12_1 + 1)) - x4_1)) == 64) = true := beq_iff_eq.mpr c4
            have c4b1 : ((wrap64 ((wrap64 (x12_1 + 1)) - x4_1)) != 64) = false := bne_eq_false_iff_eq.mpr c4
            clear c4
            by_cases c5 : 0 ≤ x4_1
            · rw [if_pos c5] at H
              have c5b0 := eq_true c5
              have c5b1 : decide (0 ≤ x4_1) = true := decide_eq_true c5
              clear c5
              by_cases c6 : x4_1 ≤ (wrap64 (x12_1 + 1))
              · rw [if_pos c6] at H
                have c6b0 := eq_true c6
                have c6b1 : decide (x4_1 ≤ (wrap64 (x12_1 + 1))) = true := decide_eq_true c6
                by_cases c7 : (wrap64 (x12_1 + 1)) ≤ (a0.size : Int)
                · rw [if_pos c7] at H
                  have c7b0 := eq_true c7
                  have c7b1 : decide ((wrap64 (x12_1 + 1)) ≤ (a0.size : Int)) = true := decide_eq_true c7
                  by_cases c8 : x3_1.length < 8796093022208
                  · rw [if_pos c8] at H
                    have LMc8 := Aside0.mk c8
                    clear c8
                    obtain ⟨y122, hy122⟩ : ∃ y_ : List ByteArray, y_ = (x3_1 ++ [a0.extract (x4_1 : Int).toNat ((wrap64 (x12_1 + 1)) : Int).toNat]) := ⟨_, rfl⟩
                    replace H : (impl_Pieces.l0 k1 a0 y122 (wrap64 (x12_1 + 1)) (a0.size : Int) (wrap64 (x12_1 + 1))) = some r := by first | (rw [hy122]; with_reducible exact H) | (have H2_ := (Option.bind_some _ _).symm.trans H; rw [hy122]; with_reducible exact H2_) | (have H2_ := (Option.bind_some _ _).symm.trans H; with_reducible exact H2_) | with_reducible exact H | (rw [hy122]; exact H) | exact H
                    have Ny122 := Aside0.mk hy122
                    clear hy122
                    have H' := Aside0.mk H
                    clear H
                    go_wp2_with (first | ((with_reducible refine gate_builtin (b := .append) (xs := #[.tmp 37, .tmp 43]) rfl ?_); at_builtin; refine Kd.R_append Kd.string (w0 := w) w.heap.size rfl (.tmp 37) (.tmp 43) 27 9 (.string ⟨#[]⟩) 16 rfl Try.underlying27 info9 rfl (by decide) (by omega) u3 x3_1 (a0.extract (x4_1 : Int).toNat ((wrap64 (x12_1 + 1)) : Int).toNat) [.string (a0.extract (x4_1 : Int).toNat ((wrap64 (x12_1 + 1)) : Int).toNat)] (fun _ => True) (fun _ => False) rfl rfl ?aP (fun _ hk => hk.elim) ?aF ?aO ?aB ?aS ?aL ?_; (case aP => exact rfl); (case aB => exact (by repeat (first | (with_reducible first | exact HB.out | apply below_alloc | apply pw_below_drewN | apply below_drew1) | exact HB.out))); (case aF => exact (fun _ _ => trivial)); (case aO => exact (by (with_reducible repeat (first | apply Kd.R_alloc | apply Kd.R_drewN | apply Kd.R_drew)); exact HO_3.out)); (case aS => exact (below_size (by repeat (first | (with_reducible first | exact HB.out | apply below_alloc | apply pw_below_drewN | apply below_drew1) | exact HB.out)))); (case aL => have := LMc8.out; omega); intro v123 w9 ho hb hg hat; rw [← Ny122.out] at ho; have n0_ := Aside0.mk (hb); have n1_ := Aside0.mk (ho); clear HB; clear HO_3; have HB := n0_; have HO124 := n1_; clear n0_ n1_; clear ho hb hg hat))
                    go_roundg k1
                    case measure => have := HK1.out; omega
                    case rel => exact ⟨(y122), (wrap64 (x12_1 + 1)), (wrap64 (x12_1 + 1)), (by first | rfl | (simp; done) | (simp [*]; done)), (by first | rfl | (simp; done) | (simp [*]; done)), H', ⟨by have := HK1.out; omega⟩, ⟨by (with_reducible repeat (first | apply Kd.R_alloc | apply Kd.R_drewN | apply Kd.R_drew)); exact HO124.out⟩, ⟨by repeat (first | (with_reducible first | exact HB.out | apply below_alloc | apply pw_below_drewN | apply below_drew1) | exact HB.out)⟩⟩
                  · rw [if_neg c8] at H
                    exact absurd H (by simp)
                · rw [if_neg c7] at H
                  exact absurd H (by simp)
              · rw [if_neg c6] at H
                exact absurd H (by simp)
            · rw [if_neg c5] at H
              exact absurd H (by simp)
          · rw [if_neg c4] at H
            have c4b0 : ((wrap64 ((wrap64 (x12_1 + 1)) - x4_1)) == 64) = false := beq_eq_false_iff_ne.mpr c4
            have c4b1 : ((wrap64 ((wrap64 (x12_1 + 1)) - x4_1)) != 64) = true := bne_iff_ne.mpr c4
            by_cases c10 : (wrap64 ((wrap64 (x12_1 + 1)) - x4_1)) ≥ 8
            · rw [if_pos c10] at H
              have c10b0 : decide (8 ≤ (wrap64 ((wrap64 (x12_1 + 1)) - x4_1))) = true := decide_eq_true c10
              clear c10
              obtain ⟨ji11, hji11⟩ : ∃ j_ : Int, (wrap64 ((wrap64 (x12_1 + 1)) - 8)) = j_ := ⟨_, rfl⟩
              replace H : (if 0 ≤ (ji11) then (if (ji11) ≤ (wrap64 (x12_1 + 1)) then (if (wrap64 (x12_1 + 1)) ≤ (a0.size : Int) then ((impl_sum64.f k1 (a0.extract ((ji11) : Int).toNat ((wrap64 (x12_1 + 1)) : Int).toNat)).bind fun t125 => (if (Int.tmod t125 16) = 0 then (if 0 ≤ x4_1 then (if x4_1 ≤ (wrap64 (x12_1 + 1)) then (if x3_1.length < 8796093022208 then (impl_Pieces.l0 k1 a0 (x3_1 ++ [a0.extract (x4_1 : Int).toNat ((wrap64 (x12_1 + 1)) : Int).toNat]) (wrap64 (x12_1 + 1)) (a0.size : Int) (wrap64 (x12_1 + 1))) else (none)) else (none)) else (none)) else (impl_Pieces.l0 k1 a0 x3_1 x4_1 (a0.size : Int) (wrap64 (x12_1 + 1))))) else (none)) else (none)) else (none)) = some r := by first | (rw [hji11] at H; exact H) | (simp only [hji11] at H ⊢; exact H)
              (try rw [hji11] at c2b0)
              (try rw [hji11] at c3b0)
              (try rw [hji11] at c10b0)
              have hji11w : (IntKind.i64.wrap ((wrap64 (x12_1 + 1)) - 8)) = ji11 := (i64_w _).trans hji11
              by_cases c12 : 0 ≤ (ji11)
              · rw [if_pos c12] at H
                have c12b0 := eq_true c12
                have c12b1 : decide (0 ≤ (ji11)) = true := decide_eq_true c12
                clear c12
                by_cases c13 : (ji11) ≤ (wrap64 (x12_1 + 1))
                · rw [if_pos c13] at H
                  have c13b0 := eq_true c13
                  have c13b1 : decide ((ji11) ≤ (wrap64 (x12_1 + 1))) = true := decide_eq_true c13
                  by_cases c14 : (wrap64 (x12_1 + 1)) ≤ (a0.size : Int)
                  · rw [if_pos c14] at H
                    have c14b0 := eq_true c14
                    have c14b1 : decide ((wrap64 (x12_1 + 1)) ≤ (a0.size : Int)) = true := decide_eq_true c14
                    replace H := Option.bind_eq_some_iff.mp H
                    obtain ⟨t125, A150, H⟩ := H
                    replace H : (if (Int.tmod t125 16) = 0 then (if 0 ≤ x4_1 then (if x4_1 ≤ (wrap64 (x12_1 + 1)) then (if x3_1.length < 8796093022208 then (impl_Pieces.l0 k1 a0 (x3_1 ++ [a0.extract (x4_1 : Int).toNat ((wrap64 (x12_1 + 1)) : Int).toNat]) (wrap64 (x12_1 + 1)) (a0.size : Int) (wrap64 (x12_1 + 1))) else (none)) else (none)) else (none)) else (impl_Pieces.l0 k1 a0 x3_1 x4_1 (a0.size : Int) (wrap64 (x12_1 + 1)))) = some r := H
                    have A15 := Aside0.mk A150
                    clear A150
                    by_cases c16 : (Int.tmod t125 16) = 0
                    · rw [if_pos c16] at H
                      have c16b0 : ((Int.tmod t125 16) == 0) = true := beq_iff_eq.mpr c16
                      have c16b1 : ((Int.tmod t125 16) != 0) = false := bne_eq_false_iff_eq.mpr c16
                      clear c16
                      by_cases c17 : 0 ≤ x4_1
                      · rw [if_pos c17] at H
                        have c17b0 := eq_true c17
                        have c17b1 : decide (0 ≤ x4_1) = true := decide_eq_true c17
                        clear c17
                        by_cases c18 : x4_1 ≤ (wrap64 (x12_1 + 1))
                        · rw [if_pos c18] at H
                          have c18b0 := eq_true c18
                          have c18b1 : decide (x4_1 ≤ (wrap64 (x12_1 + 1))) = true := decide_eq_true c18
                          have c19b0 := eq_true (of_decide_eq_true (by first | (with_reducible assumption) | assumption) : (wrap64 (x12_1 + 1)) ≤ (a0.size : Int))
                          by_cases c20 : x3_1.length < 8796093022208
                          · rw [if_pos c20] at H
                            have LMc20 := Aside0.mk c20
                            clear c20
                            obtain ⟨y126, hy126⟩ : ∃ y_ : List ByteArray, y_ = (x3_1 ++ [a0.extract (x4_1 : Int).toNat ((wrap64 (x12_1 + 1)) : Int).toNat]) := ⟨_, rfl⟩
                            replace H : (impl_Pieces.l0 k1 a0 y126 (wrap64 (x12_1 + 1)) (a0.size : Int) (wrap64 (x12_1 + 1))) = some r := by first | (rw [hy126]; with_reducible exact H) | (have H2_ := (Option.bind_some _ _).symm.trans H; rw [hy126]; with_reducible exact H2_) | (have H2_ := (Option.bind_some _ _).symm.trans H; with_reducible exact H2_) | with_reducible exact H | (rw [hy126]; exact H) | exact H
                            have Ny126 := Aside0.mk hy126
                            clear hy126
                            have H' := Aside0.mk H
                            clear H
                            go_wp2_with (first | (go_at_call 30; (with_reducible refine (impl_sum64.calls k1 (a0.extract ((ji11) : Int).toNat ((wrap64 (x12_1 + 1)) : Int).toNat) t125 _ A15.out).mono ?_); rintro e w' ⟨rfl, ⟨nd, rfl⟩⟩) | ((with_reducible refine gate_builtin (b := .append) (xs := #[.tmp 37, .tmp 43]) rfl ?_); at_builtin; refine Kd.R_append Kd.string (w0 := w) w.heap.size rfl (.tmp 37) (.tmp 43) 27 9 (.string ⟨#[]⟩) 16 rfl Try.underlying27 info9 rfl (by decide) (by omega) u3 x3_1 (a0.extract (x4_1 : Int).toNat ((wrap64 (x12_1 + 1)) : Int).toNat) [.string (a0.extract (x4_1 : Int).toNat ((wrap64 (x12_1 + 1)) : Int).toNat)] (fun _ => True) (fun _ => False) rfl rfl ?aP (fun _ hk => hk.elim) ?aF ?aO ?aB ?aS ?aL ?_; (case aP => exact rfl); (case aB => exact (by repeat (first | (with_reducible first | exact HB.out | apply below_alloc | apply pw_below_drewN | apply below_drew1) | exact HB.out))); (case aF => exact (fun _ _ => trivial)); (case aO => exact (by (with_reducible repeat (first | apply Kd.R_alloc | apply Kd.R_drewN | apply Kd.R_drew)); exact HO_3.out)); (case aS => exact (below_size (by repeat (first | (with_reducible first | exact HB.out | apply below_alloc | apply pw_below_drewN | apply below_drew1) | exact HB.out)))); (case aL => have := LMc20.out; omega); intro v127 w21 ho hb hg hat; rw [← Ny126.out] at ho; have n0_ := Aside0.mk (hb); have n1_ := Aside0.mk (ho); clear HB; clear HO_3; have HB := n0_; have HO128 := n1_; clear n0_ n1_; clear ho hb hg hat))
                            go_roundg k1
                            case measure => have := HK1.out; omega
                            case rel => exact ⟨(y126), (wrap64 (x12_1 + 1)), (wrap64 (x12_1 + 1)), (by first | rfl | (simp; done) | (simp [*]; done)), (by first | rfl | (simp; done) | (simp [*]; done)), H', ⟨by have := HK1.out; omega⟩, ⟨by (with_reducible repeat (first | apply Kd.R_alloc | apply Kd.R_drewN | apply Kd.R_drew)); exact HO128.out⟩, ⟨by repeat (first | (with_reducible first | exact HB.out | apply below_alloc | apply pw_below_drewN | apply below_drew1) | exact HB.out)⟩⟩
                          · rw [if_neg c20] at H
                            exact absurd H (by simp)
                        · rw [if_neg c18] at H
                          exact absurd H (by simp)
                      · rw [if_neg c17] at H
                        exact absurd H (by simp)
                    · rw [if_neg c16] at H
                      have c16b0 : ((Int.tmod t125 16) == 0) = false := beq_eq_false_iff_ne.mpr c16
                      have c16b1 : ((Int.tmod t125 16) != 0) = true := bne_iff_ne.mpr c16
                      have H' := Aside0.mk H
                      clear H
                      go_wp2_with (first | (go_at_call 30; (with_reducible refine (impl_sum64.calls k1 (a0.extract ((ji11) : Int).toNat ((wrap64 (x12_1 + 1)) : Int).toNat) t125 _ A15.out).mono ?_); rintro e w' ⟨rfl, ⟨nd, rfl⟩⟩))
                      go_roundg k1
                      case measure => have := HK1.out; omega
                      case rel => exact ⟨(x3_1), (x4_1), (wrap64 (x12_1 + 1)), (by first | rfl | (simp; done) | (simp [*]; done)), (by first | rfl | (simp; done) | (simp [*]; done)), H', ⟨by have := HK1.out; omega⟩, ⟨by (with_reducible repeat (first | apply Kd.R_alloc | apply Kd.R_drewN | apply Kd.R_drew)); exact HO_3.out⟩, ⟨by repeat (first | (with_reducible first | exact HB.out | apply below_alloc | apply pw_below_drewN | apply below_drew1) | exact HB.out)⟩⟩
                  · rw [if_neg c14] at H
                    exact absurd H (by simp)
                · rw [if_neg c13] at H
                  exact absurd H (by simp)
              · rw [if_neg c12] at H
                exact absurd H (by simp)
            · rw [if_neg c10] at H
              have c10b0 : decide (8 ≤ (wrap64 ((wrap64 (x12_1 + 1)) - x4_1))) = false := decide_eq_false c10
              clear c10
              have H' := Aside0.mk H
              clear H
              go_wp2
              go_roundg k1
              case measure => have := HK1.out; omega
              case rel => exact ⟨(x3_1), (x4_1), (wrap64 (x12_1 + 1)), (by first | rfl | (simp; done) | (simp [*]; done)), (by first | rfl | (simp; done) | (simp [*]; done)), H', ⟨by have := HK1.out; omega⟩, ⟨by (with_reducible repeat (first | apply Kd.R_alloc | apply Kd.R_drewN | apply Kd.R_drew)); exact HO_3.out⟩, ⟨by repeat (first | (with_reducible first | exact HB.out | apply below_alloc | apply pw_below_drewN | apply below_drew1) | exact HB.out)⟩⟩
        · rw [if_neg c3] at H
          have c3b0 : decide (x12_1 < (a0.size : Int)) = false := decide_eq_false c3
          clear c3
          by_cases c22 : x4_1 < (a0.size : Int)
          · rw [if_pos c22] at H
            have c22b0 : decide (x4_1 < (a0.size : Int)) = true := decide_eq_true c22
            clear c22
            by_cases c23 : 0 ≤ x4_1
            · rw [if_pos c23] at H
              have c23b0 := eq_true c23
              have c23b1 : decide (0 ≤ x4_1) = true := decide_eq_true c23
              clear c23
              by_cases c24 : x4_1 ≤ (a0.size : Int)
              · rw [if_pos c24] at H
                have c24b0 := eq_true c24
                have c24b1 : decide (x4_1 ≤ (a0.size : Int)) = true := decide_eq_true c24
                clear c24
                by_cases c25 : x3_1.length < 8796093022208
                · rw [if_pos c25] at H
                  have LMc25 := Aside0.mk c25
                  clear c25
                  obtain ⟨y129, hy129⟩ : ∃ y_ : List ByteArray, y_ = (x3_1 ++ [a0.extract (x4_1 : Int).toNat a0.size]) := ⟨_, rfl⟩
                  replace H : (some y129) = some r := by first | (rw [hy129]; with_reducible exact H) | (have H2_ := (Option.bind_some _ _).symm.trans H; rw [hy129]; with_reducible exact H2_) | (have H2_ := (Option.bind_some _ _).symm.trans H; with_reducible exact H2_) | with_reducible exact H | (rw [hy129]; exact H) | exact H
                  have Ny129 := Aside0.mk hy129
                  clear hy129
                  obtain rfl := Option.some.inj H
                  go_wp2_with (first | ((with_reducible refine gate_builtin (b := .append) (xs := #[.tmp 52, .tmp 56]) rfl ?_); at_builtin; refine Kd.R_append Kd.string (w0 := w) w.heap.size rfl (.tmp 52) (.tmp 56) 27 9 (.string ⟨#[]⟩) 16 rfl Try.underlying27 info9 rfl (by decide) (by omega) u3 x3_1 (a0.extract (x4_1 : Int).toNat a0.size) [.string (a0.extract (x4_1 : Int).toNat a0.size)] (fun _ => True) (fun _ => False) rfl rfl ?aP (fun _ hk => hk.elim) ?aF ?aO ?aB ?aS ?aL ?_; (case aP => exact rfl); (case aB => exact (by repeat (first | (with_reducible first | exact HB.out | apply below_alloc | apply pw_below_drewN | apply below_drew1) | exact HB.out))); (case aF => exact (fun _ _ => trivial)); (case aO => exact (by (with_reducible repeat (first | apply Kd.R_alloc | apply Kd.R_drewN | apply Kd.R_drew)); exact HO_3.out)); (case aS => exact (below_size (by repeat (first | (with_reducible first | exact HB.out | apply below_alloc | apply pw_below_drewN | apply below_drew1) | exact HB.out)))); (case aL => have := LMc25.out; omega); intro v130 w26 ho hb hg hat; rw [← Ny129.out] at ho; have n0_ := Aside0.mk (hb); have n1_ := Aside0.mk (ho); clear HB; clear HO_3; have HB := n0_; have HO131 := n1_; clear n0_ n1_; clear ho hb hg hat))
                  go_ret
                  exact ⟨_, by first | rfl | (simp [errW_none, errW_some] <;> rfl) | (simp [*, errW_none, errW_some] <;> rfl), by (with_reducible repeat (first | apply Kd.R_alloc | apply Kd.R_drewN | apply Kd.R_drew)); exact HO131.out, by repeat (first | (with_reducible first | exact HB.out | apply below_alloc | apply pw_below_drewN | apply below_drew1) | exact HB.out)⟩
                · rw [if_neg c25] at H
                  exact absurd H (by simp)
              · rw [if_neg c24] at H
                exact absurd H (by simp)
            · rw [if_neg c23] at H
              exact absurd H (by simp)
          · rw [if_neg c22] at H
            have c22b0 : decide (x4_1 < (a0.size : Int)) = false := decide_eq_false c22
            clear c22
            obtain rfl := Option.some.inj H
            go_wp2
            go_ret
            exact ⟨_, by first | rfl | (simp [errW_none, errW_some] <;> rfl) | (simp [*, errW_none, errW_some] <;> rfl), by (with_reducible repeat (first | apply Kd.R_alloc | apply Kd.R_drewN | apply Kd.R_drew)); exact HO_3.out, by repeat (first | (with_reducible first | exact HB.out | apply below_alloc | apply pw_below_drewN | apply below_drew1) | exact HB.out)⟩

/-! ### impl_Shared: function 13 -/
/-- The sum of the sizes of the texts of q from place i on that stand in p. -/
def impl_Shared.add (p : List ByteArray) : Int → List ByteArray → Int
  | n, [] => n
  | n, x :: q => impl_Shared.add p (if (p.any fun y => decide (y = x)) = true then wrap64 (n + (x.size : Int)) else n) q
def impl_Shared.f (k : Nat) (a0 : ByteArray) (a1 : ByteArray) : Option Int :=
  (impl_Pieces.f k a0).bind fun p => (impl_Pieces.f k a1).bind fun q => if (p.length < 4611686018427387904 ∧ q.length < 4611686018427387904) ∧ ((p.all fun x => decide (x.size ≤ maxLen)) = true ∧ (q.all fun x => decide (x.size ≤ maxLen)) = true) then some (impl_Shared.add p 0 q) else none
theorem impl_Shared.mono : ∀ a0 a1 k, LeO (impl_Shared.f k a0 a1) (impl_Shared.f (k + 1) a0 a1) := by
  intro a0 a1 k
  unfold impl_Shared.f
  exact LeO.bind (impl_Pieces.mono _ _) (fun _ => LeO.bind (impl_Pieces.mono _ _) (fun _ => LeO.refl _))
theorem impl_Shared.zero_bool (w : World) : (zeroValue 4).run Try.prog w = .ok (.bool false) w := by kernel_rfl
set_option maxHeartbeats 800000 in
set_option maxRecDepth 100000 in
theorem impl_Shared.calls (k : Nat) (a0 : ByteArray) (a1 : ByteArray) (r : Int) (w : World) (h : impl_Shared.f k a0 a1 = some r) :
    Calls Try.prog 13 #[.string a0, .string a1] w fun e w' => e = .returned (.int .i64 r) ∧ Below w.heap.size w w' := by
  obtain ⟨p, hp, h⟩ := Option.bind_eq_some_iff.mp h
  replace h : ((impl_Pieces.f k a1).bind fun q => if (p.length < 4611686018427387904 ∧ q.length < 4611686018427387904) ∧ ((p.all fun x => decide (x.size ≤ maxLen)) = true ∧ (q.all fun x => decide (x.size ≤ maxLen)) = true) then some (impl_Shared.add p 0 q) else none) = some r := h
  obtain ⟨q, hq, h⟩ := Option.bind_eq_some_iff.mp h
  replace h : (if (p.length < 4611686018427387904 ∧ q.length < 4611686018427387904) ∧ ((p.all fun x => decide (x.size ≤ maxLen)) = true ∧ (q.all fun x => decide (x.size ≤ maxLen)) = true) then some (impl_Shared.add p 0 q) else none) = some r := h
  by_cases c : (p.length < 4611686018427387904 ∧ q.length < 4611686018427387904) ∧ ((p.all fun x => decide (x.size ≤ maxLen)) = true ∧ (q.all fun x => decide (x.size ≤ maxLen)) = true)
  case neg => rw [if_neg c] at h; exact absurd h (by simp)
  rw [if_pos c] at h
  obtain rfl := Option.some.inj h
  obtain ⟨⟨lp, lq⟩, sp, sq⟩ := c
  have HP := Aside0.mk hp
  have HQ := Aside0.mk hq
  clear h hp hq
  have hmm := @run_makeMap Try.prog
  go_enter Try.func13, Try.ntmps13
  go_wp2_with (first
    | ((with_reducible refine gate_callee (f := 15) rfl ?_); refine goesL_ (some 13) rfl rfl Try.func15 (by kernel_rfl) rfl #[.string a0] rfl (by (try simp only [List.map_toArray, List.map_cons, List.map_nil]); first | done | rfl) ?_; (with_reducible refine (impl_Pieces.calls k a0 p _ HP.out).mono ?_); rintro e w1 ⟨v1, rfl, ho1, hb1⟩; refine ⟨_, rfl, ?_⟩; obtain ⟨A1, c1, e1, hc1, hC1⟩ := Kd.R_reads ho1; subst e1))
  have hb1' : Below w.heap.size w w1 := below_step ((Below.refl _ _).alloc (Nat.le_refl _) _) hb1
  have hset0 : S.SetIs Try.prog 9 4 w1 w.heap.size 0 [] := S.SetIs.keep (S.SetIs.made w) (by exact hb1.block w.heap.size (by simp))
  have hrow0 : S.Row w.heap.size w1 A1 p := S.Row.of (P := Try.prog) (k := 9) (e := 4) (n := 0) (ys := []) hC1 (fun v j => hset0.no_cell v j)
  clear ho1 hb1 hC1
  go_loopw [15] (fun i wr => ∃ j : Nat, j ≤ p.length ∧ i = .int .i64 j ∧ S.SetIs Try.prog 9 4 wr w.heap.size j (p.take j) ∧ S.Row w.heap.size wr A1 p ∧ Below w.heap.size w wr)
    (fun i _ => p.length - (intOf i).toNat)
  case atStart => exact ⟨0, Nat.zero_le _, rfl, hset0, hrow0, hb1'⟩
  case round =>
    clear hset0 hrow0 hb1'
    obtain ⟨j, hj, rfl, hset, hrow, hbel⟩ := hrel
    by_cases hlt : j < p.length
    · have hx : p[j]? = some p[j] := List.getElem?_eq_getElem hlt
      have hsz : (p[j]).size ≤ maxLen := of_decide_eq_true (List.all_eq_true.1 sp _ (List.getElem_mem hlt))
      obtain ⟨bb, off, eA, hne, hcell⟩ := hrow j p[j] hx
      subst eA
      generalize hxe : p[j] = x at hx hsz hcell
      go_wp2_with (first | (at_mapUpdate; refine S.wpList_update_set _ rfl _ _ _ 47 rfl 9 4 Try.underlying9 Try.underlying47 Try.underlying4 w.heap.size j (p.take j) rfl hset (by unfold maxLen; omega) x rfl rfl hsz ?_; intro w2 hset2 hg2))
      go_roundw
      case rel =>
        refine ⟨j + 1, by omega, by go_num, ?_, ?_, ?_⟩
        · rw [List.take_add_one, hx]; exact hset2
        · exact hrow.keep (fun i hi hn => hg2.block i hi (by simpa using hn))
        · exact hbel.grown hg2 hbel.size (fun i hi => by cases hi; exact Nat.le_refl _)
      case measure => simp [intOf]; omega
    · obtain rfl : j = p.length := by omega
      rw [List.take_length] at hset
      go_wp2_with (first
        | ((with_reducible refine gate_callee (f := 15) rfl ?_); refine goesL_ (some 23) rfl rfl Try.func15 (by kernel_rfl) rfl #[.string a1] rfl (by (try simp only [List.map_toArray, List.map_cons, List.map_nil]); first | done | rfl) ?_; (with_reducible refine (impl_Pieces.calls k a1 q _ HQ.out).mono ?_); rintro e w2 ⟨v2, rfl, ho2, hb2⟩; refine ⟨_, rfl, ?_⟩; obtain ⟨A2, c2, e2, hc2, hC2⟩ := Kd.R_reads ho2; subst e2))
      have hbel2 : Below w.heap.size w w2 := below_step hbel hb2
      have hset2 : S.SetIs Try.prog 9 4 w2 w.heap.size p.length p := hset.keep (hb2.block w.heap.size hset.lt)
      have hrow2 : S.Row w.heap.size w2 A2 q := S.Row.of (P := Try.prog) (k := 9) (e := 4) (n := 0) (ys := []) hC2 (fun v j => hset2.no_cell v j)
      clear ho2 hb2 hC2 hset hrow hbel
      go_loopw [8, 25] (fun n i wr => ∃ (j : Nat) (x : Int), j ≤ q.length ∧ n = .int .i64 x ∧ i = .int .i64 j ∧ impl_Shared.add p x (q.drop j) = impl_Shared.add p 0 q ∧ S.SetIs Try.prog 9 4 wr w.heap.size p.length p ∧ S.Row w.heap.size wr A2 q ∧ Below w.heap.size w wr)
        (fun _ i _ => q.length - (intOf i).toNat)
      case atStart => exact ⟨0, 0, Nat.zero_le _, rfl, rfl, rfl, hset2, hrow2, hbel2⟩
      case round =>
        clear hset2 hrow2 hbel2
        obtain ⟨j, n, hj, rfl, rfl, hadd, hset, hrow, hbel⟩ := hrel
        by_cases hlt : j < q.length
        · have hx : q[j]? = some q[j] := List.getElem?_eq_getElem hlt
          have hsz : (q[j]).size ≤ maxLen := of_decide_eq_true (List.all_eq_true.1 sq _ (List.getElem_mem hlt))
          obtain ⟨bb, off, eA, hne, hcell⟩ := hrow j q[j] hx
          subst eA
          rw [List.drop_eq_getElem_cons hlt, impl_Shared.add] at hadd
          generalize hxe : q[j] = x at hx hsz hcell hadd
          cases hm : (p.any fun y => decide (y = x)) with
          | true =>
            rw [hm, if_pos rfl] at hadd
            go_wp2_with (first | (at_lookup; refine S.wpList_lookup_set _ rfl _ _ 47 rfl 9 4 Try.underlying9 Try.underlying47 Try.underlying4 (impl_Shared.zero_bool _) w.heap.size p.length p rfl hset x rfl hsz ?_; rw [hm]))
            go_roundw
            case rel => exact ⟨j + 1, _, by omega, rfl, by go_num, hadd, hset, hrow, hbel⟩
            case measure => simp [intOf]; omega
          | false =>
            rw [hm, if_neg (by decide)] at hadd
            go_wp2_with (first | (at_lookup; refine S.wpList_lookup_set _ rfl _ _ 47 rfl 9 4 Try.underlying9 Try.underlying47 Try.underlying4 (impl_Shared.zero_bool _) w.heap.size p.length p rfl hset x rfl hsz ?_; rw [hm]))
            go_roundw
            case rel => exact ⟨j + 1, _, by omega, rfl, by go_num, hadd, hset, hrow, hbel⟩
            case measure => simp [intOf]; omega
        · obtain rfl : j = q.length := by omega
          rw [List.drop_length, impl_Shared.add] at hadd
          go_wp2
          go_ret
          refine ⟨?_, hbel⟩
          rw [hadd]; rfl

/-! ### laws_FnExactShared: function 5 -/
def laws_FnExactShared.f (k : Nat) (a0 : ByteArray) (a1 : ByteArray) : Option (Bool) := if (a0.size : Int) > 1048576 then (some true) else (if (a1.size : Int) > 1048576 then (some true) else ((spec_Shared.f k a0 a1).bind fun t132 => ((impl_Shared.f k a0 a1).bind fun t133 => (if t133 = t132 then (some true) else (some false)))))
theorem laws_FnExactShared.mono : ∀ a0 a1 k, LeO (laws_FnExactShared.f k a0 a1) (laws_FnExactShared.f (k + 1) a0 a1) := by
  intro a0 a1 k
  unfold laws_FnExactShared.f
  repeat' first
      | (with_reducible exact impl_Shared.mono _ _ _)
      | (with_reducible exact spec_Shared.mono _ _ _)
      | (with_reducible exact LeO.refl _)
      | (with_reducible exact LeO.none _)
      | (with_reducible refine LeO.ite ?_ ?_)
      | (with_reducible refine LeO.bind ?_ (fun _ => ?_))
      | exact impl_Shared.mono _ _ _
      | exact spec_Shared.mono _ _ _
      | exact LeO.none _
      | refine LeO.ite ?_ ?_
      | refine LeO.bind ?_ (fun _ => ?_)
set_option maxHeartbeats 8000000 in
set_option maxRecDepth 100000 in
theorem laws_FnExactShared.calls (k : Nat) (a0 : ByteArray) (a1 : ByteArray) (r : Bool) (w : World) (h : laws_FnExactShared.f k a0 a1 = some r) :
    Calls Try.prog 5 #[.string a0, .string a1] w fun e w' => e = .returned (.bool r) ∧ Below w.heap.size w w' := by
  have HB := Aside0.mk (Below.refl w.heap.size w)
  have H : (if (a0.size : Int) > 1048576 then (some true) else (if (a1.size : Int) > 1048576 then (some true) else ((spec_Shared.f k a0 a1).bind fun t132 => ((impl_Shared.f k a0 a1).bind fun t133 => (if t133 = t132 then (some true) else (some false)))))) = some r := h
  clear h
  by_cases c3 : (a0.size : Int) > 1048576
  · rw [if_pos c3] at H
    have c3b0 : decide (1048576 < (a0.size : Int)) = true := decide_eq_true c3
    have c3b1 : decide (1048576 < a0.size) = true := decide_eq_true (by omega)
    clear c3
    obtain rfl := Option.some.inj H
    go_enter Try.func5, Try.ntmps5
    go_wp2
    go_ret
    exact ⟨by first | rfl | (simp [errW_none, errW_some] <;> rfl) | (simp [*, errW_none, errW_some] <;> rfl), by repeat (first | (with_reducible first | exact HB.out | apply below_alloc | apply pw_below_drewN | apply below_drew1) | exact HB.out)⟩
  · rw [if_neg c3] at H
    have c3b0 : decide (1048576 < (a0.size : Int)) = false := decide_eq_false c3
    have c3b1 : decide (1048576 < a0.size) = false := decide_eq_false (by omega)
    clear c3
    by_cases c4 : (a1.size : Int) > 1048576
    · rw [if_pos c4] at H
      have c4b0 : decide (1048576 < (a1.size : Int)) = true := decide_eq_true c4
      have c4b1 : decide (1048576 < a1.size) = true := decide_eq_true (by omega)
      clear c4
      obtain rfl := Option.some.inj H
      go_enter Try.func5, Try.ntmps5
      go_wp2
      go_ret
      exact ⟨by first | rfl | (simp [errW_none, errW_some] <;> rfl) | (simp [*, errW_none, errW_some] <;> rfl), by repeat (first | (with_reducible first | exact HB.out | apply below_alloc | apply pw_below_drewN | apply below_drew1) | exact HB.out)⟩
    · rw [if_neg c4] at H
      have c4b0 : decide (1048576 < (a1.size : Int)) = false := decide_eq_false c4
      have c4b1 : decide (1048576 < a1.size) = false := decide_eq_false (by omega)
      clear c4
      replace H := Option.bind_eq_some_iff.mp H
      obtain ⟨t132, A50, H⟩ := H
      replace H : ((impl_Shared.f k a0 a1).bind fun t133 => (if t133 = t132 then (some true) else (some false))) = some r := H
      have A5 := Aside0.mk A50
      clear A50
      replace H := Option.bind_eq_some_iff.mp H
      obtain ⟨t133, A60, H⟩ := H
      replace H : (if t133 = t132 then (some true) else (some false)) = some r := H
      have A6 := Aside0.mk A60
      clear A60
      by_cases c7 : t133 = t132
      · rw [if_pos c7] at H
        have c7b0 : (t133 == t132) = true := beq_iff_eq.mpr c7
        have c7b1 : (t133 != t132) = false := bne_eq_false_iff_eq.mpr c7
        clear c7
        obtain rfl := Option.some.inj H
        go_enter Try.func5, Try.ntmps5
        go_wp2_with (first | ((with_reducible refine gate_callee (f := 12) rfl ?_); refine goesL_ (some 15) rfl rfl Try.func12 (by kernel_rfl) rfl #[.string a0, .string a1] rfl (by (try simp only [List.map_toArray, List.map_cons, List.map_nil]); first | done | rfl | (simp only [List.length_drop, List.length_take]; rfl)) ?_; (with_reducible refine (spec_Shared.calls k a0 a1 t132 _ A5.out).mono ?_); rintro e w8 ⟨rfl, hb⟩; refine ⟨_, rfl, ?_⟩; have n0_ := Aside0.mk (below_step (by repeat (first | (with_reducible first | exact HB.out | apply below_alloc | apply pw_below_drewN | apply below_drew1) | exact HB.out)) hb); clear HB; have HB := n0_; clear n0_; (try clear hb); (try clear hb2); (try clear hk); (try clear hi)) | ((with_reducible refine gate_callee (f := 13) rfl ?_); refine goesL_ (some 18) rfl rfl Try.func13 (by kernel_rfl) rfl #[.string a0, .string a1] rfl (by (try simp only [List.map_toArray, List.map_cons, List.map_nil]); first | done | rfl | (simp only [List.length_drop, List.length_take]; rfl)) ?_; (with_reducible refine (impl_Shared.calls k a0 a1 t133 _ A6.out).mono ?_); rintro e w9 ⟨rfl, hb⟩; refine ⟨_, rfl, ?_⟩; have n0_ := Aside0.mk (below_step (by repeat (first | (with_reducible first | exact HB.out | apply below_alloc | apply pw_below_drewN | apply below_drew1) | exact HB.out)) hb); clear HB; have HB := n0_; clear n0_; (try clear hb); (try clear hb2); (try clear hk); (try clear hi)))
        go_ret
        exact ⟨by first | rfl | (simp [errW_none, errW_some] <;> rfl) | (simp [*, errW_none, errW_some] <;> rfl), by repeat (first | (with_reducible first | exact HB.out | apply below_alloc | apply pw_below_drewN | apply below_drew1) | exact HB.out)⟩
      · rw [if_neg c7] at H
        have c7b0 : (t133 == t132) = false := beq_eq_false_iff_ne.mpr c7
        have c7b1 : (t133 != t132) = true := bne_iff_ne.mpr c7
        obtain rfl := Option.some.inj H
        go_enter Try.func5, Try.ntmps5
        go_wp2_with (first | ((with_reducible refine gate_callee (f := 12) rfl ?_); refine goesL_ (some 15) rfl rfl Try.func12 (by kernel_rfl) rfl #[.string a0, .string a1] rfl (by (try simp only [List.map_toArray, List.map_cons, List.map_nil]); first | done | rfl | (simp only [List.length_drop, List.length_take]; rfl)) ?_; (with_reducible refine (spec_Shared.calls k a0 a1 t132 _ A5.out).mono ?_); rintro e w10 ⟨rfl, hb⟩; refine ⟨_, rfl, ?_⟩; have n0_ := Aside0.mk (below_step (by repeat (first | (with_reducible first | exact HB.out | apply below_alloc | apply pw_below_drewN | apply below_drew1) | exact HB.out)) hb); clear HB; have HB := n0_; clear n0_; (try clear hb); (try clear hb2); (try clear hk); (try clear hi)) | ((with_reducible refine gate_callee (f := 13) rfl ?_); refine goesL_ (some 18) rfl rfl Try.func13 (by kernel_rfl) rfl #[.string a0, .string a1] rfl (by (try simp only [List.map_toArray, List.map_cons, List.map_nil]); first | done | rfl | (simp only [List.length_drop, List.length_take]; rfl)) ?_; (with_reducible refine (impl_Shared.calls k a0 a1 t133 _ A6.out).mono ?_); rintro e w11 ⟨rfl, hb⟩; refine ⟨_, rfl, ?_⟩; have n0_ := Aside0.mk (below_step (by repeat (first | (with_reducible first | exact HB.out | apply below_alloc | apply pw_below_drewN | apply below_drew1) | exact HB.out)) hb); clear HB; have HB := n0_; clear n0_; (try clear hb); (try clear hb2); (try clear hk); (try clear hi)))
        go_ret
        exact ⟨by first | rfl | (simp [errW_none, errW_some] <;> rfl) | (simp [*, errW_none, errW_some] <;> rfl), by repeat (first | (with_reducible first | exact HB.out | apply below_alloc | apply pw_below_drewN | apply below_drew1) | exact HB.out)⟩

/-- THE ONE PURE STATEMENT of laws_FnExactShared: yours. -/
def laws_FnExactShared.Pure : Prop := ∀ (a0 : ByteArray) (a1 : ByteArray), a0.size ≤ 140737488351232 → a1.size ≤ 140737488351232 → ∃ k, laws_FnExactShared.f k a0 a1 = some true
theorem laws_FnExactShared.walk (P : laws_FnExactShared.Pure) (a0 : ByteArray) (a1 : ByteArray) (w : World) (w0 : a0.size ≤ 140737488351232) (w1 : a1.size ≤ 140737488351232) :
    Calls Try.prog 5 #[.string a0, .string a1] w fun e w' => e = .returned (.bool true) ∧ Below w.heap.size w w' := by
  obtain ⟨k, h⟩ := P a0 a1 w0 w1
  refine (laws_FnExactShared.calls k a0 a1 true w h).mono ?_
  rintro e w' ⟨rfl, hd⟩
  exact ⟨rfl, hd⟩

/-- The pure statement of the law. -/
def laws_FnExactShared.Law : Prop := ∀ (a0 : ByteArray) (a1 : ByteArray), (a0.size ≤ maxLen) → (a1.size ≤ maxLen) → ∃ k, laws_FnExactShared.f k a0 a1 = some true

end Go.Proofs.Ytbmldafgipimbaa.PFnExactShared

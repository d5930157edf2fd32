-- Walks of printed functions (by wip/gen.py of this session, with the kit's program).
import Derived.Test.YtbmldafgipimbaaGFnPiecesx0
import Derived.Test.YtbmldafgipimbaaGFnPiecesx1
import Derived.Test.YtbmldafgipimbaaGFnPiecesx3
namespace Go.Proofs.Ytbmldafgipimbaa.PFnPieces
open Go.RowKit Go.Proofs.YtbmldafgipimbaaW.PrintWords Go.Proofs.YtbmldafgipimbaaW.PrintLast Go.Proofs.YtbmldafgipimbaaW.PrintMore
attribute [local go_sem] max2_int min2_int max_two min_two max_three min_three max_four min_four   -- for this text's walks alone
set_option linter.unusedVariables false
set_option linter.unusedSimpArgs false

/-! ### laws_FnPieces: function 9 -/
mutual
def laws_FnPieces.j0 : Nat → ByteArray → ByteArray → List ByteArray → List ByteArray → Bool → Option (Bool)
  | 0, _, _, _, _, _ => none
  | k + 1, x3, x4, x5, x6, x36 => if x36 = true then (some false) else (laws_FnPieces.l0 k x3 x4 x5 x6 0 0)
def laws_FnPieces.l0 : Nat → ByteArray → ByteArray → List ByteArray → List ByteArray → Int → Int → Option (Bool)
  | 0, _, _, _, _, _, _ => none
  | k + 1, x3, x4, x5, x6, x7, x8 => if x8 < (x5.length : Int) then (if 0 ≤ x8 then (if ((rdOf ByteArray.empty x5 x8).size : Int) < 1 then (laws_FnPieces.j2 k x3 x4 x5 x6 x7 x8 ((rdOf ByteArray.empty x5 x8).size : Int) true) else (if ((rdOf ByteArray.empty x5 x8).size : Int) > 64 then (laws_FnPieces.j2 k x3 x4 x5 x6 x7 x8 ((rdOf ByteArray.empty x5 x8).size : Int) true) else (if ((rdOf ByteArray.empty x5 x8).size : Int) < 8 then (if (wrap64 (x8 + 1)) < (x5.length : Int) then (laws_FnPieces.j2 k x3 x4 x5 x6 x7 x8 ((rdOf ByteArray.empty x5 x8).size : Int) true) else (if 0 ≤ x7 then (if x7 ≤ (wrap64 (x7 + ((rdOf ByteArray.empty x5 x8).size : Int))) then (if (wrap64 (x7 + ((rdOf ByteArray.empty x5 x8).size : Int))) ≤ (x3.size : Int) then (laws_FnPieces.j2 k x3 x4 x5 x6 x7 x8 ((rdOf ByteArray.empty x5 x8).size : Int) ((x3.extract (x7 : Int).toNat ((wrap64 (x7 + ((rdOf ByteArray.empty x5 x8).size : Int))) : Int).toNat).toList != (rdOf ByteArray.empty x5 x8).toList)) else (none)) else (none)) else (none))) else (if 0 ≤ x7 then (if x7 ≤ (wrap64 (x7 + ((rdOf ByteArray.empty x5 x8).size : Int))) then (if (wrap64 (x7 + ((rdOf ByteArray.empty x5 x8).size : Int))) ≤ (x3.size : Int) then (laws_FnPieces.j2 k x3 x4 x5 x6 x7 x8 ((rdOf ByteArray.empty x5 x8).size : Int) ((x3.extract (x7 : Int).toNat ((wrap64 (x7 + ((rdOf ByteArray.empty x5 x8).size : Int))) : Int).toNat).toList != (rdOf ByteArray.empty x5 x8).toList)) else (none)) else (none)) else (none))))) else (none)) else (if x7 = (x3.size : Int) then (some true) else (if (x3.size : Int) > 3000 then (some ((x5.length : Int) == 0)) else (some false)))
def laws_FnPieces.j2 : Nat → ByteArray → ByteArray → List ByteArray → List ByteArray → Int → Int → Int → Bool → Option (Bool)
  | 0, _, _, _, _, _, _, _, _ => none
  | k + 1, x3, x4, x5, x6, x7, x8, x9, x77 => if x77 = true then (some false) else (laws_FnPieces.l1 k x3 x4 x5 x6 x7 x8 x9 (wrap64 ((x3.size : Int) - x7)) 0 0)
def laws_FnPieces.l1 : Nat → ByteArray → ByteArray → List ByteArray → List ByteArray → Int → Int → Int → Int → Int → Int → Option (Bool)
  | 0, _, _, _, _, _, _, _, _, _, _ => none
  | k + 1, x3, x4, x5, x6, x7, x8, x9, x10, x11, x12 => if x12 < (x6.length : Int) then (if (wrap64 ((x4.size : Int) - x11)) = x10 then (if 0 ≤ x11 then (if x11 ≤ (x4.size : Int) then (if 0 ≤ x7 then (if x7 ≤ (x3.size : Int) then (if (x4.extract (x11 : Int).toNat x4.size).toList = (x3.extract (x7 : Int).toNat x3.size).toList then (if 0 ≤ x8 then (if x8 ≤ (x5.length : Int) then (if 0 ≤ x12 then (if x12 ≤ (x6.length : Int) then ((laws_wTexts.f k (x5.drop (x8 : Int).toNat) (x6.drop (x12 : Int).toNat)).bind fun t201 => (if t201 = true then (laws_FnPieces.l1 k x3 x4 x5 x6 x7 x8 x9 x10 (wrap64 (x11 + ((rdOf ByteArray.empty x6 x12).size : Int))) (wrap64 (x12 + 1))) else (some false))) else (none)) else (none)) else (none)) else (none)) else (if 0 ≤ x12 then (laws_FnPieces.l1 k x3 x4 x5 x6 x7 x8 x9 x10 (wrap64 (x11 + ((rdOf ByteArray.empty x6 x12).size : Int))) (wrap64 (x12 + 1))) else (none))) else (none)) else (none)) else (none)) else (none)) else (if 0 ≤ x12 then (laws_FnPieces.l1 k x3 x4 x5 x6 x7 x8 x9 x10 (wrap64 (x11 + ((rdOf ByteArray.empty x6 x12).size : Int))) (wrap64 (x12 + 1))) else (none))) else (laws_FnPieces.l0 k x3 x4 x5 x6 (wrap64 (x7 + x9)) (wrap64 (x8 + 1)))
end
def laws_FnPieces.f (k : Nat) (l0 : List Int) : Option (Bool) := if (l0.length : Int) > 1048576 then (some true) else ((spec_DrawShared.f k l0).bind fun bt174 => ((impl_Pieces.f k bt174.1).bind fun t176 => ((impl_Pieces.f k bt174.2).bind fun t179 => ((spec_Pieces.f k bt174.1).bind fun t182 => ((laws_wTexts.f k t176 t182).bind fun t185 => (if t185 = true then ((spec_Pieces.f k bt174.2).bind fun t186 => ((laws_wTexts.f k t179 t186).bind fun t189 => (laws_FnPieces.j0 k bt174.1 bt174.2 t176 t179 (!t189)))) else (laws_FnPieces.j0 k bt174.1 bt174.2 t176 t179 true)))))))
theorem laws_FnPieces.mono_l : ∀ k, (∀ y0 y1 y2 y3 y4, LeO (laws_FnPieces.j0 k y0 y1 y2 y3 y4) (laws_FnPieces.j0 (k + 1) y0 y1 y2 y3 y4)) ∧ (∀ y0 y1 y2 y3 y4 y5, LeO (laws_FnPieces.l0 k y0 y1 y2 y3 y4 y5) (laws_FnPieces.l0 (k + 1) y0 y1 y2 y3 y4 y5)) ∧ (∀ y0 y1 y2 y3 y4 y5 y6 y7, LeO (laws_FnPieces.j2 k y0 y1 y2 y3 y4 y5 y6 y7) (laws_FnPieces.j2 (k + 1) y0 y1 y2 y3 y4 y5 y6 y7)) ∧ (∀ y0 y1 y2 y3 y4 y5 y6 y7 y8 y9, LeO (laws_FnPieces.l1 k y0 y1 y2 y3 y4 y5 y6 y7 y8 y9) (laws_FnPieces.l1 (k + 1) y0 y1 y2 y3 y4 y5 y6 y7 y8 y9))
  | 0 => ⟨fun _ _ _ _ _ r h => by simp [laws_FnPieces.j0] at h, fun _ _ _ _ _ _ r h => by simp [laws_FnPieces.l0] at h, fun _ _ _ _ _ _ _ _ r h => by simp [laws_FnPieces.j2] at h, fun _ _ _ _ _ _ _ _ _ _ r h => by simp [laws_FnPieces.l1] at h⟩
  | k + 1 => by
    obtain ⟨ih0, ih1, ih2, ih3⟩ := laws_FnPieces.mono_l k
    refine ⟨?_, ?_, ?_, ?_⟩
    · intro y0 y1 y2 y3 y4
      unfold laws_FnPieces.j0
      repeat' first
      | (with_reducible exact ih0 _ _ _ _ _)
      | (with_reducible exact ih1 _ _ _ _ _ _)
      | (with_reducible exact ih2 _ _ _ _ _ _ _ _)
      | (with_reducible exact ih3 _ _ _ _ _ _ _ _ _ _)
      | (with_reducible exact impl_Pieces.mono _ _)
      | (with_reducible exact laws_wTexts.mono _ _ _)
      | (with_reducible exact spec_DrawShared.mono _ _)
      | (with_reducible exact spec_Pieces.mono _ _)
      | (with_reducible exact LeO.refl _)
      | (with_reducible exact LeO.none _)
      | (with_reducible refine LeO.ite ?_ ?_)
      | (with_reducible refine LeO.bind ?_ (fun _ => ?_))
      | exact ih0 _ _ _ _ _
      | exact ih1 _ _ _ _ _ _
      | exact ih2 _ _ _ _ _ _ _ _
      | exact ih3 _ _ _ _ _ _ _ _ _ _
      | exact impl_Pieces.mono _ _
      | exact laws_wTexts.mono _ _ _
      | exact spec_DrawShared.mono _ _
      | exact spec_Pieces.mono _ _
      | exact LeO.none _
      | refine LeO.ite ?_ ?_
      | refine LeO.bind ?_ (fun _ => ?_)
    · intro y0 y1 y2 y3 y4 y5
      unfold laws_FnPieces.l0
      repeat' first
      | (with_reducible exact ih0 _ _ _ _ _)
      | (with_reducible exact ih1 _ _ _ _ _ _)
      | (with_reducible exact ih2 _ _ _ _ _ _ _ _)
      | (with_reducible exact ih3 _ _ _ _ _ _ _ _ _ _)
      | (with_reducible exact impl_Pieces.mono _ _)
      | (with_reducible exact laws_wTexts.mono _ _ _)
      | (with_reducible exact spec_DrawShared.mono _ _)
      | (with_reducible exact spec_Pieces.mono _ _)
      | (with_reducible exact LeO.refl _)
      | (with_reducible exact LeO.none _)
      | (with_reducible refine LeO.ite ?_ ?_)
      | (with_reducible refine LeO.bind ?_ (fun _ => ?_))
      | exact ih0 _ _ _ _ _
      | exact ih1 _ _ _ _ _ _
      | exact ih2 _ _ _ _ _ _ _ _
      | exact ih3 _ _ _ _ _ _ _ _ _ _
      | exact impl_Pieces.mono _ _
      | exact laws_wTexts.mono _ _ _
      | exact spec_DrawShared.mono _ _
      | exact spec_Pieces.mono _ _
      | exact LeO.none _
      | refine LeO.ite ?_ ?_
      | refine LeO.bind ?_ (fun _ => ?_)
    · intro y0 y1 y2 y3 y4 y5 y6 y7
      unfold laws_FnPieces.j2
      repeat' first
      | (with_reducible exact ih0 _ _ _ _ _)
      | (with_reducible exact ih1 _ _ _ _ _ _)
      | (with_reducible exact ih2 _ _ _ _ _ _ _ _)
      | (with_reducible exact ih3 _ _ _ _ _ _ _ _ _ _)
      | (with_reducible exact impl_Pieces.mono _ _)
      | (with_reducible exact laws_wTexts.mono _ _ _)
      | (with_reducible exact spec_DrawShared.mono _ _)
      | (with_reducible exact spec_Pieces.mono _ _)
      | (with_reducible exact LeO.refl _)
      | (with_reducible exact LeO.none _)
      | (with_reducible refine LeO.ite ?_ ?_)
      | (with_reducible refine LeO.bind ?_ (fun _ => ?_))
      | exact ih0 _ _ _ _ _
      | exact ih1 _ _ _ _ _ _
      | exact ih2 _ _ _ _ _ _ _ _
      | exact ih3 _ _ _ _ _ _ _ _ _ _
      | exact impl_Pieces.mono _ _
      | exact laws_wTexts.mono _ _ _
      | exact spec_DrawShared.mono _ _
      | exact spec_Pieces.mono _ _
      | exact LeO.none _
      | refine LeO.ite ?_ ?_
      | refine LeO.bind ?_ (fun _ => ?_)
    · intro y0 y1 y2 y3 y4 y5 y6 y7 y8 y9
      unfold laws_FnPieces.l1
      repeat' first
      | (with_reducible exact ih0 _ _ _ _ _)
      | (with_reducible exact ih1 _ _ _ _ _ _)
      | (with_reducible exact ih2 _ _ _ _ _ _ _ _)
      | (with_reducible exact ih3 _ _ _ _ _ _ _ _ _ _)
      | (with_reducible exact impl_Pieces.mono _ _)
      | (with_reducible exact laws_wTexts.mono _ _ _)
      | (with_reducible exact spec_DrawShared.mono _ _)
      | (with_reducible exact spec_Pieces.mono _ _)
      | (with_reducible exact LeO.refl _)
      | (with_reducible exact LeO.none _)
      | (with_reducible refine LeO.ite ?_ ?_)
      | (with_reducible refine LeO.bind ?_ (fun _ => ?_))
      | exact ih0 _ _ _ _ _
      | exact ih1 _ _ _ _ _ _
      | exact ih2 _ _ _ _ _ _ _ _
      | exact ih3 _ _ _ _ _ _ _ _ _ _
      | exact impl_Pieces.mono _ _
      | exact laws_wTexts.mono _ _ _
      | exact spec_DrawShared.mono _ _
      | exact spec_Pieces.mono _ _
      | exact LeO.none _
      | refine LeO.ite ?_ ?_
      | refine LeO.bind ?_ (fun _ => ?_)
theorem laws_FnPieces.mono : ∀ a0 k, LeO (laws_FnPieces.f k a0) (laws_FnPieces.f (k + 1) a0) := by
  intro a0 k
  obtain ⟨ih0, ih1, ih2, ih3⟩ := laws_FnPieces.mono_l k
  unfold laws_FnPieces.f
  repeat' first
      | (with_reducible exact ih0 _ _ _ _ _)
      | (with_reducible exact ih1 _ _ _ _ _ _)
      | (with_reducible exact ih2 _ _ _ _ _ _ _ _)
      | (with_reducible exact ih3 _ _ _ _ _ _ _ _ _ _)
      | (with_reducible exact impl_Pieces.mono _ _)
      | (with_reducible exact laws_wTexts.mono _ _ _)
      | (with_reducible exact spec_DrawShared.mono _ _)
      | (with_reducible exact spec_Pieces.mono _ _)
      | (with_reducible exact LeO.refl _)
      | (with_reducible exact LeO.none _)
      | (with_reducible refine LeO.ite ?_ ?_)
      | (with_reducible refine LeO.bind ?_ (fun _ => ?_))
      | exact ih0 _ _ _ _ _
      | exact ih1 _ _ _ _ _ _
      | exact ih2 _ _ _ _ _ _ _ _
      | exact ih3 _ _ _ _ _ _ _ _ _ _
      | exact impl_Pieces.mono _ _
      | exact laws_wTexts.mono _ _ _
      | exact spec_DrawShared.mono _ _
      | exact spec_Pieces.mono _ _
      | exact LeO.none _
      | refine LeO.ite ?_ ?_
      | refine LeO.bind ?_ (fun _ => ?_)
set_option maxHeartbeats 8000000 in
set_option maxRecDepth 100000 in
theorem laws_FnPieces.calls (k : Nat) (A0 : Option Addr) (c0 : Nat) (l0 : List Int) (r : Bool) (w : World) (hr0 : Kd.C (Kd.int .u8) w A0 l0.length l0) (hc0 : l0.length ≤ c0) (h : laws_FnPieces.f k l0 = some r) :
    Calls Try.prog 9 #[.slice A0 l0.length c0] w fun e w' => e = .returned (.bool r) ∧ Below w.heap.size w w' := by
  have HR0 := Aside0.mk hr0
  have HC0 := Aside0.mk hc0
  clear hr0 hc0
  have HB := Aside0.mk (Below.refl w.heap.size w)
  have H : (if (l0.length : Int) > 1048576 then (some true) else ((spec_DrawShared.f k l0).bind fun bt174 => ((impl_Pieces.f k bt174.1).bind fun t176 => ((impl_Pieces.f k bt174.2).bind fun t179 => ((spec_Pieces.f k bt174.1).bind fun t182 => ((laws_wTexts.f k t176 t182).bind fun t185 => (if t185 = true then ((spec_Pieces.f k bt174.2).bind fun t186 => ((laws_wTexts.f k t179 t186).bind fun t189 => (laws_FnPieces.j0 k bt174.1 bt174.2 t176 t179 (!t189)))) else (laws_FnPieces.j0 k bt174.1 bt174.2 t176 t179 true)))))))) = some r := h
  clear h
  by_cases c2 : (l0.length : Int) > 1048576
  · rw [if_pos c2] at H
    have c2b0 : decide (1048576 < (l0.length : Int)) = true := decide_eq_true c2
    have c2b1 : decide (1048576 < l0.length) = true := decide_eq_true (by omega)
    clear c2
    obtain rfl := Option.some.inj H
    go_enter Try.func9, Try.ntmps9
    go_wp2
    repeat (go_quiet (fail); try go_wp2)
    go_ret
    exact ⟨by first | rfl | (simp [errW_none, errW_some] <;> rfl) | (simp [*, errW_none, errW_some] <;> rfl), by repeat (first | (with_reducible first | exact HB.out | apply below_alloc | apply pw_below_drewN | apply below_drew1) | exact HB.out)⟩
  · rw [if_neg c2] at H
    have c2b0 : decide (1048576 < (l0.length : Int)) = false := decide_eq_false c2
    have c2b1 : decide (1048576 < l0.length) = false := decide_eq_false (by omega)
    clear c2
    replace H := Option.bind_eq_some_iff.mp H
    obtain ⟨⟨t174, t175⟩, A30, H⟩ := H
    replace H : ((impl_Pieces.f k t174).bind fun t176 => ((impl_Pieces.f k t175).bind fun t179 => ((spec_Pieces.f k t174).bind fun t182 => ((laws_wTexts.f k t176 t182).bind fun t185 => (if t185 = true then ((spec_Pieces.f k t175).bind fun t186 => ((laws_wTexts.f k t179 t186).bind fun t189 => (laws_FnPieces.j0 k t174 t175 t176 t179 (!t189)))) else (laws_FnPieces.j0 k t174 t175 t176 t179 true)))))) = some r := H
    have A3 := Aside0.mk A30
    clear A30
    replace H := Option.bind_eq_some_iff.mp H
    obtain ⟨t176, A40, H⟩ := H
    replace H : ((impl_Pieces.f k t175).bind fun t179 => ((spec_Pieces.f k t174).bind fun t182 => ((laws_wTexts.f k t176 t182).bind fun t185 => (if t185 = true then ((spec_Pieces.f k t175).bind fun t186 => ((laws_wTexts.f k t179 t186).bind fun t189 => (laws_FnPieces.j0 k t174 t175 t176 t179 (!t189)))) else (laws_FnPieces.j0 k t174 t175 t176 t179 true))))) = some r := H
    have A4 := Aside0.mk A40
    clear A40
    replace H := Option.bind_eq_some_iff.mp H
    obtain ⟨t179, A50, H⟩ := H
    replace H : ((spec_Pieces.f k t174).bind fun t182 => ((laws_wTexts.f k t176 t182).bind fun t185 => (if t185 = true then ((spec_Pieces.f k t175).bind fun t186 => ((laws_wTexts.f k t179 t186).bind fun t189 => (laws_FnPieces.j0 k t174 t175 t176 t179 (!t189)))) else (laws_FnPieces.j0 k t174 t175 t176 t179 true)))) = some r := H
    have A5 := Aside0.mk A50
    clear A50
    have HC6 := Aside0.mk H
    clear H
    go_enter Try.func9, Try.ntmps9
    go_upto_region 6 with (first | (go_at_call 24; (with_reducible refine (spec_DrawShared.calls k _ _ l0 t174 t175 _ ?side1 ?side2 A3.out).mono ?_); (case side1 => repeat (first | exact HR0.out | (with_reducible refine Kd.C_alloc ?_ _) | (with_reducible refine Kd.C_drewN ?_ _) | (with_reducible refine Kd.C_drew ?_))); (case side2 => exact HC0.out); rintro e w7 ⟨rfl, hb⟩; have n0_ := Aside0.mk (below_step (by repeat (first | (with_reducible first | exact HB.out | apply below_alloc | apply pw_below_drewN | apply below_drew1) | exact HB.out)) hb); clear HB; have HB := n0_; clear n0_; (try clear hb); (try clear hb2); (try clear hk); (try clear hi)) | (go_at_call 15; (with_reducible refine (impl_Pieces.calls k t174 t176 _ A4.out).mono ?_); rintro e w8 ⟨v177, rfl, ho0, hb⟩; have n0_ := Aside0.mk (Kd.R_lower ho0 (below_size (by repeat (first | (with_reducible first | exact HB.out | apply below_alloc | apply pw_below_drewN | apply below_drew1) | exact HB.out)))); have n1_ := Aside0.mk (below_step (by repeat (first | (with_reducible first | exact HB.out | apply below_alloc | apply pw_below_drewN | apply below_drew1) | exact HB.out)) hb); clear HB; have HO178 := n0_; have HB := n1_; clear n0_ n1_; (try clear hb); (try clear hb2); (try clear hk); (try clear hi); (try clear ho0)) | (go_at_call 15; (with_reducible refine (impl_Pieces.calls k t175 t179 _ A5.out).mono ?_); rintro e w9 ⟨v180, rfl, ho0, hb⟩; have n0_ := Aside0.mk (Kd.R_elder' (by (with_reducible repeat (first | apply Kd.R_alloc | apply Kd.R_drewN | apply Kd.R_drew)); exact HO178.out) (Kd.R_base ho0) hb); have n1_ := Aside0.mk (Kd.R_lower (Kd.R_new' ho0 (Kd.R_lt (by (with_reducible repeat (first | apply Kd.R_alloc | apply Kd.R_drewN | apply Kd.R_drew)); exact HO178.out))) (below_size (by repeat (first | (with_reducible first | exact HB.out | apply below_alloc | apply pw_below_drewN | apply below_drew1) | exact HB.out)))); have n2_ := Aside0.mk (below_step (by repeat (first | (with_reducible first | exact HB.out | apply below_alloc | apply pw_below_drewN | apply below_drew1) | exact HB.out)) hb); clear HO178; clear HB; have HO178 := n0_; have HO181 := n1_; have HB := n2_; clear n0_ n1_ n2_; (try clear hb); (try clear hb2); (try clear hk); (try clear hi); (try clear ho0)))
    repeat (go_quiet (first | (go_at_call 24; (with_reducible refine (spec_DrawShared.calls k _ _ l0 t174 t175 _ ?side1 ?side2 A3.out).mono ?_); (case side1 => repeat (first | exact HR0.out | (with_reducible refine Kd.C_alloc ?_ _) | (with_reducible refine Kd.C_drewN ?_ _) | (with_reducible refine Kd.C_drew ?_))); (case side2 => exact HC0.out); rintro e w7 ⟨rfl, hb⟩; have n0_ := Aside0.mk (below_step (by repeat (first | (with_reducible first | exact HB.out | apply below_alloc | apply pw_below_drewN | apply below_drew1) | exact HB.out)) hb); clear HB; have HB := n0_; clear n0_; (try clear hb); (try clear hb2); (try clear hk); (try clear hi)) | (go_at_call 15; (with_reducible refine (impl_Pieces.calls k t174 t176 _ A4.out).mono ?_); rintro e w8 ⟨v177, rfl, ho0, hb⟩; have n0_ := Aside0.mk (Kd.R_lower ho0 (below_size (by repeat (first | (with_reducible first | exact HB.out | apply below_alloc | apply pw_below_drewN | apply below_drew1) | exact HB.out)))); have n1_ := Aside0.mk (below_step (by repeat (first | (with_reducible first | exact HB.out | apply below_alloc | apply pw_below_drewN | apply below_drew1) | exact HB.out)) hb); clear HB; have HO178 := n0_; have HB := n1_; clear n0_ n1_; (try clear hb); (try clear hb2); (try clear hk); (try clear hi); (try clear ho0)) | (go_at_call 15; (with_reducible refine (impl_Pieces.calls k t175 t179 _ A5.out).mono ?_); rintro e w9 ⟨v180, rfl, ho0, hb⟩; have n0_ := Aside0.mk (Kd.R_elder' (by (with_reducible repeat (first | apply Kd.R_alloc | apply Kd.R_drewN | apply Kd.R_drew)); exact HO178.out) (Kd.R_base ho0) hb); have n1_ := Aside0.mk (Kd.R_lower (Kd.R_new' ho0 (Kd.R_lt (by (with_reducible repeat (first | apply Kd.R_alloc | apply Kd.R_drewN | apply Kd.R_drew)); exact HO178.out))) (below_size (by repeat (first | (with_reducible first | exact HB.out | apply below_alloc | apply pw_below_drewN | apply below_drew1) | exact HB.out)))); have n2_ := Aside0.mk (below_step (by repeat (first | (with_reducible first | exact HB.out | apply below_alloc | apply pw_below_drewN | apply below_drew1) | exact HB.out)) hb); clear HO178; clear HB; have HO178 := n0_; have HO181 := n1_; have HB := n2_; clear n0_ n1_ n2_; (try clear hb); (try clear hb2); (try clear hk); (try clear hi); (try clear ho0))); go_upto_region 6 with (first | (go_at_call 24; (with_reducible refine (spec_DrawShared.calls k _ _ l0 t174 t175 _ ?side1 ?side2 A3.out).mono ?_); (case side1 => repeat (first | exact HR0.out | (with_reducible refine Kd.C_alloc ?_ _) | (with_reducible refine Kd.C_drewN ?_ _) | (with_reducible refine Kd.C_drew ?_))); (case side2 => exact HC0.out); rintro e w7 ⟨rfl, hb⟩; have n0_ := Aside0.mk (below_step (by repeat (first | (with_reducible first | exact HB.out | apply below_alloc | apply pw_below_drewN | apply below_drew1) | exact HB.out)) hb); clear HB; have HB := n0_; clear n0_; (try clear hb); (try clear hb2); (try clear hk); (try clear hi)) | (go_at_call 15; (with_reducible refine (impl_Pieces.calls k t174 t176 _ A4.out).mono ?_); rintro e w8 ⟨v177, rfl, ho0, hb⟩; have n0_ := Aside0.mk (Kd.R_lower ho0 (below_size (by repeat (first | (with_reducible first | exact HB.out | apply below_alloc | apply pw_below_drewN | apply below_drew1) | exact HB.out)))); have n1_ := Aside0.mk (below_step (by repeat (first | (with_reducible first | exact HB.out | apply below_alloc | apply pw_below_drewN | apply below_drew1) | exact HB.out)) hb); clear HB; have HO178 := n0_; have HB := n1_; clear n0_ n1_; (try clear hb); (try clear hb2); (try clear hk); (try clear hi); (try clear ho0)) | (go_at_call 15; (with_reducible refine (impl_Pieces.calls k t175 t179 _ A5.out).mono ?_); rintro e w9 ⟨v180, rfl, ho0, hb⟩; have n0_ := Aside0.mk (Kd.R_elder' (by (with_reducible repeat (first | apply Kd.R_alloc | apply Kd.R_drewN | apply Kd.R_drew)); exact HO178.out) (Kd.R_base ho0) hb); have n1_ := Aside0.mk (Kd.R_lower (Kd.R_new' ho0 (Kd.R_lt (by (with_reducible repeat (first | apply Kd.R_alloc | apply Kd.R_drewN | apply Kd.R_drew)); exact HO178.out))) (below_size (by repeat (first | (with_reducible first | exact HB.out | apply below_alloc | apply pw_below_drewN | apply below_drew1) | exact HB.out)))); have n2_ := Aside0.mk (below_step (by repeat (first | (with_reducible first | exact HB.out | apply below_alloc | apply pw_below_drewN | apply below_drew1) | exact HB.out)) hb); clear HO178; clear HB; have HO178 := n0_; have HO181 := n1_; have HB := n2_; clear n0_ n1_ n2_; (try clear hb); (try clear hb2); (try clear hk); (try clear hi); (try clear ho0))))
    (try simp only [Act.put, List.setIfInBounds_toArray, List.set_cons_zero, List.set_cons_succ])
    go_cut [36] (fun v36 wc => ∃ (kq : Nat) (x36_5 : Bool), v36 = .bool x36_5 ∧ Aside0 (laws_FnPieces.j0 kq t174 t175 t176 t179 x36_5 = some r) ∧ Aside0 (kq ≤ k) ∧ Aside0 (Kd.R Kd.string 9 wc w.heap.size (fun k_ => some k_ ≠ (v180 : Value).ownBlock) v177 t176) ∧ Aside0 (Kd.R Kd.string 9 wc w.heap.size (fun k_ => some k_ ≠ (v177 : Value).ownBlock) v180 t179) ∧ Aside0 (Below w.heap.size w wc))
    case first =>
      have H := HC6.out
      clear HC6
      replace H := Option.bind_eq_some_iff.mp H
      obtain ⟨t182, A100, H⟩ := H
      replace H : ((laws_wTexts.f k t176 t182).bind fun t185 => (if t185 = true then ((spec_Pieces.f k t175).bind fun t186 => ((laws_wTexts.f k t179 t186).bind fun t189 => (laws_FnPieces.j0 k t174 t175 t176 t179 (!t189)))) else (laws_FnPieces.j0 k t174 t175 t176 t179 true))) = some r := H
      have A10 := Aside0.mk A100
      clear A100
      replace H := Option.bind_eq_some_iff.mp H
      obtain ⟨t185, A110, H⟩ := H
      replace H : (if t185 = true then ((spec_Pieces.f k t175).bind fun t186 => ((laws_wTexts.f k t179 t186).bind fun t189 => (laws_FnPieces.j0 k t174 t175 t176 t179 (!t189)))) else (laws_FnPieces.j0 k t174 t175 t176 t179 true)) = some r := H
      have A11 := Aside0.mk A110
      clear A110
      by_cases c12 : t185 = true
      · subst c12
        have H1 : ((spec_Pieces.f k t175).bind fun t186 => ((laws_wTexts.f k t179 t186).bind fun t189 => (laws_FnPieces.j0 k t174 t175 t176 t179 (!t189)))) = some r := by rw [if_pos rfl] at H; exact H
        clear H
        have H := H1
        clear H1
        replace H := Option.bind_eq_some_iff.mp H
        obtain ⟨t186, A130, H⟩ := H
        replace H : ((laws_wTexts.f k t179 t186).bind fun t189 => (laws_FnPieces.j0 k t174 t175 t176 t179 (!t189))) = some r := H
        have A13 := Aside0.mk A130
        clear A130
        replace H := Option.bind_eq_some_iff.mp H
        obtain ⟨t189, A140, H⟩ := H
        replace H : (laws_FnPieces.j0 k t174 t175 t176 t179 (!t189)) = some r := H
        have A14 := Aside0.mk A140
        clear A140
        have H' := Aside0.mk H
        clear H
        go_wp2_with (first | (go_at_call 14; (with_reducible refine (spec_Pieces.calls k t174 t182 _ A10.out).mono ?_); rintro e w15 ⟨v183, rfl, ho0, hb⟩; have n0_ := Aside0.mk (Kd.R_elder' (by (with_reducible repeat (first | apply Kd.R_alloc | apply Kd.R_drewN | apply Kd.R_drew)); exact HO178.out) (Kd.R_base ho0) hb); have n1_ := Aside0.mk (Kd.R_elder' (by (with_reducible repeat (first | apply Kd.R_alloc | apply Kd.R_drewN | apply Kd.R_drew)); exact HO181.out) (Kd.R_base ho0) hb); have n2_ := Aside0.mk (Kd.R_lower (Kd.R_new' (Kd.R_new' ho0 (Kd.R_lt (by (with_reducible repeat (first | apply Kd.R_alloc | apply Kd.R_drewN | apply Kd.R_drew)); exact HO178.out))) (Kd.R_lt (by (with_reducible repeat (first | apply Kd.R_alloc | apply Kd.R_drewN | apply Kd.R_drew)); exact HO181.out))) (below_size (by repeat (first | (with_reducible first | exact HB.out | apply below_alloc | apply pw_below_drewN | apply below_drew1) | exact HB.out)))); have n3_ := Aside0.mk (below_step (by repeat (first | (with_reducible first | exact HB.out | apply below_alloc | apply pw_below_drewN | apply below_drew1) | exact HB.out)) hb); clear HO178; clear HO181; clear HB; have HO178 := n0_; have HO181 := n1_; have HO184 := n2_; have HB := n3_; clear n0_ n1_ n2_ n3_; (try clear hb); (try clear hb2); (try clear hk); (try clear hi); (try clear ho0); obtain ⟨Ao16, co16, eo16⟩ := Kd.R_slice HO178.out; subst eo16; obtain ⟨Ao17, co17, eo17⟩ := Kd.R_slice HO184.out; subst eo17) | (go_at_call 25; (with_reducible refine (laws_wTexts.calls k _ _ t176 _ _ t182 true _ ?side1 ?side2 ?side3 ?side4 A11.out).mono ?_); (case side1 => repeat (first | exact (Kd.R_reads' HO178.out).2.2 | (with_reducible refine Kd.C_alloc ?_ _) | (with_reducible refine Kd.C_drewN ?_ _) | (with_reducible refine Kd.C_drew ?_))); (case side2 => exact (Kd.R_reads' HO178.out).2.1); (case side3 => repeat (first | exact (Kd.R_reads' HO184.out).2.2 | (with_reducible refine Kd.C_alloc ?_ _) | (with_reducible refine Kd.C_drewN ?_ _) | (with_reducible refine Kd.C_drew ?_))); (case side4 => exact (Kd.R_reads' HO184.out).2.1); rintro e w' ⟨rfl, ⟨nd, rfl⟩⟩; (try first | exact ⟨rfl, _, World.drewN_drewN _ _ _⟩ | exact ⟨rfl, _, Eq.trans (World.drewN_drewN _ _ _) (congrArg (World.drewN _) (Nat.add_assoc _ _ _))⟩)) | (go_at_call 14; (with_reducible refine (spec_Pieces.calls k t175 t186 _ A13.out).mono ?_); rintro e w18 ⟨v187, rfl, ho0, hb⟩; have n0_ := Aside0.mk (Kd.R_elder' (by (with_reducible repeat (first | apply Kd.R_alloc | apply Kd.R_drewN | apply Kd.R_drew)); exact HO178.out) (Kd.R_base ho0) hb); have n1_ := Aside0.mk (Kd.R_elder' (by (with_reducible repeat (first | apply Kd.R_alloc | apply Kd.R_drewN | apply Kd.R_drew)); exact HO181.out) (Kd.R_base ho0) hb); have n2_ := Aside0.mk (Kd.R_elder' (by (with_reducible repeat (first | apply Kd.R_alloc | apply Kd.R_drewN | apply Kd.R_drew)); exact HO184.out) (Kd.R_base ho0) hb); have n3_ := Aside0.mk (Kd.R_lower (Kd.R_new' (Kd.R_new' (Kd.R_new' ho0 (Kd.R_lt (by (with_reducible repeat (first | apply Kd.R_alloc | apply Kd.R_drewN | apply Kd.R_drew)); exact HO178.out))) (Kd.R_lt (by (with_reducible repeat (first | apply Kd.R_alloc | apply Kd.R_drewN | apply Kd.R_drew)); exact HO181.out))) (Kd.R_lt (by (with_reducible repeat (first | apply Kd.R_alloc | apply Kd.R_drewN | apply Kd.R_drew)); exact HO184.out))) (below_size (by repeat (first | (with_reducible first | exact HB.out | apply below_alloc | apply pw_below_drewN | apply below_drew1) | exact HB.out)))); have n4_ := Aside0.mk (below_step (by repeat (first | (with_reducible first | exact HB.out | apply below_alloc | apply pw_below_drewN | apply below_drew1) | exact HB.out)) hb); clear HO178; clear HO181; clear HO184; clear HB; have HO178 := n0_; have HO181 := n1_; have HO184 := n2_; have HO188 := n3_; have HB := n4_; clear n0_ n1_ n2_ n3_ n4_; (try clear hb); (try clear hb2); (try clear hk); (try clear hi); (try clear ho0); obtain ⟨Ao19, co19, eo19⟩ := Kd.R_slice HO181.out; subst eo19; obtain ⟨Ao20, co20, eo20⟩ := Kd.R_slice HO188.out; subst eo20) | (go_at_call 25; (with_reducible refine (laws_wTexts.calls k _ _ t179 _ _ t186 t189 _ ?side1 ?side2 ?side3 ?side4 A14.out).mono ?_); (case side1 => repeat (first | exact (Kd.R_reads' HO181.out).2.2 | (with_reducible refine Kd.C_alloc ?_ _) | (with_reducible refine Kd.C_drewN ?_ _) | (with_reducible refine Kd.C_drew ?_))); (case side2 => exact (Kd.R_reads' HO181.out).2.1); (case side3 => repeat (first | exact (Kd.R_reads' HO188.out).2.2 | (with_reducible refine Kd.C_alloc ?_ _) | (with_reducible refine Kd.C_drewN ?_ _) | (with_reducible refine Kd.C_drew ?_))); (case side4 => exact (Kd.R_reads' HO188.out).2.1); rintro e w' ⟨rfl, ⟨nd, rfl⟩⟩; (try first | exact ⟨rfl, _, World.drewN_drewN _ _ _⟩ | exact ⟨rfl, _, Eq.trans (World.drewN_drewN _ _ _) (congrArg (World.drewN _) (Nat.add_assoc _ _ _))⟩)))
        repeat (go_quiet (first | (go_at_call 14; (with_reducible refine (spec_Pieces.calls k t174 t182 _ A10.out).mono ?_); rintro e w15 ⟨v183, rfl, ho0, hb⟩; have n0_ := Aside0.mk (Kd.R_elder' (by (with_reducible repeat (first | apply Kd.R_alloc | apply Kd.R_drewN | apply Kd.R_drew)); exact HO178.out) (Kd.R_base ho0) hb); have n1_ := Aside0.mk (Kd.R_elder' (by (with_reducible repeat (first | apply Kd.R_alloc | apply Kd.R_drewN | apply Kd.R_drew)); exact HO181.out) (Kd.R_base ho0) hb); have n2_ := Aside0.mk (Kd.R_lower (Kd.R_new' (Kd.R_new' ho0 (Kd.R_lt (by (with_reducible repeat (first | apply Kd.R_alloc | apply Kd.R_drewN | apply Kd.R_drew)); exact HO178.out))) (Kd.R_lt (by (with_reducible repeat (first | apply Kd.R_alloc | apply Kd.R_drewN | apply Kd.R_drew)); exact HO181.out))) (below_size (by repeat (first | (with_reducible first | exact HB.out | apply below_alloc | apply pw_below_drewN | apply below_drew1) | exact HB.out)))); have n3_ := Aside0.mk (below_step (by repeat (first | (with_reducible first | exact HB.out | apply below_alloc | apply pw_below_drewN | apply below_drew1) | exact HB.out)) hb); clear HO178; clear HO181; clear HB; have HO178 := n0_; have HO181 := n1_; have HO184 := n2_; have HB := n3_; clear n0_ n1_ n2_ n3_; (try clear hb); (try clear hb2); (try clear hk); (try clear hi); (try clear ho0); obtain ⟨Ao16, co16, eo16⟩ := Kd.R_slice HO178.out; subst eo16; obtain ⟨Ao17, co17, eo17⟩ := Kd.R_slice HO184.out; subst eo17) | (go_at_call 25; (with_reducible refine (laws_wTexts.calls k _ _ t176 _ _ t182 true _ ?side1 ?side2 ?side3 ?side4 A11.out).mono ?_); (case side1 => repeat (first | exact (Kd.R_reads' HO178.out).2.2 | (with_reducible refine Kd.C_alloc ?_ _) | (with_reducible refine Kd.C_drewN ?_ _) | (with_reducible refine Kd.C_drew ?_))); (case side2 => exact (Kd.R_reads' HO178.out).2.1); (case side3 => repeat (first | exact (Kd.R_reads' HO184.out).2.2 | (with_reducible refine Kd.C_alloc ?_ _) | (with_reducible refine Kd.C_drewN ?_ _) | (with_reducible refine Kd.C_drew ?_))); (case side4 => exact (Kd.R_reads' HO184.out).2.1); rintro e w' ⟨rfl, ⟨nd, rfl⟩⟩; (try first | exact ⟨rfl, _, World.drewN_drewN _ _ _⟩ | exact ⟨rfl, _, Eq.trans (World.drewN_drewN _ _ _) (congrArg (World.drewN _) (Nat.add_assoc _ _ _))⟩)) | (go_at_call 14; (with_reducible refine (spec_Pieces.calls k t175 t186 _ A13.out).mono ?_); rintro e w18 ⟨v187, rfl, ho0, hb⟩; have n0_ := Aside0.mk (Kd.R_elder' (by (with_reducible repeat (first | apply Kd.R_alloc | apply Kd.R_drewN | apply Kd.R_drew)); exact HO178.out) (Kd.R_base ho0) hb); have n1_ := Aside0.mk (Kd.R_elder' (by (with_reducible repeat (first | apply Kd.R_alloc | apply Kd.R_drewN | apply Kd.R_drew)); exact HO181.out) (Kd.R_base ho0) hb); have n2_ := Aside0.mk (Kd.R_elder' (by (with_reducible repeat (first | apply Kd.R_alloc | apply Kd.R_drewN | apply Kd.R_drew)); exact HO184.out) (Kd.R_base ho0) hb); have n3_ := Aside0.mk (Kd.R_lower (Kd.R_new' (Kd.R_new' (Kd.R_new' ho0 (Kd.R_lt (by (with_reducible repeat (first | apply Kd.R_alloc | apply Kd.R_drewN | apply Kd.R_drew)); exact HO178.out))) (Kd.R_lt (by (with_reducible repeat (first | apply Kd.R_alloc | apply Kd.R_drewN | apply Kd.R_drew)); exact HO181.out))) (Kd.R_lt (by (with_reducible repeat (first | apply Kd.R_alloc | apply Kd.R_drewN | apply Kd.R_drew)); exact HO184.out))) (below_size (by repeat (first | (with_reducible first | exact HB.out | apply below_alloc | apply pw_below_drewN | apply below_drew1) | exact HB.out)))); have n4_ := Aside0.mk (below_step (by repeat (first | (with_reducible first | exact HB.out | apply below_alloc | apply pw_below_drewN | apply below_drew1) | exact HB.out)) hb); clear HO178; clear HO181; clear HO184; clear HB; have HO178 := n0_; have HO181 := n1_; have HO184 := n2_; have HO188 := n3_; have HB := n4_; clear n0_ n1_ n2_ n3_ n4_; (try clear hb); (try clear hb2); (try clear hk); (try clear hi); (try clear ho0); obtain ⟨Ao19, co19, eo19⟩ := Kd.R_slice HO181.out; subst eo19; obtain ⟨Ao20, co20, eo20⟩ := Kd.R_slice HO188.out; subst eo20) | (go_at_call 25; (with_reducible refine (laws_wTexts.calls k _ _ t179 _ _ t186 t189 _ ?side1 ?side2 ?side3 ?side4 A14.out).mono ?_); (case side1 => repeat (first | exact (Kd.R_reads' HO181.out).2.2 | (with_reducible refine Kd.C_alloc ?_ _) | (with_reducible refine Kd.C_drewN ?_ _) | (with_reducible refine Kd.C_drew ?_))); (case side2 => exact (Kd.R_reads' HO181.out).2.1); (case side3 => repeat (first | exact (Kd.R_reads' HO188.out).2.2 | (with_reducible refine Kd.C_alloc ?_ _) | (with_reducible refine Kd.C_drewN ?_ _) | (with_reducible refine Kd.C_drew ?_))); (case side4 => exact (Kd.R_reads' HO188.out).2.1); rintro e w' ⟨rfl, ⟨nd, rfl⟩⟩; (try first | exact ⟨rfl, _, World.drewN_drewN _ _ _⟩ | exact ⟨rfl, _, Eq.trans (World.drewN_drewN _ _ _) (congrArg (World.drewN _) (Nat.add_assoc _ _ _))⟩))); try go_wp2_with (first | (go_at_call 14; (with_reducible refine (spec_Pieces.calls k t174 t182 _ A10.out).mono ?_); rintro e w15 ⟨v183, rfl, ho0, hb⟩; have n0_ := Aside0.mk (Kd.R_elder' (by (with_reducible repeat (first | apply Kd.R_alloc | apply Kd.R_drewN | apply Kd.R_drew)); exact HO178.out) (Kd.R_base ho0) hb); have n1_ := Aside0.mk (Kd.R_elder' (by (with_reducible repeat (first | apply Kd.R_alloc | apply Kd.R_drewN | apply Kd.R_drew)); exact HO181.out) (Kd.R_base ho0) hb); have n2_ := Aside0.mk (Kd.R_lower (Kd.R_new' (Kd.R_new' ho0 (Kd.R_lt (by (with_reducible repeat (first | apply Kd.R_alloc | apply Kd.R_drewN | apply Kd.R_drew)); exact HO178.out))) (Kd.R_lt (by (with_reducible repeat (first | apply Kd.R_alloc | apply Kd.R_drewN | apply Kd.R_drew)); exact HO181.out))) (below_size (by repeat (first | (with_reducible first | exact HB.out | apply below_alloc | apply pw_below_drewN | apply below_drew1) | exact HB.out)))); have n3_ := Aside0.mk (below_step (by repeat (first | (with_reducible first | exact HB.out | apply below_alloc | apply pw_below_drewN | apply below_drew1) | exact HB.out)) hb); clear HO178; clear HO181; clear HB; have HO178 := n0_; have HO181 := n1_; have HO184 := n2_; have HB := n3_; clear n0_ n1_ n2_ n3_; (try clear hb); (try clear hb2); (try clear hk); (try clear hi); (try clear ho0); obtain ⟨Ao16, co16, eo16⟩ := Kd.R_slice HO178.out; subst eo16; obtain ⟨Ao17, co17, eo17⟩ := Kd.R_slice HO184.out; subst eo17) | (go_at_call 25; (with_reducible refine (laws_wTexts.calls k _ _ t176 _ _ t182 true _ ?side1 ?side2 ?side3 ?side4 A11.out).mono ?_); (case side1 => repeat (first | exact (Kd.R_reads' HO178.out).2.2 | (with_reducible refine Kd.C_alloc ?_ _) | (with_reducible refine Kd.C_drewN ?_ _) | (with_reducible refine Kd.C_drew ?_))); (case side2 => exact (Kd.R_reads' HO178.out).2.1); (case side3 => repeat (first | exact (Kd.R_reads' HO184.out).2.2 | (with_reducible refine Kd.C_alloc ?_ _) | (with_reducible refine Kd.C_drewN ?_ _) | (with_reducible refine Kd.C_drew ?_))); (case side4 => exact (Kd.R_reads' HO184.out).2.1); rintro e w' ⟨rfl, ⟨nd, rfl⟩⟩; (try first | exact ⟨rfl, _, World.drewN_drewN _ _ _⟩ | exact ⟨rfl, _, Eq.trans (World.drewN_drewN _ _ _) (congrArg (World.drewN _) (Nat.add_assoc _ _ _))⟩)) | (go_at_call 14; (with_reducible refine (spec_Pieces.calls k t175 t186 _ A13.out).mono ?_); rintro e w18 ⟨v187, rfl, ho0, hb⟩; have n0_ := Aside0.mk (Kd.R_elder' (by (with_reducible repeat (first | apply Kd.R_alloc | apply Kd.R_drewN | apply Kd.R_drew)); exact HO178.out) (Kd.R_base ho0) hb); have n1_ := Aside0.mk (Kd.R_elder' (by (with_reducible repeat (first | apply Kd.R_alloc | apply Kd.R_drewN | apply Kd.R_drew)); exact HO181.out) (Kd.R_base ho0) hb); have n2_ := Aside0.mk (Kd.R_elder' (by (with_reducible repeat (first | apply Kd.R_alloc | apply Kd.R_drewN | apply Kd.R_drew)); exact HO184.out) (Kd.R_base ho0) hb); have n3_ := Aside0.mk (Kd.R_lower (Kd.R_new' (Kd.R_new' (Kd.R_new' ho0 (Kd.R_lt (by (with_reducible repeat (first | apply Kd.R_alloc | apply Kd.R_drewN | apply Kd.R_drew)); exact HO178.out))) (Kd.R_lt (by (with_reducible repeat (first | apply Kd.R_alloc | apply Kd.R_drewN | apply Kd.R_drew)); exact HO181.out))) (Kd.R_lt (by (with_reducible repeat (first | apply Kd.R_alloc | apply Kd.R_drewN | apply Kd.R_drew)); exact HO184.out))) (below_size (by repeat (first | (with_reducible first | exact HB.out | apply below_alloc | apply pw_below_drewN | apply below_drew1) | exact HB.out)))); have n4_ := Aside0.mk (below_step (by repeat (first | (with_reducible first | exact HB.out | apply below_alloc | apply pw_below_drewN | apply below_drew1) | exact HB.out)) hb); clear HO178; clear HO181; clear HO184; clear HB; have HO178 := n0_; have HO181 := n1_; have HO184 := n2_; have HO188 := n3_; have HB := n4_; clear n0_ n1_ n2_ n3_ n4_; (try clear hb); (try clear hb2); (try clear hk); (try clear hi); (try clear ho0); obtain ⟨Ao19, co19, eo19⟩ := Kd.R_slice HO181.out; subst eo19; obtain ⟨Ao20, co20, eo20⟩ := Kd.R_slice HO188.out; subst eo20) | (go_at_call 25; (with_reducible refine (laws_wTexts.calls k _ _ t179 _ _ t186 t189 _ ?side1 ?side2 ?side3 ?side4 A14.out).mono ?_); (case side1 => repeat (first | exact (Kd.R_reads' HO181.out).2.2 | (with_reducible refine Kd.C_alloc ?_ _) | (with_reducible refine Kd.C_drewN ?_ _) | (with_reducible refine Kd.C_drew ?_))); (case side2 => exact (Kd.R_reads' HO181.out).2.1); (case side3 => repeat (first | exact (Kd.R_reads' HO188.out).2.2 | (with_reducible refine Kd.C_alloc ?_ _) | (with_reducible refine Kd.C_drewN ?_ _) | (with_reducible refine Kd.C_drew ?_))); (case side4 => exact (Kd.R_reads' HO188.out).2.1); rintro e w' ⟨rfl, ⟨nd, rfl⟩⟩; (try first | exact ⟨rfl, _, World.drewN_drewN _ _ _⟩ | exact ⟨rfl, _, Eq.trans (World.drewN_drewN _ _ _) (congrArg (World.drewN _) (Nat.add_assoc _ _ _))⟩))))
        go_meet
        case rel => exact ⟨_, (!t189), (by first | rfl | (simp; done) | (simp [*]; done)), H', ⟨by first | omega | exact Nat.le_refl _⟩, ⟨by (with_reducible repeat (first | apply Kd.R_alloc | apply Kd.R_drewN | apply Kd.R_drew)); exact Kd.R_mono HO178.out (fun _ hk => hk.1.1.2)⟩, ⟨by (with_reducible repeat (first | apply Kd.R_alloc | apply Kd.R_drewN | apply Kd.R_drew)); exact Kd.R_mono HO181.out (fun _ hk => hk.1.1.2)⟩, ⟨by repeat (first | (with_reducible first | exact HB.out | apply below_alloc | apply pw_below_drewN | apply below_drew1) | exact HB.out)⟩⟩
      · replace c12 := Bool.eq_false_iff.mpr c12
        subst c12
        have H1 : (laws_FnPieces.j0 k t174 t175 t176 t179 true) = some r := by rw [if_neg (show ¬ (false = true) by decide)] at H; exact H
        clear H
        have H := H1
        clear H1
        have H' := Aside0.mk H
        clear H
        go_wp2_with (first | (go_at_call 14; (with_reducible refine (spec_Pieces.calls k t174 t182 _ A10.out).mono ?_); rintro e w21 ⟨v183, rfl, ho0, hb⟩; have n0_ := Aside0.mk (Kd.R_elder' (by (with_reducible repeat (first | apply Kd.R_alloc | apply Kd.R_drewN | apply Kd.R_drew)); exact HO178.out) (Kd.R_base ho0) hb); have n1_ := Aside0.mk (Kd.R_elder' (by (with_reducible repeat (first | apply Kd.R_alloc | apply Kd.R_drewN | apply Kd.R_drew)); exact HO181.out) (Kd.R_base ho0) hb); have n2_ := Aside0.mk (Kd.R_lower (Kd.R_new' (Kd.R_new' ho0 (Kd.R_lt (by (with_reducible repeat (first | apply Kd.R_alloc | apply Kd.R_drewN | apply Kd.R_drew)); exact HO178.out))) (Kd.R_lt (by (with_reducible repeat (first | apply Kd.R_alloc | apply Kd.R_drewN | apply Kd.R_drew)); exact HO181.out))) (below_size (by repeat (first | (with_reducible first | exact HB.out | apply below_alloc | apply pw_below_drewN | apply below_drew1) | exact HB.out)))); have n3_ := Aside0.mk (below_step (by repeat (first | (with_reducible first | exact HB.out | apply below_alloc | apply pw_below_drewN | apply below_drew1) | exact HB.out)) hb); clear HO178; clear HO181; clear HB; have HO178 := n0_; have HO181 := n1_; have HO184 := n2_; have HB := n3_; clear n0_ n1_ n2_ n3_; (try clear hb); (try clear hb2); (try clear hk); (try clear hi); (try clear ho0); obtain ⟨Ao22, co22, eo22⟩ := Kd.R_slice HO178.out; subst eo22; obtain ⟨Ao23, co23, eo23⟩ := Kd.R_slice HO184.out; subst eo23) | (go_at_call 25; (with_reducible refine (laws_wTexts.calls k _ _ t176 _ _ t182 false _ ?side1 ?side2 ?side3 ?side4 A11.out).mono ?_); (case side1 => repeat (first | exact (Kd.R_reads' HO178.out).2.2 | (with_reducible refine Kd.C_alloc ?_ _) | (with_reducible refine Kd.C_drewN ?_ _) | (with_reducible refine Kd.C_drew ?_))); (case side2 => exact (Kd.R_reads' HO178.out).2.1); (case side3 => repeat (first | exact (Kd.R_reads' HO184.out).2.2 | (with_reducible refine Kd.C_alloc ?_ _) | (with_reducible refine Kd.C_drewN ?_ _) | (with_reducible refine Kd.C_drew ?_))); (case side4 => exact (Kd.R_reads' HO184.out).2.1); rintro e w' ⟨rfl, ⟨nd, rfl⟩⟩; (try first | exact ⟨rfl, _, World.drewN_drewN _ _ _⟩ | exact ⟨rfl, _, Eq.trans (World.drewN_drewN _ _ _) (congrArg (World.drewN _) (Nat.add_assoc _ _ _))⟩)))
        repeat (go_quiet (first | (go_at_call 14; (with_reducible refine (spec_Pieces.calls k t174 t182 _ A10.out).mono ?_); rintro e w21 ⟨v183, rfl, ho0, hb⟩; have n0_ := Aside0.mk (Kd.R_elder' (by (with_reducible repeat (first | apply Kd.R_alloc | apply Kd.R_drewN | apply Kd.R_drew)); exact HO178.out) (Kd.R_base ho0) hb); have n1_ := Aside0.mk (Kd.R_elder' (by (with_reducible repeat (first | apply Kd.R_alloc | apply Kd.R_drewN | apply Kd.R_drew)); exact HO181.out) (Kd.R_base ho0) hb); have n2_ := Aside0.mk (Kd.R_lower (Kd.R_new' (Kd.R_new' ho0 (Kd.R_lt (by (with_reducible repeat (first | apply Kd.R_alloc | apply Kd.R_drewN | apply Kd.R_drew)); exact HO178.out))) (Kd.R_lt (by (with_reducible repeat (first | apply Kd.R_alloc | apply Kd.R_drewN | apply Kd.R_drew)); exact HO181.out))) (below_size (by repeat (first | (with_reducible first | exact HB.out | apply below_alloc | apply pw_below_drewN | apply below_drew1) | exact HB.out)))); have n3_ := Aside0.mk (below_step (by repeat (first | (with_reducible first | exact HB.out | apply below_alloc | apply pw_below_drewN | apply below_drew1) | exact HB.out)) hb); clear HO178; clear HO181; clear HB; have HO178 := n0_; have HO181 := n1_; have HO184 := n2_; have HB := n3_; clear n0_ n1_ n2_ n3_; (try clear hb); (try clear hb2); (try clear hk); (try clear hi); (try clear ho0); obtain ⟨Ao22, co22, eo22⟩ := Kd.R_slice HO178.out; subst eo22; obtain ⟨Ao23, co23, eo23⟩ := Kd.R_slice HO184.out; subst eo23) | (go_at_call 25; (with_reducible refine (laws_wTexts.calls k _ _ t176 _ _ t182 false _ ?side1 ?side2 ?side3 ?side4 A11.out).mono ?_); (case side1 => repeat (first | exact (Kd.R_reads' HO178.out).2.2 | (with_reducible refine Kd.C_alloc ?_ _) | (with_reducible refine Kd.C_drewN ?_ _) | (with_reducible refine Kd.C_drew ?_))); (case side2 => exact (Kd.R_reads' HO178.out).2.1); (case side3 => repeat (first | exact (Kd.R_reads' HO184.out).2.2 | (with_reducible refine Kd.C_alloc ?_ _) | (with_reducible refine Kd.C_drewN ?_ _) | (with_reducible refine Kd.C_drew ?_))); (case side4 => exact (Kd.R_reads' HO184.out).2.1); rintro e w' ⟨rfl, ⟨nd, rfl⟩⟩; (try first | exact ⟨rfl, _, World.drewN_drewN _ _ _⟩ | exact ⟨rfl, _, Eq.trans (World.drewN_drewN _ _ _) (congrArg (World.drewN _) (Nat.add_assoc _ _ _))⟩))); try go_wp2_with (first | (go_at_call 14; (with_reducible refine (spec_Pieces.calls k t174 t182 _ A10.out).mono ?_); rintro e w21 ⟨v183, rfl, ho0, hb⟩; have n0_ := Aside0.mk (Kd.R_elder' (by (with_reducible repeat (first | apply Kd.R_alloc | apply Kd.R_drewN | apply Kd.R_drew)); exact HO178.out) (Kd.R_base ho0) hb); have n1_ := Aside0.mk (Kd.R_elder' (by (with_reducible repeat (first | apply Kd.R_alloc | apply Kd.R_drewN | apply Kd.R_drew)); exact HO181.out) (Kd.R_base ho0) hb); have n2_ := Aside0.mk (Kd.R_lower (Kd.R_new' (Kd.R_new' ho0 (Kd.R_lt (by (with_reducible repeat (first | apply Kd.R_alloc | apply Kd.R_drewN | apply Kd.R_drew)); exact HO178.out))) (Kd.R_lt (by (with_reducible repeat (first | apply Kd.R_alloc | apply Kd.R_drewN | apply Kd.R_drew)); exact HO181.out))) (below_size (by repeat (first | (with_reducible first | exact HB.out | apply below_alloc | apply pw_below_drewN | apply below_drew1) | exact HB.out)))); have n3_ := Aside0.mk (below_step (by repeat (first | (with_reducible first | exact HB.out | apply below_alloc | apply pw_below_drewN | apply below_drew1) | exact HB.out)) hb); clear HO178; clear HO181; clear HB; have HO178 := n0_; have HO181 := n1_; have HO184 := n2_; have HB := n3_; clear n0_ n1_ n2_ n3_; (try clear hb); (try clear hb2); (try clear hk); (try clear hi); (try clear ho0); obtain ⟨Ao22, co22, eo22⟩ := Kd.R_slice HO178.out; subst eo22; obtain ⟨Ao23, co23, eo23⟩ := Kd.R_slice HO184.out; subst eo23) | (go_at_call 25; (with_reducible refine (laws_wTexts.calls k _ _ t176 _ _ t182 false _ ?side1 ?side2 ?side3 ?side4 A11.out).mono ?_); (case side1 => repeat (first | exact (Kd.R_reads' HO178.out).2.2 | (with_reducible refine Kd.C_alloc ?_ _) | (with_reducible refine Kd.C_drewN ?_ _) | (with_reducible refine Kd.C_drew ?_))); (case side2 => exact (Kd.R_reads' HO178.out).2.1); (case side3 => repeat (first | exact (Kd.R_reads' HO184.out).2.2 | (with_reducible refine Kd.C_alloc ?_ _) | (with_reducible refine Kd.C_drewN ?_ _) | (with_reducible refine Kd.C_drew ?_))); (case side4 => exact (Kd.R_reads' HO184.out).2.1); rintro e w' ⟨rfl, ⟨nd, rfl⟩⟩; (try first | exact ⟨rfl, _, World.drewN_drewN _ _ _⟩ | exact ⟨rfl, _, Eq.trans (World.drewN_drewN _ _ _) (congrArg (World.drewN _) (Nat.add_assoc _ _ _))⟩))))
        go_meet
        case rel => exact ⟨_, (true), (by first | rfl | (simp; done) | (simp [*]; done)), H', ⟨by first | omega | exact Nat.le_refl _⟩, ⟨by (with_reducible repeat (first | apply Kd.R_alloc | apply Kd.R_drewN | apply Kd.R_drew)); exact Kd.R_mono HO178.out (fun _ hk => hk.1.2)⟩, ⟨by (with_reducible repeat (first | apply Kd.R_alloc | apply Kd.R_drewN | apply Kd.R_drew)); exact Kd.R_mono HO181.out (fun _ hk => hk.1.2)⟩, ⟨by repeat (first | (with_reducible first | exact HB.out | apply below_alloc | apply pw_below_drewN | apply below_drew1) | exact HB.out)⟩⟩
    case rest =>
      clear HC6
      try clear c1
      try clear c2
      try clear c2b0
      try clear c2b1
      try clear p2
      try clear c9
      try clear c12
      obtain ⟨kq, x36_5, rfl, HA, HJ5, HO_5, HO_6, HB⟩ := hcut
      cases kq with
      | zero => exact absurd HA.out (by simp [laws_FnPieces.j0])
      | succ kj5 =>
        have H := HA.out
        clear HA
        simp only [laws_FnPieces.j0] at H
        by_cases c24 : x36_5 = true
        · subst c24
          have H1 : (some false) = some r := by rw [if_pos rfl] at H; exact H
          clear H
          have H := H1
          clear H1
          obtain rfl := Option.some.inj H
          go_wp2
          repeat (go_quiet (fail); try go_wp2)
          go_ret
          exact ⟨by first | rfl | (simp [errW_none, errW_some] <;> rfl) | (simp [*, errW_none, errW_some] <;> rfl), by repeat (first | (with_reducible first | exact HB.out | apply below_alloc | apply pw_below_drewN | apply below_drew1) | exact HB.out)⟩
        · replace c24 := Bool.eq_false_iff.mpr c24
          subst c24
          have H1 : (laws_FnPieces.l0 kj5 t174 t175 t176 t179 0 0) = some r := by rw [if_neg (show ¬ (false = true) by decide)] at H; exact H
          clear H
          have H := H1
          clear H1
          have H' := Aside0.mk H
          clear H
          go_wp2
          repeat (go_quiet (fail); try go_wp2)
          go_loopg [7, 8] kj5 (fun kq v7 v8 w' => ∃ (x7_2 : Int) (x8_2 : Int), v7 = .int .i64 x7_2 ∧ v8 = .int .i64 x8_2 ∧ Aside0 (laws_FnPieces.l0 kq t174 t175 t176 t179 x7_2 x8_2 = some r) ∧ Aside0 (kq ≤ kj5) ∧ Aside0 (Kd.R Kd.string 9 w' w.heap.size (fun k_ => some k_ ≠ (v180 : Value).ownBlock) v177 t176) ∧ Aside0 (Kd.R Kd.string 9 w' w.heap.size (fun k_ => some k_ ≠ (v177 : Value).ownBlock) v180 t179) ∧ Aside0 (Below w.heap.size w w'))
          case atStart => exact ⟨(0), (0), (by first | rfl | (simp; done) | (simp [*]; done)), (by first | rfl | (simp; done) | (simp [*]; done)), H', ⟨Nat.le_refl _⟩, ⟨by (with_reducible repeat (first | apply Kd.R_alloc | apply Kd.R_drewN | apply Kd.R_drew)); exact HO_5.out⟩, ⟨by (with_reducible repeat (first | apply Kd.R_alloc | apply Kd.R_drewN | apply Kd.R_drew)); exact HO_6.out⟩, ⟨by repeat (first | (with_reducible first | exact HB.out | apply below_alloc | apply pw_below_drewN | apply below_drew1) | exact HB.out)⟩⟩
          case round =>
            clear H'
            try clear c1
            try clear c2
            try clear c2b0
            try clear c2b1
            try clear p2
            try clear c9
            try clear c12
            try clear c24
            try clear p2
            obtain ⟨x7_2, x8_2, rfl, rfl, HA, HK2, HO_5, HO_6, HB⟩ := hrel
            cases gk with
            | zero => exact absurd HA.out (by simp [laws_FnPieces.l0])
            | succ k2 =>
              have H := HA.out
              clear HA
              simp only [laws_FnPieces.l0] at H
              by_cases c25 : x8_2 < (t176.length : Int)
              · rw [if_pos c25] at H
                have c25b0 : decide (x8_2 < (t176.length : Int)) = true := decide_eq_true c25
                clear c25
                by_cases c26 : 0 ≤ x8_2
                · rw [if_pos c26] at H
                  have c26b0 : decide (0 ≤ x8_2) = true := decide_eq_true c26
                  clear c26
                  have HC27 := Aside0.mk H
                  clear H
                  obtain ⟨Ao28, co28, eo28⟩ := Kd.R_slice HO_5.out
                  subst eo28
                  have p190 : 0 ≤ (x8_2 : Int) := of_decide_eq_true (by first | (with_reducible assumption) | assumption)
                  have q190 : x8_2 < (t176.length : Int) := of_decide_eq_true (by first | (with_reducible assumption) | assumption)
                  obtain ⟨ad190, e190, hx190_0⟩ := Kd.at_string (Kd.R_reads' HO_5.out).2.2 x8_2 p190 q190
                  cases e190
                  replace p190 := eq_true p190
                  replace q190 := eq_true q190
                  go_upto_region 13 with (fail)
                  repeat (go_quiet (fail); go_upto_region 13 with (fail))
                  go_cut [77] (fun v77 wc => ∃ (kq : Nat) (x77_26 : Bool), v77 = .bool x77_26 ∧ Aside0 (laws_FnPieces.j2 kq t174 t175 t176 t179 x7_2 x8_2 ((rdOf ByteArray.empty t176 x8_2).size : Int) x77_26 = some r) ∧ Aside0 (kq ≤ k2) ∧ Aside0 (Kd.R Kd.string 9 wc w.heap.size (fun k_ => some k_ ≠ (v180 : Value).ownBlock) (.slice (some ad190) t176.length co28) t176) ∧ Aside0 (Kd.R Kd.string 9 wc w.heap.size (fun k_ => some k_ ≠ ((.slice (some ad190) t176.length co28) : Value).ownBlock) v180 t179) ∧ Aside0 (Below w.heap.size w wc))
                  case first =>
                    have H := HC27.out
                    clear HC27
                    by_cases c29 : ((rdOf ByteArray.empty t176 x8_2).size : Int) < 1
                    · rw [if_pos c29] at H
                      have c29b0 : decide (((rdOf ByteArray.empty t176 x8_2).size : Int) < 1) = true := decide_eq_true c29
                      have c29b1 : decide ((rdOf ByteArray.empty t176 x8_2).size < 1) = true := decide_eq_true (by omega)
                      clear c29
                      (first | rw [c29b0] | (simp only [i64_w, i32_w]; rw [c29b0]) | skip)
                      have H' := Aside0.mk H
                      clear H
                      go_wp2
                      repeat (go_quiet (fail); try go_wp2)
                      go_meet
                      case rel => exact ⟨_, (true), (by first | rfl | (simp; done) | (simp [*]; done)), H', ⟨by have := HJ5.out; have := HK2.out; first | omega | exact Nat.le_refl _⟩, ⟨by (with_reducible repeat (first | apply Kd.R_alloc | apply Kd.R_drewN | apply Kd.R_drew)); exact HO_5.out⟩, ⟨by (with_reducible repeat (first | apply Kd.R_alloc | apply Kd.R_drewN | apply Kd.R_drew)); exact HO_6.out⟩, ⟨by repeat (first | (with_reducible first | exact HB.out | apply below_alloc | apply pw_below_drewN | apply below_drew1) | exact HB.out)⟩⟩
                    · rw [if_neg c29] at H
                      have c29b0 : decide (((rdOf ByteArray.empty t176 x8_2).size : Int) < 1) = false := decide_eq_false c29
                      have c29b1 : decide ((rdOf ByteArray.empty t176 x8_2).size < 1) = false := decide_eq_false (by omega)
                      clear c29
                      (first | rw [c29b0] | (simp only [i64_w, i32_w]; rw [c29b0]) | skip)
                      by_cases c30 : ((rdOf ByteArray.empty t176 x8_2).size : Int) > 64
                      · rw [if_pos c30] at H
                        have c30b0 : decide (64 < ((rdOf ByteArray.empty t176 x8_2).size : Int)) = true := decide_eq_true c30
                        have c30b1 : decide (64 < (rdOf ByteArray.empty t176 x8_2).size) = true := decide_eq_true (by omega)
                        clear c30
                        have H' := Aside0.mk H
                        clear H
                        go_wp2
                        repeat (go_quiet (fail); try go_wp2)
                        go_meet
                        case rel => exact ⟨_, (true), (by first | rfl | (simp; done) | (simp [*]; done)), H', ⟨by have := HJ5.out; have := HK2.out; first | omega | exact Nat.le_refl _⟩, ⟨by (with_reducible repeat (first | apply Kd.R_alloc | apply Kd.R_drewN | apply Kd.R_drew)); exact HO_5.out⟩, ⟨by (with_reducible repeat (first | apply Kd.R_alloc | apply Kd.R_drewN | apply Kd.R_drew)); exact HO_6.out⟩, ⟨by repeat (first | (with_reducible first | exact HB.out | apply below_alloc | apply pw_below_drewN | apply below_drew1) | exact HB.out)⟩⟩
                      · rw [if_neg c30] at H
                        have c30b0 : decide (64 < ((rdOf ByteArray.empty t176 x8_2).size : Int)) = false := decide_eq_false c30
                        have c30b1 : decide (64 < (rdOf ByteArray.empty t176 x8_2).size) = false := decide_eq_false (by omega)
                        clear c30
                        by_cases c31 : ((rdOf ByteArray.empty t176 x8_2).size : Int) < 8
                        · rw [if_pos c31] at H
                          have c31b0 : decide (((rdOf ByteArray.empty t176 x8_2).size : Int) < 8) = true := decide_eq_true c31
                          have c31b1 : decide ((rdOf ByteArray.empty t176 x8_2).size < 8) = true := decide_eq_true (by omega)
                          clear c31
                          by_cases c32 : (wrap64 (x8_2 + 1)) < (t176.length : Int)
                          · rw [if_pos c32] at H
                            have c32b0 : decide ((wrap64 (x8_2 + 1)) < (t176.length : Int)) = true := decide_eq_true c32
                            clear c32
                            have H' := Aside0.mk H
                            clear H
                            go_wp2
                            repeat (go_quiet (fail); try go_wp2)
                            go_meet
                            case rel => exact ⟨_, (true), (by first | rfl | (simp; done) | (simp [*]; done)), H', ⟨by have := HJ5.out; have := HK2.out; first | omega | exact Nat.le_refl _⟩, ⟨by (with_reducible repeat (first | apply Kd.R_alloc | apply Kd.R_drewN | apply Kd.R_drew)); exact HO_5.out⟩, ⟨by (with_reducible repeat (first | apply Kd.R_alloc | apply Kd.R_drewN | apply Kd.R_drew)); exact HO_6.out⟩, ⟨by repeat (first | (with_reducible first | exact HB.out | apply below_alloc | apply pw_below_drewN | apply below_drew1) | exact HB.out)⟩⟩
                          · rw [if_neg c32] at H
                            have c32b0 : decide ((wrap64 (x8_2 + 1)) < (t176.length : Int)) = false := decide_eq_false c32
                            clear c32
                            by_cases c33 : 0 ≤ x7_2
                            · rw [if_pos c33] at H
                              have c33b0 := eq_true c33
                              have c33b1 : decide (0 ≤ x7_2) = true := decide_eq_true c33
                              clear c33
                              by_cases c34 : x7_2 ≤ (wrap64 (x7_2 + ((rdOf ByteArray.empty t176 x8_2).size : Int)))
                              · rw [if_pos c34] at H
                                have c34b0 := eq_true c34
                                have c34b1 : decide (x7_2 ≤ (wrap64 (x7_2 + ((rdOf ByteArray.empty t176 x8_2).size : Int)))) = true := decide_eq_true c34
                                by_cases c35 : (wrap64 (x7_2 + ((rdOf ByteArray.empty t176 x8_2).size : Int))) ≤ (t174.size : Int)
                                · rw [if_pos c35] at H
                                  have c35b0 := eq_true c35
                                  have c35b1 : decide ((wrap64 (x7_2 + ((rdOf ByteArray.empty t176 x8_2).size : Int))) ≤ (t174.size : Int)) = true := decide_eq_true c35
                                  have H' := Aside0.mk H
                                  clear H
                                  have p191 : 0 ≤ (x8_2 : Int) := of_decide_eq_true (by first | (with_reducible assumption) | assumption)
                                  have q191 : x8_2 < (t176.length : Int) := of_decide_eq_true (by first | (with_reducible assumption) | assumption)
                                  obtain ⟨ad191, e191, hx191_0⟩ := Kd.at_string (Kd.R_reads' HO_5.out).2.2 x8_2 p191 q191
                                  obtain rfl : ad190 = ad191 := (by injection e191)
                                  replace p191 := eq_true p191
                                  replace q191 := eq_true q191
                                  go_wp2
                                  repeat (go_quiet (fail); try go_wp2)
                                  go_meet
                                  case rel => exact ⟨_, (((t174.extract (x7_2 : Int).toNat ((wrap64 (x7_2 + ((rdOf ByteArray.empty t176 x8_2).size : Int))) : Int).toNat).toList != (rdOf ByteArray.empty t176 x8_2).toList)), (by first | rfl | (simp; done) | (simp [*]; done)), H', ⟨by have := HJ5.out; have := HK2.out; first | omega | exact Nat.le_refl _⟩, ⟨by (with_reducible repeat (first | apply Kd.R_alloc | apply Kd.R_drewN | apply Kd.R_drew)); exact HO_5.out⟩, ⟨by (with_reducible repeat (first | apply Kd.R_alloc | apply Kd.R_drewN | apply Kd.R_drew)); exact HO_6.out⟩, ⟨by repeat (first | (with_reducible first | exact HB.out | apply below_alloc | apply pw_below_drewN | apply below_drew1) | exact HB.out)⟩⟩
                                · rw [if_neg c35] at H
                                  exact absurd H (by simp)
                              · rw [if_neg c34] at H
                                exact absurd H (by simp)
                            · rw [if_neg c33] at H
                              exact absurd H (by simp)
                        · rw [if_neg c31] at H
                          have c31b0 : decide (((rdOf ByteArray.empty t176 x8_2).size : Int) < 8) = false := decide_eq_false c31
                          have c31b1 : decide ((rdOf ByteArray.empty t176 x8_2).size < 8) = false := decide_eq_false (by omega)
                          clear c31
                          by_cases c36 : 0 ≤ x7_2
                          · rw [if_pos c36] at H
                            have c36b0 := eq_true c36
                            have c36b1 : decide (0 ≤ x7_2) = true := decide_eq_true c36
                            clear c36
                            by_cases c37 : x7_2 ≤ (wrap64 (x7_2 + ((rdOf ByteArray.empty t176 x8_2).size : Int)))
                            · rw [if_pos c37] at H
                              have c37b0 := eq_true c37
                              have c37b1 : decide (x7_2 ≤ (wrap64 (x7_2 + ((rdOf ByteArray.empty t176 x8_2).size : Int)))) = true := decide_eq_true c37
                              by_cases c38 : (wrap64 (x7_2 + ((rdOf ByteArray.empty t176 x8_2).size : Int))) ≤ (t174.size : Int)
                              · rw [if_pos c38] at H
                                have c38b0 := eq_true c38
                                have c38b1 : decide ((wrap64 (x7_2 + ((rdOf ByteArray.empty t176 x8_2).size : Int))) ≤ (t174.size : Int)) = true := decide_eq_true c38
                                have H' := Aside0.mk H
                                clear H
                                have p192 : 0 ≤ (x8_2 : Int) := of_decide_eq_true (by first | (with_reducible assumption) | assumption)
                                have q192 : x8_2 < (t176.length : Int) := of_decide_eq_true (by first | (with_reducible assumption) | assumption)
                                obtain ⟨ad192, e192, hx192_0⟩ := Kd.at_string (Kd.R_reads' HO_5.out).2.2 x8_2 p192 q192
                                obtain rfl : ad190 = ad192 := (by injection e192)
                                replace p192 := eq_true p192
                                replace q192 := eq_true q192
                                go_wp2
                                repeat (go_quiet (fail); try go_wp2)
                                go_meet
                                case rel => exact ⟨_, (((t174.extract (x7_2 : Int).toNat ((wrap64 (x7_2 + ((rdOf ByteArray.empty t176 x8_2).size : Int))) : Int).toNat).toList != (rdOf ByteArray.empty t176 x8_2).toList)), (by first | rfl | (simp; done) | (simp [*]; done)), H', ⟨by have := HJ5.out; have := HK2.out; first | omega | exact Nat.le_refl _⟩, ⟨by (with_reducible repeat (first | apply Kd.R_alloc | apply Kd.R_drewN | apply Kd.R_drew)); exact HO_5.out⟩, ⟨by (with_reducible repeat (first | apply Kd.R_alloc | apply Kd.R_drewN | apply Kd.R_drew)); exact HO_6.out⟩, ⟨by repeat (first | (with_reducible first | exact HB.out | apply below_alloc | apply pw_below_drewN | apply below_drew1) | exact HB.out)⟩⟩
                              · rw [if_neg c38] at H
                                exact absurd H (by simp)
                            · rw [if_neg c37] at H
                              exact absurd H (by simp)
                          · rw [if_neg c36] at H
                            exact absurd H (by simp)
                  case rest =>
                    clear HC27
                    try clear c1
                    try clear p1
                    try clear q1
                    try clear hx1
                    try clear c2
                    try clear c2b0
                    try clear c2b1
                    try clear p2
                    try clear c3
                    try clear p6
                    try clear c9
                    try clear c12
                    try clear p19
                    try clear q19
                    try clear hx19
                    try clear c24
                    try clear c25
                    try clear c25b0
                    try clear c26
                    try clear c26b0
                    try clear c29
                    try clear c29b0
                    try clear c29b1
                    try clear c30
                    try clear c30b0
                    try clear c30b1
                    try clear c31
                    try clear c31b0
                    try clear c31b1
                    try clear c32
                    try clear c32b0
                    try clear c33
                    try clear c33b0
                    try clear c33b1
                    try clear c34
                    try clear c34b0
                    try clear c34b1
                    try clear c35
                    try clear c35b0
                    try clear c35b1
                    try clear c36
                    try clear c36b0
                    try clear c36b1
                    try clear c37
                    try clear c37b0
                    try clear c37b1
                    try clear c38
                    try clear c38b0
                    try clear c38b1
                    try clear hx190_0
                    try clear hx191_0
                    try clear hx192_0
                    try clear p190
                    try clear p191
                    try clear p192
                    try clear p2
                    try clear q190
                    try clear q191
                    try clear q192
                    obtain ⟨kq, x77_26, rfl, HA, HJ26, HO_5, HO_6, HB⟩ := hcut
                    cases kq with
                    | zero => exact absurd HA.out (by simp [laws_FnPieces.j2])
                    | succ kj26 =>
                      have H := HA.out
                      clear HA
                      simp only [laws_FnPieces.j2] at H
                      by_cases c39 : x77_26 = true
                      · subst c39
                        have H1 : (some false) = some r := by rw [if_pos rfl] at H; exact H
                        clear H
                        have H := H1
                        clear H1
                        obtain rfl := Option.some.inj H
                        go_wp2
                        repeat (go_quiet (fail); try go_wp2)
                        go_ret
                        exact ⟨by first | rfl | (simp [errW_none, errW_some] <;> rfl) | (simp [*, errW_none, errW_some] <;> rfl), by repeat (first | (with_reducible first | exact HB.out | apply below_alloc | apply pw_below_drewN | apply below_drew1) | exact HB.out)⟩
                      · replace c39 := Bool.eq_false_iff.mpr c39
                        subst c39
                        have H1 : (laws_FnPieces.l1 kj26 t174 t175 t176 t179 x7_2 x8_2 ((rdOf ByteArray.empty t176 x8_2).size : Int) (wrap64 ((t174.size : Int) - x7_2)) 0 0) = some r := by rw [if_neg (show ¬ (false = true) by decide)] at H; exact H
                        clear H
                        have H := H1
                        clear H1
                        have H' := Aside0.mk H
                        clear H
                        go_wp2
                        repeat (go_quiet (fail); try go_wp2)
                        go_loopg [11, 12] kj26 (fun kq v11 v12 w' => ∃ (x11_4 : Int) (x12_4 : Int), v11 = .int .i64 x11_4 ∧ v12 = .int .i64 x12_4 ∧ Aside0 (laws_FnPieces.l1 kq t174 t175 t176 t179 x7_2 x8_2 ((rdOf ByteArray.empty t176 x8_2).size : Int) (wrap64 ((t174.size : Int) - x7_2)) x11_4 x12_4 = some r) ∧ Aside0 (kq ≤ kj26) ∧ Aside0 (Kd.R Kd.string 9 w' w.heap.size (fun k_ => some k_ ≠ (v180 : Value).ownBlock) (.slice (some ad190) t176.length co28) t176) ∧ Aside0 (Kd.R Kd.string 9 w' w.heap.size (fun k_ => some k_ ≠ ((.slice (some ad190) t176.length co28) : Value).ownBlock) v180 t179) ∧ Aside0 (Below w.heap.size w w'))
                        case atStart => exact ⟨(0), (0), (by first | rfl | (simp; done) | (simp [*]; done)), (by first | rfl | (simp; done) | (simp [*]; done)), H', ⟨Nat.le_refl _⟩, ⟨by (with_reducible repeat (first | apply Kd.R_alloc | apply Kd.R_drewN | apply Kd.R_drew)); exact HO_5.out⟩, ⟨by (with_reducible repeat (first | apply Kd.R_alloc | apply Kd.R_drewN | apply Kd.R_drew)); exact HO_6.out⟩, ⟨by repeat (first | (with_reducible first | exact HB.out | apply below_alloc | apply pw_below_drewN | apply below_drew1) | exact HB.out)⟩⟩
                        case round =>
                          clear H'
                          try clear c1
                          try clear p1
                          try clear q1
                          try clear hx1
                          try clear c2
                          try clear c2b0
                          try clear c2b1
                          try clear p2
                          try clear c3
                          try clear p6
                          try clear c9
                          try clear c12
                          try clear p19
                          try clear q19
                          try clear hx19
                          try clear c24
                          try clear c25
                          try clear c25b0
                          try clear c26
                          try clear c26b0
                          try clear c29
                          try clear c29b0
                          try clear c29b1
                          try clear c30
                          try clear c30b0
                          try clear c30b1
                          try clear c31
                          try clear c31b0
                          try clear c31b1
                          try clear c32
                          try clear c32b0
                          try clear c33
                          try clear c33b0
                          try clear c33b1
                          try clear c34
                          try clear c34b0
                          try clear c34b1
                          try clear c35
                          try clear c35b0
                          try clear c35b1
                          try clear c36
                          try clear c36b0
                          try clear c36b1
                          try clear c37
                          try clear c37b0
                          try clear c37b1
                          try clear c38
                          try clear c38b0
                          try clear c38b1
                          try clear c39
                          try clear hx190_0
                          try clear hx191_0
                          try clear hx192_0
                          try clear p1
                          try clear p19
                          try clear p190
                          try clear p191
                          try clear p192
                          try clear p2
                          try clear p6
                          try clear q1
                          try clear q19
                          try clear q190
                          try clear q191
                          try clear q192
                          obtain ⟨x11_4, x12_4, rfl, rfl, HA, HK4, HO_5, HO_6, HB⟩ := hrel
                          cases gk with
                          | zero => exact absurd HA.out (by simp [laws_FnPieces.l1])
                          | succ k4 =>
                            have H := HA.out
                            clear HA
                            simp only [laws_FnPieces.l1] at H
                            by_cases c40 : x12_4 < (t179.length : Int)
                            · rw [if_pos c40] at H
                              have c40b0 : decide (x12_4 < (t179.length : Int)) = true := decide_eq_true c40
                              clear c40
                              by_cases c41 : (wrap64 ((t175.size : Int) - x11_4)) = (wrap64 ((t174.size : Int) - x7_2))
                              · rw [if_pos c41] at H
                                have c41b0 : ((wrap64 ((t175.size : Int) - x11_4)) == (wrap64 ((t174.size : Int) - x7_2))) = true := beq_iff_eq.mpr c41
                                have c41b1 : ((wrap64 ((t175.size : Int) - x11_4)) != (wrap64 ((t174.size : Int) - x7_2))) = false := bne_eq_false_iff_eq.mpr c41
                                clear c41
                                by_cases c42 : 0 ≤ x11_4
                                · rw [if_pos c42] at H
                                  have c42b0 := eq_true c42
                                  have c42b1 : decide (0 ≤ x11_4) = true := decide_eq_true c42
                                  clear c42
                                  by_cases c43 : x11_4 ≤ (t175.size : Int)
                                  · rw [if_pos c43] at H
                                    have c43b0 := eq_true c43
                                    have c43b1 : decide (x11_4 ≤ (t175.size : Int)) = true := decide_eq_true c43
                                    clear c43
                                    by_cases c44 : 0 ≤ x7_2
                                    · rw [if_pos c44] at H
                                      have c44b0 := eq_true c44
                                      have c44b1 : decide (0 ≤ x7_2) = true := decide_eq_true c44
                                      clear c44
                                      by_cases c45 : x7_2 ≤ (t174.size : Int)
                                      · rw [if_pos c45] at H
                                        have c45b0 := eq_true c45
                                        have c45b1 : decide (x7_2 ≤ (t174.size : Int)) = true := decide_eq_true c45
                                        clear c45
                                        by_cases c46 : (t175.extract (x11_4 : Int).toNat t175.size).toList = (t174.extract (x7_2 : Int).toNat t174.size).toList
                                        · rw [if_pos c46] at H
                                          have c46b0 : ((t175.extract (x11_4 : Int).toNat t175.size).toList == (t174.extract (x7_2 : Int).toNat t174.size).toList) = true := beq_iff_eq.mpr c46
                                          have c46b1 : ((t175.extract (x11_4 : Int).toNat t175.size).toList != (t174.extract (x7_2 : Int).toNat t174.size).toList) = false := bne_eq_false_iff_eq.mpr c46
                                          clear c46
                                          by_cases c47 : 0 ≤ x8_2
                                          · rw [if_pos c47] at H
                                            have c47b0 := eq_true c47
                                            have c47b1 : decide (0 ≤ x8_2) = true := decide_eq_true c47
                                            clear c47
                                            by_cases c48 : x8_2 ≤ (t176.length : Int)
                                            · rw [if_pos c48] at H
                                              have c48b0 := eq_true c48
                                              have c48b1 : decide (x8_2 ≤ (t176.length : Int)) = true := decide_eq_true c48
                                              clear c48
                                              obtain ⟨y193, hy193⟩ : ∃ y_ : List ByteArray, y_ = (t176.drop (x8_2 : Int).toNat) := ⟨_, rfl⟩
                                              replace H : (if 0 ≤ x12_4 then (if x12_4 ≤ (t179.length : Int) then ((laws_wTexts.f k4 y193 (t179.drop (x12_4 : Int).toNat)).bind fun t201 => (if t201 = true then (laws_FnPieces.l1 k4 t174 t175 t176 t179 x7_2 x8_2 ((rdOf ByteArray.empty t176 x8_2).size : Int) (wrap64 ((t174.size : Int) - x7_2)) (wrap64 (x11_4 + ((rdOf ByteArray.empty t179 x12_4).size : Int))) (wrap64 (x12_4 + 1))) else (some false))) else (none)) else (none)) = some r := by first | (rw [hy193]; with_reducible exact H) | (have H2_ := (Option.bind_some _ _).symm.trans H; rw [hy193]; with_reducible exact H2_) | (have H2_ := (Option.bind_some _ _).symm.trans H; with_reducible exact H2_) | with_reducible exact H | (rw [hy193]; exact H) | exact H
                                              have Ny193 := Aside0.mk hy193
                                              clear hy193
                                              by_cases c49 : 0 ≤ x12_4
                                              · rw [if_pos c49] at H
                                                have c49b0 := eq_true c49
                                                have c49b1 : decide (0 ≤ x12_4) = true := decide_eq_true c49
                                                clear c49
                                                by_cases c50 : x12_4 ≤ (t179.length : Int)
                                                · rw [if_pos c50] at H
                                                  have c50b0 := eq_true c50
                                                  have c50b1 : decide (x12_4 ≤ (t179.length : Int)) = true := decide_eq_true c50
                                                  clear c50
                                                  obtain ⟨y197, hy197⟩ : ∃ y_ : List ByteArray, y_ = (t179.drop (x12_4 : Int).toNat) := ⟨_, rfl⟩
                                                  replace H : ((laws_wTexts.f k4 y193 y197).bind fun t201 => (if t201 = true then (laws_FnPieces.l1 k4 t174 t175 t176 t179 x7_2 x8_2 ((rdOf ByteArray.empty t176 x8_2).size : Int) (wrap64 ((t174.size : Int) - x7_2)) (wrap64 (x11_4 + ((rdOf ByteArray.empty t179 x12_4).size : Int))) (wrap64 (x12_4 + 1))) else (some false))) = some r := by first | (rw [hy197]; with_reducible exact H) | (have H2_ := (Option.bind_some _ _).symm.trans H; rw [hy197]; with_reducible exact H2_) | (have H2_ := (Option.bind_some _ _).symm.trans H; with_reducible exact H2_) | with_reducible exact H | (rw [hy197]; exact H) | exact H
                                                  have Ny197 := Aside0.mk hy197
                                                  clear hy197
                                                  replace H := Option.bind_eq_some_iff.mp H
                                                  obtain ⟨t201, A510, H⟩ := H
                                                  replace H : (if t201 = true then (laws_FnPieces.l1 k4 t174 t175 t176 t179 x7_2 x8_2 ((rdOf ByteArray.empty t176 x8_2).size : Int) (wrap64 ((t174.size : Int) - x7_2)) (wrap64 (x11_4 + ((rdOf ByteArray.empty t179 x12_4).size : Int))) (wrap64 (x12_4 + 1))) else (some false)) = some r := H
                                                  have A51 := Aside0.mk A510
                                                  clear A510
                                                  by_cases c52 : t201 = true
                                                  · subst c52
                                                    have H1 : (laws_FnPieces.l1 k4 t174 t175 t176 t179 x7_2 x8_2 ((rdOf ByteArray.empty t176 x8_2).size : Int) (wrap64 ((t174.size : Int) - x7_2)) (wrap64 (x11_4 + ((rdOf ByteArray.empty t179 x12_4).size : Int))) (wrap64 (x12_4 + 1))) = some r := by rw [if_pos rfl] at H; exact H
                                                    clear H
                                                    have H := H1
                                                    clear H1
                                                    have H' := Aside0.mk H
                                                    clear H
                                                    obtain ⟨Ao53, co53, eo53⟩ := Kd.R_slice HO_6.out
                                                    subst eo53
                                                    have q54 : (x8_2 : Int) ≤ ((t176.length : Int) : Int) := of_decide_eq_true (by first | (with_reducible assumption) | assumption)
                                                    obtain ⟨i054, hi054, _, hsz54, _⟩ := info_parts info9
                                                    have hroom54 : t176.length ≤ co28 := (Kd.R_reads' HO_5.out).2.1
                                                    have hC54 : Kd.C Kd.string _ (some ad190) t176.length t176 := (Kd.R_reads' HO_5.out).2.2
                                                    have q054 : (0 : Int) ≤ (x8_2 : Int) := of_decide_eq_true (by first | (with_reducible assumption) | assumption)
                                                    have hcut54 := cut_from (P := Try.prog) 27 9 .i64 Try.underlying27 hi054 1 hsz54 (some ad190) t176.length co28 x8_2 q054 q54
                                                    have hr54 := Kd.C_drop (m := (x8_2 : Int).toNat) (c := co28) hC54 (by omega) hroom54
                                                    obtain ⟨A54, hA54⟩ : ∃ A1, A1 = (if co28 = (x8_2 : Int).toNat then (some ad190) else ((some ad190) : Option Addr).map (·.add ((x8_2 : Int).toNat * 1))) := ⟨_, rfl⟩
                                                    obtain ⟨c54, hc54⟩ : ∃ c1, c1 = co28 - (x8_2 : Int).toNat := ⟨_, rfl⟩
                                                    have hy54 : y193.length = t176.length - (x8_2 : Int).toNat := (by rw [Ny193.out, List.length_drop] <;> omega)
                                                    rw [show (t176).drop (x8_2 : Int).toNat = y193 from Ny193.out.symm] at hr54
                                                    replace hr54 : Kd.C Kd.string _ A54 y193.length y193 := (by rw [hA54]; exact hr54)
                                                    rw [← hy54, ← hA54, ← hc54] at hcut54
                                                    have HR196 := Aside0.mk hr54
                                                    have HC196 := Aside0.mk (show y193.length ≤ c54 from by rw [hy54, hc54]; exact Nat.sub_le_sub_right hroom54 _)
                                                    clear hr54 hC54 hroom54 hi054 hsz54 hc54
                                                    have KY54 := Aside0.mk hy54
                                                    have KA54 := Aside0.mk hA54
                                                    clear hy54 hA54
                                                    have KL54 := Aside0.mk (show (x8_2 : Int).toNat ≤ t176.length from by omega)
                                                    replace q54 := eq_true q54
                                                    have q55 : (x12_4 : Int) ≤ ((t179.length : Int) : Int) := of_decide_eq_true (by first | (with_reducible assumption) | assumption)
                                                    obtain ⟨i055, hi055, _, hsz55, _⟩ := info_parts info9
                                                    have hroom55 : t179.length ≤ co53 := (Kd.R_reads' HO_6.out).2.1
                                                    have hC55 : Kd.C Kd.string _ Ao53 t179.length t179 := (Kd.R_reads' HO_6.out).2.2
                                                    have q055 : (0 : Int) ≤ (x12_4 : Int) := of_decide_eq_true (by first | (with_reducible assumption) | assumption)
                                                    have hcut55 := cut_from (P := Try.prog) 27 9 .i64 Try.underlying27 hi055 1 hsz55 Ao53 t179.length co53 x12_4 q055 q55
                                                    have hr55 := Kd.C_drop (m := (x12_4 : Int).toNat) (c := co53) hC55 (by omega) hroom55
                                                    obtain ⟨A55, hA55⟩ : ∃ A1, A1 = (if co53 = (x12_4 : Int).toNat then Ao53 else (Ao53 : Option Addr).map (·.add ((x12_4 : Int).toNat * 1))) := ⟨_, rfl⟩
                                                    obtain ⟨c55, hc55⟩ : ∃ c1, c1 = co53 - (x12_4 : Int).toNat := ⟨_, rfl⟩
                                                    have hy55 : y197.length = t179.length - (x12_4 : Int).toNat := (by rw [Ny197.out, List.length_drop] <;> omega)
                                                    rw [show (t179).drop (x12_4 : Int).toNat = y197 from Ny197.out.symm] at hr55
                                                    replace hr55 : Kd.C Kd.string _ A55 y197.length y197 := (by rw [hA55]; exact hr55)
                                                    rw [← hy55, ← hA55, ← hc55] at hcut55
                                                    have HR200 := Aside0.mk hr55
                                                    have HC200 := Aside0.mk (show y197.length ≤ c55 from by rw [hy55, hc55]; exact Nat.sub_le_sub_right hroom55 _)
                                                    clear hr55 hC55 hroom55 hi055 hsz55 hc55
                                                    have KY55 := Aside0.mk hy55
                                                    have KA55 := Aside0.mk hA55
                                                    clear hy55 hA55
                                                    have KL55 := Aside0.mk (show (x12_4 : Int).toNat ≤ t179.length from by omega)
                                                    replace q55 := eq_true q55
                                                    (try (have zw_ : wrap64 ((t175.size : Int) - x11_4) = IntKind.i64.wrap ((t175.size : Int) - x11_4) := (i64_w _).symm; have c41b7 := c41b0; have c41b8 := c41b1; rw [zw_] at c41b7 c41b8; clear zw_))
                                                    go_wp2_with (first | (go_at_call 25; (with_reducible refine (laws_wTexts.calls k4 _ _ y193 _ _ y197 true _ ?side1 ?side2 ?side3 ?side4 A51.out).mono ?_); (case side1 => repeat (first | exact (by repeat (first | (with_reducible exact HR196.out) | (with_reducible refine Kd.C_alloc ?_ _) | (with_reducible refine Kd.C_drewN ?_ _) | (with_reducible refine Kd.C_drew ?_) | exact HR196.out)) | (with_reducible refine Kd.C_alloc ?_ _) | (with_reducible refine Kd.C_drewN ?_ _) | (with_reducible refine Kd.C_drew ?_))); (case side2 => exact HC196.out); (case side3 => repeat (first | exact (by repeat (first | (with_reducible exact HR200.out) | (with_reducible refine Kd.C_alloc ?_ _) | (with_reducible refine Kd.C_drewN ?_ _) | (with_reducible refine Kd.C_drew ?_) | exact HR200.out)) | (with_reducible refine Kd.C_alloc ?_ _) | (with_reducible refine Kd.C_drewN ?_ _) | (with_reducible refine Kd.C_drew ?_))); (case side4 => exact HC200.out); rintro e w' ⟨rfl, ⟨nd, rfl⟩⟩; (try first | exact ⟨rfl, _, World.drewN_drewN _ _ _⟩ | exact ⟨rfl, _, Eq.trans (World.drewN_drewN _ _ _) (congrArg (World.drewN _) (Nat.add_assoc _ _ _))⟩); have p202 : 0 ≤ (x12_4 : Int) := of_decide_eq_true (by first | (with_reducible assumption) | assumption); have q202 : x12_4 < (t179.length : Int) := of_decide_eq_true (by first | (with_reducible assumption) | assumption); obtain ⟨ad202, e202, hx202_0⟩ := Kd.at_string (Kd.R_reads' HO_6.out).2.2 x12_4 p202 q202; cases e202; replace p202 := eq_true p202; replace q202 := eq_true q202))
                                                    repeat (go_quiet (first | (go_at_call 25; (with_reducible refine (laws_wTexts.calls k4 _ _ y193 _ _ y197 true _ ?side1 ?side2 ?side3 ?side4 A51.out).mono ?_); (case side1 => repeat (first | exact (by repeat (first | (with_reducible exact HR196.out) | (with_reducible refine Kd.C_alloc ?_ _) | (with_reducible refine Kd.C_drewN ?_ _) | (with_reducible refine Kd.C_drew ?_) | exact HR196.out)) | (with_reducible refine Kd.C_alloc ?_ _) | (with_reducible refine Kd.C_drewN ?_ _) | (with_reducible refine Kd.C_drew ?_))); (case side2 => exact HC196.out); (case side3 => repeat (first | exact (by repeat (first | (with_reducible exact HR200.out) | (with_reducible refine Kd.C_alloc ?_ _) | (with_reducible refine Kd.C_drewN ?_ _) | (with_reducible refine Kd.C_drew ?_) | exact HR200.out)) | (with_reducible refine Kd.C_alloc ?_ _) | (with_reducible refine Kd.C_drewN ?_ _) | (with_reducible refine Kd.C_drew ?_))); (case side4 => exact HC200.out); rintro e w' ⟨rfl, ⟨nd, rfl⟩⟩; (try first | exact ⟨rfl, _, World.drewN_drewN _ _ _⟩ | exact ⟨rfl, _, Eq.trans (World.drewN_drewN _ _ _) (congrArg (World.drewN _) (Nat.add_assoc _ _ _))⟩); have p202 : 0 ≤ (x12_4 : Int) := of_decide_eq_true (by first | (with_reducible assumption) | assumption); have q202 : x12_4 < (t179.length : Int) := of_decide_eq_true (by first | (with_reducible assumption) | assumption); obtain ⟨ad202, e202, hx202_0⟩ := Kd.at_string (Kd.R_reads' HO_6.out).2.2 x12_4 p202 q202; cases e202; replace p202 := eq_true p202; replace q202 := eq_true q202)); try go_wp2_with (first | (go_at_call 25; (with_reducible refine (laws_wTexts.calls k4 _ _ y193 _ _ y197 true _ ?side1 ?side2 ?side3 ?side4 A51.out).mono ?_); (case side1 => repeat (first | exact (by repeat (first | (with_reducible exact HR196.out) | (with_reducible refine Kd.C_alloc ?_ _) | (with_reducible refine Kd.C_drewN ?_ _) | (with_reducible refine Kd.C_drew ?_) | exact HR196.out)) | (with_reducible refine Kd.C_alloc ?_ _) | (with_reducible refine Kd.C_drewN ?_ _) | (with_reducible refine Kd.C_drew ?_))); (case side2 => exact HC196.out); (case side3 => repeat (first | exact (by repeat (first | (with_reducible exact HR200.out) | (with_reducible refine Kd.C_alloc ?_ _) | (with_reducible refine Kd.C_drewN ?_ _) | (with_reducible refine Kd.C_drew ?_) | exact HR200.out)) | (with_reducible refine Kd.C_alloc ?_ _) | (with_reducible refine Kd.C_drewN ?_ _) | (with_reducible refine Kd.C_drew ?_))); (case side4 => exact HC200.out); rintro e w' ⟨rfl, ⟨nd, rfl⟩⟩; (try first | exact ⟨rfl, _, World.drewN_drewN _ _ _⟩ | exact ⟨rfl, _, Eq.trans (World.drewN_drewN _ _ _) (congrArg (World.drewN _) (Nat.add_assoc _ _ _))⟩); have p202 : 0 ≤ (x12_4 : Int) := of_decide_eq_true (by first | (with_reducible assumption) | assumption); have q202 : x12_4 < (t179.length : Int) := of_decide_eq_true (by first | (with_reducible assumption) | assumption); obtain ⟨ad202, e202, hx202_0⟩ := Kd.at_string (Kd.R_reads' HO_6.out).2.2 x12_4 p202 q202; cases e202; replace p202 := eq_true p202; replace q202 := eq_true q202)))
                                                    go_roundg k4
                                                    case measure => have := HJ5.out; have := HK2.out; have := HJ26.out; have := HK4.out; omega
                                                    case rel => exact ⟨(wrap64 (x11_4 + ((rdOf ByteArray.empty t179 x12_4).size : Int))), (wrap64 (x12_4 + 1)), (by first | rfl | (simp; done) | (simp [*]; done)), (by first | rfl | (simp; done) | (simp [*]; done)), H', ⟨by have := HJ5.out; have := HK2.out; have := HJ26.out; have := HK4.out; omega⟩, ⟨by (with_reducible repeat (first | apply Kd.R_alloc | apply Kd.R_drewN | apply Kd.R_drew)); exact HO_5.out⟩, ⟨by (with_reducible repeat (first | apply Kd.R_alloc | apply Kd.R_drewN | apply Kd.R_drew)); exact HO_6.out⟩, ⟨by repeat (first | (with_reducible first | exact HB.out | apply below_alloc | apply pw_below_drewN | apply below_drew1) | exact HB.out)⟩⟩
                                                  · replace c52 := Bool.eq_false_iff.mpr c52
                                                    subst c52
                                                    have H1 : (some false) = some r := by rw [if_neg (show ¬ (false = true) by decide)] at H; exact H
                                                    clear H
                                                    have H := H1
                                                    clear H1
                                                    obtain rfl := Option.some.inj H
                                                    obtain ⟨Ao56, co56, eo56⟩ := Kd.R_slice HO_6.out
                                                    subst eo56
                                                    have q57 : (x8_2 : Int) ≤ ((t176.length : Int) : Int) := of_decide_eq_true (by first | (with_reducible assumption) | assumption)
                                                    obtain ⟨i057, hi057, _, hsz57, _⟩ := info_parts info9
                                                    have hroom57 : t176.length ≤ co28 := (Kd.R_reads' HO_5.out).2.1
                                                    have hC57 : Kd.C Kd.string _ (some ad190) t176.length t176 := (Kd.R_reads' HO_5.out).2.2
                                                    have q057 : (0 : Int) ≤ (x8_2 : Int) := of_decide_eq_true (by first | (with_reducible assumption) | assumption)
                                                    have hcut57 := cut_from (P := Try.prog) 27 9 .i64 Try.underlying27 hi057 1 hsz57 (some ad190) t176.length co28 x8_2 q057 q57
                                                    have hr57 := Kd.C_drop (m := (x8_2 : Int).toNat) (c := co28) hC57 (by omega) hroom57
                                                    obtain ⟨A57, hA57⟩ : ∃ A1, A1 = (if co28 = (x8_2 : Int).toNat then (some ad190) else ((some ad190) : Option Addr).map (·.add ((x8_2 : Int).toNat * 1))) := ⟨_, rfl⟩
                                                    obtain ⟨c57, hc57⟩ : ∃ c1, c1 = co28 - (x8_2 : Int).toNat := ⟨_, rfl⟩
                                                    have hy57 : y193.length = t176.length - (x8_2 : Int).toNat := (by rw [Ny193.out, List.length_drop] <;> omega)
                                                    rw [show (t176).drop (x8_2 : Int).toNat = y193 from Ny193.out.symm] at hr57
                                                    replace hr57 : Kd.C Kd.string _ A57 y193.length y193 := (by rw [hA57]; exact hr57)
                                                    rw [← hy57, ← hA57, ← hc57] at hcut57
                                                    have HR196 := Aside0.mk hr57
                                                    have HC196 := Aside0.mk (show y193.length ≤ c57 from by rw [hy57, hc57]; exact Nat.sub_le_sub_right hroom57 _)
                                                    clear hr57 hC57 hroom57 hi057 hsz57 hc57
                                                    have KY57 := Aside0.mk hy57
                                                    have KA57 := Aside0.mk hA57
                                                    clear hy57 hA57
                                                    have KL57 := Aside0.mk (show (x8_2 : Int).toNat ≤ t176.length from by omega)
                                                    replace q57 := eq_true q57
                                                    have q58 : (x12_4 : Int) ≤ ((t179.length : Int) : Int) := of_decide_eq_true (by first | (with_reducible assumption) | assumption)
                                                    obtain ⟨i058, hi058, _, hsz58, _⟩ := info_parts info9
                                                    have hroom58 : t179.length ≤ co56 := (Kd.R_reads' HO_6.out).2.1
                                                    have hC58 : Kd.C Kd.string _ Ao56 t179.length t179 := (Kd.R_reads' HO_6.out).2.2
                                                    have q058 : (0 : Int) ≤ (x12_4 : Int) := of_decide_eq_true (by first | (with_reducible assumption) | assumption)
                                                    have hcut58 := cut_from (P := Try.prog) 27 9 .i64 Try.underlying27 hi058 1 hsz58 Ao56 t179.length co56 x12_4 q058 q58
                                                    have hr58 := Kd.C_drop (m := (x12_4 : Int).toNat) (c := co56) hC58 (by omega) hroom58
                                                    obtain ⟨A58, hA58⟩ : ∃ A1, A1 = (if co56 = (x12_4 : Int).toNat then Ao56 else (Ao56 : Option Addr).map (·.add ((x12_4 : Int).toNat * 1))) := ⟨_, rfl⟩
                                                    obtain ⟨c58, hc58⟩ : ∃ c1, c1 = co56 - (x12_4 : Int).toNat := ⟨_, rfl⟩
                                                    have hy58 : y197.length = t179.length - (x12_4 : Int).toNat := (by rw [Ny197.out, List.length_drop] <;> omega)
                                                    rw [show (t179).drop (x12_4 : Int).toNat = y197 from Ny197.out.symm] at hr58
                                                    replace hr58 : Kd.C Kd.string _ A58 y197.length y197 := (by rw [hA58]; exact hr58)
                                                    rw [← hy58, ← hA58, ← hc58] at hcut58
                                                    have HR200 := Aside0.mk hr58
                                                    have HC200 := Aside0.mk (show y197.length ≤ c58 from by rw [hy58, hc58]; exact Nat.sub_le_sub_right hroom58 _)
                                                    clear hr58 hC58 hroom58 hi058 hsz58 hc58
                                                    have KY58 := Aside0.mk hy58
                                                    have KA58 := Aside0.mk hA58
                                                    clear hy58 hA58
                                                    have KL58 := Aside0.mk (show (x12_4 : Int).toNat ≤ t179.length from by omega)
                                                    replace q58 := eq_true q58
                                                    (try (have zw_ : wrap64 ((t175.size : Int) - x11_4) = IntKind.i64.wrap ((t175.size : Int) - x11_4) := (i64_w _).symm; have c41b7 := c41b0; have c41b8 := c41b1; rw [zw_] at c41b7 c41b8; clear zw_))
                                                    go_wp2_with (first | (go_at_call 25; (with_reducible refine (laws_wTexts.calls k4 _ _ y193 _ _ y197 false _ ?side1 ?side2 ?side3 ?side4 A51.out).mono ?_); (case side1 => repeat (first | exact (by repeat (first | (with_reducible exact HR196.out) | (with_reducible refine Kd.C_alloc ?_ _) | (with_reducible refine Kd.C_drewN ?_ _) | (with_reducible refine Kd.C_drew ?_) | exact HR196.out)) | (with_reducible refine Kd.C_alloc ?_ _) | (with_reducible refine Kd.C_drewN ?_ _) | (with_reducible refine Kd.C_drew ?_))); (case side2 => exact HC196.out); (case side3 => repeat (first | exact (by repeat (first | (with_reducible exact HR200.out) | (with_reducible refine Kd.C_alloc ?_ _) | (with_reducible refine Kd.C_drewN ?_ _) | (with_reducible refine Kd.C_drew ?_) | exact HR200.out)) | (with_reducible refine Kd.C_alloc ?_ _) | (with_reducible refine Kd.C_drewN ?_ _) | (with_reducible refine Kd.C_drew ?_))); (case side4 => exact HC200.out); rintro e w' ⟨rfl, ⟨nd, rfl⟩⟩; (try first | exact ⟨rfl, _, World.drewN_drewN _ _ _⟩ | exact ⟨rfl, _, Eq.trans (World.drewN_drewN _ _ _) (congrArg (World.drewN _) (Nat.add_assoc _ _ _))⟩)))
                                                    repeat (go_quiet (first | (go_at_call 25; (with_reducible refine (laws_wTexts.calls k4 _ _ y193 _ _ y197 false _ ?side1 ?side2 ?side3 ?side4 A51.out).mono ?_); (case side1 => repeat (first | exact (by repeat (first | (with_reducible exact HR196.out) | (with_reducible refine Kd.C_alloc ?_ _) | (with_reducible refine Kd.C_drewN ?_ _) | (with_reducible refine Kd.C_drew ?_) | exact HR196.out)) | (with_reducible refine Kd.C_alloc ?_ _) | (with_reducible refine Kd.C_drewN ?_ _) | (with_reducible refine Kd.C_drew ?_))); (case side2 => exact HC196.out); (case side3 => repeat (first | exact (by repeat (first | (with_reducible exact HR200.out) | (with_reducible refine Kd.C_alloc ?_ _) | (with_reducible refine Kd.C_drewN ?_ _) | (with_reducible refine Kd.C_drew ?_) | exact HR200.out)) | (with_reducible refine Kd.C_alloc ?_ _) | (with_reducible refine Kd.C_drewN ?_ _) | (with_reducible refine Kd.C_drew ?_))); (case side4 => exact HC200.out); rintro e w' ⟨rfl, ⟨nd, rfl⟩⟩; (try first | exact ⟨rfl, _, World.drewN_drewN _ _ _⟩ | exact ⟨rfl, _, Eq.trans (World.drewN_drewN _ _ _) (congrArg (World.drewN _) (Nat.add_assoc _ _ _))⟩))); try go_wp2_with (first | (go_at_call 25; (with_reducible refine (laws_wTexts.calls k4 _ _ y193 _ _ y197 false _ ?side1 ?side2 ?side3 ?side4 A51.out).mono ?_); (case side1 => repeat (first | exact (by repeat (first | (with_reducible exact HR196.out) | (with_reducible refine Kd.C_alloc ?_ _) | (with_reducible refine Kd.C_drewN ?_ _) | (with_reducible refine Kd.C_drew ?_) | exact HR196.out)) | (with_reducible refine Kd.C_alloc ?_ _) | (with_reducible refine Kd.C_drewN ?_ _) | (with_reducible refine Kd.C_drew ?_))); (case side2 => exact HC196.out); (case side3 => repeat (first | exact (by repeat (first | (with_reducible exact HR200.out) | (with_reducible refine Kd.C_alloc ?_ _) | (with_reducible refine Kd.C_drewN ?_ _) | (with_reducible refine Kd.C_drew ?_) | exact HR200.out)) | (with_reducible refine Kd.C_alloc ?_ _) | (with_reducible refine Kd.C_drewN ?_ _) | (with_reducible refine Kd.C_drew ?_))); (case side4 => exact HC200.out); rintro e w' ⟨rfl, ⟨nd, rfl⟩⟩; (try first | exact ⟨rfl, _, World.drewN_drewN _ _ _⟩ | exact ⟨rfl, _, Eq.trans (World.drewN_drewN _ _ _) (congrArg (World.drewN _) (Nat.add_assoc _ _ _))⟩))))
                                                    go_ret
                                                    exact ⟨by first | rfl | (simp [errW_none, errW_some] <;> rfl) | (simp [*, errW_none, errW_some] <;> rfl), by repeat (first | (with_reducible first | exact HB.out | apply below_alloc | apply pw_below_drewN | apply below_drew1) | exact HB.out)⟩
                                                · rw [if_neg c50] at H
                                                  exact absurd H (by simp)
                                              · rw [if_neg c49] at H
                                                exact absurd H (by simp)
                                            · rw [if_neg c48] at H
                                              exact absurd H (by simp)
                                          · rw [if_neg c47] at H
                                            exact absurd H (by simp)
                                        · rw [if_neg c46] at H
                                          have c46b0 : ((t175.extract (x11_4 : Int).toNat t175.size).toList == (t174.extract (x7_2 : Int).toNat t174.size).toList) = false := beq_eq_false_iff_ne.mpr c46
                                          have c46b1 : ((t175.extract (x11_4 : Int).toNat t175.size).toList != (t174.extract (x7_2 : Int).toNat t174.size).toList) = true := bne_iff_ne.mpr c46
                                          by_cases c59 : 0 ≤ x12_4
                                          · rw [if_pos c59] at H
                                            have c59b0 : decide (0 ≤ x12_4) = true := decide_eq_true c59
                                            clear c59
                                            have H' := Aside0.mk H
                                            clear H
                                            obtain ⟨Ao60, co60, eo60⟩ := Kd.R_slice HO_6.out
                                            subst eo60
                                            have p203 : 0 ≤ (x12_4 : Int) := of_decide_eq_true (by first | (with_reducible assumption) | assumption)
                                            have q203 : x12_4 < (t179.length : Int) := of_decide_eq_true (by first | (with_reducible assumption) | assumption)
                                            obtain ⟨ad203, e203, hx203_0⟩ := Kd.at_string (Kd.R_reads' HO_6.out).2.2 x12_4 p203 q203
                                            cases e203
                                            replace p203 := eq_true p203
                                            replace q203 := eq_true q203
                                            (try (have zw_ : wrap64 ((t175.size : Int) - x11_4) = IntKind.i64.wrap ((t175.size : Int) - x11_4) := (i64_w _).symm; have c41b7 := c41b0; have c41b8 := c41b1; rw [zw_] at c41b7 c41b8; clear zw_))
                                            go_wp2
                                            repeat (go_quiet (fail); try go_wp2)
                                            go_roundg k4
                                            case measure => have := HJ5.out; have := HK2.out; have := HJ26.out; have := HK4.out; omega
                                            case rel => exact ⟨(wrap64 (x11_4 + ((rdOf ByteArray.empty t179 x12_4).size : Int))), (wrap64 (x12_4 + 1)), (by first | rfl | (simp; done) | (simp [*]; done)), (by first | rfl | (simp; done) | (simp [*]; done)), H', ⟨by have := HJ5.out; have := HK2.out; have := HJ26.out; have := HK4.out; omega⟩, ⟨by (with_reducible repeat (first | apply Kd.R_alloc | apply Kd.R_drewN | apply Kd.R_drew)); exact HO_5.out⟩, ⟨by (with_reducible repeat (first | apply Kd.R_alloc | apply Kd.R_drewN | apply Kd.R_drew)); exact HO_6.out⟩, ⟨by repeat (first | (with_reducible first | exact HB.out | apply below_alloc | apply pw_below_drewN | apply below_drew1) | exact HB.out)⟩⟩
                                          · rw [if_neg c59] at H
                                            exact absurd H (by simp)
                                      · rw [if_neg c45] at H
                                        exact absurd H (by simp)
                                    · rw [if_neg c44] at H
                                      exact absurd H (by simp)
                                  · rw [if_neg c43] at H
                                    exact absurd H (by simp)
                                · rw [if_neg c42] at H
                                  exact absurd H (by simp)
                              · rw [if_neg c41] at H
                                have c41b0 : ((wrap64 ((t175.size : Int) - x11_4)) == (wrap64 ((t174.size : Int) - x7_2))) = false := beq_eq_false_iff_ne.mpr c41
                                have c41b1 : ((wrap64 ((t175.size : Int) - x11_4)) != (wrap64 ((t174.size : Int) - x7_2))) = true := bne_iff_ne.mpr c41
                                by_cases c61 : 0 ≤ x12_4
                                · rw [if_pos c61] at H
                                  have c61b0 : decide (0 ≤ x12_4) = true := decide_eq_true c61
                                  clear c61
                                  have H' := Aside0.mk H
                                  clear H
                                  obtain ⟨Ao62, co62, eo62⟩ := Kd.R_slice HO_6.out
                                  subst eo62
                                  have p204 : 0 ≤ (x12_4 : Int) := of_decide_eq_true (by first | (with_reducible assumption) | assumption)
                                  have q204 : x12_4 < (t179.length : Int) := of_decide_eq_true (by first | (with_reducible assumption) | assumption)
                                  obtain ⟨ad204, e204, hx204_0⟩ := Kd.at_string (Kd.R_reads' HO_6.out).2.2 x12_4 p204 q204
                                  cases e204
                                  replace p204 := eq_true p204
                                  replace q204 := eq_true q204
                                  (try (have zw_ : wrap64 ((t175.size : Int) - x11_4) = IntKind.i64.wrap ((t175.size : Int) - x11_4) := (i64_w _).symm; have c41b7 := c41b0; have c41b8 := c41b1; rw [zw_] at c41b7 c41b8; clear zw_))
                                  go_wp2
                                  repeat (go_quiet (fail); try go_wp2)
                                  go_roundg k4
                                  case measure => have := HJ5.out; have := HK2.out; have := HJ26.out; have := HK4.out; omega
                                  case rel => exact ⟨(wrap64 (x11_4 + ((rdOf ByteArray.empty t179 x12_4).size : Int))), (wrap64 (x12_4 + 1)), (by first | rfl | (simp; done) | (simp [*]; done)), (by first | rfl | (simp; done) | (simp [*]; done)), H', ⟨by have := HJ5.out; have := HK2.out; have := HJ26.out; have := HK4.out; omega⟩, ⟨by (with_reducible repeat (first | apply Kd.R_alloc | apply Kd.R_drewN | apply Kd.R_drew)); exact HO_5.out⟩, ⟨by (with_reducible repeat (first | apply Kd.R_alloc | apply Kd.R_drewN | apply Kd.R_drew)); exact HO_6.out⟩, ⟨by repeat (first | (with_reducible first | exact HB.out | apply below_alloc | apply pw_below_drewN | apply below_drew1) | exact HB.out)⟩⟩
                                · rw [if_neg c61] at H
                                  exact absurd H (by simp)
                            · rw [if_neg c40] at H
                              have c40b0 : decide (x12_4 < (t179.length : Int)) = false := decide_eq_false c40
                              clear c40
                              have H' := Aside0.mk H
                              clear H
                              obtain ⟨Ao63, co63, eo63⟩ := Kd.R_slice HO_6.out
                              subst eo63
                              go_wp2
                              repeat (go_quiet (fail); try go_wp2)
                              go_roundg k4
                              case measure => have := HJ5.out; have := HK2.out; have := HJ26.out; have := HK4.out; omega
                              case rel => exact ⟨(wrap64 (x7_2 + ((rdOf ByteArray.empty t176 x8_2).size : Int))), (wrap64 (x8_2 + 1)), (by first | rfl | (simp; done) | (simp [*]; done)), (by first | rfl | (simp; done) | (simp [*]; done)), H', ⟨by have := HJ5.out; have := HK2.out; have := HJ26.out; have := HK4.out; omega⟩, ⟨by (with_reducible repeat (first | apply Kd.R_alloc | apply Kd.R_drewN | apply Kd.R_drew)); exact HO_5.out⟩, ⟨by (with_reducible repeat (first | apply Kd.R_alloc | apply Kd.R_drewN | apply Kd.R_drew)); exact HO_6.out⟩, ⟨by repeat (first | (with_reducible first | exact HB.out | apply below_alloc | apply pw_below_drewN | apply below_drew1) | exact HB.out)⟩⟩
                · rw [if_neg c26] at H
                  exact absurd H (by simp)
              · rw [if_neg c25] at H
                have c25b0 : decide (x8_2 < (t176.length : Int)) = false := decide_eq_false c25
                clear c25
                by_cases c64 : x7_2 = (t174.size : Int)
                · rw [if_pos c64] at H
                  have c64b0 : (x7_2 == (t174.size : Int)) = true := beq_iff_eq.mpr c64
                  have c64b1 : (x7_2 != (t174.size : Int)) = false := bne_eq_false_iff_eq.mpr c64
                  clear c64
                  obtain rfl := Option.some.inj H
                  obtain ⟨Ao65, co65, eo65⟩ := Kd.R_slice HO_5.out
                  subst eo65
                  go_wp2
                  repeat (go_quiet (fail); try go_wp2)
                  go_ret
                  exact ⟨by first | rfl | (simp [errW_none, errW_some] <;> rfl) | (simp [*, errW_none, errW_some] <;> rfl), by repeat (first | (with_reducible first | exact HB.out | apply below_alloc | apply pw_below_drewN | apply below_drew1) | exact HB.out)⟩
                · rw [if_neg c64] at H
                  have c64b0 : (x7_2 == (t174.size : Int)) = false := beq_eq_false_iff_ne.mpr c64
                  have c64b1 : (x7_2 != (t174.size : Int)) = true := bne_iff_ne.mpr c64
                  by_cases c66 : (t174.size : Int) > 3000
                  · rw [if_pos c66] at H
                    have c66b0 : decide (3000 < (t174.size : Int)) = true := decide_eq_true c66
                    have c66b1 : decide (3000 < t174.size) = true := decide_eq_true (by omega)
                    clear c66
                    obtain rfl := Option.some.inj H
                    obtain ⟨Ao67, co67, eo67⟩ := Kd.R_slice HO_5.out
                    subst eo67
                    go_wp2
                    repeat (go_quiet (fail); try go_wp2)
                    go_ret
                    exact ⟨by first | rfl | (simp [errW_none, errW_some] <;> rfl) | (simp [*, errW_none, errW_some] <;> rfl), by repeat (first | (with_reducible first | exact HB.out | apply below_alloc | apply pw_below_drewN | apply below_drew1) | exact HB.out)⟩
                  · rw [if_neg c66] at H
                    have c66b0 : decide (3000 < (t174.size : Int)) = false := decide_eq_false c66
                    have c66b1 : decide (3000 < t174.size) = false := decide_eq_false (by omega)
                    clear c66
                    obtain rfl := Option.some.inj H
                    obtain ⟨Ao68, co68, eo68⟩ := Kd.R_slice HO_5.out
                    subst eo68
                    go_wp2
                    repeat (go_quiet (fail); try go_wp2)
                    go_ret
                    exact ⟨by first | rfl | (simp [errW_none, errW_some] <;> rfl) | (simp [*, errW_none, errW_some] <;> rfl), by repeat (first | (with_reducible first | exact HB.out | apply below_alloc | apply pw_below_drewN | apply below_drew1) | exact HB.out)⟩

/-- THE ONE PURE STATEMENT of laws_FnPieces: yours. -/
def laws_FnPieces.Pure : Prop := ∀ (l0 : List Int), l0.length ≤ maxLen → l0.length * 1 ≤ 140737488351232 → (∀ x ∈ l0, (Lit.int .u8 x).wf = true) → ∃ k, laws_FnPieces.f k l0 = some true
theorem laws_FnPieces.walk (P : laws_FnPieces.Pure) (a0 : Option Addr) (len0 cap0 : Nat) (z0 : List Int) (w : World) (w0 : (a0 = none ∧ len0 = 0 ∧ cap0 = 0 ∧ z0 = []) ∨ ∃ x, a0 = some x ∧ len0 ≤ cap0 ∧ cap0 ≤ maxLen ∧ z0.length = cap0 ∧ (∀ i, i < z0.length → w.cell? (x.add i) = some (.int .u8 (z0.getD i 0))) ∧ ∀ n ∈ z0, (Lit.int .u8 n).wf = true) (y0 : len0 * 1 ≤ 140737488351232) :
    Calls Try.prog 9 #[.slice a0 len0 cap0] w fun e w' => e = .returned (.bool true) ∧ Below w.heap.size w w' := by
  obtain ⟨l0, rfl, hr0, hm0, hw0, hc0⟩ := ReadsInt.ofRowC w0
  obtain ⟨k, h⟩ := P l0 hm0 y0 hw0
  refine (laws_FnPieces.calls k _ _ l0 true w (Kd.C_of_reads (d := (0 : Int)) (h1 := fun _ => rfl) hr0) hc0 h).mono ?_
  rintro e w' ⟨rfl, hd⟩
  exact ⟨rfl, hd⟩

end Go.Proofs.Ytbmldafgipimbaa.PFnPieces

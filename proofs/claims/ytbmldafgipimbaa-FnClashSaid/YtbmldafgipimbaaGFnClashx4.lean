-- Walks of printed functions (by wip/gen.py of this session, with the kit's program).
import Derived.Test.YtbmldafgipimbaaGFnClashx0
import Derived.Test.YtbmldafgipimbaaGFnClashx2
import Derived.Test.YtbmldafgipimbaaGFnClashx3
namespace Go.Proofs.Ytbmldafgipimbaa.PFnClash
open Go.RowKit Go.Proofs.YtbmldafgipimbaaW.PrintWords Go.Proofs.YtbmldafgipimbaaW.PrintLast Go.Proofs.YtbmldafgipimbaaW.PrintMore
attribute [local go_sem] max2_int min2_int max_two min_two max_three min_three max_four min_four   -- for this text's walks alone
attribute [local go_sem] Go.Proofs.Ytbmldafgipimbaa.L.str_geq
set_option linter.unusedVariables false
set_option linter.unusedSimpArgs false

/-! ### spec_DrawClash: function 23 -/
mutual
def spec_DrawClash.l0 : Nat → List ByteArray → Int → Int → List Int → Int → Option (List ByteArray × Int)
  | 0, _, _, _, _, _ => none
  | k + 1, x5, x6, x7, x137000, x137001 => if x7 < x6 then ((spec_l1Rd_pick.f k x137000 x137001 26).bind fun bt142 => ((spec_l1Rd_pick.f k x137000 bt142.2 26).bind fun bt144 => ((spec_l1Rd_pick.f k x137000 bt144.2 26).bind fun bt146 => ((some (([(wrap64 (97 + bt142.1)) % 256, (wrap64 (97 + (Int.tmod (wrap64 (bt144.1 + x7)) 26))) % 256, (wrap64 (97 + (Int.tmod (wrap64 (bt146.1 + (wrap64 (x7 * x7)))) 26))) % 256] : List Int) : List Int)).bind fun y148 => ((spec_l1Rd_pick.f k x137000 bt146.2 3).bind fun bt151 => (if 0 ≤ (wrap64 (1 + (Int.tmod (wrap64 (x7 + bt151.1)) 3))) then (if (wrap64 (1 + (Int.tmod (wrap64 (x7 + bt151.1)) 3))) ≤ (y148.length : Int) then (if x5.length < 8796093022208 then (spec_DrawClash.l0 k (x5 ++ [strOfNums (y148.take ((wrap64 (1 + (Int.tmod (wrap64 (x7 + bt151.1)) 3))) : Int).toNat)]) x6 (wrap64 (x7 + 1)) x137000 bt151.2) else (none)) else (none)) else (none))))))) else ((spec_l1Rd_pick.f k x137000 x137001 24).bind fun bt160 => (if bt160.1 = 0 then (spec_DrawClash.l1 k x5 x137000 bt160.2) else (if bt160.1 = 1 then ((some (([0, 9] : List Int) : List Int)).bind fun y173 => ((spec_l1Rd_pick.f k x137000 bt160.2 2).bind fun bt176 => (if 0 ≤ bt176.1 then (if bt176.1 < (y173.length : Int) then (some (x5, rd y173 bt176.1)) else (none)) else (none)))) else ((some (([1, 1, 1, 2, 8] : List Int) : List Int)).bind fun y179 => ((spec_l1Rd_pick.f k x137000 bt160.2 5).bind fun bt182 => (if 0 ≤ bt182.1 then (if bt182.1 < (y179.length : Int) then (some (x5, rd y179 bt182.1)) else (none)) else (none)))))))
def spec_DrawClash.l1 : Nat → List ByteArray → List Int → Int → Option (List ByteArray × Int)
  | 0, _, _, _ => none
  | k + 1, x5, x137000, x137001 => (spec_l1Rd_pick.f k x137000 x137001 2).bind fun bt162 => (if (x5.length : Int) < (wrap64 (2000 + bt162.1)) then (if x5.length < 8796093022208 then (spec_DrawClash.l1 k (x5 ++ [(⟨#[115, 97, 109, 101]⟩ : ByteArray)]) x137000 bt162.2) else (none)) else ((some (([1, 1, 1, 2, 8] : List Int) : List Int)).bind fun y167 => ((spec_l1Rd_pick.f k x137000 bt162.2 5).bind fun bt170 => (if 0 ≤ bt170.1 then (if bt170.1 < (y167.length : Int) then (some (x5, rd y167 bt170.1)) else (none)) else (none)))))
end
def spec_DrawClash.f (k : Nat) (l0 : List Int) : Option (List ByteArray × Int) := (spec_l1Open.f l0).bind fun bt134 => ((spec_l1Rd_pick.f k bt134.1 bt134.2 40).bind fun bt140 => (spec_DrawClash.l0 k (([] : List ByteArray)) (wrap64 (10 + bt140.1)) 0 bt134.1 bt140.2))
theorem spec_DrawClash.mono_l : ∀ k, (∀ y0 y1 y2 y3 y4, LeO (spec_DrawClash.l0 k y0 y1 y2 y3 y4) (spec_DrawClash.l0 (k + 1) y0 y1 y2 y3 y4)) ∧ (∀ y0 y1 y2, LeO (spec_DrawClash.l1 k y0 y1 y2) (spec_DrawClash.l1 (k + 1) y0 y1 y2))
  | 0 => ⟨fun _ _ _ _ _ r h => by simp [spec_DrawClash.l0] at h, fun _ _ _ r h => by simp [spec_DrawClash.l1] at h⟩
  | k + 1 => by
    obtain ⟨ih0, ih1⟩ := spec_DrawClash.mono_l k
    refine ⟨?_, ?_⟩
    · intro y0 y1 y2 y3 y4
      unfold spec_DrawClash.l0
      repeat' first
      | (with_reducible exact ih0 _ _ _ _ _)
      | (with_reducible exact ih1 _ _ _)
      | (with_reducible exact spec_l1Rd_pick.mono _ _ _ _)
      | (with_reducible exact LeO.refl _)
      | (with_reducible exact LeO.none _)
      | (with_reducible refine LeO.ite ?_ ?_)
      | (with_reducible refine LeO.bind ?_ (fun _ => ?_))
      | exact ih0 _ _ _ _ _
      | exact ih1 _ _ _
      | exact spec_l1Rd_pick.mono _ _ _ _
      | exact LeO.none _
      | refine LeO.ite ?_ ?_
      | refine LeO.bind ?_ (fun _ => ?_)
    · intro y0 y1 y2
      unfold spec_DrawClash.l1
      repeat' first
      | (with_reducible exact ih0 _ _ _ _ _)
      | (with_reducible exact ih1 _ _ _)
      | (with_reducible exact spec_l1Rd_pick.mono _ _ _ _)
      | (with_reducible exact LeO.refl _)
      | (with_reducible exact LeO.none _)
      | (with_reducible refine LeO.ite ?_ ?_)
      | (with_reducible refine LeO.bind ?_ (fun _ => ?_))
      | exact ih0 _ _ _ _ _
      | exact ih1 _ _ _
      | exact spec_l1Rd_pick.mono _ _ _ _
      | exact LeO.none _
      | refine LeO.ite ?_ ?_
      | refine LeO.bind ?_ (fun _ => ?_)
theorem spec_DrawClash.mono : ∀ a0 k, LeO (spec_DrawClash.f k a0) (spec_DrawClash.f (k + 1) a0) := by
  intro a0 k
  obtain ⟨ih0, ih1⟩ := spec_DrawClash.mono_l k
  unfold spec_DrawClash.f
  repeat' first
      | (with_reducible exact ih0 _ _ _ _ _)
      | (with_reducible exact ih1 _ _ _)
      | (with_reducible exact spec_l1Rd_pick.mono _ _ _ _)
      | (with_reducible exact LeO.refl _)
      | (with_reducible exact LeO.none _)
      | (with_reducible refine LeO.ite ?_ ?_)
      | (with_reducible refine LeO.bind ?_ (fun _ => ?_))
      | exact ih0 _ _ _ _ _
      | exact ih1 _ _ _
      | exact spec_l1Rd_pick.mono _ _ _ _
      | exact LeO.none _
      | refine LeO.ite ?_ ?_
      | refine LeO.bind ?_ (fun _ => ?_)
def spec_DrawClash.T13 : Bool × List (List Nat × List Nat) := (true, [([], []), ([], []), ([], []), ([2], [2]), ([1, 3], [1, 3]), ([4], [4]), ([0, 3, 0], [0]), ([5, 6, 0, 1, 2, 3, 4, 5, 6], [5])])
def spec_DrawClash.B13 : List Nat := [0, 0, 0, 4, 14, 30, 13, 127]
theorem spec_DrawClash.tab13 : rtab .any (opsOf Try.f23 13) = spec_DrawClash.T13 := by kernel_rfl
theorem spec_DrawClash.bits13 : waitsOk spec_DrawClash.T13.2 spec_DrawClash.B13 = true := by kernel_rfl
def spec_DrawClash.T14 : Bool × List (List Nat × List Nat) := (true, [([], []), ([], []), ([], []), ([2], [2]), ([1, 3], [1, 3]), ([4], [4]), ([0, 3, 0], [0]), ([5, 6, 0, 1, 2, 3, 4, 5, 6], [5])])
def spec_DrawClash.B14 : List Nat := [0, 0, 0, 4, 14, 30, 13, 127]
theorem spec_DrawClash.tab14 : rtab .any (opsOf Try.f23 14) = spec_DrawClash.T14 := by kernel_rfl
theorem spec_DrawClash.bits14 : waitsOk spec_DrawClash.T14.2 spec_DrawClash.B14 = true := by kernel_rfl
set_option maxHeartbeats 8000000 in
set_option maxRecDepth 100000 in
theorem spec_DrawClash.calls (k : Nat) (A0 : Option Addr) (c0 : Nat) (l0 : List Int) (r1 : List ByteArray) (r2 : Int) (w : World) (hr0 : Kd.C (Kd.int .u8) w A0 l0.length l0) (hc0 : l0.length ≤ c0) (h : spec_DrawClash.f k l0 = some (r1, r2)) :
    Calls Try.prog 23 #[.slice A0 l0.length c0] w fun e w' => ∃ v0_ : Value, e = .returned (.tuple #[v0_, .int .i64 r2]) ∧ Kd.R Kd.string 9 w' w.heap.size (fun _ => True) v0_ r1 ∧ Below w.heap.size w w' := by
  have HR0 := Aside0.mk hr0
  have HC0 := Aside0.mk hc0
  clear hr0 hc0
  have HB := Aside0.mk (Below.refl w.heap.size w)
  have H : ((spec_l1Open.f l0).bind fun bt134 => ((spec_l1Rd_pick.f k bt134.1 bt134.2 40).bind fun bt140 => (spec_DrawClash.l0 k (([] : List ByteArray)) (wrap64 (10 + bt140.1)) 0 bt134.1 bt140.2))) = some (r1, r2) := h
  clear h
  replace H := Option.bind_eq_some_iff.mp H
  obtain ⟨⟨t134, t135⟩, A20, H⟩ := H
  replace H : ((spec_l1Rd_pick.f k t134 t135 40).bind fun bt140 => (spec_DrawClash.l0 k (([] : List ByteArray)) (wrap64 (10 + bt140.1)) 0 t134 bt140.2)) = some (r1, r2) := H
  have A2 := Aside0.mk A20
  clear A20
  obtain ⟨y137, hy137⟩ : ∃ y_ : List ByteArray, y_ = (([] : List ByteArray)) := ⟨_, rfl⟩
  replace H : ((spec_l1Rd_pick.f k t134 t135 40).bind fun bt140 => (spec_DrawClash.l0 k y137 (wrap64 (10 + bt140.1)) 0 t134 bt140.2)) = some (r1, r2) := by first | (rw [hy137]; with_reducible exact H) | (have H2_ := (Option.bind_some _ _).symm.trans H; rw [hy137]; with_reducible exact H2_) | (have H2_ := (Option.bind_some _ _).symm.trans H; with_reducible exact H2_) | with_reducible exact H | (rw [hy137]; exact H) | exact H
  have Ny137 := Aside0.mk hy137
  clear hy137
  replace H := Option.bind_eq_some_iff.mp H
  obtain ⟨⟨t140, t141⟩, A30, H⟩ := H
  replace H : (spec_DrawClash.l0 k y137 (wrap64 (10 + t140)) 0 t134 t141) = some (r1, r2) := H
  have A3 := Aside0.mk A30
  clear A30
  have H' := Aside0.mk H
  clear H
  go_enter Try.func23, Try.ntmps23
  go_wp2_with (first | ((with_reducible refine gate_callee (f := 34) rfl ?_); refine goesL_ (some 9) rfl rfl Try.func34 (by kernel_rfl) rfl #[.slice A0 l0.length c0] rfl (by (try simp only [List.map_toArray, List.map_cons, List.map_nil]); first | done | rfl | (simp only [List.length_drop, List.length_take]; rfl)) ?_; (with_reducible refine (spec_l1Open.calls _ _ l0 t134 t135 w _ ?side1 ?side2 ?side3 A2.out).mono ?_); (case side1 => repeat (first | (with_reducible first | exact HB.out | apply below_alloc | apply pw_below_drewN | apply below_drew1) | exact HB.out)); (case side2 => exact HR0.out); (case side3 => exact HC0.out); rintro e w4 ⟨g136, rfl, hi, hb, hb2⟩; refine ⟨_, rfl, ?_⟩; have n0_ := Aside0.mk (hb); have n1_ := Aside0.mk (hi); clear HB; have HB := n0_; have HI136 := n1_; clear n0_ n1_; (try clear hb); (try clear hb2); (try clear hk); (try clear hi)) | ((with_reducible refine gate_dst (N := 10) rfl ?_); refine Kd.R_lit Kd.string _ 9 ?hg (N := 10) ?hd (xs := ([] : List ByteArray)) (inner := []) (ok := fun _ => True) (okp := fun _ => True) ?hr ?hp (fun _ hk => hk) trivial (Below.refl _ _) (Nat.le_refl _) (by simp) ?_; (case hd => rfl); (case hg => rfl); (case hr => first | (go_simp; done) | (go_simp; rfl)); (case hp => exact (Reps.none _ _)); intro v138 w5 ho6 hb hg_ hnew_; clear hg_ hnew_; (first | rw [← Ny137.out] at ho6 | (simp only [Int.reduceToNat] at ho6; rw [← Ny137.out] at ho6)); have n0_ := Aside0.mk (Kd.R_lower ho6 (below_size (by repeat (first | (with_reducible first | exact HB.out | apply below_alloc | apply pw_below_drewN | apply below_drew1 | refine below_set ?_ (IsS58.ge HI136.out)) | exact HB.out)))); have n1_ := Aside0.mk (IsS58.below (by repeat (first | (with_reducible first | exact HI136.out | apply IsS58.alloc | apply IsS58.drewN | apply IsS58.drew | apply IsS58.set_1) | exact HI136.out)) hb); have n2_ := Aside0.mk (below_step (by repeat (first | (with_reducible first | exact HB.out | apply below_alloc | apply pw_below_drewN | apply below_drew1 | refine below_set ?_ (IsS58.ge HI136.out)) | exact HB.out)) hb); clear HI136; clear HB; have HO139 := n0_; have HI136 := n1_; have HB := n2_; clear n0_ n1_ n2_; clear hb ho6) | ((with_reducible refine gate_callee (f := 35) rfl ?_); refine goesL_ (some 12) rfl rfl Try.func35 (by kernel_rfl) rfl #[.pointer (some ⟨g136, 0, none⟩), .int .i64 40] rfl (by (try simp only [List.map_toArray, List.map_cons, List.map_nil]); first | done | rfl | (simp only [List.length_drop, List.length_take]; rfl)) ?_; (with_reducible refine (spec_l1Rd_pick.calls k g136 t134 t135 40 t140 t141 w _ ?side1 ?side2 A3.out).mono ?_); (case side1 => repeat (first | (with_reducible first | exact HI136.out | apply IsS58.alloc | apply IsS58.drewN | apply IsS58.drew | apply IsS58.set_1) | exact HI136.out)); (case side2 => repeat (first | (with_reducible first | exact HB.out | apply below_alloc | apply pw_below_drewN | apply below_drew1 | refine below_set ?_ (IsS58.ge HI136.out)) | exact HB.out)); rintro e w7 ⟨rfl, hi, hb, hk⟩; refine ⟨_, rfl, ?_⟩; have n0_ := Aside0.mk (Kd.R_mono (Kd.R_keep (IsS58.apart (show IsS58 w _ g136 t134 t135 from by repeat (first | (with_reducible first | exact HI136.out | apply IsS58.alloc | apply IsS58.drewN | apply IsS58.drew | apply IsS58.set_1) | exact HI136.out)) (by (with_reducible repeat (first | apply Kd.R_alloc | apply Kd.R_drewN | apply Kd.R_drew)); exact HO139.out) (by decide)) hk (fun _ h => h.2)) (fun _ h => h.1)); have n1_ := Aside0.mk (hb); have n2_ := Aside0.mk (hi); clear HO139; clear HB; clear HI136; have HO139 := n0_; have HB := n1_; have HI136 := n2_; clear n0_ n1_ n2_; (try clear hb); (try clear hb2); (try clear hk); (try clear hi)))
  go_loopg [5, 7] k (fun kq v5 v7 w' => ∃ (x5_1 : List ByteArray) (x7_1 : Int) (x137001_1 : Int), v7 = .int .i64 x7_1 ∧ Aside0 (spec_DrawClash.l0 kq x5_1 (wrap64 (10 + t140)) x7_1 t134 x137001_1 = some (r1, r2)) ∧ Aside0 (kq ≤ k) ∧ Aside0 (Kd.R Kd.string 9 w' w.heap.size (fun _ => True) v5 x5_1) ∧ Aside0 (IsS58 w w' g136 t134 x137001_1) ∧ Aside0 (Below w.heap.size w w'))
  case atStart => exact ⟨(y137), (0), (t141), (by first | rfl | (simp; done) | (simp [*]; done)), H', ⟨Nat.le_refl _⟩, ⟨by (with_reducible repeat (first | apply Kd.R_alloc | apply Kd.R_drewN | apply Kd.R_drew)); exact HO139.out⟩, ⟨by repeat (first | (with_reducible first | exact HI136.out | apply IsS58.alloc | apply IsS58.drewN | apply IsS58.drew | apply IsS58.set_1) | exact HI136.out)⟩, ⟨by repeat (first | (with_reducible first | exact HB.out | apply below_alloc | apply pw_below_drewN | apply below_drew1 | refine below_set ?_ (IsS58.ge HI136.out)) | exact HB.out)⟩⟩
  case round =>
    clear H'
    try clear c2
    try clear p2
    try clear c3
    try clear p6
    obtain ⟨x5_1, x7_1, x137001_1, rfl, HA, HK1, HO_5, HI136, HB⟩ := hrel
    cases gk with
    | zero => exact absurd HA.out (by simp [spec_DrawClash.l0])
    | succ k1 =>
      have H := HA.out
      clear HA
      simp only [spec_DrawClash.l0] at H
      by_cases c8 : x7_1 < (wrap64 (10 + t140))
      · rw [if_pos c8] at H
        have c8b0 : decide (x7_1 < (wrap64 (10 + t140))) = true := decide_eq_true c8
        clear c8
        replace H := Option.bind_eq_some_iff.mp H
        obtain ⟨⟨t142, t143⟩, A90, H⟩ := H
        replace H : ((spec_l1Rd_pick.f k1 t134 t143 26).bind fun bt144 => ((spec_l1Rd_pick.f k1 t134 bt144.2 26).bind fun bt146 => ((some (([(wrap64 (97 + t142)) % 256, (wrap64 (97 + (Int.tmod (wrap64 (bt144.1 + x7_1)) 26))) % 256, (wrap64 (97 + (Int.tmod (wrap64 (bt146.1 + (wrap64 (x7_1 * x7_1)))) 26))) % 256] : List Int) : List Int)).bind fun y148 => ((spec_l1Rd_pick.f k1 t134 bt146.2 3).bind fun bt151 => (if 0 ≤ (wrap64 (1 + (Int.tmod (wrap64 (x7_1 + bt151.1)) 3))) then (if (wrap64 (1 + (Int.tmod (wrap64 (x7_1 + bt151.1)) 3))) ≤ (y148.length : Int) then (if x5_1.length < 8796093022208 then (spec_DrawClash.l0 k1 (x5_1 ++ [strOfNums (y148.take ((wrap64 (1 + (Int.tmod (wrap64 (x7_1 + bt151.1)) 3))) : Int).toNat)]) (wrap64 (10 + t140)) (wrap64 (x7_1 + 1)) t134 bt151.2) else (none)) else (none)) else (none)))))) = some (r1, r2) := H
        have A9 := Aside0.mk A90
        clear A90
        replace H := Option.bind_eq_some_iff.mp H
        obtain ⟨⟨t144, t145⟩, A100, H⟩ := H
        replace H : ((spec_l1Rd_pick.f k1 t134 t145 26).bind fun bt146 => ((some (([(wrap64 (97 + t142)) % 256, (wrap64 (97 + (Int.tmod (wrap64 (t144 + x7_1)) 26))) % 256, (wrap64 (97 + (Int.tmod (wrap64 (bt146.1 + (wrap64 (x7_1 * x7_1)))) 26))) % 256] : List Int) : List Int)).bind fun y148 => ((spec_l1Rd_pick.f k1 t134 bt146.2 3).bind fun bt151 => (if 0 ≤ (wrap64 (1 + (Int.tmod (wrap64 (x7_1 + bt151.1)) 3))) then (if (wrap64 (1 + (Int.tmod (wrap64 (x7_1 + bt151.1)) 3))) ≤ (y148.length : Int) then (if x5_1.length < 8796093022208 then (spec_DrawClash.l0 k1 (x5_1 ++ [strOfNums (y148.take ((wrap64 (1 + (Int.tmod (wrap64 (x7_1 + bt151.1)) 3))) : Int).toNat)]) (wrap64 (10 + t140)) (wrap64 (x7_1 + 1)) t134 bt151.2) else (none)) else (none)) else (none))))) = some (r1, r2) := H
        have A10 := Aside0.mk A100
        clear A100
        replace H := Option.bind_eq_some_iff.mp H
        obtain ⟨⟨t146, t147⟩, A110, H⟩ := H
        replace H : ((some (([(wrap64 (97 + t142)) % 256, (wrap64 (97 + (Int.tmod (wrap64 (t144 + x7_1)) 26))) % 256, (wrap64 (97 + (Int.tmod (wrap64 (t146 + (wrap64 (x7_1 * x7_1)))) 26))) % 256] : List Int) : List Int)).bind fun y148 => ((spec_l1Rd_pick.f k1 t134 t147 3).bind fun bt151 => (if 0 ≤ (wrap64 (1 + (Int.tmod (wrap64 (x7_1 + bt151.1)) 3))) then (if (wrap64 (1 + (Int.tmod (wrap64 (x7_1 + bt151.1)) 3))) ≤ (y148.length : Int) then (if x5_1.length < 8796093022208 then (spec_DrawClash.l0 k1 (x5_1 ++ [strOfNums (y148.take ((wrap64 (1 + (Int.tmod (wrap64 (x7_1 + bt151.1)) 3))) : Int).toNat)]) (wrap64 (10 + t140)) (wrap64 (x7_1 + 1)) t134 bt151.2) else (none)) else (none)) else (none)))) = some (r1, r2) := H
        have A11 := Aside0.mk A110
        clear A110
        obtain ⟨y148, hy148⟩ : ∃ y_ : List Int, y_ = (([(wrap64 (97 + t142)) % 256, (wrap64 (97 + (Int.tmod (wrap64 (t144 + x7_1)) 26))) % 256, (wrap64 (97 + (Int.tmod (wrap64 (t146 + (wrap64 (x7_1 * x7_1)))) 26))) % 256] : List Int)) := ⟨_, rfl⟩
        replace H : ((spec_l1Rd_pick.f k1 t134 t147 3).bind fun bt151 => (if 0 ≤ (wrap64 (1 + (Int.tmod (wrap64 (x7_1 + bt151.1)) 3))) then (if (wrap64 (1 + (Int.tmod (wrap64 (x7_1 + bt151.1)) 3))) ≤ (y148.length : Int) then (if x5_1.length < 8796093022208 then (spec_DrawClash.l0 k1 (x5_1 ++ [strOfNums (y148.take ((wrap64 (1 + (Int.tmod (wrap64 (x7_1 + bt151.1)) 3))) : Int).toNat)]) (wrap64 (10 + t140)) (wrap64 (x7_1 + 1)) t134 bt151.2) else (none)) else (none)) else (none))) = some (r1, r2) := by first | (rw [hy148]; with_reducible exact H) | (have H2_ := (Option.bind_some _ _).symm.trans H; rw [hy148]; with_reducible exact H2_) | (have H2_ := (Option.bind_some _ _).symm.trans H; with_reducible exact H2_) | with_reducible exact H | (rw [hy148]; exact H) | exact H
        have Ny148 := Aside0.mk hy148
        clear hy148
        replace H := Option.bind_eq_some_iff.mp H
        obtain ⟨⟨t151, t152⟩, A120, H⟩ := H
        replace H : (if 0 ≤ (wrap64 (1 + (Int.tmod (wrap64 (x7_1 + t151)) 3))) then (if (wrap64 (1 + (Int.tmod (wrap64 (x7_1 + t151)) 3))) ≤ (y148.length : Int) then (if x5_1.length < 8796093022208 then (spec_DrawClash.l0 k1 (x5_1 ++ [strOfNums (y148.take ((wrap64 (1 + (Int.tmod (wrap64 (x7_1 + t151)) 3))) : Int).toNat)]) (wrap64 (10 + t140)) (wrap64 (x7_1 + 1)) t134 t152) else (none)) else (none)) else (none)) = some (r1, r2) := H
        have A12 := Aside0.mk A120
        clear A120
        obtain ⟨ji13, hji13⟩ : ∃ j_ : Int, (wrap64 (1 + (Int.tmod (wrap64 (x7_1 + t151)) 3))) = j_ := ⟨_, rfl⟩
        replace H : (if 0 ≤ (ji13) then (if (ji13) ≤ (y148.length : Int) then (if x5_1.length < 8796093022208 then (spec_DrawClash.l0 k1 (x5_1 ++ [strOfNums (y148.take ((ji13) : Int).toNat)]) (wrap64 (10 + t140)) (wrap64 (x7_1 + 1)) t134 t152) else (none)) else (none)) else (none)) = some (r1, r2) := by first | (rw [hji13] at H; exact H) | (simp only [hji13] at H ⊢; exact H)
        (try rw [hji13] at c8b0)
        (try rw [hji13] at A9)
        (try rw [hji13] at A10)
        (try rw [hji13] at A11)
        (try rw [hji13] at A12)
        have hji13w : (IntKind.i64.wrap (1 + (Int.tmod (wrap64 (x7_1 + t151)) 3))) = ji13 := (i64_w _).trans hji13
        by_cases c14 : 0 ≤ (ji13)
        · rw [if_pos c14] at H
          have c14b0 := eq_true c14
          have c14b1 : decide (0 ≤ (ji13)) = true := decide_eq_true c14
          clear c14
          by_cases c15 : (ji13) ≤ (y148.length : Int)
          · rw [if_pos c15] at H
            have c15b0 := eq_true c15
            have c15b1 : decide ((ji13) ≤ (y148.length : Int)) = true := decide_eq_true c15
            clear c15
            obtain ⟨y153, hy153⟩ : ∃ y_ : List Int, y_ = (y148.take ((ji13) : Int).toNat) := ⟨_, rfl⟩
            replace H : (if x5_1.length < 8796093022208 then (spec_DrawClash.l0 k1 (x5_1 ++ [strOfNums y153]) (wrap64 (10 + t140)) (wrap64 (x7_1 + 1)) t134 t152) else (none)) = some (r1, r2) := by first | (rw [hy153]; with_reducible exact H) | (have H2_ := (Option.bind_some _ _).symm.trans H; rw [hy153]; with_reducible exact H2_) | (have H2_ := (Option.bind_some _ _).symm.trans H; with_reducible exact H2_) | with_reducible exact H | (rw [hy153]; exact H) | exact H
            have Ny153 := Aside0.mk hy153
            clear hy153
            by_cases c16 : x5_1.length < 8796093022208
            · rw [if_pos c16] at H
              have LMc16 := Aside0.mk c16
              clear c16
              obtain ⟨y157, hy157⟩ : ∃ y_ : List ByteArray, y_ = (x5_1 ++ [strOfNums y153]) := ⟨_, rfl⟩
              replace H : (spec_DrawClash.l0 k1 y157 (wrap64 (10 + t140)) (wrap64 (x7_1 + 1)) t134 t152) = some (r1, r2) := by first | (rw [hy157]; with_reducible exact H) | (have H2_ := (Option.bind_some _ _).symm.trans H; rw [hy157]; with_reducible exact H2_) | (have H2_ := (Option.bind_some _ _).symm.trans H; with_reducible exact H2_) | with_reducible exact H | (rw [hy157]; exact H) | exact H
              have Ny157 := Aside0.mk hy157
              clear hy157
              have H' := Aside0.mk H
              clear H
              go_wp2_with (first | ((with_reducible refine gate_callee (f := 35) rfl ?_); refine goesL_ (some 21) rfl rfl Try.func35 (by kernel_rfl) rfl #[.pointer (some ⟨g136, 0, none⟩), .int .i64 26] rfl (by (try simp only [List.map_toArray, List.map_cons, List.map_nil]); first | done | rfl | (simp only [List.length_drop, List.length_take]; rfl)) ?_; (with_reducible refine (spec_l1Rd_pick.calls k1 g136 t134 x137001_1 26 t142 t143 w _ ?side1 ?side2 A9.out).mono ?_); (case side1 => repeat (first | (with_reducible first | exact HI136.out | apply IsS58.alloc | apply IsS58.drewN | apply IsS58.drew | apply IsS58.set_1) | exact HI136.out)); (case side2 => repeat (first | (with_reducible first | exact HB.out | apply below_alloc | apply pw_below_drewN | apply below_drew1 | refine below_set ?_ (IsS58.ge HI136.out)) | exact HB.out)); rintro e w17 ⟨rfl, hi, hb, hk⟩; refine ⟨_, rfl, ?_⟩; have n0_ := Aside0.mk (Kd.R_mono (Kd.R_keep (IsS58.apart (show IsS58 w _ g136 t134 x137001_1 from by repeat (first | (with_reducible first | exact HI136.out | apply IsS58.alloc | apply IsS58.drewN | apply IsS58.drew | apply IsS58.set_1) | exact HI136.out)) (by (with_reducible repeat (first | apply Kd.R_alloc | apply Kd.R_drewN | apply Kd.R_drew)); exact HO_5.out) (by decide)) hk (fun _ h => h.2)) (fun _ h => h.1)); have n1_ := Aside0.mk (hb); have n2_ := Aside0.mk (hi); clear HO_5; clear HB; clear HI136; have HO_5 := n0_; have HB := n1_; have HI136 := n2_; clear n0_ n1_ n2_; (try clear hb); (try clear hb2); (try clear hk); (try clear hi)) | ((with_reducible refine gate_callee (f := 35) rfl ?_); refine goesL_ (some 25) rfl rfl Try.func35 (by kernel_rfl) rfl #[.pointer (some ⟨g136, 0, none⟩), .int .i64 26] rfl (by (try simp only [List.map_toArray, List.map_cons, List.map_nil]); first | done | rfl | (simp only [List.length_drop, List.length_take]; rfl)) ?_; (with_reducible refine (spec_l1Rd_pick.calls k1 g136 t134 t143 26 t144 t145 w _ ?side1 ?side2 A10.out).mono ?_); (case side1 => repeat (first | (with_reducible first | exact HI136.out | apply IsS58.alloc | apply IsS58.drewN | apply IsS58.drew | apply IsS58.set_1) | exact HI136.out)); (case side2 => repeat (first | (with_reducible first | exact HB.out | apply below_alloc | apply pw_below_drewN | apply below_drew1 | refine below_set ?_ (IsS58.ge HI136.out)) | exact HB.out)); rintro e w18 ⟨rfl, hi, hb, hk⟩; refine ⟨_, rfl, ?_⟩; have n0_ := Aside0.mk (Kd.R_mono (Kd.R_keep (IsS58.apart (show IsS58 w _ g136 t134 t143 from by repeat (first | (with_reducible first | exact HI136.out | apply IsS58.alloc | apply IsS58.drewN | apply IsS58.drew | apply IsS58.set_1) | exact HI136.out)) (by (with_reducible repeat (first | apply Kd.R_alloc | apply Kd.R_drewN | apply Kd.R_drew)); exact HO_5.out) (by decide)) hk (fun _ h => h.2)) (fun _ h => h.1)); have n1_ := Aside0.mk (hb); have n2_ := Aside0.mk (hi); clear HO_5; clear HB; clear HI136; have HO_5 := n0_; have HB := n1_; have HI136 := n2_; clear n0_ n1_ n2_; (try clear hb); (try clear hb2); (try clear hk); (try clear hi)) | ((with_reducible refine gate_callee (f := 35) rfl ?_); refine goesL_ (some 32) rfl rfl Try.func35 (by kernel_rfl) rfl #[.pointer (some ⟨g136, 0, none⟩), .int .i64 26] rfl (by (try simp only [List.map_toArray, List.map_cons, List.map_nil]); first | done | rfl | (simp only [List.length_drop, List.length_take]; rfl)) ?_; (with_reducible refine (spec_l1Rd_pick.calls k1 g136 t134 t145 26 t146 t147 w _ ?side1 ?side2 A11.out).mono ?_); (case side1 => repeat (first | (with_reducible first | exact HI136.out | apply IsS58.alloc | apply IsS58.drewN | apply IsS58.drew | apply IsS58.set_1) | exact HI136.out)); (case side2 => repeat (first | (with_reducible first | exact HB.out | apply below_alloc | apply pw_below_drewN | apply below_drew1 | refine below_set ?_ (IsS58.ge HI136.out)) | exact HB.out)); rintro e w19 ⟨rfl, hi, hb, hk⟩; refine ⟨_, rfl, ?_⟩; have n0_ := Aside0.mk (Kd.R_mono (Kd.R_keep (IsS58.apart (show IsS58 w _ g136 t134 t145 from by repeat (first | (with_reducible first | exact HI136.out | apply IsS58.alloc | apply IsS58.drewN | apply IsS58.drew | apply IsS58.set_1) | exact HI136.out)) (by (with_reducible repeat (first | apply Kd.R_alloc | apply Kd.R_drewN | apply Kd.R_drew)); exact HO_5.out) (by decide)) hk (fun _ h => h.2)) (fun _ h => h.1)); have n1_ := Aside0.mk (hb); have n2_ := Aside0.mk (hi); clear HO_5; clear HB; clear HI136; have HO_5 := n0_; have HB := n1_; have HI136 := n2_; clear n0_ n1_ n2_; (try clear hb); (try clear hb2); (try clear hk); (try clear hi)) | ((with_reducible refine gate_dst (N := 40) rfl ?_); refine Kd.R_lit (Kd.int .u8) _ 5 ?hg (N := 40) ?hd (xs := ([(wrap64 (97 + t142)) % 256, (wrap64 (97 + (Int.tmod (wrap64 (t144 + x7_1)) 26))) % 256, (wrap64 (97 + (Int.tmod (wrap64 (t146 + (wrap64 (x7_1 * x7_1)))) 26))) % 256] : List Int)) (inner := [.int .u8 ((wrap64 (97 + t142)) % 256), .int .u8 ((wrap64 (97 + (Int.tmod (wrap64 (t144 + x7_1)) 26))) % 256), .int .u8 ((wrap64 (97 + (Int.tmod (wrap64 (t146 + (wrap64 (x7_1 * x7_1)))) 26))) % 256)]) (ok := fun _ => True) (okp := fun _ => True) ?hr ?hp (fun _ hk => hk) trivial (Below.refl _ _) (Nat.le_refl _) (by simp) ?_; (case hd => rfl); (case hg => rfl); (case hr => first | (go_simp; done) | (go_simp; rfl)); (case hp => exact (Reps.one (show Kd.M (Kd.int .u8) _ _ _ ((wrap64 (97 + t142)) % 256) [.int .u8 ((wrap64 (97 + t142)) % 256)] from rfl) (Reps.one (show Kd.M (Kd.int .u8) _ _ _ ((wrap64 (97 + (Int.tmod (wrap64 (t144 + x7_1)) 26))) % 256) [.int .u8 ((wrap64 (97 + (Int.tmod (wrap64 (t144 + x7_1)) 26))) % 256)] from rfl) (Reps.one (show Kd.M (Kd.int .u8) _ _ _ ((wrap64 (97 + (Int.tmod (wrap64 (t146 + (wrap64 (x7_1 * x7_1)))) 26))) % 256) [.int .u8 ((wrap64 (97 + (Int.tmod (wrap64 (t146 + (wrap64 (x7_1 * x7_1)))) 26))) % 256)] from rfl) (Reps.none _ _))))); intro v149 w20 ho21 hb hg_ hnew_; clear hg_ hnew_; (first | rw [← Ny148.out] at ho21 | (simp only [Int.reduceToNat] at ho21; rw [← Ny148.out] at ho21)); have n0_ := Aside0.mk (Kd.R_below (by (with_reducible repeat (first | apply Kd.R_alloc | apply Kd.R_drewN | apply Kd.R_drew)); exact HO_5.out) hb); have n1_ := Aside0.mk (Kd.R_lower ho21 (below_size (by repeat (first | (with_reducible first | exact HB.out | apply below_alloc | apply pw_below_drewN | apply below_drew1 | refine below_set ?_ (IsS58.ge HI136.out)) | exact HB.out)))); have n2_ := Aside0.mk (IsS58.below (by repeat (first | (with_reducible first | exact HI136.out | apply IsS58.alloc | apply IsS58.drewN | apply IsS58.drew | apply IsS58.set_1) | exact HI136.out)) hb); have n3_ := Aside0.mk (below_step (by repeat (first | (with_reducible first | exact HB.out | apply below_alloc | apply pw_below_drewN | apply below_drew1 | refine below_set ?_ (IsS58.ge HI136.out)) | exact HB.out)) hb); clear HO_5; clear HI136; clear HB; have HO_5 := n0_; have HO150 := n1_; have HI136 := n2_; have HB := n3_; clear n0_ n1_ n2_ n3_; clear hb ho21) | ((with_reducible refine gate_callee (f := 35) rfl ?_); refine goesL_ (some 43) rfl rfl Try.func35 (by kernel_rfl) rfl #[.pointer (some ⟨g136, 0, none⟩), .int .i64 3] rfl (by (try simp only [List.map_toArray, List.map_cons, List.map_nil]); first | done | rfl | (simp only [List.length_drop, List.length_take]; rfl)) ?_; (with_reducible refine (spec_l1Rd_pick.calls k1 g136 t134 t147 3 t151 t152 w _ ?side1 ?side2 A12.out).mono ?_); (case side1 => repeat (first | (with_reducible first | exact HI136.out | apply IsS58.alloc | apply IsS58.drewN | apply IsS58.drew | apply IsS58.set_1) | exact HI136.out)); (case side2 => repeat (first | (with_reducible first | exact HB.out | apply below_alloc | apply pw_below_drewN | apply below_drew1 | refine below_set ?_ (IsS58.ge HI136.out)) | exact HB.out)); rintro e w22 ⟨rfl, hi, hb, hk⟩; refine ⟨_, rfl, ?_⟩; have n0_ := Aside0.mk (Kd.R_mono (Kd.R_keep (IsS58.apart (show IsS58 w _ g136 t134 t147 from by repeat (first | (with_reducible first | exact HI136.out | apply IsS58.alloc | apply IsS58.drewN | apply IsS58.drew | apply IsS58.set_1) | exact HI136.out)) (by (with_reducible repeat (first | apply Kd.R_alloc | apply Kd.R_drewN | apply Kd.R_drew)); exact HO_5.out) (by decide)) hk (fun _ h => h.2)) (fun _ h => h.1)); have n1_ := Aside0.mk (Kd.R_mono (Kd.R_keep (IsS58.apart (show IsS58 w _ g136 t134 t147 from by repeat (first | (with_reducible first | exact HI136.out | apply IsS58.alloc | apply IsS58.drewN | apply IsS58.drew | apply IsS58.set_1) | exact HI136.out)) (by (with_reducible repeat (first | apply Kd.R_alloc | apply Kd.R_drewN | apply Kd.R_drew)); exact HO150.out) (by decide)) hk (fun _ h => h.2)) (fun _ h => h.1)); have n2_ := Aside0.mk (hb); have n3_ := Aside0.mk (hi); clear HO_5; clear HO150; clear HB; clear HI136; have HO_5 := n0_; have HO150 := n1_; have HB := n2_; have HI136 := n3_; clear n0_ n1_ n2_ n3_; (try clear hb); (try clear hb2); (try clear hk); (try clear hi); obtain ⟨Ao24, co24, eo24⟩ := Kd.R_slice HO150.out; subst eo24; have q23 : ((ji13) : Int) ≤ ((y148.length : Int) : Int) := of_decide_eq_true (by first | (with_reducible assumption) | assumption); obtain ⟨i023, hi023, _, hsz23, _⟩ := info_parts info5; have hroom23 : y148.length ≤ co24 := (Kd.R_reads' HO150.out).2.1; have hC23 : Kd.C (Kd.int .u8) _ Ao24 y148.length y148 := (Kd.R_reads' HO150.out).2.2; have hcut23 := cut_to (P := Try.prog) 36 5 .i64 Try.underlying36 hi023 Ao24 y148.length co24 (ji13) (of_decide_eq_true (by first | (with_reducible assumption) | assumption)) q23 hroom23; have hr23 := Kd.C_take (m := ((ji13) : Int).toNat) hC23 (by omega); have hy23 : y153.length = ((ji13) : Int).toNat := (by rw [Ny153.out, List.length_take]; omega); rw [← Ny153.out] at hr23; rw [← hy23] at hcut23; have HR156 := Aside0.mk hr23; have HC156 := Aside0.mk (show y153.length ≤ co24 from by omega); clear hr23 hC23 hroom23 hi023 hsz23; have KY23 := Aside0.mk hy23; clear hy23; have KL23 := Aside0.mk (show ((ji13) : Int).toNat ≤ y148.length from by omega); replace q23 := eq_true q23; have hcv25 := Kd.C_string (P := Try.prog) (A := Ao24) (c := co24) Try.underlying36 Try.underlying5 Try.underlying9 (by repeat (first | (with_reducible exact HR156.out) | (with_reducible refine Kd.C_alloc ?_ _) | (with_reducible refine Kd.C_drewN ?_ _) | (with_reducible refine Kd.C_drew ?_) | exact HR156.out))) | ((with_reducible refine gate_builtin (b := .append) (xs := #[.tmp 19, .tmp 49]) rfl ?_); at_builtin; refine Kd.R_append Kd.string (w0 := w) w.heap.size rfl (.tmp 19) (.tmp 49) 27 9 (.string ⟨#[]⟩) 16 rfl Try.underlying27 info9 rfl (by decide) (by omega) u5 x5_1 (strOfNums y153) [.string (strOfNums y153)] (fun _ => True) (fun _ => False) rfl rfl ?aP (fun _ hk => hk.elim) ?aF ?aO ?aB ?aS ?aL ?_; (case aP => exact rfl); (case aB => exact (by repeat (first | (with_reducible first | exact HB.out | apply below_alloc | apply pw_below_drewN | apply below_drew1 | refine below_set ?_ (IsS58.ge HI136.out)) | exact HB.out))); (case aF => exact (fun _ _ => trivial)); (case aO => exact (by (with_reducible repeat (first | apply Kd.R_alloc | apply Kd.R_drewN | apply Kd.R_drew)); exact HO_5.out)); (case aS => exact (below_size (by repeat (first | (with_reducible first | exact HB.out | apply below_alloc | apply pw_below_drewN | apply below_drew1 | refine below_set ?_ (IsS58.ge HI136.out)) | exact HB.out)))); (case aL => have := LMc16.out; omega); intro v158 w26 ho hb hg hat; rw [← Ny157.out] at ho; have n0_ := Aside0.mk (IsS58.grown (by repeat (first | (with_reducible first | exact HI136.out | apply IsS58.alloc | apply IsS58.drewN | apply IsS58.drew | apply IsS58.set_1) | exact HI136.out)) hg (IsS58.own_ne HI136.out HO_5.out (by decide))); have n1_ := Aside0.mk (Kd.R_over' (by (with_reducible repeat (first | apply Kd.R_alloc | apply Kd.R_drewN | apply Kd.R_drew)); exact HO150.out) (Kd.R_typed (by (with_reducible repeat (first | apply Kd.R_alloc | apply Kd.R_drewN | apply Kd.R_drew)); exact HO_5.out)) (by decide) hg); have n2_ := Aside0.mk (hb); have n3_ := Aside0.mk ((show Kd.C (Kd.int .u8) w26 Ao24 y153.length y153 from by rw [Ny153.out]; exact Kd.C_take (m := ((ji13) : Int).toNat) ((Kd.R_reads' (Kd.R_over' (by (with_reducible repeat (first | apply Kd.R_alloc | apply Kd.R_drewN | apply Kd.R_drew)); exact HO150.out) (Kd.R_typed (by (with_reducible repeat (first | apply Kd.R_alloc | apply Kd.R_drewN | apply Kd.R_drew)); exact HO_5.out)) (by decide) hg)).2.2) KL23.out)); have n4_ := Aside0.mk (ho); clear HI136; clear HO150; clear HB; clear HR156; clear HO_5; have HI136 := n0_; have HO150 := n1_; have HB := n2_; have HR156 := n3_; have HO159 := n4_; clear n0_ n1_ n2_ n3_ n4_; clear ho hb hg hat))
              go_roundg k1
              case measure => have := HK1.out; omega
              case rel => exact ⟨(y157), (wrap64 (x7_1 + 1)), (t152), (by first | rfl | (simp; done) | (simp [*]; done)), H', ⟨by have := HK1.out; omega⟩, ⟨by (with_reducible repeat (first | apply Kd.R_alloc | apply Kd.R_drewN | apply Kd.R_drew)); exact HO159.out⟩, ⟨by repeat (first | (with_reducible first | exact HI136.out | apply IsS58.alloc | apply IsS58.drewN | apply IsS58.drew | apply IsS58.set_1) | exact HI136.out)⟩, ⟨by repeat (first | (with_reducible first | exact HB.out | apply below_alloc | apply pw_below_drewN | apply below_drew1 | refine below_set ?_ (IsS58.ge HI136.out)) | exact HB.out)⟩⟩
            · rw [if_neg c16] at H
              exact absurd H (by simp)
          · rw [if_neg c15] at H
            exact absurd H (by simp)
        · rw [if_neg c14] at H
          exact absurd H (by simp)
      · rw [if_neg c8] at H
        have c8b0 : decide (x7_1 < (wrap64 (10 + t140))) = false := decide_eq_false c8
        clear c8
        replace H := Option.bind_eq_some_iff.mp H
        obtain ⟨⟨t160, t161⟩, A270, H⟩ := H
        replace H : (if t160 = 0 then (spec_DrawClash.l1 k1 x5_1 t134 t161) else (if t160 = 1 then ((some (([0, 9] : List Int) : List Int)).bind fun y173 => ((spec_l1Rd_pick.f k1 t134 t161 2).bind fun bt176 => (if 0 ≤ bt176.1 then (if bt176.1 < (y173.length : Int) then (some (x5_1, rd y173 bt176.1)) else (none)) else (none)))) else ((some (([1, 1, 1, 2, 8] : List Int) : List Int)).bind fun y179 => ((spec_l1Rd_pick.f k1 t134 t161 5).bind fun bt182 => (if 0 ≤ bt182.1 then (if bt182.1 < (y179.length : Int) then (some (x5_1, rd y179 bt182.1)) else (none)) else (none)))))) = some (r1, r2) := H
        have A27 := Aside0.mk A270
        clear A270
        by_cases c28 : t160 = 0
        · rw [if_pos c28] at H
          have c28b0 : (t160 == 0) = true := beq_iff_eq.mpr c28
          have c28b1 : (t160 != 0) = false := bne_eq_false_iff_eq.mpr c28
          clear c28
          have H' := Aside0.mk H
          clear H
          go_wp2_with (first | ((with_reducible refine gate_callee (f := 35) rfl ?_); refine goesL_ (some 52) rfl rfl Try.func35 (by kernel_rfl) rfl #[.pointer (some ⟨g136, 0, none⟩), .int .i64 24] rfl (by (try simp only [List.map_toArray, List.map_cons, List.map_nil]); first | done | rfl | (simp only [List.length_drop, List.length_take]; rfl)) ?_; (with_reducible refine (spec_l1Rd_pick.calls k1 g136 t134 x137001_1 24 t160 t161 w _ ?side1 ?side2 A27.out).mono ?_); (case side1 => repeat (first | (with_reducible first | exact HI136.out | apply IsS58.alloc | apply IsS58.drewN | apply IsS58.drew | apply IsS58.set_1) | exact HI136.out)); (case side2 => repeat (first | (with_reducible first | exact HB.out | apply below_alloc | apply pw_below_drewN | apply below_drew1 | refine below_set ?_ (IsS58.ge HI136.out)) | exact HB.out)); rintro e w29 ⟨rfl, hi, hb, hk⟩; refine ⟨_, rfl, ?_⟩; have n0_ := Aside0.mk (Kd.R_mono (Kd.R_keep (IsS58.apart (show IsS58 w _ g136 t134 x137001_1 from by repeat (first | (with_reducible first | exact HI136.out | apply IsS58.alloc | apply IsS58.drewN | apply IsS58.drew | apply IsS58.set_1) | exact HI136.out)) (by (with_reducible repeat (first | apply Kd.R_alloc | apply Kd.R_drewN | apply Kd.R_drew)); exact HO_5.out) (by decide)) hk (fun _ h => h.2)) (fun _ h => h.1)); have n1_ := Aside0.mk (hb); have n2_ := Aside0.mk (hi); clear HO_5; clear HB; clear HI136; have HO_5 := n0_; have HB := n1_; have HI136 := n2_; clear n0_ n1_ n2_; (try clear hb); (try clear hb2); (try clear hk); (try clear hi)))
          go_loopg [5] k1 (fun kq v5 w' => ∃ (x5_2 : List ByteArray) (x137001_2 : Int), Aside0 (spec_DrawClash.l1 kq x5_2 t134 x137001_2 = some (r1, r2)) ∧ Aside0 (kq ≤ k1) ∧ Aside0 (Kd.R Kd.string 9 w' w.heap.size (fun _ => True) v5 x5_2) ∧ Aside0 (IsS58 w w' g136 t134 x137001_2) ∧ Aside0 (Below w.heap.size w w'))
          case atStart => exact ⟨(x5_1), (t161), H', ⟨Nat.le_refl _⟩, ⟨by (with_reducible repeat (first | apply Kd.R_alloc | apply Kd.R_drewN | apply Kd.R_drew)); exact HO_5.out⟩, ⟨by repeat (first | (with_reducible first | exact HI136.out | apply IsS58.alloc | apply IsS58.drewN | apply IsS58.drew | apply IsS58.set_1) | exact HI136.out)⟩, ⟨by repeat (first | (with_reducible first | exact HB.out | apply below_alloc | apply pw_below_drewN | apply below_drew1 | refine below_set ?_ (IsS58.ge HI136.out)) | exact HB.out)⟩⟩
          case round =>
            clear H'
            try clear c1
            try clear c2
            try clear p2
            try clear q2
            try clear hcv2
            try clear c3
            try clear p6
            try clear c8
            try clear c8b0
            try clear c14
            try clear c14b0
            try clear c14b1
            try clear c15
            try clear c15b0
            try clear c15b1
            try clear c16
            try clear c23
            try clear q23
            try clear hcv25
            try clear c28
            try clear c28b0
            try clear c28b1
            try clear p2
            try clear p6
            try clear q23
            obtain ⟨x5_2, x137001_2, HA, HK2, HO_5, HI136, HB⟩ := hrel
            cases gk with
            | zero => exact absurd HA.out (by simp [spec_DrawClash.l1])
            | succ k2 =>
              have H := HA.out
              clear HA
              simp only [spec_DrawClash.l1] at H
              replace H := Option.bind_eq_some_iff.mp H
              obtain ⟨⟨t162, t163⟩, A300, H⟩ := H
              replace H : (if (x5_2.length : Int) < (wrap64 (2000 + t162)) then (if x5_2.length < 8796093022208 then (spec_DrawClash.l1 k2 (x5_2 ++ [(⟨#[115, 97, 109, 101]⟩ : ByteArray)]) t134 t163) else (none)) else ((some (([1, 1, 1, 2, 8] : List Int) : List Int)).bind fun y167 => ((spec_l1Rd_pick.f k2 t134 t163 5).bind fun bt170 => (if 0 ≤ bt170.1 then (if bt170.1 < (y167.length : Int) then (some (x5_2, rd y167 bt170.1)) else (none)) else (none))))) = some (r1, r2) := H
              have A30 := Aside0.mk A300
              clear A300
              by_cases c31 : (x5_2.length : Int) < (wrap64 (2000 + t162))
              · rw [if_pos c31] at H
                have c31b0 : decide ((x5_2.length : Int) < (wrap64 (2000 + t162))) = true := decide_eq_true c31
                clear c31
                by_cases c32 : x5_2.length < 8796093022208
                · rw [if_pos c32] at H
                  have LMc32 := Aside0.mk c32
                  clear c32
                  obtain ⟨y164, hy164⟩ : ∃ y_ : List ByteArray, y_ = (x5_2 ++ [(⟨#[115, 97, 109, 101]⟩ : ByteArray)]) := ⟨_, rfl⟩
                  replace H : (spec_DrawClash.l1 k2 y164 t134 t163) = some (r1, r2) := by first | (rw [hy164]; with_reducible exact H) | (have H2_ := (Option.bind_some _ _).symm.trans H; rw [hy164]; with_reducible exact H2_) | (have H2_ := (Option.bind_some _ _).symm.trans H; with_reducible exact H2_) | with_reducible exact H | (rw [hy164]; exact H) | exact H
                  have Ny164 := Aside0.mk hy164
                  clear hy164
                  have H' := Aside0.mk H
                  clear H
                  obtain ⟨Ao33, co33, eo33⟩ := Kd.R_slice HO_5.out
                  subst eo33
                  go_wp2_with (first | ((with_reducible refine gate_callee (f := 35) rfl ?_); refine goesL_ (some 58) rfl rfl Try.func35 (by kernel_rfl) rfl #[.pointer (some ⟨g136, 0, none⟩), .int .i64 2] rfl (by (try simp only [List.map_toArray, List.map_cons, List.map_nil]); first | done | rfl | (simp only [List.length_drop, List.length_take]; rfl)) ?_; (with_reducible refine (spec_l1Rd_pick.calls k2 g136 t134 x137001_2 2 t162 t163 w _ ?side1 ?side2 A30.out).mono ?_); (case side1 => repeat (first | (with_reducible first | exact HI136.out | apply IsS58.alloc | apply IsS58.drewN | apply IsS58.drew | apply IsS58.set_1) | exact HI136.out)); (case side2 => repeat (first | (with_reducible first | exact HB.out | apply below_alloc | apply pw_below_drewN | apply below_drew1 | refine below_set ?_ (IsS58.ge HI136.out)) | exact HB.out)); rintro e w34 ⟨rfl, hi, hb, hk⟩; refine ⟨_, rfl, ?_⟩; have n0_ := Aside0.mk (Kd.R_mono (Kd.R_keep (IsS58.apart (show IsS58 w _ g136 t134 x137001_2 from by repeat (first | (with_reducible first | exact HI136.out | apply IsS58.alloc | apply IsS58.drewN | apply IsS58.drew | apply IsS58.set_1) | exact HI136.out)) (by (with_reducible repeat (first | apply Kd.R_alloc | apply Kd.R_drewN | apply Kd.R_drew)); exact HO_5.out) (by decide)) hk (fun _ h => h.2)) (fun _ h => h.1)); have n1_ := Aside0.mk (hb); have n2_ := Aside0.mk (hi); clear HO_5; clear HB; clear HI136; have HO_5 := n0_; have HB := n1_; have HI136 := n2_; clear n0_ n1_ n2_; (try clear hb); (try clear hb2); (try clear hk); (try clear hi)) | ((with_reducible refine gate_builtin (b := .append) (xs := #[.tmp 61, .tmp 62]) rfl ?_); at_builtin; refine Kd.R_append Kd.string (w0 := w) w.heap.size rfl (.tmp 61) (.tmp 62) 27 9 (.string ⟨#[]⟩) 16 rfl Try.underlying27 info9 rfl (by decide) (by omega) (.slice Ao33 x5_2.length co33) x5_2 (⟨#[115, 97, 109, 101]⟩ : ByteArray) [.string (⟨#[115, 97, 109, 101]⟩ : ByteArray)] (fun _ => True) (fun _ => False) rfl rfl ?aP (fun _ hk => hk.elim) ?aF ?aO ?aB ?aS ?aL ?_; (case aP => exact rfl); (case aB => exact (by repeat (first | (with_reducible first | exact HB.out | apply below_alloc | apply pw_below_drewN | apply below_drew1 | refine below_set ?_ (IsS58.ge HI136.out)) | exact HB.out))); (case aF => exact (fun _ _ => trivial)); (case aO => exact (by (with_reducible repeat (first | apply Kd.R_alloc | apply Kd.R_drewN | apply Kd.R_drew)); exact HO_5.out)); (case aS => exact (below_size (by repeat (first | (with_reducible first | exact HB.out | apply below_alloc | apply pw_below_drewN | apply below_drew1 | refine below_set ?_ (IsS58.ge HI136.out)) | exact HB.out)))); (case aL => have := LMc32.out; omega); intro v165 w35 ho hb hg hat; rw [← Ny164.out] at ho; have n0_ := Aside0.mk (IsS58.grown (by repeat (first | (with_reducible first | exact HI136.out | apply IsS58.alloc | apply IsS58.drewN | apply IsS58.drew | apply IsS58.set_1) | exact HI136.out)) hg (IsS58.own_ne HI136.out HO_5.out (by decide))); have n1_ := Aside0.mk (hb); have n2_ := Aside0.mk (ho); clear HI136; clear HB; clear HO_5; have HI136 := n0_; have HB := n1_; have HO166 := n2_; clear n0_ n1_ n2_; clear ho hb hg hat))
                  go_roundg k2
                  case measure => have := HK1.out; have := HK2.out; omega
                  case rel => exact ⟨(y164), (t163), H', ⟨by have := HK1.out; have := HK2.out; omega⟩, ⟨by (with_reducible repeat (first | apply Kd.R_alloc | apply Kd.R_drewN | apply Kd.R_drew)); exact HO166.out⟩, ⟨by repeat (first | (with_reducible first | exact HI136.out | apply IsS58.alloc | apply IsS58.drewN | apply IsS58.drew | apply IsS58.set_1) | exact HI136.out)⟩, ⟨by repeat (first | (with_reducible first | exact HB.out | apply below_alloc | apply pw_below_drewN | apply below_drew1 | refine below_set ?_ (IsS58.ge HI136.out)) | exact HB.out)⟩⟩
                · rw [if_neg c32] at H
                  exact absurd H (by simp)
              · rw [if_neg c31] at H
                have c31b0 : decide ((x5_2.length : Int) < (wrap64 (2000 + t162))) = false := decide_eq_false c31
                clear c31
                obtain ⟨y167, hy167⟩ : ∃ y_ : List Int, y_ = (([1, 1, 1, 2, 8] : List Int)) := ⟨_, rfl⟩
                replace H : ((spec_l1Rd_pick.f k2 t134 t163 5).bind fun bt170 => (if 0 ≤ bt170.1 then (if bt170.1 < (y167.length : Int) then (some (x5_2, rd y167 bt170.1)) else (none)) else (none))) = some (r1, r2) := by first | (rw [hy167]; with_reducible exact H) | (have H2_ := (Option.bind_some _ _).symm.trans H; rw [hy167]; with_reducible exact H2_) | (have H2_ := (Option.bind_some _ _).symm.trans H; with_reducible exact H2_) | with_reducible exact H | (rw [hy167]; exact H) | exact H
                have Ny167 := Aside0.mk hy167
                clear hy167
                replace H := Option.bind_eq_some_iff.mp H
                obtain ⟨⟨t170, t171⟩, A360, H⟩ := H
                replace H : (if 0 ≤ t170 then (if t170 < (y167.length : Int) then (some (x5_2, rd y167 t170)) else (none)) else (none)) = some (r1, r2) := H
                have A36 := Aside0.mk A360
                clear A360
                by_cases c37 : 0 ≤ t170
                · rw [if_pos c37] at H
                  have c37b0 : decide (0 ≤ t170) = true := decide_eq_true c37
                  clear c37
                  by_cases c38 : t170 < (y167.length : Int)
                  · rw [if_pos c38] at H
                    have c38b0 : decide (t170 < (y167.length : Int)) = true := decide_eq_true c38
                    clear c38
                    simp only [Option.some.injEq, Prod.mk.injEq] at H
                    obtain ⟨rfl, rfl⟩ := H
                    obtain ⟨Ao39, co39, eo39⟩ := Kd.R_slice HO_5.out
                    subst eo39
                    try go_wp2_with (first | ((with_reducible refine gate_callee (f := 35) rfl ?_); refine goesL_ (some 58) rfl rfl Try.func35 (by kernel_rfl) rfl #[.pointer (some ⟨g136, 0, none⟩), .int .i64 2] rfl (by (try simp only [List.map_toArray, List.map_cons, List.map_nil]); first | done | rfl | (simp only [List.length_drop, List.length_take]; rfl)) ?_; (with_reducible refine (spec_l1Rd_pick.calls k2 g136 t134 x137001_2 2 t162 t163 w _ ?side1 ?side2 A30.out).mono ?_); (case side1 => repeat (first | (with_reducible first | exact HI136.out | apply IsS58.alloc | apply IsS58.drewN | apply IsS58.drew | apply IsS58.set_1) | exact HI136.out)); (case side2 => repeat (first | (with_reducible first | exact HB.out | apply below_alloc | apply pw_below_drewN | apply below_drew1 | refine below_set ?_ (IsS58.ge HI136.out)) | exact HB.out)); rintro e w40 ⟨rfl, hi, hb, hk⟩; refine ⟨_, rfl, ?_⟩; have n0_ := Aside0.mk (Kd.R_mono (Kd.R_keep (IsS58.apart (show IsS58 w _ g136 t134 x137001_2 from by repeat (first | (with_reducible first | exact HI136.out | apply IsS58.alloc | apply IsS58.drewN | apply IsS58.drew | apply IsS58.set_1) | exact HI136.out)) (by (with_reducible repeat (first | apply Kd.R_alloc | apply Kd.R_drewN | apply Kd.R_drew)); exact HO_5.out) (by decide)) hk (fun _ h => h.2)) (fun _ h => h.1)); have n1_ := Aside0.mk (hb); have n2_ := Aside0.mk (hi); clear HO_5; clear HB; clear HI136; have HO_5 := n0_; have HB := n1_; have HI136 := n2_; clear n0_ n1_ n2_; (try clear hb); (try clear hb2); (try clear hk); (try clear hi)))
                    have pi172 : (0 ≤ (t170 : Int)) = True := eq_true (of_decide_eq_true (by first | (with_reducible assumption) | assumption))
                    have qi172 : (t170 < (y167.length : Int)) = True := eq_true (of_decide_eq_true (by first | (with_reducible assumption) | assumption))
                    have n0_ := Aside0.mk (Kd.R_drew HO_5.out)
                    have n1_ := Aside0.mk (IsS58.drew HI136.out)
                    have n2_ := Aside0.mk (below_drew1 HB.out)
                    clear HO_5
                    clear HI136
                    clear HB
                    have HO_5 := n0_
                    have HI136 := n1_
                    have HB := n2_
                    clear n0_ n1_ n2_
                    refine start_ (n := 8) (S := fun w' => True) (ds := []) #[false, false, false, false, false, false, false, false] (by kernel_rfl) rfl rfl trivial (fun hHeld => ?_); refine with_tabW spec_DrawClash.tab14 spec_DrawClash.bits14 (fun HT_ HW_ => ?_)
                    generalize w40.drew = w41 at HO_5 HI136 HB hHeld ⊢
                    refine pure_ (i := 0) (N := some 72) (v := ?_) (a' := ?_) #[true, false, false, false, false, false, false, false] rfl rfl (any_of HT_.out (by kernel_rfl)) (fun _ _ _ h => h) (Or.inl ⟨by rfl, ?_⟩) ?_ ?_
                    rotate_left
                    · intro w'
                      go_simp
                      with_reducible rfl
                    rotate_left
                    · simp only [Act.put, List.setIfInBounds_toArray, List.set_cons_zero, List.set_cons_succ, i64_w, i32_w]
                      rfl
                    refine pure_ (i := 2) (N := some 74) (v := ?_) (a' := ?_) #[true, false, true, false, false, false, false, false] rfl rfl (any_of HT_.out (by kernel_rfl)) (fun _ _ _ h => h) (Or.inl ⟨by rfl, ?_⟩) ?_ ?_
                    rotate_left
                    · intro w'
                      go_simp
                      with_reducible rfl
                    rotate_left
                    · simp only [Act.put, List.setIfInBounds_toArray, List.set_cons_zero, List.set_cons_succ, i64_w, i32_w]
                      rfl
                    refine inv_at [1, 3, 4, 5, 6, 7] (fun a0_ b a w' => ∃ (v168 : Value) (adz_v168 : Addr) (m4_ : Value), a = putSel a0_ b [(1, 73, v168), (3, 75, .int .i64 t170), (4, 76, m4_), (5, 77, .int .i64 (rd y167 t170)), (6, 2, .slice Ao39 x5_2.length co39), (7, 3, .int .i64 (rd y167 t170))] ∧ (Kd.R Kd.string 9 w' w.heap.size (fun _ => True) (.slice Ao39 x5_2.length co39) x5_2) ∧ (b 3 = false → IsS58 w w' g136 t134 t163) ∧ (Below w.heap.size w w') ∧ (b 1 = true → Kd.R (Kd.int .i64) 3 w' w.heap.size (fun _ => True) v168 y167) ∧ (b 1 = true → ∃ c_, (v168 : Value) = .slice (some adz_v168) y167.length c_) ∧ (b 3 = true → IsS58 w w' g136 t134 t171) ∧ (b 4 = true → (m4_ : Value) = .pointer (some (adz_v168.add (t170).toNat)))) HT_.out HW_.out (by kernel_rfl) (by kernel_rfl) ?_ ?_ ?_
                    · exact ⟨.bool false, ⟨0, 0, none⟩, .bool false, by simp only [putSel, Bool.false_eq_true, if_false], HO_5.out, fun _ => HI136.out, HB.out, fun h_ => absurd h_ (by decide), fun h_ => absurd h_ (by decide), fun h_ => absurd h_ (by decide), fun h_ => absurd h_ (by decide)⟩
                    · skip
                      clear HB HI136 HO_5
                      refine steps_cons ?_ ?_
                      · rintro b a w' ⟨v168, adz_v168, m4_, ha, Q_HO_5, Q_HI136, Q_HB, Q_HO169, Q_HA_HO169, Q_HI136_e3, Q_X4_⟩ hb_ hon hoff
                        refine ⟨_, rfl, fun K hK => ?_⟩
                        replace ha := Aside0.mk ha
                        have HO_5 := Aside0.mk Q_HO_5
                        have HB := Aside0.mk Q_HB
                        refine Kd.R_lit_step (Kd.int .i64) _ 3 ?hg (N := 73) ?hd (xs := ([1, 1, 1, 2, 8] : List Int)) (inner := [.int .i64 1, .int .i64 1, .int .i64 1, .int .i64 2, .int .i64 8]) (ok := fun _ => True) (okp := fun _ => True) ?hr ?hp (fun _ hk => hk) trivial (Below.refl _ _) (Nat.le_refl _) (by simp) ?_; (case hd => rfl); (case hg => rfl); (case hr => first | (go_simp; done) | (go_simp; rfl)); (case hp => exact (Reps.one (show Kd.M (Kd.int .i64) _ _ _ 1 [.int .i64 1] from rfl) (Reps.one (show Kd.M (Kd.int .i64) _ _ _ 1 [.int .i64 1] from rfl) (Reps.one (show Kd.M (Kd.int .i64) _ _ _ 1 [.int .i64 1] from rfl) (Reps.one (show Kd.M (Kd.int .i64) _ _ _ 2 [.int .i64 2] from rfl) (Reps.one (show Kd.M (Kd.int .i64) _ _ _ 8 [.int .i64 8] from rfl) (Reps.none _ _)))))))
                        intro v168 w42 ho43 hb hg_ hnew_
                        clear hg_ hnew_
                        (first | rw [← Ny167.out] at ho43 | (simp only [Int.reduceToNat] at ho43; rw [← Ny167.out] at ho43))
                        have n0_ := Aside0.mk (Kd.R_below (by (with_reducible repeat (first | apply Kd.R_alloc | apply Kd.R_drewN | apply Kd.R_drew)); exact HO_5.out) hb)
                        have n1_ := Aside0.mk (Kd.R_lower ho43 (below_size (by repeat (first | (with_reducible first | exact HB.out | apply below_alloc | apply pw_below_drewN | apply below_drew1) | exact HB.out))))
                        have n3_ := Aside0.mk (below_step (by repeat (first | (with_reducible first | exact HB.out | apply below_alloc | apply pw_below_drewN | apply below_drew1) | exact HB.out)) hb)
                        have z_HI136 := fun (h0_ : b 3 = false) => (show IsS58 w w42 g136 t134 t163 from by first | exact (IsS58.below (by repeat (first | (with_reducible first | exact (Q_HI136 h0_) | apply IsS58.alloc | apply IsS58.drewN | apply IsS58.drew | apply IsS58.set_1) | exact (Q_HI136 h0_))) hb))
                        have z_HI136_e3 := fun (h0_ : b 3 = true) => (show IsS58 w w42 g136 t134 t171 from by first | exact (IsS58.below (by repeat (first | (with_reducible first | exact (Q_HI136_e3 h0_) | apply IsS58.alloc | apply IsS58.drewN | apply IsS58.drew | apply IsS58.set_1) | exact (Q_HI136_e3 h0_))) hb))
                        clear HO_5
                        clear HB
                        have HO_5 := n0_
                        have HO169 := n1_
                        have HB := n3_
                        clear n0_ n1_ n3_
                        clear hb ho43
                        obtain ⟨Ao44, co44, eo44⟩ := Kd.R_slice HO169.out
                        subst eo44
                        obtain ⟨ado44, fo44, _⟩ := Kd.at_int (Kd.R_reads' HO169.out).2.2 0 (by decide) (by rw [Ny167.out]; simp)
                        cases fo44
                        refine hK.out _ _ ⟨.slice (some ado44) y167.length co44, ado44, m4_, (by rw [ha.out]; exact putSel_upk 0 hb_ rfl rfl rfl), (by (with_reducible repeat (first | apply Kd.R_alloc | apply Kd.R_drewN | apply Kd.R_drew)); exact HO_5.out), z_HI136, (by repeat (first | (with_reducible first | exact HB.out | apply below_alloc | apply pw_below_drewN | apply below_drew1) | exact HB.out)), fun _ => (by (with_reducible repeat (first | apply Kd.R_alloc | apply Kd.R_drewN | apply Kd.R_drew)); exact HO169.out), fun _ => ⟨_, rfl⟩, z_HI136_e3, fun h0_ => absurd ((hoff 4 (by kernel_rfl)).symm.trans h0_) (by decide)⟩
                      refine steps_cons ?_ ?_
                      · rintro b a w' ⟨v168, adz_v168, m4_, ha, Q_HO_5, Q_HI136, Q_HB, Q_HO169, Q_HA_HO169, Q_HI136_e3, Q_X4_⟩ hb_ hon hoff
                        refine ⟨_, rfl, fun K hK => ?_⟩
                        have e74 : a.tmps[74]? = some (.pointer (some ⟨g136, 0, none⟩)) := by rw [ha]; exact (putSel_off rfl).trans rfl
                        replace ha := Aside0.mk ha
                        have HO_5 := Aside0.mk Q_HO_5
                        have HI136 := Aside0.mk (Q_HI136 hb_)
                        have HB := Aside0.mk Q_HB
                        refine goes_ Try.func35 (by kernel_rfl) rfl #[.pointer (some ⟨g136, 0, none⟩), .int .i64 5] (by rfl) rfl rfl (by first | (simp only [List.map_toArray, List.map_cons, List.map_nil, Act.eval, Array.getD_eq_getD_getElem?, Option.getD_some, e74]; done) | (simp only [List.map_toArray, List.map_cons, List.map_nil, Act.eval, Array.getD_eq_getD_getElem?, Option.getD_some, e74]; rfl)) ?_
                        with_reducible refine (spec_l1Rd_pick.calls k2 g136 t134 t163 5 t170 t171 w _ ?side1 ?side2 A36.out).mono ?_
                        (case side1 => repeat (first | (with_reducible first | exact HI136.out | apply IsS58.alloc | apply IsS58.drewN | apply IsS58.drew | apply IsS58.set_1) | exact HI136.out))
                        (case side2 => repeat (first | (with_reducible first | exact HB.out | apply below_alloc | apply pw_below_drewN | apply below_drew1 | refine below_set ?_ (IsS58.ge HI136.out)) | exact HB.out))
                        rintro e w42 ⟨rfl, hi, hb, hk⟩
                        refine ⟨_, rfl, ?_⟩
                        have n0_ := Aside0.mk (Kd.R_mono (Kd.R_keep (IsS58.apart (show IsS58 w _ g136 t134 t163 from by repeat (first | (with_reducible first | exact HI136.out | apply IsS58.alloc | apply IsS58.drewN | apply IsS58.drew | apply IsS58.set_1) | exact HI136.out)) (by (with_reducible repeat (first | apply Kd.R_alloc | apply Kd.R_drewN | apply Kd.R_drew)); exact HO_5.out) (by decide)) hk (fun _ h => h.2)) (fun _ h => h.1))
                        have n1_ := Aside0.mk (hb)
                        have n2_ := Aside0.mk (hi)
                        have z_HO169 := fun (h0_ : b 1 = true) => (show Kd.R (Kd.int .i64) 3 w42 w.heap.size (fun _ => True) v168 y167 from by first | exact (Kd.R_mono (Kd.R_keep (IsS58.apart (show IsS58 w _ g136 t134 t163 from by repeat (first | (with_reducible first | exact HI136.out | apply IsS58.alloc | apply IsS58.drewN | apply IsS58.drew | apply IsS58.set_1) | exact HI136.out)) (by (with_reducible repeat (first | apply Kd.R_alloc | apply Kd.R_drewN | apply Kd.R_drew)); exact (Q_HO169 h0_)) (by decide)) hk (fun _ h => h.2)) (fun _ h => h.1)) | exact Kd.R_mono (Kd.R_mono (Kd.R_keep (IsS58.apart (show IsS58 w _ g136 t134 t163 from by repeat (first | (with_reducible first | exact HI136.out | apply IsS58.alloc | apply IsS58.drewN | apply IsS58.drew | apply IsS58.set_1) | exact HI136.out)) (by (with_reducible repeat (first | apply Kd.R_alloc | apply Kd.R_drewN | apply Kd.R_drew)); exact (Q_HO169 h0_)) (by decide)) hk (fun _ h => h.2)) (fun _ h => h.1)) (fun _ h_ => by first | trivial | exact h_ | exact h_.1))
                        clear HO_5
                        clear HB
                        clear HI136
                        have HO_5 := n0_
                        have HB := n1_
                        have HI136 := n2_
                        clear n0_ n1_ n2_
                        (try clear hb)
                        (try clear hb2)
                        (try clear hk)
                        (try clear hi)
                        refine hK.out _ _ ⟨v168, adz_v168, m4_, (by rw [ha.out]; exact putSel_upk 1 hb_ rfl rfl rfl), (by (with_reducible repeat (first | apply Kd.R_alloc | apply Kd.R_drewN | apply Kd.R_drew)); exact HO_5.out), fun h0_ => absurd ((up_self b 3).symm.trans h0_) (by decide), (by repeat (first | (with_reducible first | exact HB.out | apply below_alloc | apply pw_below_drewN | apply below_drew1 | refine below_set ?_ (IsS58.ge HI136.out)) | exact HB.out)), z_HO169, Q_HA_HO169, fun _ => (by repeat (first | (with_reducible first | exact HI136.out | apply IsS58.alloc | apply IsS58.drewN | apply IsS58.drew | apply IsS58.set_1) | exact HI136.out)), fun h0_ => absurd ((hoff 4 (by kernel_rfl)).symm.trans h0_) (by decide)⟩
                      refine steps_cons ?_ ?_
                      · rintro b a w' ⟨v168, adz_v168, m4_, ha, Q_HO_5, Q_HI136, Q_HB, Q_HO169, Q_HA_HO169, Q_HI136_e3, Q_X4_⟩ hb_ hon hoff
                        refine ⟨_, rfl, fun K hK => ?_⟩
                        have e73 : a.tmps[73]? = some (v168) := by rw [ha]; exact putSel_on (e := (1, 73, v168)) 0 rfl rfl (hon 1 (by kernel_rfl)) rfl
                        have e75 : a.tmps[75]? = some (.int .i64 t170) := by rw [ha]; exact putSel_on (e := (3, 75, .int .i64 t170)) 1 rfl rfl (hon 3 (by kernel_rfl)) rfl
                        replace ha := Aside0.mk ha
                        have HO_5 := Aside0.mk Q_HO_5
                        have HB := Aside0.mk Q_HB
                        have HO169 := Aside0.mk (Q_HO169 (hon 1 (by kernel_rfl)))
                        have HA_HO169 := Aside0.mk (Q_HA_HO169 (hon 1 (by kernel_rfl)))
                        have HI136 := Aside0.mk (Q_HI136_e3 (hon 3 (by kernel_rfl)))
                        obtain ⟨c_, hv_⟩ := HA_HO169.out
                        rw [hv_] at e73
                        refine value_ (w1 := w') (v := .pointer (some (adz_v168.add (t170).toNat))) (by rfl) rfl ?_ ?_
                        · go_simp
                          (try simp only [i64_w])
                          try rfl
                        refine hK.out _ _ ⟨v168, adz_v168, (.pointer (some (adz_v168.add (t170).toNat))), (by rw [ha.out]; exact putSel_upk 2 hb_ rfl rfl rfl), Q_HO_5, fun h0_ => absurd ((hon 3 (by kernel_rfl)).symm.trans h0_) (by decide), Q_HB, Q_HO169, Q_HA_HO169, Q_HI136_e3, fun _ => rfl⟩
                      refine steps_cons ?_ ?_
                      · rintro b a w' ⟨v168, adz_v168, m4_, ha, Q_HO_5, Q_HI136, Q_HB, Q_HO169, Q_HA_HO169, Q_HI136_e3, Q_X4_⟩ hb_ hon hoff
                        refine ⟨_, rfl, fun K hK => ?_⟩
                        have e76 : a.tmps[76]? = some (m4_) := by rw [ha]; exact putSel_on (e := (4, 76, m4_)) 2 rfl rfl (hon 4 (by kernel_rfl)) rfl
                        rw [Q_X4_ (hon 4 (by kernel_rfl))] at e76
                        replace ha := Aside0.mk ha
                        have HO_5 := Aside0.mk Q_HO_5
                        have HB := Aside0.mk Q_HB
                        have HO169 := Aside0.mk (Q_HO169 (hon 1 (by kernel_rfl)))
                        have HA_HO169 := Aside0.mk (Q_HA_HO169 (hon 1 (by kernel_rfl)))
                        have HI136 := Aside0.mk (Q_HI136_e3 (hon 3 (by kernel_rfl)))
                        obtain ⟨c_, hv_⟩ := HA_HO169.out
                        have hF_ := HO169.out
                        rw [hv_] at hF_
                        obtain ⟨ad_, ea_, hx_⟩ := Kd.at_int (Kd.R_reads' hF_).2.2 t170 (of_eq_true pi172) (of_eq_true qi172)
                        cases ea_
                        refine value_ (w1 := w') (v := .int .i64 (rd y167 t170)) (by rfl) rfl ?_ ?_
                        · go_simp
                          (try simp only [i64_w])
                          try rfl
                        refine hK.out _ _ ⟨v168, adz_v168, m4_, (by rw [ha.out]; exact putSel_upk 3 hb_ rfl rfl rfl), Q_HO_5, fun h0_ => absurd ((hon 3 (by kernel_rfl)).symm.trans h0_) (by decide), Q_HB, Q_HO169, Q_HA_HO169, Q_HI136_e3, Q_X4_⟩
                      refine steps_cons ?_ ?_
                      · rintro b a w' ⟨v168, adz_v168, m4_, ha, Q_HO_5, Q_HI136, Q_HB, Q_HO169, Q_HA_HO169, Q_HI136_e3, Q_X4_⟩ hb_ hon hoff
                        refine ⟨_, rfl, fun K hK => ?_⟩
                        have e72 : a.tmps[72]? = some (.slice Ao39 x5_2.length co39) := by rw [ha]; exact (putSel_off rfl).trans rfl
                        replace ha := Aside0.mk ha
                        have HO_5 := Aside0.mk Q_HO_5
                        have HB := Aside0.mk Q_HB
                        have HI136 := Aside0.mk (Q_HI136_e3 (hon 3 (by kernel_rfl)))
                        refine value_ (w1 := w') (v := .slice Ao39 x5_2.length co39) (by rfl) rfl ?_ ?_
                        · go_simp
                          (try simp only [i64_w])
                          try rfl
                        refine hK.out _ _ ⟨v168, adz_v168, m4_, (by rw [ha.out]; exact putSel_upk 4 hb_ rfl rfl rfl), Q_HO_5, fun h0_ => absurd ((hon 3 (by kernel_rfl)).symm.trans h0_) (by decide), Q_HB, Q_HO169, Q_HA_HO169, Q_HI136_e3, Q_X4_⟩
                      refine steps_cons ?_ ?_
                      · rintro b a w' ⟨v168, adz_v168, m4_, ha, Q_HO_5, Q_HI136, Q_HB, Q_HO169, Q_HA_HO169, Q_HI136_e3, Q_X4_⟩ hb_ hon hoff
                        refine ⟨_, rfl, fun K hK => ?_⟩
                        have e77 : a.tmps[77]? = some (.int .i64 (rd y167 t170)) := by rw [ha]; exact putSel_on (e := (5, 77, .int .i64 (rd y167 t170))) 3 rfl rfl (hon 5 (by kernel_rfl)) rfl
                        replace ha := Aside0.mk ha
                        have HO_5 := Aside0.mk Q_HO_5
                        have HB := Aside0.mk Q_HB
                        have HO169 := Aside0.mk (Q_HO169 (hon 1 (by kernel_rfl)))
                        have HA_HO169 := Aside0.mk (Q_HA_HO169 (hon 1 (by kernel_rfl)))
                        have HI136 := Aside0.mk (Q_HI136_e3 (hon 3 (by kernel_rfl)))
                        refine value_ (w1 := w') (v := .int .i64 (rd y167 t170)) (by rfl) rfl ?_ ?_
                        · go_simp
                          (try simp only [i64_w])
                          try rfl
                        refine hK.out _ _ ⟨v168, adz_v168, m4_, (by rw [ha.out]; exact putSel_upk 5 hb_ rfl rfl rfl), Q_HO_5, fun h0_ => absurd ((hon 3 (by kernel_rfl)).symm.trans h0_) (by decide), Q_HB, Q_HO169, Q_HA_HO169, Q_HI136_e3, Q_X4_⟩
                      exact steps_nil
                    rintro b a w46 hall ⟨v168, adz_v168, m4_, ha, Q_HO_5, Q_HI136, Q_HB, Q_HO169, Q_HA_HO169, Q_HI136_e3, Q_X4_⟩
                    clear HB HI136 HO_5
                    have hb1_ := hall 1 (by kernel_rfl)
                    have hb3_ := hall 3 (by kernel_rfl)
                    have hb4_ := hall 4 (by kernel_rfl)
                    have hb5_ := hall 5 (by kernel_rfl)
                    have hb6_ := hall 6 (by kernel_rfl)
                    have hb7_ := hall 7 (by kernel_rfl)
                    subst ha
                    obtain rfl := Q_X4_ hb4_
                    simp only [putSel, hb1_, hb3_, hb4_, hb5_, hb6_, hb7_, if_true, Act.put, List.setIfInBounds_toArray, List.set_cons_zero, List.set_cons_succ]
                    have HO_5 := Aside0.mk Q_HO_5
                    clear Q_HO_5
                    clear Q_HI136
                    have HB := Aside0.mk Q_HB
                    clear Q_HB
                    have HO169 := Aside0.mk (Q_HO169 hb1_)
                    clear Q_HO169
                    have HA_HO169 := Aside0.mk (Q_HA_HO169 hb1_)
                    clear Q_HA_HO169
                    have HI136 := Aside0.mk (Q_HI136_e3 hb3_)
                    clear Q_HI136_e3
                    clear hall hb1_ hb3_ hb4_ hb5_ hb6_ hb7_
                    obtain ⟨co47, eo47⟩ := HA_HO169.out
                    clear HA_HO169
                    subst eo47
                    try go_wp2
                    go_ret2
                    exact ⟨_, by first | rfl | (simp [errW_none, errW_some] <;> rfl) | (simp [*, errW_none, errW_some] <;> rfl), by (with_reducible repeat (first | apply Kd.R_alloc | apply Kd.R_drewN | apply Kd.R_drew)); exact HO_5.out, by repeat (first | (with_reducible first | exact HB.out | apply below_alloc | apply pw_below_drewN | apply below_drew1 | refine below_set ?_ (IsS58.ge HI136.out)) | exact HB.out)⟩
                  · rw [if_neg c38] at H
                    exact absurd H (by simp)
                · rw [if_neg c37] at H
                  exact absurd H (by simp)
        · rw [if_neg c28] at H
          have c28b0 : (t160 == 0) = false := beq_eq_false_iff_ne.mpr c28
          have c28b1 : (t160 != 0) = true := bne_iff_ne.mpr c28
          by_cases c48 : t160 = 1
          · rw [if_pos c48] at H
            have c48b0 : (t160 == 1) = true := beq_iff_eq.mpr c48
            have c48b1 : (t160 != 1) = false := bne_eq_false_iff_eq.mpr c48
            clear c48
            obtain ⟨y173, hy173⟩ : ∃ y_ : List Int, y_ = (([0, 9] : List Int)) := ⟨_, rfl⟩
            replace H : ((spec_l1Rd_pick.f k1 t134 t161 2).bind fun bt176 => (if 0 ≤ bt176.1 then (if bt176.1 < (y173.length : Int) then (some (x5_1, rd y173 bt176.1)) else (none)) else (none))) = some (r1, r2) := by first | (rw [hy173]; with_reducible exact H) | (have H2_ := (Option.bind_some _ _).symm.trans H; rw [hy173]; with_reducible exact H2_) | (have H2_ := (Option.bind_some _ _).symm.trans H; with_reducible exact H2_) | with_reducible exact H | (rw [hy173]; exact H) | exact H
            have Ny173 := Aside0.mk hy173
            clear hy173
            replace H := Option.bind_eq_some_iff.mp H
            obtain ⟨⟨t176, t177⟩, A490, H⟩ := H
            replace H : (if 0 ≤ t176 then (if t176 < (y173.length : Int) then (some (x5_1, rd y173 t176)) else (none)) else (none)) = some (r1, r2) := H
            have A49 := Aside0.mk A490
            clear A490
            by_cases c50 : 0 ≤ t176
            · rw [if_pos c50] at H
              have c50b0 : decide (0 ≤ t176) = true := decide_eq_true c50
              clear c50
              by_cases c51 : t176 < (y173.length : Int)
              · rw [if_pos c51] at H
                have c51b0 : decide (t176 < (y173.length : Int)) = true := decide_eq_true c51
                clear c51
                simp only [Option.some.injEq, Prod.mk.injEq] at H
                obtain ⟨rfl, rfl⟩ := H
                try go_wp2_with (first | ((with_reducible refine gate_callee (f := 35) rfl ?_); refine goesL_ (some 52) rfl rfl Try.func35 (by kernel_rfl) rfl #[.pointer (some ⟨g136, 0, none⟩), .int .i64 24] rfl (by (try simp only [List.map_toArray, List.map_cons, List.map_nil]); first | done | rfl | (simp only [List.length_drop, List.length_take]; rfl)) ?_; (with_reducible refine (spec_l1Rd_pick.calls k1 g136 t134 x137001_1 24 t160 t161 w _ ?side1 ?side2 A27.out).mono ?_); (case side1 => repeat (first | (with_reducible first | exact HI136.out | apply IsS58.alloc | apply IsS58.drewN | apply IsS58.drew | apply IsS58.set_1) | exact HI136.out)); (case side2 => repeat (first | (with_reducible first | exact HB.out | apply below_alloc | apply pw_below_drewN | apply below_drew1 | refine below_set ?_ (IsS58.ge HI136.out)) | exact HB.out)); rintro e w52 ⟨rfl, hi, hb, hk⟩; refine ⟨_, rfl, ?_⟩; have n0_ := Aside0.mk (Kd.R_mono (Kd.R_keep (IsS58.apart (show IsS58 w _ g136 t134 x137001_1 from by repeat (first | (with_reducible first | exact HI136.out | apply IsS58.alloc | apply IsS58.drewN | apply IsS58.drew | apply IsS58.set_1) | exact HI136.out)) (by (with_reducible repeat (first | apply Kd.R_alloc | apply Kd.R_drewN | apply Kd.R_drew)); exact HO_5.out) (by decide)) hk (fun _ h => h.2)) (fun _ h => h.1)); have n1_ := Aside0.mk (hb); have n2_ := Aside0.mk (hi); clear HO_5; clear HB; clear HI136; have HO_5 := n0_; have HB := n1_; have HI136 := n2_; clear n0_ n1_ n2_; (try clear hb); (try clear hb2); (try clear hk); (try clear hi)))
                have pi178 : (0 ≤ (t176 : Int)) = True := eq_true (of_decide_eq_true (by first | (with_reducible assumption) | assumption))
                have qi178 : (t176 < (y173.length : Int)) = True := eq_true (of_decide_eq_true (by first | (with_reducible assumption) | assumption))
                have n0_ := Aside0.mk (Kd.R_drew HO_5.out)
                have n1_ := Aside0.mk (IsS58.drew HI136.out)
                have n2_ := Aside0.mk (below_drew1 HB.out)
                clear HO_5
                clear HI136
                clear HB
                have HO_5 := n0_
                have HI136 := n1_
                have HB := n2_
                clear n0_ n1_ n2_
                refine start_ (n := 8) (S := fun w' => True) (ds := []) #[false, false, false, false, false, false, false, false] (by kernel_rfl) rfl rfl trivial (fun hHeld => ?_); refine with_tabW spec_DrawClash.tab13 spec_DrawClash.bits13 (fun HT_ HW_ => ?_)
                generalize w52.drew = w53 at HO_5 HI136 HB hHeld ⊢
                refine pure_ (i := 0) (N := some 66) (v := ?_) (a' := ?_) #[true, false, false, false, false, false, false, false] rfl rfl (any_of HT_.out (by kernel_rfl)) (fun _ _ _ h => h) (Or.inl ⟨by rfl, ?_⟩) ?_ ?_
                rotate_left
                · intro w'
                  go_simp
                  with_reducible rfl
                rotate_left
                · simp only [Act.put, List.setIfInBounds_toArray, List.set_cons_zero, List.set_cons_succ, i64_w, i32_w]
                  rfl
                refine pure_ (i := 2) (N := some 68) (v := ?_) (a' := ?_) #[true, false, true, false, false, false, false, false] rfl rfl (any_of HT_.out (by kernel_rfl)) (fun _ _ _ h => h) (Or.inl ⟨by rfl, ?_⟩) ?_ ?_
                rotate_left
                · intro w'
                  go_simp
                  with_reducible rfl
                rotate_left
                · simp only [Act.put, List.setIfInBounds_toArray, List.set_cons_zero, List.set_cons_succ, i64_w, i32_w]
                  rfl
                refine inv_at [1, 3, 4, 5, 6, 7] (fun a0_ b a w' => ∃ (v174 : Value) (adz_v174 : Addr) (m4_ : Value), a = putSel a0_ b [(1, 67, v174), (3, 69, .int .i64 t176), (4, 70, m4_), (5, 71, .int .i64 (rd y173 t176)), (6, 2, u5), (7, 3, .int .i64 (rd y173 t176))] ∧ (Kd.R Kd.string 9 w' w.heap.size (fun _ => True) u5 x5_1) ∧ (b 3 = false → IsS58 w w' g136 t134 t161) ∧ (Below w.heap.size w w') ∧ (b 1 = true → Kd.R (Kd.int .i64) 3 w' w.heap.size (fun _ => True) v174 y173) ∧ (b 1 = true → ∃ c_, (v174 : Value) = .slice (some adz_v174) y173.length c_) ∧ (b 3 = true → IsS58 w w' g136 t134 t177) ∧ (b 4 = true → (m4_ : Value) = .pointer (some (adz_v174.add (t176).toNat)))) HT_.out HW_.out (by kernel_rfl) (by kernel_rfl) ?_ ?_ ?_
                · exact ⟨.bool false, ⟨0, 0, none⟩, .bool false, by simp only [putSel, Bool.false_eq_true, if_false], HO_5.out, fun _ => HI136.out, HB.out, fun h_ => absurd h_ (by decide), fun h_ => absurd h_ (by decide), fun h_ => absurd h_ (by decide), fun h_ => absurd h_ (by decide)⟩
                · skip
                  clear HB HI136 HO_5
                  refine steps_cons ?_ ?_
                  · rintro b a w' ⟨v174, adz_v174, m4_, ha, Q_HO_5, Q_HI136, Q_HB, Q_HO175, Q_HA_HO175, Q_HI136_e3, Q_X4_⟩ hb_ hon hoff
                    refine ⟨_, rfl, fun K hK => ?_⟩
                    replace ha := Aside0.mk ha
                    have HO_5 := Aside0.mk Q_HO_5
                    have HB := Aside0.mk Q_HB
                    refine Kd.R_lit_step (Kd.int .i64) _ 3 ?hg (N := 67) ?hd (xs := ([0, 9] : List Int)) (inner := [.int .i64 0, .int .i64 9]) (ok := fun _ => True) (okp := fun _ => True) ?hr ?hp (fun _ hk => hk) trivial (Below.refl _ _) (Nat.le_refl _) (by simp) ?_; (case hd => rfl); (case hg => rfl); (case hr => first | (go_simp; done) | (go_simp; rfl)); (case hp => exact (Reps.one (show Kd.M (Kd.int .i64) _ _ _ 0 [.int .i64 0] from rfl) (Reps.one (show Kd.M (Kd.int .i64) _ _ _ 9 [.int .i64 9] from rfl) (Reps.none _ _))))
                    intro v174 w54 ho55 hb hg_ hnew_
                    clear hg_ hnew_
                    (first | rw [← Ny173.out] at ho55 | (simp only [Int.reduceToNat] at ho55; rw [← Ny173.out] at ho55))
                    have n0_ := Aside0.mk (Kd.R_below (by (with_reducible repeat (first | apply Kd.R_alloc | apply Kd.R_drewN | apply Kd.R_drew)); exact HO_5.out) hb)
                    have n1_ := Aside0.mk (Kd.R_lower ho55 (below_size (by repeat (first | (with_reducible first | exact HB.out | apply below_alloc | apply pw_below_drewN | apply below_drew1) | exact HB.out))))
                    have n3_ := Aside0.mk (below_step (by repeat (first | (with_reducible first | exact HB.out | apply below_alloc | apply pw_below_drewN | apply below_drew1) | exact HB.out)) hb)
                    have z_HI136 := fun (h0_ : b 3 = false) => (show IsS58 w w54 g136 t134 t161 from by first | exact (IsS58.below (by repeat (first | (with_reducible first | exact (Q_HI136 h0_) | apply IsS58.alloc | apply IsS58.drewN | apply IsS58.drew | apply IsS58.set_1) | exact (Q_HI136 h0_))) hb))
                    have z_HI136_e3 := fun (h0_ : b 3 = true) => (show IsS58 w w54 g136 t134 t177 from by first | exact (IsS58.below (by repeat (first | (with_reducible first | exact (Q_HI136_e3 h0_) | apply IsS58.alloc | apply IsS58.drewN | apply IsS58.drew | apply IsS58.set_1) | exact (Q_HI136_e3 h0_))) hb))
                    clear HO_5
                    clear HB
                    have HO_5 := n0_
                    have HO175 := n1_
                    have HB := n3_
                    clear n0_ n1_ n3_
                    clear hb ho55
                    obtain ⟨Ao56, co56, eo56⟩ := Kd.R_slice HO175.out
                    subst eo56
                    obtain ⟨ado56, fo56, _⟩ := Kd.at_int (Kd.R_reads' HO175.out).2.2 0 (by decide) (by rw [Ny173.out]; simp)
                    cases fo56
                    refine hK.out _ _ ⟨.slice (some ado56) y173.length co56, ado56, m4_, (by rw [ha.out]; exact putSel_upk 0 hb_ rfl rfl rfl), (by (with_reducible repeat (first | apply Kd.R_alloc | apply Kd.R_drewN | apply Kd.R_drew)); exact HO_5.out), z_HI136, (by repeat (first | (with_reducible first | exact HB.out | apply below_alloc | apply pw_below_drewN | apply below_drew1) | exact HB.out)), fun _ => (by (with_reducible repeat (first | apply Kd.R_alloc | apply Kd.R_drewN | apply Kd.R_drew)); exact HO175.out), fun _ => ⟨_, rfl⟩, z_HI136_e3, fun h0_ => absurd ((hoff 4 (by kernel_rfl)).symm.trans h0_) (by decide)⟩
                  refine steps_cons ?_ ?_
                  · rintro b a w' ⟨v174, adz_v174, m4_, ha, Q_HO_5, Q_HI136, Q_HB, Q_HO175, Q_HA_HO175, Q_HI136_e3, Q_X4_⟩ hb_ hon hoff
                    refine ⟨_, rfl, fun K hK => ?_⟩
                    have e68 : a.tmps[68]? = some (.pointer (some ⟨g136, 0, none⟩)) := by rw [ha]; exact (putSel_off rfl).trans rfl
                    replace ha := Aside0.mk ha
                    have HO_5 := Aside0.mk Q_HO_5
                    have HI136 := Aside0.mk (Q_HI136 hb_)
                    have HB := Aside0.mk Q_HB
                    refine goes_ Try.func35 (by kernel_rfl) rfl #[.pointer (some ⟨g136, 0, none⟩), .int .i64 2] (by rfl) rfl rfl (by first | (simp only [List.map_toArray, List.map_cons, List.map_nil, Act.eval, Array.getD_eq_getD_getElem?, Option.getD_some, e68]; done) | (simp only [List.map_toArray, List.map_cons, List.map_nil, Act.eval, Array.getD_eq_getD_getElem?, Option.getD_some, e68]; rfl)) ?_
                    with_reducible refine (spec_l1Rd_pick.calls k1 g136 t134 t161 2 t176 t177 w _ ?side1 ?side2 A49.out).mono ?_
                    (case side1 => repeat (first | (with_reducible first | exact HI136.out | apply IsS58.alloc | apply IsS58.drewN | apply IsS58.drew | apply IsS58.set_1) | exact HI136.out))
                    (case side2 => repeat (first | (with_reducible first | exact HB.out | apply below_alloc | apply pw_below_drewN | apply below_drew1 | refine below_set ?_ (IsS58.ge HI136.out)) | exact HB.out))
                    rintro e w54 ⟨rfl, hi, hb, hk⟩
                    refine ⟨_, rfl, ?_⟩
                    have n0_ := Aside0.mk (Kd.R_mono (Kd.R_keep (IsS58.apart (show IsS58 w _ g136 t134 t161 from by repeat (first | (with_reducible first | exact HI136.out | apply IsS58.alloc | apply IsS58.drewN | apply IsS58.drew | apply IsS58.set_1) | exact HI136.out)) (by (with_reducible repeat (first | apply Kd.R_alloc | apply Kd.R_drewN | apply Kd.R_drew)); exact HO_5.out) (by decide)) hk (fun _ h => h.2)) (fun _ h => h.1))
                    have n1_ := Aside0.mk (hb)
                    have n2_ := Aside0.mk (hi)
                    have z_HO175 := fun (h0_ : b 1 = true) => (show Kd.R (Kd.int .i64) 3 w54 w.heap.size (fun _ => True) v174 y173 from by first | exact (Kd.R_mono (Kd.R_keep (IsS58.apart (show IsS58 w _ g136 t134 t161 from by repeat (first | (with_reducible first | exact HI136.out | apply IsS58.alloc | apply IsS58.drewN | apply IsS58.drew | apply IsS58.set_1) | exact HI136.out)) (by (with_reducible repeat (first | apply Kd.R_alloc | apply Kd.R_drewN | apply Kd.R_drew)); exact (Q_HO175 h0_)) (by decide)) hk (fun _ h => h.2)) (fun _ h => h.1)) | exact Kd.R_mono (Kd.R_mono (Kd.R_keep (IsS58.apart (show IsS58 w _ g136 t134 t161 from by repeat (first | (with_reducible first | exact HI136.out | apply IsS58.alloc | apply IsS58.drewN | apply IsS58.drew | apply IsS58.set_1) | exact HI136.out)) (by (with_reducible repeat (first | apply Kd.R_alloc | apply Kd.R_drewN | apply Kd.R_drew)); exact (Q_HO175 h0_)) (by decide)) hk (fun _ h => h.2)) (fun _ h => h.1)) (fun _ h_ => by first | trivial | exact h_ | exact h_.1))
                    clear HO_5
                    clear HB
                    clear HI136
                    have HO_5 := n0_
                    have HB := n1_
                    have HI136 := n2_
                    clear n0_ n1_ n2_
                    (try clear hb)
                    (try clear hb2)
                    (try clear hk)
                    (try clear hi)
                    refine hK.out _ _ ⟨v174, adz_v174, m4_, (by rw [ha.out]; exact putSel_upk 1 hb_ rfl rfl rfl), (by (with_reducible repeat (first | apply Kd.R_alloc | apply Kd.R_drewN | apply Kd.R_drew)); exact HO_5.out), fun h0_ => absurd ((up_self b 3).symm.trans h0_) (by decide), (by repeat (first | (with_reducible first | exact HB.out | apply below_alloc | apply pw_below_drewN | apply below_drew1 | refine below_set ?_ (IsS58.ge HI136.out)) | exact HB.out)), z_HO175, Q_HA_HO175, fun _ => (by repeat (first | (with_reducible first | exact HI136.out | apply IsS58.alloc | apply IsS58.drewN | apply IsS58.drew | apply IsS58.set_1) | exact HI136.out)), fun h0_ => absurd ((hoff 4 (by kernel_rfl)).symm.trans h0_) (by decide)⟩
                  refine steps_cons ?_ ?_
                  · rintro b a w' ⟨v174, adz_v174, m4_, ha, Q_HO_5, Q_HI136, Q_HB, Q_HO175, Q_HA_HO175, Q_HI136_e3, Q_X4_⟩ hb_ hon hoff
                    refine ⟨_, rfl, fun K hK => ?_⟩
                    have e67 : a.tmps[67]? = some (v174) := by rw [ha]; exact putSel_on (e := (1, 67, v174)) 0 rfl rfl (hon 1 (by kernel_rfl)) rfl
                    have e69 : a.tmps[69]? = some (.int .i64 t176) := by rw [ha]; exact putSel_on (e := (3, 69, .int .i64 t176)) 1 rfl rfl (hon 3 (by kernel_rfl)) rfl
                    replace ha := Aside0.mk ha
                    have HO_5 := Aside0.mk Q_HO_5
                    have HB := Aside0.mk Q_HB
                    have HO175 := Aside0.mk (Q_HO175 (hon 1 (by kernel_rfl)))
                    have HA_HO175 := Aside0.mk (Q_HA_HO175 (hon 1 (by kernel_rfl)))
                    have HI136 := Aside0.mk (Q_HI136_e3 (hon 3 (by kernel_rfl)))
                    obtain ⟨c_, hv_⟩ := HA_HO175.out
                    rw [hv_] at e67
                    refine value_ (w1 := w') (v := .pointer (some (adz_v174.add (t176).toNat))) (by rfl) rfl ?_ ?_
                    · go_simp
                      (try simp only [i64_w])
                      try rfl
                    refine hK.out _ _ ⟨v174, adz_v174, (.pointer (some (adz_v174.add (t176).toNat))), (by rw [ha.out]; exact putSel_upk 2 hb_ rfl rfl rfl), Q_HO_5, fun h0_ => absurd ((hon 3 (by kernel_rfl)).symm.trans h0_) (by decide), Q_HB, Q_HO175, Q_HA_HO175, Q_HI136_e3, fun _ => rfl⟩
                  refine steps_cons ?_ ?_
                  · rintro b a w' ⟨v174, adz_v174, m4_, ha, Q_HO_5, Q_HI136, Q_HB, Q_HO175, Q_HA_HO175, Q_HI136_e3, Q_X4_⟩ hb_ hon hoff
                    refine ⟨_, rfl, fun K hK => ?_⟩
                    have e70 : a.tmps[70]? = some (m4_) := by rw [ha]; exact putSel_on (e := (4, 70, m4_)) 2 rfl rfl (hon 4 (by kernel_rfl)) rfl
                    rw [Q_X4_ (hon 4 (by kernel_rfl))] at e70
                    replace ha := Aside0.mk ha
                    have HO_5 := Aside0.mk Q_HO_5
                    have HB := Aside0.mk Q_HB
                    have HO175 := Aside0.mk (Q_HO175 (hon 1 (by kernel_rfl)))
                    have HA_HO175 := Aside0.mk (Q_HA_HO175 (hon 1 (by kernel_rfl)))
                    have HI136 := Aside0.mk (Q_HI136_e3 (hon 3 (by kernel_rfl)))
                    obtain ⟨c_, hv_⟩ := HA_HO175.out
                    have hF_ := HO175.out
                    rw [hv_] at hF_
                    obtain ⟨ad_, ea_, hx_⟩ := Kd.at_int (Kd.R_reads' hF_).2.2 t176 (of_eq_true pi178) (of_eq_true qi178)
                    cases ea_
                    refine value_ (w1 := w') (v := .int .i64 (rd y173 t176)) (by rfl) rfl ?_ ?_
                    · go_simp
                      (try simp only [i64_w])
                      try rfl
                    refine hK.out _ _ ⟨v174, adz_v174, m4_, (by rw [ha.out]; exact putSel_upk 3 hb_ rfl rfl rfl), Q_HO_5, fun h0_ => absurd ((hon 3 (by kernel_rfl)).symm.trans h0_) (by decide), Q_HB, Q_HO175, Q_HA_HO175, Q_HI136_e3, Q_X4_⟩
                  refine steps_cons ?_ ?_
                  · rintro b a w' ⟨v174, adz_v174, m4_, ha, Q_HO_5, Q_HI136, Q_HB, Q_HO175, Q_HA_HO175, Q_HI136_e3, Q_X4_⟩ hb_ hon hoff
                    refine ⟨_, rfl, fun K hK => ?_⟩
                    have e66 : a.tmps[66]? = some (u5) := by rw [ha]; exact (putSel_off rfl).trans rfl
                    replace ha := Aside0.mk ha
                    have HO_5 := Aside0.mk Q_HO_5
                    have HB := Aside0.mk Q_HB
                    have HI136 := Aside0.mk (Q_HI136_e3 (hon 3 (by kernel_rfl)))
                    refine value_ (w1 := w') (v := u5) (by rfl) rfl ?_ ?_
                    · go_simp
                      (try simp only [i64_w])
                      try rfl
                    refine hK.out _ _ ⟨v174, adz_v174, m4_, (by rw [ha.out]; exact putSel_upk 4 hb_ rfl rfl rfl), Q_HO_5, fun h0_ => absurd ((hon 3 (by kernel_rfl)).symm.trans h0_) (by decide), Q_HB, Q_HO175, Q_HA_HO175, Q_HI136_e3, Q_X4_⟩
                  refine steps_cons ?_ ?_
                  · rintro b a w' ⟨v174, adz_v174, m4_, ha, Q_HO_5, Q_HI136, Q_HB, Q_HO175, Q_HA_HO175, Q_HI136_e3, Q_X4_⟩ hb_ hon hoff
                    refine ⟨_, rfl, fun K hK => ?_⟩
                    have e71 : a.tmps[71]? = some (.int .i64 (rd y173 t176)) := by rw [ha]; exact putSel_on (e := (5, 71, .int .i64 (rd y173 t176))) 3 rfl rfl (hon 5 (by kernel_rfl)) rfl
                    replace ha := Aside0.mk ha
                    have HO_5 := Aside0.mk Q_HO_5
                    have HB := Aside0.mk Q_HB
                    have HO175 := Aside0.mk (Q_HO175 (hon 1 (by kernel_rfl)))
                    have HA_HO175 := Aside0.mk (Q_HA_HO175 (hon 1 (by kernel_rfl)))
                    have HI136 := Aside0.mk (Q_HI136_e3 (hon 3 (by kernel_rfl)))
                    refine value_ (w1 := w') (v := .int .i64 (rd y173 t176)) (by rfl) rfl ?_ ?_
                    · go_simp
                      (try simp only [i64_w])
                      try rfl
                    refine hK.out _ _ ⟨v174, adz_v174, m4_, (by rw [ha.out]; exact putSel_upk 5 hb_ rfl rfl rfl), Q_HO_5, fun h0_ => absurd ((hon 3 (by kernel_rfl)).symm.trans h0_) (by decide), Q_HB, Q_HO175, Q_HA_HO175, Q_HI136_e3, Q_X4_⟩
                  exact steps_nil
                rintro b a w58 hall ⟨v174, adz_v174, m4_, ha, Q_HO_5, Q_HI136, Q_HB, Q_HO175, Q_HA_HO175, Q_HI136_e3, Q_X4_⟩
                clear HB HI136 HO_5
                have hb1_ := hall 1 (by kernel_rfl)
                have hb3_ := hall 3 (by kernel_rfl)
                have hb4_ := hall 4 (by kernel_rfl)
                have hb5_ := hall 5 (by kernel_rfl)
                have hb6_ := hall 6 (by kernel_rfl)
                have hb7_ := hall 7 (by kernel_rfl)
                subst ha
                obtain rfl := Q_X4_ hb4_
                simp only [putSel, hb1_, hb3_, hb4_, hb5_, hb6_, hb7_, if_true, Act.put, List.setIfInBounds_toArray, List.set_cons_zero, List.set_cons_succ]
                have HO_5 := Aside0.mk Q_HO_5
                clear Q_HO_5
                clear Q_HI136
                have HB := Aside0.mk Q_HB
                clear Q_HB
                have HO175 := Aside0.mk (Q_HO175 hb1_)
                clear Q_HO175
                have HA_HO175 := Aside0.mk (Q_HA_HO175 hb1_)
                clear Q_HA_HO175
                have HI136 := Aside0.mk (Q_HI136_e3 hb3_)
                clear Q_HI136_e3
                clear hall hb1_ hb3_ hb4_ hb5_ hb6_ hb7_
                obtain ⟨co59, eo59⟩ := HA_HO175.out
                clear HA_HO175
                subst eo59
                try go_wp2
                go_ret2
                exact ⟨_, by first | rfl | (simp [errW_none, errW_some] <;> rfl) | (simp [*, errW_none, errW_some] <;> rfl), by (with_reducible repeat (first | apply Kd.R_alloc | apply Kd.R_drewN | apply Kd.R_drew)); exact HO_5.out, by repeat (first | (with_reducible first | exact HB.out | apply below_alloc | apply pw_below_drewN | apply below_drew1 | refine below_set ?_ (IsS58.ge HI136.out)) | exact HB.out)⟩
              · rw [if_neg c51] at H
                exact absurd H (by simp)
            · rw [if_neg c50] at H
              exact absurd H (by simp)
          · rw [if_neg c48] at H
            have c48b0 : (t160 == 1) = false := beq_eq_false_iff_ne.mpr c48
            have c48b1 : (t160 != 1) = true := bne_iff_ne.mpr c48
            obtain ⟨y179, hy179⟩ : ∃ y_ : List Int, y_ = (([1, 1, 1, 2, 8] : List Int)) := ⟨_, rfl⟩
            replace H : ((spec_l1Rd_pick.f k1 t134 t161 5).bind fun bt182 => (if 0 ≤ bt182.1 then (if bt182.1 < (y179.length : Int) then (some (x5_1, rd y179 bt182.1)) else (none)) else (none))) = some (r1, r2) := by first | (rw [hy179]; with_reducible exact H) | (have H2_ := (Option.bind_some _ _).symm.trans H; rw [hy179]; with_reducible exact H2_) | (have H2_ := (Option.bind_some _ _).symm.trans H; with_reducible exact H2_) | with_reducible exact H | (rw [hy179]; exact H) | exact H
            have Ny179 := Aside0.mk hy179
            clear hy179
            replace H := Option.bind_eq_some_iff.mp H
            obtain ⟨⟨t182, t183⟩, A600, H⟩ := H
            replace H : (if 0 ≤ t182 then (if t182 < (y179.length : Int) then (some (x5_1, rd y179 t182)) else (none)) else (none)) = some (r1, r2) := H
            have A60 := Aside0.mk A600
            clear A600
            by_cases c61 : 0 ≤ t182
            · rw [if_pos c61] at H
              have c61b0 : decide (0 ≤ t182) = true := decide_eq_true c61
              clear c61
              by_cases c62 : t182 < (y179.length : Int)
              · rw [if_pos c62] at H
                have c62b0 : decide (t182 < (y179.length : Int)) = true := decide_eq_true c62
                clear c62
                simp only [Option.some.injEq, Prod.mk.injEq] at H
                obtain ⟨rfl, rfl⟩ := H
                try go_wp2_with (first | ((with_reducible refine gate_callee (f := 35) rfl ?_); refine goesL_ (some 52) rfl rfl Try.func35 (by kernel_rfl) rfl #[.pointer (some ⟨g136, 0, none⟩), .int .i64 24] rfl (by (try simp only [List.map_toArray, List.map_cons, List.map_nil]); first | done | rfl | (simp only [List.length_drop, List.length_take]; rfl)) ?_; (with_reducible refine (spec_l1Rd_pick.calls k1 g136 t134 x137001_1 24 t160 t161 w _ ?side1 ?side2 A27.out).mono ?_); (case side1 => repeat (first | (with_reducible first | exact HI136.out | apply IsS58.alloc | apply IsS58.drewN | apply IsS58.drew | apply IsS58.set_1) | exact HI136.out)); (case side2 => repeat (first | (with_reducible first | exact HB.out | apply below_alloc | apply pw_below_drewN | apply below_drew1 | refine below_set ?_ (IsS58.ge HI136.out)) | exact HB.out)); rintro e w63 ⟨rfl, hi, hb, hk⟩; refine ⟨_, rfl, ?_⟩; have n0_ := Aside0.mk (Kd.R_mono (Kd.R_keep (IsS58.apart (show IsS58 w _ g136 t134 x137001_1 from by repeat (first | (with_reducible first | exact HI136.out | apply IsS58.alloc | apply IsS58.drewN | apply IsS58.drew | apply IsS58.set_1) | exact HI136.out)) (by (with_reducible repeat (first | apply Kd.R_alloc | apply Kd.R_drewN | apply Kd.R_drew)); exact HO_5.out) (by decide)) hk (fun _ h => h.2)) (fun _ h => h.1)); have n1_ := Aside0.mk (hb); have n2_ := Aside0.mk (hi); clear HO_5; clear HB; clear HI136; have HO_5 := n0_; have HB := n1_; have HI136 := n2_; clear n0_ n1_ n2_; (try clear hb); (try clear hb2); (try clear hk); (try clear hi)))
                have pi184 : (0 ≤ (t182 : Int)) = True := eq_true (of_decide_eq_true (by first | (with_reducible assumption) | assumption))
                have qi184 : (t182 < (y179.length : Int)) = True := eq_true (of_decide_eq_true (by first | (with_reducible assumption) | assumption))
                have n0_ := Aside0.mk (Kd.R_drew HO_5.out)
                have n1_ := Aside0.mk (IsS58.drew HI136.out)
                have n2_ := Aside0.mk (below_drew1 HB.out)
                clear HO_5
                clear HI136
                clear HB
                have HO_5 := n0_
                have HI136 := n1_
                have HB := n2_
                clear n0_ n1_ n2_
                refine start_ (n := 8) (S := fun w' => True) (ds := []) #[false, false, false, false, false, false, false, false] (by kernel_rfl) rfl rfl trivial (fun hHeld => ?_); refine with_tabW spec_DrawClash.tab14 spec_DrawClash.bits14 (fun HT_ HW_ => ?_)
                generalize w63.drew = w64 at HO_5 HI136 HB hHeld ⊢
                refine pure_ (i := 0) (N := some 72) (v := ?_) (a' := ?_) #[true, false, false, false, false, false, false, false] rfl rfl (any_of HT_.out (by kernel_rfl)) (fun _ _ _ h => h) (Or.inl ⟨by rfl, ?_⟩) ?_ ?_
                rotate_left
                · intro w'
                  go_simp
                  with_reducible rfl
                rotate_left
                · simp only [Act.put, List.setIfInBounds_toArray, List.set_cons_zero, List.set_cons_succ, i64_w, i32_w]
                  rfl
                refine pure_ (i := 2) (N := some 74) (v := ?_) (a' := ?_) #[true, false, true, false, false, false, false, false] rfl rfl (any_of HT_.out (by kernel_rfl)) (fun _ _ _ h => h) (Or.inl ⟨by rfl, ?_⟩) ?_ ?_
                rotate_left
                · intro w'
                  go_simp
                  with_reducible rfl
                rotate_left
                · simp only [Act.put, List.setIfInBounds_toArray, List.set_cons_zero, List.set_cons_succ, i64_w, i32_w]
                  rfl
                refine inv_at [1, 3, 4, 5, 6, 7] (fun a0_ b a w' => ∃ (v180 : Value) (adz_v180 : Addr) (m4_ : Value), a = putSel a0_ b [(1, 73, v180), (3, 75, .int .i64 t182), (4, 76, m4_), (5, 77, .int .i64 (rd y179 t182)), (6, 2, u5), (7, 3, .int .i64 (rd y179 t182))] ∧ (Kd.R Kd.string 9 w' w.heap.size (fun _ => True) u5 x5_1) ∧ (b 3 = false → IsS58 w w' g136 t134 t161) ∧ (Below w.heap.size w w') ∧ (b 1 = true → Kd.R (Kd.int .i64) 3 w' w.heap.size (fun _ => True) v180 y179) ∧ (b 1 = true → ∃ c_, (v180 : Value) = .slice (some adz_v180) y179.length c_) ∧ (b 3 = true → IsS58 w w' g136 t134 t183) ∧ (b 4 = true → (m4_ : Value) = .pointer (some (adz_v180.add (t182).toNat)))) HT_.out HW_.out (by kernel_rfl) (by kernel_rfl) ?_ ?_ ?_
                · exact ⟨.bool false, ⟨0, 0, none⟩, .bool false, by simp only [putSel, Bool.false_eq_true, if_false], HO_5.out, fun _ => HI136.out, HB.out, fun h_ => absurd h_ (by decide), fun h_ => absurd h_ (by decide), fun h_ => absurd h_ (by decide), fun h_ => absurd h_ (by decide)⟩
                · skip
                  clear HB HI136 HO_5
                  refine steps_cons ?_ ?_
                  · rintro b a w' ⟨v180, adz_v180, m4_, ha, Q_HO_5, Q_HI136, Q_HB, Q_HO181, Q_HA_HO181, Q_HI136_e3, Q_X4_⟩ hb_ hon hoff
                    refine ⟨_, rfl, fun K hK => ?_⟩
                    replace ha := Aside0.mk ha
                    have HO_5 := Aside0.mk Q_HO_5
                    have HB := Aside0.mk Q_HB
                    refine Kd.R_lit_step (Kd.int .i64) _ 3 ?hg (N := 73) ?hd (xs := ([1, 1, 1, 2, 8] : List Int)) (inner := [.int .i64 1, .int .i64 1, .int .i64 1, .int .i64 2, .int .i64 8]) (ok := fun _ => True) (okp := fun _ => True) ?hr ?hp (fun _ hk => hk) trivial (Below.refl _ _) (Nat.le_refl _) (by simp) ?_; (case hd => rfl); (case hg => rfl); (case hr => first | (go_simp; done) | (go_simp; rfl)); (case hp => exact (Reps.one (show Kd.M (Kd.int .i64) _ _ _ 1 [.int .i64 1] from rfl) (Reps.one (show Kd.M (Kd.int .i64) _ _ _ 1 [.int .i64 1] from rfl) (Reps.one (show Kd.M (Kd.int .i64) _ _ _ 1 [.int .i64 1] from rfl) (Reps.one (show Kd.M (Kd.int .i64) _ _ _ 2 [.int .i64 2] from rfl) (Reps.one (show Kd.M (Kd.int .i64) _ _ _ 8 [.int .i64 8] from rfl) (Reps.none _ _)))))))
                    intro v180 w65 ho66 hb hg_ hnew_
                    clear hg_ hnew_
                    (first | rw [← Ny179.out] at ho66 | (simp only [Int.reduceToNat] at ho66; rw [← Ny179.out] at ho66))
                    have n0_ := Aside0.mk (Kd.R_below (by (with_reducible repeat (first | apply Kd.R_alloc | apply Kd.R_drewN | apply Kd.R_drew)); exact HO_5.out) hb)
                    have n1_ := Aside0.mk (Kd.R_lower ho66 (below_size (by repeat (first | (with_reducible first | exact HB.out | apply below_alloc | apply pw_below_drewN | apply below_drew1) | exact HB.out))))
                    have n3_ := Aside0.mk (below_step (by repeat (first | (with_reducible first | exact HB.out | apply below_alloc | apply pw_below_drewN | apply below_drew1) | exact HB.out)) hb)
                    have z_HI136 := fun (h0_ : b 3 = false) => (show IsS58 w w65 g136 t134 t161 from by first | exact (IsS58.below (by repeat (first | (with_reducible first | exact (Q_HI136 h0_) | apply IsS58.alloc | apply IsS58.drewN | apply IsS58.drew | apply IsS58.set_1) | exact (Q_HI136 h0_))) hb))
                    have z_HI136_e3 := fun (h0_ : b 3 = true) => (show IsS58 w w65 g136 t134 t183 from by first | exact (IsS58.below (by repeat (first | (with_reducible first | exact (Q_HI136_e3 h0_) | apply IsS58.alloc | apply IsS58.drewN | apply IsS58.drew | apply IsS58.set_1) | exact (Q_HI136_e3 h0_))) hb))
                    clear HO_5
                    clear HB
                    have HO_5 := n0_
                    have HO181 := n1_
                    have HB := n3_
                    clear n0_ n1_ n3_
                    clear hb ho66
                    obtain ⟨Ao67, co67, eo67⟩ := Kd.R_slice HO181.out
                    subst eo67
                    obtain ⟨ado67, fo67, _⟩ := Kd.at_int (Kd.R_reads' HO181.out).2.2 0 (by decide) (by rw [Ny179.out]; simp)
                    cases fo67
                    refine hK.out _ _ ⟨.slice (some ado67) y179.length co67, ado67, m4_, (by rw [ha.out]; exact putSel_upk 0 hb_ rfl rfl rfl), (by (with_reducible repeat (first | apply Kd.R_alloc | apply Kd.R_drewN | apply Kd.R_drew)); exact HO_5.out), z_HI136, (by repeat (first | (with_reducible first | exact HB.out | apply below_alloc | apply pw_below_drewN | apply below_drew1) | exact HB.out)), fun _ => (by (with_reducible repeat (first | apply Kd.R_alloc | apply Kd.R_drewN | apply Kd.R_drew)); exact HO181.out), fun _ => ⟨_, rfl⟩, z_HI136_e3, fun h0_ => absurd ((hoff 4 (by kernel_rfl)).symm.trans h0_) (by decide)⟩
                  refine steps_cons ?_ ?_
                  · rintro b a w' ⟨v180, adz_v180, m4_, ha, Q_HO_5, Q_HI136, Q_HB, Q_HO181, Q_HA_HO181, Q_HI136_e3, Q_X4_⟩ hb_ hon hoff
                    refine ⟨_, rfl, fun K hK => ?_⟩
                    have e74 : a.tmps[74]? = some (.pointer (some ⟨g136, 0, none⟩)) := by rw [ha]; exact (putSel_off rfl).trans rfl
                    replace ha := Aside0.mk ha
                    have HO_5 := Aside0.mk Q_HO_5
                    have HI136 := Aside0.mk (Q_HI136 hb_)
                    have HB := Aside0.mk Q_HB
                    refine goes_ Try.func35 (by kernel_rfl) rfl #[.pointer (some ⟨g136, 0, none⟩), .int .i64 5] (by rfl) rfl rfl (by first | (simp only [List.map_toArray, List.map_cons, List.map_nil, Act.eval, Array.getD_eq_getD_getElem?, Option.getD_some, e74]; done) | (simp only [List.map_toArray, List.map_cons, List.map_nil, Act.eval, Array.getD_eq_getD_getElem?, Option.getD_some, e74]; rfl)) ?_
                    with_reducible refine (spec_l1Rd_pick.calls k1 g136 t134 t161 5 t182 t183 w _ ?side1 ?side2 A60.out).mono ?_
                    (case side1 => repeat (first | (with_reducible first | exact HI136.out | apply IsS58.alloc | apply IsS58.drewN | apply IsS58.drew | apply IsS58.set_1) | exact HI136.out))
                    (case side2 => repeat (first | (with_reducible first | exact HB.out | apply below_alloc | apply pw_below_drewN | apply below_drew1 | refine below_set ?_ (IsS58.ge HI136.out)) | exact HB.out))
                    rintro e w65 ⟨rfl, hi, hb, hk⟩
                    refine ⟨_, rfl, ?_⟩
                    have n0_ := Aside0.mk (Kd.R_mono (Kd.R_keep (IsS58.apart (show IsS58 w _ g136 t134 t161 from by repeat (first | (with_reducible first | exact HI136.out | apply IsS58.alloc | apply IsS58.drewN | apply IsS58.drew | apply IsS58.set_1) | exact HI136.out)) (by (with_reducible repeat (first | apply Kd.R_alloc | apply Kd.R_drewN | apply Kd.R_drew)); exact HO_5.out) (by decide)) hk (fun _ h => h.2)) (fun _ h => h.1))
                    have n1_ := Aside0.mk (hb)
                    have n2_ := Aside0.mk (hi)
                    have z_HO181 := fun (h0_ : b 1 = true) => (show Kd.R (Kd.int .i64) 3 w65 w.heap.size (fun _ => True) v180 y179 from by first | exact (Kd.R_mono (Kd.R_keep (IsS58.apart (show IsS58 w _ g136 t134 t161 from by repeat (first | (with_reducible first | exact HI136.out | apply IsS58.alloc | apply IsS58.drewN | apply IsS58.drew | apply IsS58.set_1) | exact HI136.out)) (by (with_reducible repeat (first | apply Kd.R_alloc | apply Kd.R_drewN | apply Kd.R_drew)); exact (Q_HO181 h0_)) (by decide)) hk (fun _ h => h.2)) (fun _ h => h.1)) | exact Kd.R_mono (Kd.R_mono (Kd.R_keep (IsS58.apart (show IsS58 w _ g136 t134 t161 from by repeat (first | (with_reducible first | exact HI136.out | apply IsS58.alloc | apply IsS58.drewN | apply IsS58.drew | apply IsS58.set_1) | exact HI136.out)) (by (with_reducible repeat (first | apply Kd.R_alloc | apply Kd.R_drewN | apply Kd.R_drew)); exact (Q_HO181 h0_)) (by decide)) hk (fun _ h => h.2)) (fun _ h => h.1)) (fun _ h_ => by first | trivial | exact h_ | exact h_.1))
                    clear HO_5
                    clear HB
                    clear HI136
                    have HO_5 := n0_
                    have HB := n1_
                    have HI136 := n2_
                    clear n0_ n1_ n2_
                    (try clear hb)
                    (try clear hb2)
                    (try clear hk)
                    (try clear hi)
                    refine hK.out _ _ ⟨v180, adz_v180, m4_, (by rw [ha.out]; exact putSel_upk 1 hb_ rfl rfl rfl), (by (with_reducible repeat (first | apply Kd.R_alloc | apply Kd.R_drewN | apply Kd.R_drew)); exact HO_5.out), fun h0_ => absurd ((up_self b 3).symm.trans h0_) (by decide), (by repeat (first | (with_reducible first | exact HB.out | apply below_alloc | apply pw_below_drewN | apply below_drew1 | refine below_set ?_ (IsS58.ge HI136.out)) | exact HB.out)), z_HO181, Q_HA_HO181, fun _ => (by repeat (first | (with_reducible first | exact HI136.out | apply IsS58.alloc | apply IsS58.drewN | apply IsS58.drew | apply IsS58.set_1) | exact HI136.out)), fun h0_ => absurd ((hoff 4 (by kernel_rfl)).symm.trans h0_) (by decide)⟩
                  refine steps_cons ?_ ?_
                  · rintro b a w' ⟨v180, adz_v180, m4_, ha, Q_HO_5, Q_HI136, Q_HB, Q_HO181, Q_HA_HO181, Q_HI136_e3, Q_X4_⟩ hb_ hon hoff
                    refine ⟨_, rfl, fun K hK => ?_⟩
                    have e73 : a.tmps[73]? = some (v180) := by rw [ha]; exact putSel_on (e := (1, 73, v180)) 0 rfl rfl (hon 1 (by kernel_rfl)) rfl
                    have e75 : a.tmps[75]? = some (.int .i64 t182) := by rw [ha]; exact putSel_on (e := (3, 75, .int .i64 t182)) 1 rfl rfl (hon 3 (by kernel_rfl)) rfl
                    replace ha := Aside0.mk ha
                    have HO_5 := Aside0.mk Q_HO_5
                    have HB := Aside0.mk Q_HB
                    have HO181 := Aside0.mk (Q_HO181 (hon 1 (by kernel_rfl)))
                    have HA_HO181 := Aside0.mk (Q_HA_HO181 (hon 1 (by kernel_rfl)))
                    have HI136 := Aside0.mk (Q_HI136_e3 (hon 3 (by kernel_rfl)))
                    obtain ⟨c_, hv_⟩ := HA_HO181.out
                    rw [hv_] at e73
                    refine value_ (w1 := w') (v := .pointer (some (adz_v180.add (t182).toNat))) (by rfl) rfl ?_ ?_
                    · go_simp
                      (try simp only [i64_w])
                      try rfl
                    refine hK.out _ _ ⟨v180, adz_v180, (.pointer (some (adz_v180.add (t182).toNat))), (by rw [ha.out]; exact putSel_upk 2 hb_ rfl rfl rfl), Q_HO_5, fun h0_ => absurd ((hon 3 (by kernel_rfl)).symm.trans h0_) (by decide), Q_HB, Q_HO181, Q_HA_HO181, Q_HI136_e3, fun _ => rfl⟩
                  refine steps_cons ?_ ?_
                  · rintro b a w' ⟨v180, adz_v180, m4_, ha, Q_HO_5, Q_HI136, Q_HB, Q_HO181, Q_HA_HO181, Q_HI136_e3, Q_X4_⟩ hb_ hon hoff
                    refine ⟨_, rfl, fun K hK => ?_⟩
                    have e76 : a.tmps[76]? = some (m4_) := by rw [ha]; exact putSel_on (e := (4, 76, m4_)) 2 rfl rfl (hon 4 (by kernel_rfl)) rfl
                    rw [Q_X4_ (hon 4 (by kernel_rfl))] at e76
                    replace ha := Aside0.mk ha
                    have HO_5 := Aside0.mk Q_HO_5
                    have HB := Aside0.mk Q_HB
                    have HO181 := Aside0.mk (Q_HO181 (hon 1 (by kernel_rfl)))
                    have HA_HO181 := Aside0.mk (Q_HA_HO181 (hon 1 (by kernel_rfl)))
                    have HI136 := Aside0.mk (Q_HI136_e3 (hon 3 (by kernel_rfl)))
                    obtain ⟨c_, hv_⟩ := HA_HO181.out
                    have hF_ := HO181.out
                    rw [hv_] at hF_
                    obtain ⟨ad_, ea_, hx_⟩ := Kd.at_int (Kd.R_reads' hF_).2.2 t182 (of_eq_true pi184) (of_eq_true qi184)
                    cases ea_
                    refine value_ (w1 := w') (v := .int .i64 (rd y179 t182)) (by rfl) rfl ?_ ?_
                    · go_simp
                      (try simp only [i64_w])
                      try rfl
                    refine hK.out _ _ ⟨v180, adz_v180, m4_, (by rw [ha.out]; exact putSel_upk 3 hb_ rfl rfl rfl), Q_HO_5, fun h0_ => absurd ((hon 3 (by kernel_rfl)).symm.trans h0_) (by decide), Q_HB, Q_HO181, Q_HA_HO181, Q_HI136_e3, Q_X4_⟩
                  refine steps_cons ?_ ?_
                  · rintro b a w' ⟨v180, adz_v180, m4_, ha, Q_HO_5, Q_HI136, Q_HB, Q_HO181, Q_HA_HO181, Q_HI136_e3, Q_X4_⟩ hb_ hon hoff
                    refine ⟨_, rfl, fun K hK => ?_⟩
                    have e72 : a.tmps[72]? = some (u5) := by rw [ha]; exact (putSel_off rfl).trans rfl
                    replace ha := Aside0.mk ha
                    have HO_5 := Aside0.mk Q_HO_5
                    have HB := Aside0.mk Q_HB
                    have HI136 := Aside0.mk (Q_HI136_e3 (hon 3 (by kernel_rfl)))
                    refine value_ (w1 := w') (v := u5) (by rfl) rfl ?_ ?_
                    · go_simp
                      (try simp only [i64_w])
                      try rfl
                    refine hK.out _ _ ⟨v180, adz_v180, m4_, (by rw [ha.out]; exact putSel_upk 4 hb_ rfl rfl rfl), Q_HO_5, fun h0_ => absurd ((hon 3 (by kernel_rfl)).symm.trans h0_) (by decide), Q_HB, Q_HO181, Q_HA_HO181, Q_HI136_e3, Q_X4_⟩
                  refine steps_cons ?_ ?_
                  · rintro b a w' ⟨v180, adz_v180, m4_, ha, Q_HO_5, Q_HI136, Q_HB, Q_HO181, Q_HA_HO181, Q_HI136_e3, Q_X4_⟩ hb_ hon hoff
                    refine ⟨_, rfl, fun K hK => ?_⟩
                    have e77 : a.tmps[77]? = some (.int .i64 (rd y179 t182)) := by rw [ha]; exact putSel_on (e := (5, 77, .int .i64 (rd y179 t182))) 3 rfl rfl (hon 5 (by kernel_rfl)) rfl
                    replace ha := Aside0.mk ha
                    have HO_5 := Aside0.mk Q_HO_5
                    have HB := Aside0.mk Q_HB
                    have HO181 := Aside0.mk (Q_HO181 (hon 1 (by kernel_rfl)))
                    have HA_HO181 := Aside0.mk (Q_HA_HO181 (hon 1 (by kernel_rfl)))
                    have HI136 := Aside0.mk (Q_HI136_e3 (hon 3 (by kernel_rfl)))
                    refine value_ (w1 := w') (v := .int .i64 (rd y179 t182)) (by rfl) rfl ?_ ?_
                    · go_simp
                      (try simp only [i64_w])
                      try rfl
                    refine hK.out _ _ ⟨v180, adz_v180, m4_, (by rw [ha.out]; exact putSel_upk 5 hb_ rfl rfl rfl), Q_HO_5, fun h0_ => absurd ((hon 3 (by kernel_rfl)).symm.trans h0_) (by decide), Q_HB, Q_HO181, Q_HA_HO181, Q_HI136_e3, Q_X4_⟩
                  exact steps_nil
                rintro b a w69 hall ⟨v180, adz_v180, m4_, ha, Q_HO_5, Q_HI136, Q_HB, Q_HO181, Q_HA_HO181, Q_HI136_e3, Q_X4_⟩
                clear HB HI136 HO_5
                have hb1_ := hall 1 (by kernel_rfl)
                have hb3_ := hall 3 (by kernel_rfl)
                have hb4_ := hall 4 (by kernel_rfl)
                have hb5_ := hall 5 (by kernel_rfl)
                have hb6_ := hall 6 (by kernel_rfl)
                have hb7_ := hall 7 (by kernel_rfl)
                subst ha
                obtain rfl := Q_X4_ hb4_
                simp only [putSel, hb1_, hb3_, hb4_, hb5_, hb6_, hb7_, if_true, Act.put, List.setIfInBounds_toArray, List.set_cons_zero, List.set_cons_succ]
                have HO_5 := Aside0.mk Q_HO_5
                clear Q_HO_5
                clear Q_HI136
                have HB := Aside0.mk Q_HB
                clear Q_HB
                have HO181 := Aside0.mk (Q_HO181 hb1_)
                clear Q_HO181
                have HA_HO181 := Aside0.mk (Q_HA_HO181 hb1_)
                clear Q_HA_HO181
                have HI136 := Aside0.mk (Q_HI136_e3 hb3_)
                clear Q_HI136_e3
                clear hall hb1_ hb3_ hb4_ hb5_ hb6_ hb7_
                obtain ⟨co70, eo70⟩ := HA_HO181.out
                clear HA_HO181
                subst eo70
                try go_wp2
                go_ret2
                exact ⟨_, by first | rfl | (simp [errW_none, errW_some] <;> rfl) | (simp [*, errW_none, errW_some] <;> rfl), by (with_reducible repeat (first | apply Kd.R_alloc | apply Kd.R_drewN | apply Kd.R_drew)); exact HO_5.out, by repeat (first | (with_reducible first | exact HB.out | apply below_alloc | apply pw_below_drewN | apply below_drew1 | refine below_set ?_ (IsS58.ge HI136.out)) | exact HB.out)⟩
              · rw [if_neg c62] at H
                exact absurd H (by simp)
            · rw [if_neg c61] at H
              exact absurd H (by simp)

end Go.Proofs.Ytbmldafgipimbaa.PFnClash

-- Walks of printed functions (by wip/gen.py of this session, with the kit's program).
import Derived.Test.YtbhkinfdilngiaaGFnExactGetx0
import Derived.Test.YtbhkinfdilngiaaGFnExactGetx1
import Derived.Test.YtbhkinfdilngiaaGFnExactGetx2
import Derived.Test.YtbhkinfdilngiaaGFnExactGetx5
import Derived.Test.YtbhkinfdilngiaaGFnExactGetx8
import Derived.Test.YtbhkinfdilngiaaGFnExactGetx9
namespace Go.Proofs.Ytbhkinfdilngiaa.PFnExactGet
open Go.RowKit Go.Proofs.YtbhkinfdilngiaaW.PrintWords Go.Proofs.YtbhkinfdilngiaaW.PrintLast Go.Proofs.YtbhkinfdilngiaaW.PrintMore
attribute [local go_sem] max2_int min2_int max_two min_two max_three min_three max_four min_four   -- for this text's walks alone
attribute [local go_sem] Go.Proofs.Ytbhkinfdilngiaa.L.str_geq
set_option linter.unusedVariables false
set_option linter.unusedSimpArgs false

/-! ### laws_FnExactGet: function 7 -/
mutual
def laws_FnExactGet.j0 : Nat → ByteArray → Int → ByteArray → Bool → ByteArray → Bool → Bool → Int → Int → List (S123) → List ByteArray → Int → Int → List (S92) → List ByteArray → Int → Int → List (S92) → List ByteArray → Int → Int → List (S92) → List ByteArray → Option (Bool)
 | 0, _, _, _, _, _, _, _, _, _, _, _, _, _, _, _, _, _, _, _, _, _, _, _ => none
 | k + 1, x1, x2, x8, x10, x12, x14, x61, x261000, x261001, x261002, x261003, x281000, x281001, x281002, x281003, x290000, x290001, x290002, x290003, x301000, x301001, x301002, x301003 => if x61 = true then (some false) else ((laws_toStore.f k x261000 x261001 x261002 x261003).bind fun bt302 => ((laws_eqStore.f k x290000 x290001 x290002 x290003 bt302.1 bt302.2.1 bt302.2.2.1 bt302.2.2.2).bind fun t310 => (if t310 = true then ((laws_markStore.f k x290000 x290001 x290002 x290003 1).bind fun bt311 => (if bt311.1 < 0 then (laws_FnExactGet.j1 k x1 x2 x8 x10 true x261000 x261001 x261002 x261003 x281000 x281001 x281002 x281003 x301000 x301001 x301002 x301003) else (if x12.toList = x8.toList then ((laws_eqStore.f k x301000 x301001 x301002 x301003 x281000 x281001 x281002 x281003).bind fun t314 => (if t314 = true then (laws_FnExactGet.j1 k x1 x2 x8 x10 (x14 != x10) x261000 x261001 x261002 x261003 x281000 x281001 x281002 x281003 x301000 x301001 x301002 x301003) else (laws_FnExactGet.j1 k x1 x2 x8 x10 true x261000 x261001 x261002 x261003 x281000 x281001 x281002 x281003 x301000 x301001 x301002 x301003))) else (laws_FnExactGet.j1 k x1 x2 x8 x10 true x261000 x261001 x261002 x261003 x281000 x281001 x281002 x281003 x301000 x301001 x301002 x301003)))) else (some false))))
def laws_FnExactGet.j1 : Nat → ByteArray → Int → ByteArray → Bool → Bool → Int → Int → List (S123) → List ByteArray → Int → Int → List (S92) → List ByteArray → Int → Int → List (S92) → List ByteArray → Option (Bool)
 | 0, _, _, _, _, _, _, _, _, _, _, _, _, _, _, _, _, _ => none
 | k + 1, x1, x2, x8, x10, x87, x261000, x261001, x261002, x261003, x281000, x281001, x281002, x281003, x301000, x301001, x301002, x301003 => if x87 = true then (some false) else ((laws_markStore.f k x301000 x301001 x301002 x301003 1).bind fun bt315 => ((laws_heldStore.f k x301000 x301001 bt315.2.1 bt315.2.2 1).bind fun t318 => (if t318 < 0 then (some false) else (if t318 = bt315.1 then ((laws_toStore.f k x261000 x261001 x261002 x261003).bind fun bt319 => ((impl_Get.f k bt319.1 bt319.2.1 bt319.2.2.1 bt319.2.2.2 x1 x2).bind fun bt327 => (if bt327.1.toList = x8.toList then ((laws_eqStore.f k bt327.2.1 bt327.2.2.1 bt327.2.2.2.1 bt327.2.2.2.2.1 x281000 x281001 x281002 x281003).bind fun t338 => (if t338 = true then (laws_FnExactGet.j2 k bt315.1 (bt327.2.2.2.2.2 != x10) x301000 x301001 bt315.2.1 bt315.2.2) else (laws_FnExactGet.j2 k bt315.1 true x301000 x301001 bt315.2.1 bt315.2.2))) else (laws_FnExactGet.j2 k bt315.1 true x301000 x301001 bt315.2.1 bt315.2.2)))) else (some false)))))
def laws_FnExactGet.j2 : Nat → Int → Bool → Int → Int → List (S92) → List ByteArray → Option (Bool)
 | 0, _, _, _, _, _, _ => none
 | k + 1, x16, x121, x301000, x301001, x301002, x301003 => if x121 = true then (some false) else ((laws_heldStore.f k x301000 x301001 x301002 x301003 1).bind fun t339 => (if t339 < 0 then (some false) else (if t339 = x16 then (some true) else (some false))))
end
def laws_FnExactGet.f (k : Nat) (a0_0 : Int) (a0_1 : Int) (l0_2 : List (S123)) (l0_3 : List ByteArray) (a1 : ByteArray) (a2 : Int) : Option (Bool) := if (a1.size : Int) > 1048576 then (some true) else ((laws_szStore.f k a0_0 a0_1 l0_2 l0_3 1048576).bind fun t261 => (if t261 < 0 then (some true) else ((laws_toStore.f k a0_0 a0_1 l0_2 l0_3).bind fun bt262 => ((spec_Get.f k bt262.1 bt262.2.1 bt262.2.2.1 bt262.2.2.2 a1 a2).bind fun bt270 => ((laws_toStore.f k a0_0 a0_1 l0_2 l0_3).bind fun bt281 => ((impl_Get.f k bt281.1 bt281.2.1 bt281.2.2.1 bt281.2.2.2 a1 a2).bind fun bt290 => (if bt290.1.toList = bt270.1.toList then ((laws_eqStore.f k bt290.2.1 bt290.2.2.1 bt290.2.2.2.1 bt290.2.2.2.2.1 bt270.2.1 bt270.2.2.1 bt270.2.2.2.1 bt270.2.2.2.2.1).bind fun t301 => (if t301 = true then (laws_FnExactGet.j0 k a1 a2 bt270.1 bt270.2.2.2.2.2 bt290.1 bt290.2.2.2.2.2 (bt290.2.2.2.2.2 != bt270.2.2.2.2.2) a0_0 a0_1 l0_2 l0_3 bt270.2.1 bt270.2.2.1 bt270.2.2.2.1 bt270.2.2.2.2.1 bt281.1 bt281.2.1 bt281.2.2.1 bt281.2.2.2 bt290.2.1 bt290.2.2.1 bt290.2.2.2.1 bt290.2.2.2.2.1) else (laws_FnExactGet.j0 k a1 a2 bt270.1 bt270.2.2.2.2.2 bt290.1 bt290.2.2.2.2.2 true a0_0 a0_1 l0_2 l0_3 bt270.2.1 bt270.2.2.1 bt270.2.2.2.1 bt270.2.2.2.2.1 bt281.1 bt281.2.1 bt281.2.2.1 bt281.2.2.2 bt290.2.1 bt290.2.2.1 bt290.2.2.2.1 bt290.2.2.2.2.1))) else (laws_FnExactGet.j0 k a1 a2 bt270.1 bt270.2.2.2.2.2 bt290.1 bt290.2.2.2.2.2 true a0_0 a0_1 l0_2 l0_3 bt270.2.1 bt270.2.2.1 bt270.2.2.2.1 bt270.2.2.2.2.1 bt281.1 bt281.2.1 bt281.2.2.1 bt281.2.2.2 bt290.2.1 bt290.2.2.1 bt290.2.2.2.1 bt290.2.2.2.2.1))))))))
theorem laws_FnExactGet.mono_l : ∀ k, (∀ y0 y1 y2 y3 y4 y5 y6 y7 y8 y9 y10 y11 y12 y13 y14 y15 y16 y17 y18 y19 y20 y21 y22, LeO (laws_FnExactGet.j0 k y0 y1 y2 y3 y4 y5 y6 y7 y8 y9 y10 y11 y12 y13 y14 y15 y16 y17 y18 y19 y20 y21 y22) (laws_FnExactGet.j0 (k + 1) y0 y1 y2 y3 y4 y5 y6 y7 y8 y9 y10 y11 y12 y13 y14 y15 y16 y17 y18 y19 y20 y21 y22)) ∧ (∀ y0 y1 y2 y3 y4 y5 y6 y7 y8 y9 y10 y11 y12 y13 y14 y15 y16, LeO (laws_FnExactGet.j1 k y0 y1 y2 y3 y4 y5 y6 y7 y8 y9 y10 y11 y12 y13 y14 y15 y16) (laws_FnExactGet.j1 (k + 1) y0 y1 y2 y3 y4 y5 y6 y7 y8 y9 y10 y11 y12 y13 y14 y15 y16)) ∧ (∀ y0 y1 y2 y3 y4 y5, LeO (laws_FnExactGet.j2 k y0 y1 y2 y3 y4 y5) (laws_FnExactGet.j2 (k + 1) y0 y1 y2 y3 y4 y5))
 | 0 => ⟨fun _ _ _ _ _ _ _ _ _ _ _ _ _ _ _ _ _ _ _ _ _ _ _ r h => by simp [laws_FnExactGet.j0] at h, fun _ _ _ _ _ _ _ _ _ _ _ _ _ _ _ _ _ r h => by simp [laws_FnExactGet.j1] at h, fun _ _ _ _ _ _ r h => by simp [laws_FnExactGet.j2] at h⟩
 | k + 1 => by
  obtain ⟨ih0, ih1, ih2⟩ := laws_FnExactGet.mono_l k
  refine ⟨?_, ?_, ?_⟩
  ·
   intro y0 y1 y2 y3 y4 y5 y6 y7 y8 y9 y10 y11 y12 y13 y14 y15 y16 y17 y18 y19 y20 y21 y22
   unfold laws_FnExactGet.j0
   repeat' first
   | (with_reducible exact ih0 _ _ _ _ _ _ _ _ _ _ _ _ _ _ _ _ _ _ _ _ _ _ _)
   | (with_reducible exact ih1 _ _ _ _ _ _ _ _ _ _ _ _ _ _ _ _ _)
   | (with_reducible exact ih2 _ _ _ _ _ _)
   | (with_reducible exact impl_Get.mono _ _ _ _ _ _ _)
   | (with_reducible exact laws_eqStore.mono _ _ _ _ _ _ _ _ _)
   | (with_reducible exact laws_heldStore.mono _ _ _ _ _ _)
   | (with_reducible exact laws_markStore.mono _ _ _ _ _ _)
   | (with_reducible exact laws_szStore.mono _ _ _ _ _ _)
   | (with_reducible exact laws_toStore.mono _ _ _ _ _)
   | (with_reducible exact spec_Get.mono _ _ _ _ _ _ _)
   | (with_reducible exact LeO.refl _)
   | (with_reducible exact LeO.none _)
   | (with_reducible refine LeO.ite ?_ ?_)
   | (with_reducible refine LeO.bind ?_ (fun _ => ?_))
   | exact ih0 _ _ _ _ _ _ _ _ _ _ _ _ _ _ _ _ _ _ _ _ _ _ _
   | exact ih1 _ _ _ _ _ _ _ _ _ _ _ _ _ _ _ _ _
   | exact ih2 _ _ _ _ _ _
   | exact impl_Get.mono _ _ _ _ _ _ _
   | exact laws_eqStore.mono _ _ _ _ _ _ _ _ _
   | exact laws_heldStore.mono _ _ _ _ _ _
   | exact laws_markStore.mono _ _ _ _ _ _
   | exact laws_szStore.mono _ _ _ _ _ _
   | exact laws_toStore.mono _ _ _ _ _
   | exact spec_Get.mono _ _ _ _ _ _ _
   | exact LeO.none _
   | refine LeO.ite ?_ ?_
   | refine LeO.bind ?_ (fun _ => ?_)
  ·
   intro y0 y1 y2 y3 y4 y5 y6 y7 y8 y9 y10 y11 y12 y13 y14 y15 y16
   unfold laws_FnExactGet.j1
   repeat' first
   | (with_reducible exact ih0 _ _ _ _ _ _ _ _ _ _ _ _ _ _ _ _ _ _ _ _ _ _ _)
   | (with_reducible exact ih1 _ _ _ _ _ _ _ _ _ _ _ _ _ _ _ _ _)
   | (with_reducible exact ih2 _ _ _ _ _ _)
   | (with_reducible exact impl_Get.mono _ _ _ _ _ _ _)
   | (with_reducible exact laws_eqStore.mono _ _ _ _ _ _ _ _ _)
   | (with_reducible exact laws_heldStore.mono _ _ _ _ _ _)
   | (with_reducible exact laws_markStore.mono _ _ _ _ _ _)
   | (with_reducible exact laws_szStore.mono _ _ _ _ _ _)
   | (with_reducible exact laws_toStore.mono _ _ _ _ _)
   | (with_reducible exact spec_Get.mono _ _ _ _ _ _ _)
   | (with_reducible exact LeO.refl _)
   | (with_reducible exact LeO.none _)
   | (with_reducible refine LeO.ite ?_ ?_)
   | (with_reducible refine LeO.bind ?_ (fun _ => ?_))
   | exact ih0 _ _ _ _ _ _ _ _ _ _ _ _ _ _ _ _ _ _ _ _ _ _ _
   | exact ih1 _ _ _ _ _ _ _ _ _ _ _ _ _ _ _ _ _
   | exact ih2 _ _ _ _ _ _
   | exact impl_Get.mono _ _ _ _ _ _ _
   | exact laws_eqStore.mono _ _ _ _ _ _ _ _ _
   | exact laws_heldStore.mono _ _ _ _ _ _
   | exact laws_markStore.mono _ _ _ _ _ _
   | exact laws_szStore.mono _ _ _ _ _ _
   | exact laws_toStore.mono _ _ _ _ _
   | exact spec_Get.mono _ _ _ _ _ _ _
   | exact LeO.none _
   | refine LeO.ite ?_ ?_
   | refine LeO.bind ?_ (fun _ => ?_)
  ·
   intro y0 y1 y2 y3 y4 y5
   unfold laws_FnExactGet.j2
   repeat' first
   | (with_reducible exact ih0 _ _ _ _ _ _ _ _ _ _ _ _ _ _ _ _ _ _ _ _ _ _ _)
   | (with_reducible exact ih1 _ _ _ _ _ _ _ _ _ _ _ _ _ _ _ _ _)
   | (with_reducible exact ih2 _ _ _ _ _ _)
   | (with_reducible exact impl_Get.mono _ _ _ _ _ _ _)
   | (with_reducible exact laws_eqStore.mono _ _ _ _ _ _ _ _ _)
   | (with_reducible exact laws_heldStore.mono _ _ _ _ _ _)
   | (with_reducible exact laws_markStore.mono _ _ _ _ _ _)
   | (with_reducible exact laws_szStore.mono _ _ _ _ _ _)
   | (with_reducible exact laws_toStore.mono _ _ _ _ _)
   | (with_reducible exact spec_Get.mono _ _ _ _ _ _ _)
   | (with_reducible exact LeO.refl _)
   | (with_reducible exact LeO.none _)
   | (with_reducible refine LeO.ite ?_ ?_)
   | (with_reducible refine LeO.bind ?_ (fun _ => ?_))
   | exact ih0 _ _ _ _ _ _ _ _ _ _ _ _ _ _ _ _ _ _ _ _ _ _ _
   | exact ih1 _ _ _ _ _ _ _ _ _ _ _ _ _ _ _ _ _
   | exact ih2 _ _ _ _ _ _
   | exact impl_Get.mono _ _ _ _ _ _ _
   | exact laws_eqStore.mono _ _ _ _ _ _ _ _ _
   | exact laws_heldStore.mono _ _ _ _ _ _
   | exact laws_markStore.mono _ _ _ _ _ _
   | exact laws_szStore.mono _ _ _ _ _ _
   | exact laws_toStore.mono _ _ _ _ _
   | exact spec_Get.mono _ _ _ _ _ _ _
   | exact LeO.none _
   | refine LeO.ite ?_ ?_
   | refine LeO.bind ?_ (fun _ => ?_)
theorem laws_FnExactGet.mono : ∀ a0 a1 a2 a3 a4 a5 k, LeO (laws_FnExactGet.f k a0 a1 a2 a3 a4 a5) (laws_FnExactGet.f (k + 1) a0 a1 a2 a3 a4 a5) := by
 intro a0 a1 a2 a3 a4 a5 k
 obtain ⟨ih0, ih1, ih2⟩ := laws_FnExactGet.mono_l k
 unfold laws_FnExactGet.f
 repeat' first
   | (with_reducible exact ih0 _ _ _ _ _ _ _ _ _ _ _ _ _ _ _ _ _ _ _ _ _ _ _)
   | (with_reducible exact ih1 _ _ _ _ _ _ _ _ _ _ _ _ _ _ _ _ _)
   | (with_reducible exact ih2 _ _ _ _ _ _)
   | (with_reducible exact impl_Get.mono _ _ _ _ _ _ _)
   | (with_reducible exact laws_eqStore.mono _ _ _ _ _ _ _ _ _)
   | (with_reducible exact laws_heldStore.mono _ _ _ _ _ _)
   | (with_reducible exact laws_markStore.mono _ _ _ _ _ _)
   | (with_reducible exact laws_szStore.mono _ _ _ _ _ _)
   | (with_reducible exact laws_toStore.mono _ _ _ _ _)
   | (with_reducible exact spec_Get.mono _ _ _ _ _ _ _)
   | (with_reducible exact LeO.refl _)
   | (with_reducible exact LeO.none _)
   | (with_reducible refine LeO.ite ?_ ?_)
   | (with_reducible refine LeO.bind ?_ (fun _ => ?_))
   | exact ih0 _ _ _ _ _ _ _ _ _ _ _ _ _ _ _ _ _ _ _ _ _ _ _
   | exact ih1 _ _ _ _ _ _ _ _ _ _ _ _ _ _ _ _ _
   | exact ih2 _ _ _ _ _ _
   | exact impl_Get.mono _ _ _ _ _ _ _
   | exact laws_eqStore.mono _ _ _ _ _ _ _ _ _
   | exact laws_heldStore.mono _ _ _ _ _ _
   | exact laws_markStore.mono _ _ _ _ _ _
   | exact laws_szStore.mono _ _ _ _ _ _
   | exact laws_toStore.mono _ _ _ _ _
   | exact spec_Get.mono _ _ _ _ _ _ _
   | exact LeO.none _
   | refine LeO.ite ?_ ?_
   | refine LeO.bind ?_ (fun _ => ?_)
set_option maxHeartbeats 8000000 in
set_option maxRecDepth 100000 in
theorem laws_FnExactGet.calls (k : Nat) (a0_0 : Int) (a0_1 : Int) (A0_2 : Option Addr) (c0_2 : Nat) (l0_2 : List (S123)) (A0_3 : Option Addr) (c0_3 : Nat) (l0_3 : List ByteArray) (a1 : ByteArray) (a2 : Int) (r : Bool) (w : World) (hr0_2 : Kd.C k123 w A0_2 l0_2.length l0_2) (hc0_2 : l0_2.length ≤ c0_2) (hr0_3 : Kd.C Kd.string w A0_3 l0_3.length l0_3) (hc0_3 : l0_3.length ≤ c0_3) (h : laws_FnExactGet.f k a0_0 a0_1 l0_2 l0_3 a1 a2 = some r) :
  Calls Try.prog 7 #[.agg #[.int .i64 a0_0, .int .i64 a0_1, .slice A0_2 l0_2.length c0_2, .slice A0_3 l0_3.length c0_3], .string a1, .int .i64 a2] w fun e w' => e = .returned (.bool r) ∧ Below w.heap.size w w' := by
 have hu31 := Try.underlying31
 have hu36 := Try.underlying36
 have HR0_2 := Aside0.mk hr0_2
 have HC0_2 := Aside0.mk hc0_2
 clear hr0_2 hc0_2
 have HR0_3 := Aside0.mk hr0_3
 have HC0_3 := Aside0.mk hc0_3
 clear hr0_3 hc0_3
 have HB := Aside0.mk (Below.refl w.heap.size w)
 have H : (if (a1.size : Int) > 1048576 then (some true) else ((laws_szStore.f k a0_0 a0_1 l0_2 l0_3 1048576).bind fun t261 => (if t261 < 0 then (some true) else ((laws_toStore.f k a0_0 a0_1 l0_2 l0_3).bind fun bt262 => ((spec_Get.f k bt262.1 bt262.2.1 bt262.2.2.1 bt262.2.2.2 a1 a2).bind fun bt270 => ((laws_toStore.f k a0_0 a0_1 l0_2 l0_3).bind fun bt281 => ((impl_Get.f k bt281.1 bt281.2.1 bt281.2.2.1 bt281.2.2.2 a1 a2).bind fun bt290 => (if bt290.1.toList = bt270.1.toList then ((laws_eqStore.f k bt290.2.1 bt290.2.2.1 bt290.2.2.2.1 bt290.2.2.2.2.1 bt270.2.1 bt270.2.2.1 bt270.2.2.2.1 bt270.2.2.2.2.1).bind fun t301 => (if t301 = true then (laws_FnExactGet.j0 k a1 a2 bt270.1 bt270.2.2.2.2.2 bt290.1 bt290.2.2.2.2.2 (bt290.2.2.2.2.2 != bt270.2.2.2.2.2) a0_0 a0_1 l0_2 l0_3 bt270.2.1 bt270.2.2.1 bt270.2.2.2.1 bt270.2.2.2.2.1 bt281.1 bt281.2.1 bt281.2.2.1 bt281.2.2.2 bt290.2.1 bt290.2.2.1 bt290.2.2.2.1 bt290.2.2.2.2.1) else (laws_FnExactGet.j0 k a1 a2 bt270.1 bt270.2.2.2.2.2 bt290.1 bt290.2.2.2.2.2 true a0_0 a0_1 l0_2 l0_3 bt270.2.1 bt270.2.2.1 bt270.2.2.2.1 bt270.2.2.2.2.1 bt281.1 bt281.2.1 bt281.2.2.1 bt281.2.2.2 bt290.2.1 bt290.2.2.1 bt290.2.2.2.1 bt290.2.2.2.2.1))) else (laws_FnExactGet.j0 k a1 a2 bt270.1 bt270.2.2.2.2.2 bt290.1 bt290.2.2.2.2.2 true a0_0 a0_1 l0_2 l0_3 bt270.2.1 bt270.2.2.1 bt270.2.2.2.1 bt270.2.2.2.2.1 bt281.1 bt281.2.1 bt281.2.2.1 bt281.2.2.2 bt290.2.1 bt290.2.2.1 bt290.2.2.2.1 bt290.2.2.2.2.1))))))))) = some r := h
 clear h
 by_cases c4 : (a1.size : Int) > 1048576
 ·
  rw [if_pos c4] at H
  have c4b0 : decide (1048576 < (a1.size : Int)) = true := decide_eq_true c4
  have c4b1 : decide (1048576 < a1.size) = true := decide_eq_true (by omega)
  clear c4
  obtain rfl := Option.some.inj H
  go_enter Try.func7, Try.ntmps7
  go_wp2_with (first | ((with_reducible refine gate_dst (N := 3) rfl ?_); refine box_event ?hg (N := 3) ?hd (cs := #[.int .i64 a0_0, .int .i64 a0_1, .slice A0_2 l0_2.length c0_2, .slice A0_3 l0_3.length c0_3]) (t := 31) ?hr ?_; (case hd => rfl); (case hg => rfl); (case hr => first | (go_simp; done) | (go_simp; rfl)); intro gb260 hg w5 hbox hb; have n0_ := Aside0.mk (below_step (Zz.rB_ HB.out) hb); have n1_ := Aside0.mk (hbox); have n2_ := Aside0.mk ((by rw [hg]; exact (below_size (Zz.rB_ HB.out)) : w.heap.size ≤ gb260)); have n3_ := Aside0.mk ((by rw [hg]; exact (below_size (Zz.rB_ HB.out)) : w.heap.size ≤ gb260)); clear HB; have HB := n0_; have BK260 := n1_; have GW260 := n2_; have GE260 := n3_; clear n0_ n1_ n2_ n3_; clear hb hbox hg))
  go_ret
  exact ⟨by first | rfl | (simp [errW_none, errW_some] <;> rfl) | (simp [*, errW_none, errW_some] <;> rfl), by repeat (first | (with_reducible first | exact HB.out | apply below_alloc | apply pw_below_drewN | apply below_drew1 | refine below_set ?_ GE260.out) | exact HB.out)⟩
 ·
  rw [if_neg c4] at H
  have c4b0 : decide (1048576 < (a1.size : Int)) = false := decide_eq_false c4
  have c4b1 : decide (1048576 < a1.size) = false := decide_eq_false (by omega)
  clear c4
  replace H := Option.bind_eq_some_iff.mp H
  obtain ⟨t261, A60, H⟩ := H
  replace H : (if t261 < 0 then (some true) else ((laws_toStore.f k a0_0 a0_1 l0_2 l0_3).bind fun bt262 => ((spec_Get.f k bt262.1 bt262.2.1 bt262.2.2.1 bt262.2.2.2 a1 a2).bind fun bt270 => ((laws_toStore.f k a0_0 a0_1 l0_2 l0_3).bind fun bt281 => ((impl_Get.f k bt281.1 bt281.2.1 bt281.2.2.1 bt281.2.2.2 a1 a2).bind fun bt290 => (if bt290.1.toList = bt270.1.toList then ((laws_eqStore.f k bt290.2.1 bt290.2.2.1 bt290.2.2.2.1 bt290.2.2.2.2.1 bt270.2.1 bt270.2.2.1 bt270.2.2.2.1 bt270.2.2.2.2.1).bind fun t301 => (if t301 = true then (laws_FnExactGet.j0 k a1 a2 bt270.1 bt270.2.2.2.2.2 bt290.1 bt290.2.2.2.2.2 (bt290.2.2.2.2.2 != bt270.2.2.2.2.2) a0_0 a0_1 l0_2 l0_3 bt270.2.1 bt270.2.2.1 bt270.2.2.2.1 bt270.2.2.2.2.1 bt281.1 bt281.2.1 bt281.2.2.1 bt281.2.2.2 bt290.2.1 bt290.2.2.1 bt290.2.2.2.1 bt290.2.2.2.2.1) else (laws_FnExactGet.j0 k a1 a2 bt270.1 bt270.2.2.2.2.2 bt290.1 bt290.2.2.2.2.2 true a0_0 a0_1 l0_2 l0_3 bt270.2.1 bt270.2.2.1 bt270.2.2.2.1 bt270.2.2.2.2.1 bt281.1 bt281.2.1 bt281.2.2.1 bt281.2.2.2 bt290.2.1 bt290.2.2.1 bt290.2.2.2.1 bt290.2.2.2.2.1))) else (laws_FnExactGet.j0 k a1 a2 bt270.1 bt270.2.2.2.2.2 bt290.1 bt290.2.2.2.2.2 true a0_0 a0_1 l0_2 l0_3 bt270.2.1 bt270.2.2.1 bt270.2.2.2.1 bt270.2.2.2.2.1 bt281.1 bt281.2.1 bt281.2.2.1 bt281.2.2.2 bt290.2.1 bt290.2.2.1 bt290.2.2.2.1 bt290.2.2.2.2.1))))))) = some r := H
  have A6 := Aside0.mk A60
  clear A60
  by_cases c7 : t261 < 0
  ·
   rw [if_pos c7] at H
   have c7b0 : decide (t261 < 0) = true := decide_eq_true c7
   clear c7
   obtain rfl := Option.some.inj H
   go_enter Try.func7, Try.ntmps7
   go_wp2_with (first | ((with_reducible refine gate_dst (N := 3) rfl ?_); refine box_event ?hg (N := 3) ?hd (cs := #[.int .i64 a0_0, .int .i64 a0_1, .slice A0_2 l0_2.length c0_2, .slice A0_3 l0_3.length c0_3]) (t := 31) ?hr ?_; (case hd => rfl); (case hg => rfl); (case hr => first | (go_simp; done) | (go_simp; rfl)); intro gb260 hg w8 hbox hb; have n0_ := Aside0.mk (below_step (Zz.rB_ HB.out) hb); have n1_ := Aside0.mk (hbox); have n2_ := Aside0.mk ((by rw [hg]; exact (below_size (Zz.rB_ HB.out)) : w.heap.size ≤ gb260)); have n3_ := Aside0.mk ((by rw [hg]; exact (below_size (Zz.rB_ HB.out)) : w.heap.size ≤ gb260)); clear HB; have HB := n0_; have BK260 := n1_; have GW260 := n2_; have GE260 := n3_; clear n0_ n1_ n2_ n3_; clear hb hbox hg; have hcz9_0 : w8.cell? ⟨gb260, 0, none⟩ = some (.int .i64 a0_0) := (blk_cell BK260.out 0).trans rfl; have hcz9_1 : w8.cell? ⟨gb260, 1, none⟩ = some (.int .i64 a0_1) := (blk_cell BK260.out 1).trans rfl; have hcz9_2 : w8.cell? ⟨gb260, 2, none⟩ = some (.slice A0_2 l0_2.length c0_2) := (blk_cell BK260.out 2).trans rfl; have hcz9_3 : w8.cell? ⟨gb260, 3, none⟩ = some (.slice A0_3 l0_3.length c0_3) := (blk_cell BK260.out 3).trans rfl; have hfz9_0 := blk_frozen BK260.out 0; have hfz9_1 := blk_frozen BK260.out 1; have hfz9_2 := blk_frozen BK260.out 2; have hfz9_3 := blk_frozen BK260.out 3) | ((with_reducible refine gate_callee (f := 18) rfl ?_); refine goesL_ (some 26) rfl rfl Try.func18 (by kernel_rfl) rfl #[.agg #[.int .i64 a0_0, .int .i64 a0_1, .slice A0_2 l0_2.length c0_2, .slice A0_3 l0_3.length c0_3], .int .i64 1048576] rfl (by (try simp only [List.map_toArray, List.map_cons, List.map_nil]); first | done | rfl | (simp only [List.length_drop, List.length_take]; rfl)) ?_; (with_reducible refine (laws_szStore.calls k a0_0 a0_1 _ _ l0_2 _ _ l0_3 1048576 t261 _ ?side1 ?side2 ?side3 ?side4 A6.out).mono ?_); (case side1 => repeat (first | exact (Kd.C_below HR0_2.out HB.out) | (with_reducible refine Kd.C_alloc ?_ _) | (with_reducible refine Kd.C_drewN ?_ _) | (with_reducible refine Kd.C_drew ?_))); (case side2 => exact HC0_2.out); (case side3 => repeat (first | exact (Kd.C_below HR0_3.out HB.out) | (with_reducible refine Kd.C_alloc ?_ _) | (with_reducible refine Kd.C_drewN ?_ _) | (with_reducible refine Kd.C_drew ?_))); (case side4 => exact HC0_3.out); rintro e w10 ⟨rfl, hb⟩; refine ⟨_, rfl, ?_⟩; have n0_ := Aside0.mk (blk_below (g := gb260) (o := .cells #[.int .i64 a0_0, .int .i64 a0_1, .slice A0_2 l0_2.length c0_2, .slice A0_3 l0_3.length c0_3] 31 (0, 0)) (Zz.rb_ BK260.out) hb); have n1_ := Aside0.mk (below_step (Zz.rB_ HB.out) hb); clear BK260; clear HB; have BK260 := n0_; have HB := n1_; clear n0_ n1_; (try clear hb); (try clear hb2); (try clear hk); (try clear hi)))
   go_ret
   exact ⟨by first | rfl | (simp [errW_none, errW_some] <;> rfl) | (simp [*, errW_none, errW_some] <;> rfl), by repeat (first | (with_reducible first | exact HB.out | apply below_alloc | apply pw_below_drewN | apply below_drew1 | refine below_set ?_ GE260.out) | exact HB.out)⟩
  ·
   rw [if_neg c7] at H
   have c7b0 : decide (t261 < 0) = false := decide_eq_false c7
   clear c7
   replace H := Option.bind_eq_some_iff.mp H
   obtain ⟨⟨t262, t263, t264, t267⟩, A110, H⟩ := H
   replace H : ((spec_Get.f k t262 t263 t264 t267 a1 a2).bind fun bt270 => ((laws_toStore.f k a0_0 a0_1 l0_2 l0_3).bind fun bt281 => ((impl_Get.f k bt281.1 bt281.2.1 bt281.2.2.1 bt281.2.2.2 a1 a2).bind fun bt290 => (if bt290.1.toList = bt270.1.toList then ((laws_eqStore.f k bt290.2.1 bt290.2.2.1 bt290.2.2.2.1 bt290.2.2.2.2.1 bt270.2.1 bt270.2.2.1 bt270.2.2.2.1 bt270.2.2.2.2.1).bind fun t301 => (if t301 = true then (laws_FnExactGet.j0 k a1 a2 bt270.1 bt270.2.2.2.2.2 bt290.1 bt290.2.2.2.2.2 (bt290.2.2.2.2.2 != bt270.2.2.2.2.2) a0_0 a0_1 l0_2 l0_3 bt270.2.1 bt270.2.2.1 bt270.2.2.2.1 bt270.2.2.2.2.1 bt281.1 bt281.2.1 bt281.2.2.1 bt281.2.2.2 bt290.2.1 bt290.2.2.1 bt290.2.2.2.1 bt290.2.2.2.2.1) else (laws_FnExactGet.j0 k a1 a2 bt270.1 bt270.2.2.2.2.2 bt290.1 bt290.2.2.2.2.2 true a0_0 a0_1 l0_2 l0_3 bt270.2.1 bt270.2.2.1 bt270.2.2.2.1 bt270.2.2.2.2.1 bt281.1 bt281.2.1 bt281.2.2.1 bt281.2.2.2 bt290.2.1 bt290.2.2.1 bt290.2.2.2.1 bt290.2.2.2.2.1))) else (laws_FnExactGet.j0 k a1 a2 bt270.1 bt270.2.2.2.2.2 bt290.1 bt290.2.2.2.2.2 true a0_0 a0_1 l0_2 l0_3 bt270.2.1 bt270.2.2.1 bt270.2.2.2.1 bt270.2.2.2.2.1 bt281.1 bt281.2.1 bt281.2.2.1 bt281.2.2.2 bt290.2.1 bt290.2.2.1 bt290.2.2.2.1 bt290.2.2.2.2.1))))) = some r := H
   have A11 := Aside0.mk A110
   clear A110
   replace H := Option.bind_eq_some_iff.mp H
   obtain ⟨⟨t270, t271, t272, t273, t276, t279⟩, A120, H⟩ := H
   replace H : ((laws_toStore.f k a0_0 a0_1 l0_2 l0_3).bind fun bt281 => ((impl_Get.f k bt281.1 bt281.2.1 bt281.2.2.1 bt281.2.2.2 a1 a2).bind fun bt290 => (if bt290.1.toList = t270.toList then ((laws_eqStore.f k bt290.2.1 bt290.2.2.1 bt290.2.2.2.1 bt290.2.2.2.2.1 t271 t272 t273 t276).bind fun t301 => (if t301 = true then (laws_FnExactGet.j0 k a1 a2 t270 t279 bt290.1 bt290.2.2.2.2.2 (bt290.2.2.2.2.2 != t279) a0_0 a0_1 l0_2 l0_3 t271 t272 t273 t276 bt281.1 bt281.2.1 bt281.2.2.1 bt281.2.2.2 bt290.2.1 bt290.2.2.1 bt290.2.2.2.1 bt290.2.2.2.2.1) else (laws_FnExactGet.j0 k a1 a2 t270 t279 bt290.1 bt290.2.2.2.2.2 true a0_0 a0_1 l0_2 l0_3 t271 t272 t273 t276 bt281.1 bt281.2.1 bt281.2.2.1 bt281.2.2.2 bt290.2.1 bt290.2.2.1 bt290.2.2.2.1 bt290.2.2.2.2.1))) else (laws_FnExactGet.j0 k a1 a2 t270 t279 bt290.1 bt290.2.2.2.2.2 true a0_0 a0_1 l0_2 l0_3 t271 t272 t273 t276 bt281.1 bt281.2.1 bt281.2.2.1 bt281.2.2.2 bt290.2.1 bt290.2.2.1 bt290.2.2.2.1 bt290.2.2.2.2.1)))) = some r := H
   have A12 := Aside0.mk A120
   clear A120
   replace H := Option.bind_eq_some_iff.mp H
   obtain ⟨⟨t281, t282, t283, t286⟩, A130, H⟩ := H
   replace H : ((impl_Get.f k t281 t282 t283 t286 a1 a2).bind fun bt290 => (if bt290.1.toList = t270.toList then ((laws_eqStore.f k bt290.2.1 bt290.2.2.1 bt290.2.2.2.1 bt290.2.2.2.2.1 t271 t272 t273 t276).bind fun t301 => (if t301 = true then (laws_FnExactGet.j0 k a1 a2 t270 t279 bt290.1 bt290.2.2.2.2.2 (bt290.2.2.2.2.2 != t279) a0_0 a0_1 l0_2 l0_3 t271 t272 t273 t276 t281 t282 t283 t286 bt290.2.1 bt290.2.2.1 bt290.2.2.2.1 bt290.2.2.2.2.1) else (laws_FnExactGet.j0 k a1 a2 t270 t279 bt290.1 bt290.2.2.2.2.2 true a0_0 a0_1 l0_2 l0_3 t271 t272 t273 t276 t281 t282 t283 t286 bt290.2.1 bt290.2.2.1 bt290.2.2.2.1 bt290.2.2.2.2.1))) else (laws_FnExactGet.j0 k a1 a2 t270 t279 bt290.1 bt290.2.2.2.2.2 true a0_0 a0_1 l0_2 l0_3 t271 t272 t273 t276 t281 t282 t283 t286 bt290.2.1 bt290.2.2.1 bt290.2.2.2.1 bt290.2.2.2.2.1))) = some r := H
   have A13 := Aside0.mk A130
   clear A130
   replace H := Option.bind_eq_some_iff.mp H
   obtain ⟨⟨t290, t291, t292, t293, t296, t299⟩, A140, H⟩ := H
   replace H : (if t290.toList = t270.toList then ((laws_eqStore.f k t291 t292 t293 t296 t271 t272 t273 t276).bind fun t301 => (if t301 = true then (laws_FnExactGet.j0 k a1 a2 t270 t279 t290 t299 (t299 != t279) a0_0 a0_1 l0_2 l0_3 t271 t272 t273 t276 t281 t282 t283 t286 t291 t292 t293 t296) else (laws_FnExactGet.j0 k a1 a2 t270 t279 t290 t299 true a0_0 a0_1 l0_2 l0_3 t271 t272 t273 t276 t281 t282 t283 t286 t291 t292 t293 t296))) else (laws_FnExactGet.j0 k a1 a2 t270 t279 t290 t299 true a0_0 a0_1 l0_2 l0_3 t271 t272 t273 t276 t281 t282 t283 t286 t291 t292 t293 t296)) = some r := H
   have A14 := Aside0.mk A140
   clear A140
   have HC15 := Aside0.mk H
   clear H
   go_enter Try.func7, Try.ntmps7
   go_upto_region 10 with (first | ((with_reducible refine gate_dst (N := 3) rfl ?_); refine box_event ?hg (N := 3) ?hd (cs := #[.int .i64 a0_0, .int .i64 a0_1, .slice A0_2 l0_2.length c0_2, .slice A0_3 l0_3.length c0_3]) (t := 31) ?hr ?_; (case hd => rfl); (case hg => rfl); (case hr => first | (go_simp; done) | (go_simp; rfl)); intro gb260 hg w16 hbox hb; have n0_ := Aside0.mk (below_step (Zz.rB_ HB.out) hb); have n1_ := Aside0.mk (hbox); have n2_ := Aside0.mk ((by rw [hg]; exact (below_size (Zz.rB_ HB.out)) : w.heap.size ≤ gb260)); have n3_ := Aside0.mk ((by rw [hg]; exact (below_size (Zz.rB_ HB.out)) : w.heap.size ≤ gb260)); clear HB; have HB := n0_; have BK260 := n1_; have GW260 := n2_; have GE260 := n3_; clear n0_ n1_ n2_ n3_; clear hb hbox hg; have hcz17_0 : w16.cell? ⟨gb260, 0, none⟩ = some (.int .i64 a0_0) := (blk_cell BK260.out 0).trans rfl; have hcz17_1 : w16.cell? ⟨gb260, 1, none⟩ = some (.int .i64 a0_1) := (blk_cell BK260.out 1).trans rfl; have hcz17_2 : w16.cell? ⟨gb260, 2, none⟩ = some (.slice A0_2 l0_2.length c0_2) := (blk_cell BK260.out 2).trans rfl; have hcz17_3 : w16.cell? ⟨gb260, 3, none⟩ = some (.slice A0_3 l0_3.length c0_3) := (blk_cell BK260.out 3).trans rfl; have hfz17_0 := blk_frozen BK260.out 0; have hfz17_1 := blk_frozen BK260.out 1; have hfz17_2 := blk_frozen BK260.out 2; have hfz17_3 := blk_frozen BK260.out 3) | ((with_reducible refine gate_callee (f := 18) rfl ?_); refine goesL_ (some 26) rfl rfl Try.func18 (by kernel_rfl) rfl #[.agg #[.int .i64 a0_0, .int .i64 a0_1, .slice A0_2 l0_2.length c0_2, .slice A0_3 l0_3.length c0_3], .int .i64 1048576] rfl (by (try simp only [List.map_toArray, List.map_cons, List.map_nil]); first | done | rfl | (simp only [List.length_drop, List.length_take]; rfl)) ?_; (with_reducible refine (laws_szStore.calls k a0_0 a0_1 _ _ l0_2 _ _ l0_3 1048576 t261 _ ?side1 ?side2 ?side3 ?side4 A6.out).mono ?_); (case side1 => repeat (first | exact (Kd.C_below HR0_2.out HB.out) | (with_reducible refine Kd.C_alloc ?_ _) | (with_reducible refine Kd.C_drewN ?_ _) | (with_reducible refine Kd.C_drew ?_))); (case side2 => exact HC0_2.out); (case side3 => repeat (first | exact (Kd.C_below HR0_3.out HB.out) | (with_reducible refine Kd.C_alloc ?_ _) | (with_reducible refine Kd.C_drewN ?_ _) | (with_reducible refine Kd.C_drew ?_))); (case side4 => exact HC0_3.out); rintro e w18 ⟨rfl, hb⟩; refine ⟨_, rfl, ?_⟩; have n0_ := Aside0.mk (blk_below (g := gb260) (o := .cells #[.int .i64 a0_0, .int .i64 a0_1, .slice A0_2 l0_2.length c0_2, .slice A0_3 l0_3.length c0_3] 31 (0, 0)) (Zz.rb_ BK260.out) hb); have n1_ := Aside0.mk (below_step (Zz.rB_ HB.out) hb); clear BK260; clear HB; have BK260 := n0_; have HB := n1_; clear n0_ n1_; (try clear hb); (try clear hb2); (try clear hk); (try clear hi); have hcz19_0 : w18.cell? ⟨gb260, 0, none⟩ = some (.int .i64 a0_0) := (blk_cell BK260.out 0).trans rfl; have hcz19_1 : w18.cell? ⟨gb260, 1, none⟩ = some (.int .i64 a0_1) := (blk_cell BK260.out 1).trans rfl; have hcz19_2 : w18.cell? ⟨gb260, 2, none⟩ = some (.slice A0_2 l0_2.length c0_2) := (blk_cell BK260.out 2).trans rfl; have hcz19_3 : w18.cell? ⟨gb260, 3, none⟩ = some (.slice A0_3 l0_3.length c0_3) := (blk_cell BK260.out 3).trans rfl; have hfz19_0 := blk_frozen BK260.out 0; have hfz19_1 := blk_frozen BK260.out 1; have hfz19_2 := blk_frozen BK260.out 2; have hfz19_3 := blk_frozen BK260.out 3) | ((with_reducible refine gate_callee (f := 20) rfl ?_); refine goesL_ (some 31) rfl rfl Try.func20 (by kernel_rfl) rfl #[.agg #[.int .i64 a0_0, .int .i64 a0_1, .slice A0_2 l0_2.length c0_2, .slice A0_3 l0_3.length c0_3]] rfl (by (try simp only [List.map_toArray, List.map_cons, List.map_nil]); first | done | rfl | (simp only [List.length_drop, List.length_take]; rfl)) ?_; (with_reducible refine (laws_toStore.calls k a0_0 a0_1 _ _ l0_2 _ _ l0_3 t262 t263 t264 t267 _ ?side1 ?side2 ?side3 ?side4 A11.out).mono ?_); (case side1 => repeat (first | exact (Kd.C_below HR0_2.out HB.out) | (with_reducible refine Kd.C_alloc ?_ _) | (with_reducible refine Kd.C_drewN ?_ _) | (with_reducible refine Kd.C_drew ?_))); (case side2 => exact HC0_2.out); (case side3 => repeat (first | exact (Kd.C_below HR0_3.out HB.out) | (with_reducible refine Kd.C_alloc ?_ _) | (with_reducible refine Kd.C_drewN ?_ _) | (with_reducible refine Kd.C_drew ?_))); (case side4 => exact HC0_3.out); rintro e w20 ⟨v265, v268, rfl, ho0, ho1, hb⟩; refine ⟨_, rfl, ?_⟩; have n0_ := Aside0.mk (Kd.R_lower ho0 (below_size (Zz.rB_ HB.out))); have n1_ := Aside0.mk (Kd.R_lower ho1 (below_size (Zz.rB_ HB.out))); have n2_ := Aside0.mk (blk_below (g := gb260) (o := .cells #[.int .i64 a0_0, .int .i64 a0_1, .slice A0_2 l0_2.length c0_2, .slice A0_3 l0_3.length c0_3] 31 (0, 0)) (Zz.rb_ BK260.out) hb); have n3_ := Aside0.mk (below_step (Zz.rB_ HB.out) hb); clear BK260; clear HB; have HO266 := n0_; have HO269 := n1_; have BK260 := n2_; have HB := n3_; clear n0_ n1_ n2_ n3_; (try clear hb); (try clear hb2); (try clear hk); (try clear hi); (try clear ho0); (try clear ho1); obtain ⟨Ao21, co21, eo21⟩ := Kd.R_slice HO266.out; subst eo21; obtain ⟨Ao22, co22, eo22⟩ := Kd.R_slice HO269.out; subst eo22) | ((with_reducible refine gate_callee (f := 36) rfl ?_); refine goesL_ (some 34) rfl rfl Try.func36 (by kernel_rfl) rfl #[.agg #[.int .i64 t262, .int .i64 t263, .slice Ao21 t264.length co21, .slice Ao22 t267.length co22], .string a1, .int .i64 a2] rfl (by (try simp only [List.map_toArray, List.map_cons, List.map_nil]); first | done | rfl | (simp only [List.length_drop, List.length_take]; rfl)) ?_; (with_reducible refine (spec_Get.calls k t262 t263 _ _ t264 _ _ t267 a1 a2 t270 t271 t272 t273 t276 t279 _ ?side1 ?side2 ?side3 ?side4 A12.out).mono ?_); (case side1 => repeat (first | exact (Kd.R_reads' HO266.out).2.2 | (with_reducible refine Kd.C_alloc ?_ _) | (with_reducible refine Kd.C_drewN ?_ _) | (with_reducible refine Kd.C_drew ?_))); (case side2 => exact (Kd.R_reads' HO266.out).2.1); (case side3 => repeat (first | exact (Kd.R_reads' HO269.out).2.2 | (with_reducible refine Kd.C_alloc ?_ _) | (with_reducible refine Kd.C_drewN ?_ _) | (with_reducible refine Kd.C_drew ?_))); (case side4 => exact (Kd.R_reads' HO269.out).2.1); rintro e w23 ⟨v274, v277, rfl, ho0, ho1, hb⟩; refine ⟨_, rfl, ?_⟩; have n0_ := Aside0.mk (Kd.R_elder' (Zz.rR_ HO266.out) (Kd.R_base ho0) hb); have n1_ := Aside0.mk (Kd.R_elder' (Zz.rR_ HO269.out) (Kd.R_base ho1) hb); have n2_ := Aside0.mk (Kd.R_lower (Kd.R_new' ho0 (Kd.R_lt (Zz.rR_ HO266.out))) (below_size (Zz.rB_ HB.out))); have n3_ := Aside0.mk (Kd.R_lower (Kd.R_new' ho1 (Kd.R_lt (Zz.rR_ HO269.out))) (below_size (Zz.rB_ HB.out))); have n4_ := Aside0.mk (blk_below (g := gb260) (o := .cells #[.int .i64 a0_0, .int .i64 a0_1, .slice A0_2 l0_2.length c0_2, .slice A0_3 l0_3.length c0_3] 31 (0, 0)) (Zz.rb_ BK260.out) hb); have n5_ := Aside0.mk (below_step (Zz.rB_ HB.out) hb); clear HO266; clear HO269; clear BK260; clear HB; have HO266 := n0_; have HO269 := n1_; have HO275 := n2_; have HO278 := n3_; have BK260 := n4_; have HB := n5_; clear n0_ n1_ n2_ n3_ n4_ n5_; (try clear hb); (try clear hb2); (try clear hk); (try clear hi); (try clear ho0); (try clear ho1)) | ((with_reducible refine gate_dst (N := 9) rfl ?_); refine box_event ?hg (N := 9) ?hd (cs := #[.int .i64 0, .int .i64 0, .slice none 0 0, .slice none 0 0]) (t := 36) ?hr ?_; (case hd => rfl); (case hg => rfl); (case hr => first | (go_simp; done) | (go_simp; rfl)); intro gb280 hg w24 hbox hb; have n0_ := Aside0.mk (Kd.R_below (Zz.rR_ HO266.out) hb); have n1_ := Aside0.mk (Kd.R_below (Zz.rR_ HO269.out) hb); have n2_ := Aside0.mk (Kd.R_below (Zz.rR_ HO275.out) hb); have n3_ := Aside0.mk (Kd.R_below (Zz.rR_ HO278.out) hb); have n4_ := Aside0.mk (blk_below (g := gb260) (o := .cells #[.int .i64 a0_0, .int .i64 a0_1, .slice A0_2 l0_2.length c0_2, .slice A0_3 l0_3.length c0_3] 31 (0, 0)) (Zz.rb_ BK260.out) hb); have n5_ := Aside0.mk (below_step (Zz.rB_ HB.out) hb); have n6_ := Aside0.mk (hbox); have n7_ := Aside0.mk ((by rw [hg]; exact (below_size (Zz.rB_ HB.out)) : w.heap.size ≤ gb280)); have n8_ := Aside0.mk ((by rw [hg]; exact (below_size (Zz.rB_ HB.out)) : w.heap.size ≤ gb280)); have n9_ := Aside0.mk ((by rw [hg]; exact Nat.ne_of_lt (blk_lt (g := gb260) (o := .cells #[.int .i64 a0_0, .int .i64 a0_1, .slice A0_2 l0_2.length c0_2, .slice A0_3 l0_3.length c0_3] 31 (0, 0)) (Zz.rb_ BK260.out)) : gb260 ≠ gb280)); have n10_ := Aside0.mk ((by rw [hg]; exact Nat.ne_of_gt (blk_lt (g := gb260) (o := .cells #[.int .i64 a0_0, .int .i64 a0_1, .slice A0_2 l0_2.length c0_2, .slice A0_3 l0_3.length c0_3] 31 (0, 0)) (Zz.rb_ BK260.out)) : gb280 ≠ gb260)); clear HO266; clear HO269; clear HO275; clear HO278; clear BK260; clear HB; have HO266 := n0_; have HO269 := n1_; have HO275 := n2_; have HO278 := n3_; have BK260 := n4_; have HB := n5_; have BK280 := n6_; have GW280 := n7_; have GE280 := n8_; have NB260_280 := n9_; have NB280_260 := n10_; clear n0_ n1_ n2_ n3_ n4_ n5_ n6_ n7_ n8_ n9_ n10_; clear hb hbox hg; have hnb25 := NB280_260.out; have hnc25 := NB260_280.out; have hcz26_0 : w24.cell? ⟨gb280, 0, none⟩ = some (.int .i64 0) := (blk_cell BK280.out 0).trans rfl; have hcz26_1 : w24.cell? ⟨gb280, 1, none⟩ = some (.int .i64 0) := (blk_cell BK280.out 1).trans rfl; have hcz26_2 : w24.cell? ⟨gb280, 2, none⟩ = some (.slice none 0 0) := (blk_cell BK280.out 2).trans rfl; have hcz26_3 : w24.cell? ⟨gb280, 3, none⟩ = some (.slice none 0 0) := (blk_cell BK280.out 3).trans rfl; have hfz26_0 := blk_frozen BK280.out 0; have hfz26_1 := blk_frozen BK280.out 1; have hfz26_2 := blk_frozen BK280.out 2; have hfz26_3 := blk_frozen BK280.out 3; obtain ⟨Ao27, co27, eo27⟩ := Kd.R_slice HO275.out; subst eo27; obtain ⟨Ao28, co28, eo28⟩ := Kd.R_slice HO278.out; subst eo28; have hcz29_0 : w24.cell? ⟨gb260, 0, none⟩ = some (.int .i64 a0_0) := (blk_cell BK260.out 0).trans rfl; have hcz29_1 : w24.cell? ⟨gb260, 1, none⟩ = some (.int .i64 a0_1) := (blk_cell BK260.out 1).trans rfl; have hcz29_2 : w24.cell? ⟨gb260, 2, none⟩ = some (.slice A0_2 l0_2.length c0_2) := (blk_cell BK260.out 2).trans rfl; have hcz29_3 : w24.cell? ⟨gb260, 3, none⟩ = some (.slice A0_3 l0_3.length c0_3) := (blk_cell BK260.out 3).trans rfl; have hfz29_0 := blk_frozen BK260.out 0; have hfz29_1 := blk_frozen BK260.out 1; have hfz29_2 := blk_frozen BK260.out 2; have hfz29_3 := blk_frozen BK260.out 3) | ((with_reducible refine gate_callee (f := 20) rfl ?_); refine goesL_ (some 39) rfl rfl Try.func20 (by kernel_rfl) rfl #[.agg #[.int .i64 a0_0, .int .i64 a0_1, .slice A0_2 l0_2.length c0_2, .slice A0_3 l0_3.length c0_3]] rfl (by (try simp only [List.map_toArray, List.map_cons, List.map_nil]); first | done | rfl | (simp only [List.length_drop, List.length_take]; rfl)) ?_; (with_reducible refine (laws_toStore.calls k a0_0 a0_1 _ _ l0_2 _ _ l0_3 t281 t282 t283 t286 _ ?side1 ?side2 ?side3 ?side4 A13.out).mono ?_); (case side1 => exact Kd.C_below HR0_2.out (Zz.rB_ HB.out)); (case side2 => exact HC0_2.out); (case side3 => exact Kd.C_below HR0_3.out (Zz.rB_ HB.out)); (case side4 => exact HC0_3.out); rintro e w30 ⟨v284, v287, rfl, ho0, ho1, hb⟩; refine ⟨_, rfl, ?_⟩; have n0_ := Aside0.mk (Kd.R_elder' (by (with_reducible repeat (first | apply Kd.R_alloc | apply Kd.R_drewN | apply Kd.R_drew)); exact (Kd.R_mono (Zz.rF_ gb280 (Kd.R_types HO266.out BK280.out (by decide)) (fun _ hk => hk.2) _ _ _ _) (fun _ h_ => h_.1))) (Kd.R_base ho0) hb); have n1_ := Aside0.mk (Kd.R_elder' (by (with_reducible repeat (first | apply Kd.R_alloc | apply Kd.R_drewN | apply Kd.R_drew)); exact (Kd.R_mono (Zz.rF_ gb280 (Kd.R_types HO269.out BK280.out (by decide)) (fun _ hk => hk.2) _ _ _ _) (fun _ h_ => h_.1))) (Kd.R_base ho1) hb); have n2_ := Aside0.mk (Kd.R_elder' (by (with_reducible repeat (first | apply Kd.R_alloc | apply Kd.R_drewN | apply Kd.R_drew)); exact (Kd.R_mono (Zz.rF_ gb280 (Kd.R_types HO275.out BK280.out (by decide)) (fun _ hk => hk.2) _ _ _ _) (fun _ h_ => h_.1))) (Kd.R_base ho0) hb); have n3_ := Aside0.mk (Kd.R_elder' (by (with_reducible repeat (first | apply Kd.R_alloc | apply Kd.R_drewN | apply Kd.R_drew)); exact (Kd.R_mono (Zz.rF_ gb280 (Kd.R_types HO278.out BK280.out (by decide)) (fun _ hk => hk.2) _ _ _ _) (fun _ h_ => h_.1))) (Kd.R_base ho1) hb); have n4_ := Aside0.mk (Kd.R_lower (Kd.R_new' (Kd.R_new' ho0 (Kd.R_lt (by (with_reducible repeat (first | apply Kd.R_alloc | apply Kd.R_drewN | apply Kd.R_drew)); exact (Kd.R_mono (Zz.rF_ gb280 (Kd.R_types HO266.out BK280.out (by decide)) (fun _ hk => hk.2) _ _ _ _) (fun _ h_ => h_.1))))) (Kd.R_lt (by (with_reducible repeat (first | apply Kd.R_alloc | apply Kd.R_drewN | apply Kd.R_drew)); exact (Kd.R_mono (Zz.rF_ gb280 (Kd.R_types HO275.out BK280.out (by decide)) (fun _ hk => hk.2) _ _ _ _) (fun _ h_ => h_.1))))) (below_size (Zz.rB_ HB.out))); have n5_ := Aside0.mk (Kd.R_lower (Kd.R_new' (Kd.R_new' ho1 (Kd.R_lt (by (with_reducible repeat (first | apply Kd.R_alloc | apply Kd.R_drewN | apply Kd.R_drew)); exact (Kd.R_mono (Zz.rF_ gb280 (Kd.R_types HO269.out BK280.out (by decide)) (fun _ hk => hk.2) _ _ _ _) (fun _ h_ => h_.1))))) (Kd.R_lt (by (with_reducible repeat (first | apply Kd.R_alloc | apply Kd.R_drewN | apply Kd.R_drew)); exact (Kd.R_mono (Zz.rF_ gb280 (Kd.R_types HO278.out BK280.out (by decide)) (fun _ hk => hk.2) _ _ _ _) (fun _ h_ => h_.1))))) (below_size (Zz.rB_ HB.out))); have n6_ := Aside0.mk (blk_below (g := gb260) (o := .cells #[.int .i64 a0_0, .int .i64 a0_1, .slice A0_2 l0_2.length c0_2, .slice A0_3 l0_3.length c0_3] 31 (0, 0)) (Zz.rb4_ NB260_280.out BK260.out) hb); have n7_ := Aside0.mk (blk_below (g := gb280) (o := .cells #[.int .i64 t271, .int .i64 t272, .slice Ao27 t273.length co27, .slice Ao28 t276.length co28] 36 (0, 0)) (by (with_reducible repeat (first | refine blk_drewN ?_ _ | refine blk_drew ?_ | refine blk_alloc ?_ _)); refine blk_put (cs := #[.int .i64 t271, .int .i64 t272, .slice Ao27 t273.length co27, .slice none 0 0]) ?_ 3 _ rfl; (with_reducible repeat (first | refine blk_drewN ?_ _ | refine blk_drew ?_ | refine blk_alloc ?_ _)); refine blk_put (cs := #[.int .i64 t271, .int .i64 t272, .slice none 0 0, .slice none 0 0]) ?_ 2 _ rfl; (with_reducible repeat (first | refine blk_drewN ?_ _ | refine blk_drew ?_ | refine blk_alloc ?_ _)); refine blk_put (cs := #[.int .i64 t271, .int .i64 0, .slice none 0 0, .slice none 0 0]) ?_ 1 _ rfl; (with_reducible repeat (first | refine blk_drewN ?_ _ | refine blk_drew ?_ | refine blk_alloc ?_ _)); refine blk_put (cs := #[.int .i64 0, .int .i64 0, .slice none 0 0, .slice none 0 0]) ?_ 0 _ rfl; (with_reducible repeat (first | refine blk_drewN ?_ _ | refine blk_drew ?_ | refine blk_alloc ?_ _)); exact BK280.out) hb); have n8_ := Aside0.mk (below_step (Zz.rB_ HB.out) hb); clear HO266; clear HO269; clear HO275; clear HO278; clear BK260; clear BK280; clear HB; have HO266 := n0_; have HO269 := n1_; have HO275 := n2_; have HO278 := n3_; have HO285 := n4_; have HO288 := n5_; have BK260 := n6_; have BK280 := n7_; have HB := n8_; clear n0_ n1_ n2_ n3_ n4_ n5_ n6_ n7_ n8_; (try clear hb); (try clear hb2); (try clear hk); (try clear hi); (try clear ho0); (try clear ho1)) | ((with_reducible refine gate_dst (N := 11) rfl ?_); refine box_event ?hg (N := 11) ?hd (cs := #[.int .i64 0, .int .i64 0, .slice none 0 0, .slice none 0 0]) (t := 36) ?hr ?_; (case hd => rfl); (case hg => rfl); (case hr => first | (go_simp; done) | (go_simp; rfl)); intro gb289 hg w31 hbox hb; have n0_ := Aside0.mk (Kd.R_below (Zz.rR_ HO266.out) hb); have n1_ := Aside0.mk (Kd.R_below (Zz.rR_ HO269.out) hb); have n2_ := Aside0.mk (Kd.R_below (Zz.rR_ HO275.out) hb); have n3_ := Aside0.mk (Kd.R_below (Zz.rR_ HO278.out) hb); have n4_ := Aside0.mk (Kd.R_below (Zz.rR_ HO285.out) hb); have n5_ := Aside0.mk (Kd.R_below (Zz.rR_ HO288.out) hb); have n6_ := Aside0.mk (blk_below (g := gb260) (o := .cells #[.int .i64 a0_0, .int .i64 a0_1, .slice A0_2 l0_2.length c0_2, .slice A0_3 l0_3.length c0_3] 31 (0, 0)) (Zz.rb_ BK260.out) hb); have n7_ := Aside0.mk (blk_below (g := gb280) (o := .cells #[.int .i64 t271, .int .i64 t272, .slice Ao27 t273.length co27, .slice Ao28 t276.length co28] 36 (0, 0)) (Zz.rb_ BK280.out) hb); have n8_ := Aside0.mk (below_step (Zz.rB_ HB.out) hb); have n9_ := Aside0.mk (hbox); have n10_ := Aside0.mk ((by rw [hg]; exact (below_size (Zz.rB_ HB.out)) : w.heap.size ≤ gb289)); have n11_ := Aside0.mk ((by rw [hg]; exact (below_size (Zz.rB_ HB.out)) : w.heap.size ≤ gb289)); have n12_ := Aside0.mk ((by rw [hg]; exact Nat.ne_of_lt (blk_lt (g := gb260) (o := .cells #[.int .i64 a0_0, .int .i64 a0_1, .slice A0_2 l0_2.length c0_2, .slice A0_3 l0_3.length c0_3] 31 (0, 0)) (Zz.rb_ BK260.out)) : gb260 ≠ gb289)); have n13_ := Aside0.mk ((by rw [hg]; exact Nat.ne_of_gt (blk_lt (g := gb260) (o := .cells #[.int .i64 a0_0, .int .i64 a0_1, .slice A0_2 l0_2.length c0_2, .slice A0_3 l0_3.length c0_3] 31 (0, 0)) (Zz.rb_ BK260.out)) : gb289 ≠ gb260)); have n14_ := Aside0.mk ((by rw [hg]; exact Nat.ne_of_lt (blk_lt (g := gb280) (o := .cells #[.int .i64 t271, .int .i64 t272, .slice Ao27 t273.length co27, .slice Ao28 t276.length co28] 36 (0, 0)) (Zz.rb_ BK280.out)) : gb280 ≠ gb289)); have n15_ := Aside0.mk ((by rw [hg]; exact Nat.ne_of_gt (blk_lt (g := gb280) (o := .cells #[.int .i64 t271, .int .i64 t272, .slice Ao27 t273.length co27, .slice Ao28 t276.length co28] 36 (0, 0)) (Zz.rb_ BK280.out)) : gb289 ≠ gb280)); clear HO266; clear HO269; clear HO275; clear HO278; clear HO285; clear HO288; clear BK260; clear BK280; clear HB; have HO266 := n0_; have HO269 := n1_; have HO275 := n2_; have HO278 := n3_; have HO285 := n4_; have HO288 := n5_; have BK260 := n6_; have BK280 := n7_; have HB := n8_; have BK289 := n9_; have GW289 := n10_; have GE289 := n11_; have NB260_289 := n12_; have NB289_260 := n13_; have NB280_289 := n14_; have NB289_280 := n15_; clear n0_ n1_ n2_ n3_ n4_ n5_ n6_ n7_ n8_ n9_ n10_ n11_ n12_ n13_ n14_ n15_; clear hb hbox hg; have hnb32 := NB289_260.out; have hnc32 := NB260_289.out; have hnb33 := NB289_280.out; have hnc33 := NB280_289.out; have hcz34_0 : w31.cell? ⟨gb289, 0, none⟩ = some (.int .i64 0) := (blk_cell BK289.out 0).trans rfl; have hcz34_1 : w31.cell? ⟨gb289, 1, none⟩ = some (.int .i64 0) := (blk_cell BK289.out 1).trans rfl; have hcz34_2 : w31.cell? ⟨gb289, 2, none⟩ = some (.slice none 0 0) := (blk_cell BK289.out 2).trans rfl; have hcz34_3 : w31.cell? ⟨gb289, 3, none⟩ = some (.slice none 0 0) := (blk_cell BK289.out 3).trans rfl; have hfz34_0 := blk_frozen BK289.out 0; have hfz34_1 := blk_frozen BK289.out 1; have hfz34_2 := blk_frozen BK289.out 2; have hfz34_3 := blk_frozen BK289.out 3; obtain ⟨Ao35, co35, eo35⟩ := Kd.R_slice HO285.out; subst eo35; obtain ⟨Ao36, co36, eo36⟩ := Kd.R_slice HO288.out; subst eo36) | ((with_reducible refine gate_callee (f := 37) rfl ?_); refine goesL_ (some 44) rfl rfl Try.func37 (by kernel_rfl) rfl #[.agg #[.int .i64 t281, .int .i64 t282, .slice Ao35 t283.length co35, .slice Ao36 t286.length co36], .string a1, .int .i64 a2] rfl (by (try simp only [List.map_toArray, List.map_cons, List.map_nil]); first | done | rfl | (simp only [List.length_drop, List.length_take]; rfl)) ?_; (with_reducible refine (impl_Get.calls k t281 t282 _ _ t283 _ _ t286 a1 a2 t290 t291 t292 t293 t296 t299 _ ?side1 ?side2 ?side3 ?side4 A14.out).mono ?_); (case side1 => refine (Kd.R_reads' (e := 92) (base := w.heap.size) (ok := fun k_ => ((True ∧ some k_ ≠ (.slice Ao21 t264.length co21 : Value).ownBlock) ∧ some k_ ≠ (.slice Ao27 t273.length co27 : Value).ownBlock)) (n := t283.length) (c := co35) ?_).2.2; exact (by (with_reducible repeat (first | apply Kd.R_alloc | apply Kd.R_drewN | apply Kd.R_drew)); exact (Kd.R_mono (Zz.rF_ gb289 (Kd.R_types HO285.out BK289.out (by decide)) (fun _ hk => hk.2) _ _ _ _) (fun _ h_ => h_.1)))); (case side2 => exact (Kd.R_reads' HO285.out).2.1); (case side3 => refine (Kd.R_reads' (e := 9) (base := w.heap.size) (ok := fun k_ => ((True ∧ some k_ ≠ (.slice Ao22 t267.length co22 : Value).ownBlock) ∧ some k_ ≠ (.slice Ao28 t276.length co28 : Value).ownBlock)) (n := t286.length) (c := co36) ?_).2.2; exact (by (with_reducible repeat (first | apply Kd.R_alloc | apply Kd.R_drewN | apply Kd.R_drew)); exact (Kd.R_mono (Zz.rF_ gb289 (Kd.R_types HO288.out BK289.out (by decide)) (fun _ hk => hk.2) _ _ _ _) (fun _ h_ => h_.1)))); (case side4 => exact (Kd.R_reads' HO288.out).2.1); rintro e w37 ⟨v294, v297, rfl, ho0, ho1, hb⟩; refine ⟨_, rfl, ?_⟩; have n0_ := Aside0.mk (Kd.R_elder' (by (with_reducible repeat (first | apply Kd.R_alloc | apply Kd.R_drewN | apply Kd.R_drew)); exact (Kd.R_mono (Zz.rF_ gb289 (Kd.R_types HO266.out BK289.out (by decide)) (fun _ hk => hk.2) _ _ _ _) (fun _ h_ => h_.1))) (Kd.R_base ho0) hb); have n1_ := Aside0.mk (Kd.R_elder' (by (with_reducible repeat (first | apply Kd.R_alloc | apply Kd.R_drewN | apply Kd.R_drew)); exact (Kd.R_mono (Zz.rF_ gb289 (Kd.R_types HO269.out BK289.out (by decide)) (fun _ hk => hk.2) _ _ _ _) (fun _ h_ => h_.1))) (Kd.R_base ho1) hb); have n2_ := Aside0.mk (Kd.R_elder' (by (with_reducible repeat (first | apply Kd.R_alloc | apply Kd.R_drewN | apply Kd.R_drew)); exact (Kd.R_mono (Zz.rF_ gb289 (Kd.R_types HO275.out BK289.out (by decide)) (fun _ hk => hk.2) _ _ _ _) (fun _ h_ => h_.1))) (Kd.R_base ho0) hb); have n3_ := Aside0.mk (Kd.R_elder' (by (with_reducible repeat (first | apply Kd.R_alloc | apply Kd.R_drewN | apply Kd.R_drew)); exact (Kd.R_mono (Zz.rF_ gb289 (Kd.R_types HO278.out BK289.out (by decide)) (fun _ hk => hk.2) _ _ _ _) (fun _ h_ => h_.1))) (Kd.R_base ho1) hb); have n4_ := Aside0.mk (Kd.R_elder' (by (with_reducible repeat (first | apply Kd.R_alloc | apply Kd.R_drewN | apply Kd.R_drew)); exact (Kd.R_mono (Zz.rF_ gb289 (Kd.R_types HO285.out BK289.out (by decide)) (fun _ hk => hk.2) _ _ _ _) (fun _ h_ => h_.1))) (Kd.R_base ho0) hb); have n5_ := Aside0.mk (Kd.R_elder' (by (with_reducible repeat (first | apply Kd.R_alloc | apply Kd.R_drewN | apply Kd.R_drew)); exact (Kd.R_mono (Zz.rF_ gb289 (Kd.R_types HO288.out BK289.out (by decide)) (fun _ hk => hk.2) _ _ _ _) (fun _ h_ => h_.1))) (Kd.R_base ho1) hb); have n6_ := Aside0.mk (Kd.R_lower (Kd.R_new' (Kd.R_new' (Kd.R_new' ho0 (Kd.R_lt (by (with_reducible repeat (first | apply Kd.R_alloc | apply Kd.R_drewN | apply Kd.R_drew)); exact (Kd.R_mono (Zz.rF_ gb289 (Kd.R_types HO266.out BK289.out (by decide)) (fun _ hk => hk.2) _ _ _ _) (fun _ h_ => h_.1))))) (Kd.R_lt (by (with_reducible repeat (first | apply Kd.R_alloc | apply Kd.R_drewN | apply Kd.R_drew)); exact (Kd.R_mono (Zz.rF_ gb289 (Kd.R_types HO275.out BK289.out (by decide)) (fun _ hk => hk.2) _ _ _ _) (fun _ h_ => h_.1))))) (Kd.R_lt (by (with_reducible repeat (first | apply Kd.R_alloc | apply Kd.R_drewN | apply Kd.R_drew)); exact (Kd.R_mono (Zz.rF_ gb289 (Kd.R_types HO285.out BK289.out (by decide)) (fun _ hk => hk.2) _ _ _ _) (fun _ h_ => h_.1))))) (below_size (Zz.rB_ HB.out))); have n7_ := Aside0.mk (Kd.R_lower (Kd.R_new' (Kd.R_new' (Kd.R_new' ho1 (Kd.R_lt (by (with_reducible repeat (first | apply Kd.R_alloc | apply Kd.R_drewN | apply Kd.R_drew)); exact (Kd.R_mono (Zz.rF_ gb289 (Kd.R_types HO269.out BK289.out (by decide)) (fun _ hk => hk.2) _ _ _ _) (fun _ h_ => h_.1))))) (Kd.R_lt (by (with_reducible repeat (first | apply Kd.R_alloc | apply Kd.R_drewN | apply Kd.R_drew)); exact (Kd.R_mono (Zz.rF_ gb289 (Kd.R_types HO278.out BK289.out (by decide)) (fun _ hk => hk.2) _ _ _ _) (fun _ h_ => h_.1))))) (Kd.R_lt (by (with_reducible repeat (first | apply Kd.R_alloc | apply Kd.R_drewN | apply Kd.R_drew)); exact (Kd.R_mono (Zz.rF_ gb289 (Kd.R_types HO288.out BK289.out (by decide)) (fun _ hk => hk.2) _ _ _ _) (fun _ h_ => h_.1))))) (below_size (Zz.rB_ HB.out))); have n8_ := Aside0.mk (blk_below (g := gb260) (o := .cells #[.int .i64 a0_0, .int .i64 a0_1, .slice A0_2 l0_2.length c0_2, .slice A0_3 l0_3.length c0_3] 31 (0, 0)) (Zz.rb4_ NB260_289.out BK260.out) hb); have n9_ := Aside0.mk (blk_below (g := gb280) (o := .cells #[.int .i64 t271, .int .i64 t272, .slice Ao27 t273.length co27, .slice Ao28 t276.length co28] 36 (0, 0)) (Zz.rb4_ NB280_289.out BK280.out) hb); have n10_ := Aside0.mk (blk_below (g := gb289) (o := .cells #[.int .i64 t281, .int .i64 t282, .slice Ao35 t283.length co35, .slice Ao36 t286.length co36] 36 (0, 0)) (by (with_reducible repeat (first | refine blk_drewN ?_ _ | refine blk_drew ?_ | refine blk_alloc ?_ _)); refine blk_put (cs := #[.int .i64 t281, .int .i64 t282, .slice Ao35 t283.length co35, .slice none 0 0]) ?_ 3 _ rfl; (with_reducible repeat (first | refine blk_drewN ?_ _ | refine blk_drew ?_ | refine blk_alloc ?_ _)); refine blk_put (cs := #[.int .i64 t281, .int .i64 t282, .slice none 0 0, .slice none 0 0]) ?_ 2 _ rfl; (with_reducible repeat (first | refine blk_drewN ?_ _ | refine blk_drew ?_ | refine blk_alloc ?_ _)); refine blk_put (cs := #[.int .i64 t281, .int .i64 0, .slice none 0 0, .slice none 0 0]) ?_ 1 _ rfl; (with_reducible repeat (first | refine blk_drewN ?_ _ | refine blk_drew ?_ | refine blk_alloc ?_ _)); refine blk_put (cs := #[.int .i64 0, .int .i64 0, .slice none 0 0, .slice none 0 0]) ?_ 0 _ rfl; (with_reducible repeat (first | refine blk_drewN ?_ _ | refine blk_drew ?_ | refine blk_alloc ?_ _)); exact BK289.out) hb); have n11_ := Aside0.mk (below_step (Zz.rB_ HB.out) hb); clear HO266; clear HO269; clear HO275; clear HO278; clear HO285; clear HO288; clear BK260; clear BK280; clear BK289; clear HB; have HO266 := n0_; have HO269 := n1_; have HO275 := n2_; have HO278 := n3_; have HO285 := n4_; have HO288 := n5_; have HO295 := n6_; have HO298 := n7_; have BK260 := n8_; have BK280 := n9_; have BK289 := n10_; have HB := n11_; clear n0_ n1_ n2_ n3_ n4_ n5_ n6_ n7_ n8_ n9_ n10_ n11_; (try clear hb); (try clear hb2); (try clear hk); (try clear hi); (try clear ho0); (try clear ho1)) | ((with_reducible refine gate_dst (N := 13) rfl ?_); refine box_event ?hg (N := 13) ?hd (cs := #[.int .i64 0, .int .i64 0, .slice none 0 0, .slice none 0 0]) (t := 36) ?hr ?_; (case hd => rfl); (case hg => rfl); (case hr => first | (go_simp; done) | (go_simp; rfl)); intro gb300 hg w38 hbox hb; have n0_ := Aside0.mk (Kd.R_below (Zz.rR_ HO266.out) hb); have n1_ := Aside0.mk (Kd.R_below (Zz.rR_ HO269.out) hb); have n2_ := Aside0.mk (Kd.R_below (Zz.rR_ HO275.out) hb); have n3_ := Aside0.mk (Kd.R_below (Zz.rR_ HO278.out) hb); have n4_ := Aside0.mk (Kd.R_below (Zz.rR_ HO285.out) hb); have n5_ := Aside0.mk (Kd.R_below (Zz.rR_ HO288.out) hb); have n6_ := Aside0.mk (Kd.R_below (Zz.rR_ HO295.out) hb); have n7_ := Aside0.mk (Kd.R_below (Zz.rR_ HO298.out) hb); have n8_ := Aside0.mk (blk_below (g := gb260) (o := .cells #[.int .i64 a0_0, .int .i64 a0_1, .slice A0_2 l0_2.length c0_2, .slice A0_3 l0_3.length c0_3] 31 (0, 0)) (Zz.rb_ BK260.out) hb); have n9_ := Aside0.mk (blk_below (g := gb280) (o := .cells #[.int .i64 t271, .int .i64 t272, .slice Ao27 t273.length co27, .slice Ao28 t276.length co28] 36 (0, 0)) (Zz.rb_ BK280.out) hb); have n10_ := Aside0.mk (blk_below (g := gb289) (o := .cells #[.int .i64 t281, .int .i64 t282, .slice Ao35 t283.length co35, .slice Ao36 t286.length co36] 36 (0, 0)) (Zz.rb_ BK289.out) hb); have n11_ := Aside0.mk (below_step (Zz.rB_ HB.out) hb); have n12_ := Aside0.mk (hbox); have n13_ := Aside0.mk ((by rw [hg]; exact (below_size (Zz.rB_ HB.out)) : w.heap.size ≤ gb300)); have n14_ := Aside0.mk ((by rw [hg]; exact (below_size (Zz.rB_ HB.out)) : w.heap.size ≤ gb300)); have n15_ := Aside0.mk ((by rw [hg]; exact Nat.ne_of_lt (blk_lt (g := gb260) (o := .cells #[.int .i64 a0_0, .int .i64 a0_1, .slice A0_2 l0_2.length c0_2, .slice A0_3 l0_3.length c0_3] 31 (0, 0)) (Zz.rb_ BK260.out)) : gb260 ≠ gb300)); have n16_ := Aside0.mk ((by rw [hg]; exact Nat.ne_of_gt (blk_lt (g := gb260) (o := .cells #[.int .i64 a0_0, .int .i64 a0_1, .slice A0_2 l0_2.length c0_2, .slice A0_3 l0_3.length c0_3] 31 (0, 0)) (Zz.rb_ BK260.out)) : gb300 ≠ gb260)); have n17_ := Aside0.mk ((by rw [hg]; exact Nat.ne_of_lt (blk_lt (g := gb280) (o := .cells #[.int .i64 t271, .int .i64 t272, .slice Ao27 t273.length co27, .slice Ao28 t276.length co28] 36 (0, 0)) (Zz.rb_ BK280.out)) : gb280 ≠ gb300)); have n18_ := Aside0.mk ((by rw [hg]; exact Nat.ne_of_gt (blk_lt (g := gb280) (o := .cells #[.int .i64 t271, .int .i64 t272, .slice Ao27 t273.length co27, .slice Ao28 t276.length co28] 36 (0, 0)) (Zz.rb_ BK280.out)) : gb300 ≠ gb280)); have n19_ := Aside0.mk ((by rw [hg]; exact Nat.ne_of_lt (blk_lt (g := gb289) (o := .cells #[.int .i64 t281, .int .i64 t282, .slice Ao35 t283.length co35, .slice Ao36 t286.length co36] 36 (0, 0)) (Zz.rb_ BK289.out)) : gb289 ≠ gb300)); have n20_ := Aside0.mk ((by rw [hg]; exact Nat.ne_of_gt (blk_lt (g := gb289) (o := .cells #[.int .i64 t281, .int .i64 t282, .slice Ao35 t283.length co35, .slice Ao36 t286.length co36] 36 (0, 0)) (Zz.rb_ BK289.out)) : gb300 ≠ gb289)); clear HO266; clear HO269; clear HO275; clear HO278; clear HO285; clear HO288; clear HO295; clear HO298; clear BK260; clear BK280; clear BK289; clear HB; have HO266 := n0_; have HO269 := n1_; have HO275 := n2_; have HO278 := n3_; have HO285 := n4_; have HO288 := n5_; have HO295 := n6_; have HO298 := n7_; have BK260 := n8_; have BK280 := n9_; have BK289 := n10_; have HB := n11_; have BK300 := n12_; have GW300 := n13_; have GE300 := n14_; have NB260_300 := n15_; have NB300_260 := n16_; have NB280_300 := n17_; have NB300_280 := n18_; have NB289_300 := n19_; have NB300_289 := n20_; clear n0_ n1_ n2_ n3_ n4_ n5_ n6_ n7_ n8_ n9_ n10_ n11_ n12_ n13_ n14_ n15_ n16_ n17_ n18_ n19_ n20_; clear hb hbox hg; have hnb39 := NB300_260.out; have hnc39 := NB260_300.out; have hnb40 := NB300_280.out; have hnc40 := NB280_300.out; have hnb41 := NB300_289.out; have hnc41 := NB289_300.out; have hcz42_0 : w38.cell? ⟨gb300, 0, none⟩ = some (.int .i64 0) := (blk_cell BK300.out 0).trans rfl; have hcz42_1 : w38.cell? ⟨gb300, 1, none⟩ = some (.int .i64 0) := (blk_cell BK300.out 1).trans rfl; have hcz42_2 : w38.cell? ⟨gb300, 2, none⟩ = some (.slice none 0 0) := (blk_cell BK300.out 2).trans rfl; have hcz42_3 : w38.cell? ⟨gb300, 3, none⟩ = some (.slice none 0 0) := (blk_cell BK300.out 3).trans rfl; have hfz42_0 := blk_frozen BK300.out 0; have hfz42_1 := blk_frozen BK300.out 1; have hfz42_2 := blk_frozen BK300.out 2; have hfz42_3 := blk_frozen BK300.out 3; obtain ⟨Ao43, co43, eo43⟩ := Kd.R_slice HO295.out; subst eo43; obtain ⟨Ao44, co44, eo44⟩ := Kd.R_slice HO298.out; subst eo44))
   (try simp only [Act.put, List.setIfInBounds_toArray, List.set_cons_zero, List.set_cons_succ])
   go_cut [61] (fun v61 wc => ∃ (kq : Nat) (x61_14 : Bool), v61 = .bool x61_14 ∧ Aside0 (laws_FnExactGet.j0 kq a1 a2 t270 t279 t290 t299 x61_14 a0_0 a0_1 l0_2 l0_3 t271 t272 t273 t276 t281 t282 t283 t286 t291 t292 t293 t296 = some r) ∧ Aside0 (kq ≤ k) ∧ Aside0 (Kd.R k92 92 wc w.heap.size (fun k_ => some k_ ≠ ((.slice Ao35 t283.length co35) : Value).ownBlock ∧ some k_ ≠ ((.slice Ao43 t293.length co43) : Value).ownBlock) (.slice Ao27 t273.length co27) t273) ∧ Aside0 (Kd.R Kd.string 9 wc w.heap.size (fun k_ => some k_ ≠ ((.slice Ao36 t286.length co36) : Value).ownBlock ∧ some k_ ≠ ((.slice Ao44 t296.length co44) : Value).ownBlock) (.slice Ao28 t276.length co28) t276) ∧ Aside0 (Kd.R k92 92 wc w.heap.size (fun k_ => some k_ ≠ ((.slice Ao27 t273.length co27) : Value).ownBlock ∧ some k_ ≠ ((.slice Ao43 t293.length co43) : Value).ownBlock) (.slice Ao35 t283.length co35) t283) ∧ Aside0 (Kd.R Kd.string 9 wc w.heap.size (fun k_ => some k_ ≠ ((.slice Ao28 t276.length co28) : Value).ownBlock ∧ some k_ ≠ ((.slice Ao44 t296.length co44) : Value).ownBlock) (.slice Ao36 t286.length co36) t286) ∧ Aside0 (Kd.R k92 92 wc w.heap.size (fun k_ => some k_ ≠ ((.slice Ao27 t273.length co27) : Value).ownBlock ∧ some k_ ≠ ((.slice Ao35 t283.length co35) : Value).ownBlock) (.slice Ao43 t293.length co43) t293) ∧ Aside0 (Kd.R Kd.string 9 wc w.heap.size (fun k_ => some k_ ≠ ((.slice Ao28 t276.length co28) : Value).ownBlock ∧ some k_ ≠ ((.slice Ao36 t286.length co36) : Value).ownBlock) (.slice Ao44 t296.length co44) t296) ∧ Aside0 (wc.heap[gb260]? = some (.cells #[.int .i64 a0_0, .int .i64 a0_1, (.slice A0_2 l0_2.length c0_2), (.slice A0_3 l0_3.length c0_3)] 31 (0, 0))) ∧ Aside0 (wc.heap[gb280]? = some (.cells #[.int .i64 t271, .int .i64 t272, (.slice Ao27 t273.length co27), (.slice Ao28 t276.length co28)] 36 (0, 0))) ∧ Aside0 (wc.heap[gb289]? = some (.cells #[.int .i64 t281, .int .i64 t282, (.slice Ao35 t283.length co35), (.slice Ao36 t286.length co36)] 36 (0, 0))) ∧ Aside0 (wc.heap[gb300]? = some (.cells #[.int .i64 t291, .int .i64 t292, (.slice Ao43 t293.length co43), (.slice Ao44 t296.length co44)] 36 (0, 0))) ∧ Aside0 (Below w.heap.size w wc))
   case first =>
    have H := HC15.out
    clear HC15
    by_cases c45 : t290.toList = t270.toList
    ·
     rw [if_pos c45] at H
     have c45b0 : (t290.toList == t270.toList) = true := beq_iff_eq.mpr c45
     have c45b1 : (t290.toList != t270.toList) = false := bne_eq_false_iff_eq.mpr c45
     clear c45
     (first | rw [c45b0] | (simp only [i64_w, i32_w]; rw [c45b0]) | skip)
     replace H := Option.bind_eq_some_iff.mp H
     obtain ⟨t301, A460, H⟩ := H
     replace H : (if t301 = true then (laws_FnExactGet.j0 k a1 a2 t270 t279 t290 t299 (t299 != t279) a0_0 a0_1 l0_2 l0_3 t271 t272 t273 t276 t281 t282 t283 t286 t291 t292 t293 t296) else (laws_FnExactGet.j0 k a1 a2 t270 t279 t290 t299 true a0_0 a0_1 l0_2 l0_3 t271 t272 t273 t276 t281 t282 t283 t286 t291 t292 t293 t296)) = some r := H
     have A46 := Aside0.mk A460
     clear A460
     by_cases c47 : t301 = true
     ·
      subst c47
      have H1 : (laws_FnExactGet.j0 k a1 a2 t270 t279 t290 t299 (t299 != t279) a0_0 a0_1 l0_2 l0_3 t271 t272 t273 t276 t281 t282 t283 t286 t291 t292 t293 t296) = some r := by rw [if_pos rfl] at H; exact H
      clear H
      have H := H1
      clear H1
      have H' := Aside0.mk H
      clear H
      have hnb48 := NB300_260.out
      have hnc48 := NB260_300.out
      have hnb49 := NB300_280.out
      have hnc49 := NB280_300.out
      have hnb50 := NB300_289.out
      have hnc50 := NB289_300.out
      have hcz51_0 : w38.cell? ⟨gb300, 0, none⟩ = some (.int .i64 0) := (blk_cell BK300.out 0).trans rfl
      have hcz51_1 : w38.cell? ⟨gb300, 1, none⟩ = some (.int .i64 0) := (blk_cell BK300.out 1).trans rfl
      have hcz51_2 : w38.cell? ⟨gb300, 2, none⟩ = some (.slice none 0 0) := (blk_cell BK300.out 2).trans rfl
      have hcz51_3 : w38.cell? ⟨gb300, 3, none⟩ = some (.slice none 0 0) := (blk_cell BK300.out 3).trans rfl
      have hfz51_0 := blk_frozen BK300.out 0
      have hfz51_1 := blk_frozen BK300.out 1
      have hfz51_2 := blk_frozen BK300.out 2
      have hfz51_3 := blk_frozen BK300.out 3
      have hnb52 := NB280_260.out
      have hnc52 := NB260_280.out
      have hnb53 := NB280_289.out
      have hnc53 := NB289_280.out
      have hcz54_0 : w38.cell? ⟨gb280, 0, none⟩ = some (.int .i64 t271) := (blk_cell BK280.out 0).trans rfl
      have hcz54_1 : w38.cell? ⟨gb280, 1, none⟩ = some (.int .i64 t272) := (blk_cell BK280.out 1).trans rfl
      have hcz54_2 : w38.cell? ⟨gb280, 2, none⟩ = some (.slice Ao27 t273.length co27) := (blk_cell BK280.out 2).trans rfl
      have hcz54_3 : w38.cell? ⟨gb280, 3, none⟩ = some (.slice Ao28 t276.length co28) := (blk_cell BK280.out 3).trans rfl
      have hfz54_0 := blk_frozen BK280.out 0
      have hfz54_1 := blk_frozen BK280.out 1
      have hfz54_2 := blk_frozen BK280.out 2
      have hfz54_3 := blk_frozen BK280.out 3
      go_wp2_with (first | (go_at_call 22; (with_reducible refine (laws_eqStore.calls k t291 t292 _ _ t293 _ _ t296 t271 t272 _ _ t273 _ _ t276 true _ ?side1 ?side2 ?side3 ?side4 ?side5 ?side6 ?side7 ?side8 A46.out).mono ?_); (case side1 => refine (Kd.R_reads' (e := 92) (base := w.heap.size) (ok := fun k_ => (((True ∧ some k_ ≠ (.slice Ao21 t264.length co21 : Value).ownBlock) ∧ some k_ ≠ (.slice Ao27 t273.length co27 : Value).ownBlock) ∧ some k_ ≠ (.slice Ao35 t283.length co35 : Value).ownBlock)) (n := t293.length) (c := co43) ?_).2.2; exact (by (with_reducible repeat (first | apply Kd.R_alloc | apply Kd.R_drewN | apply Kd.R_drew)); exact (Kd.R_mono (Zz.rF_ gb300 (Kd.R_types HO295.out BK300.out (by decide)) (fun _ hk => hk.2) _ _ _ _) (fun _ h_ => h_.1)))); (case side2 => exact (Kd.R_reads' HO295.out).2.1); (case side3 => refine (Kd.R_reads' (e := 9) (base := w.heap.size) (ok := fun k_ => (((True ∧ some k_ ≠ (.slice Ao22 t267.length co22 : Value).ownBlock) ∧ some k_ ≠ (.slice Ao28 t276.length co28 : Value).ownBlock) ∧ some k_ ≠ (.slice Ao36 t286.length co36 : Value).ownBlock)) (n := t296.length) (c := co44) ?_).2.2; exact (by (with_reducible repeat (first | apply Kd.R_alloc | apply Kd.R_drewN | apply Kd.R_drew)); exact (Kd.R_mono (Zz.rF_ gb300 (Kd.R_types HO298.out BK300.out (by decide)) (fun _ hk => hk.2) _ _ _ _) (fun _ h_ => h_.1)))); (case side4 => exact (Kd.R_reads' HO298.out).2.1); (case side5 => refine (Kd.R_reads' (e := 92) (base := w.heap.size) (ok := fun k_ => (((True ∧ some k_ ≠ (.slice Ao21 t264.length co21 : Value).ownBlock) ∧ some k_ ≠ (.slice Ao35 t283.length co35 : Value).ownBlock) ∧ some k_ ≠ (.slice Ao43 t293.length co43 : Value).ownBlock)) (n := t273.length) (c := co27) ?_).2.2; exact (by (with_reducible repeat (first | apply Kd.R_alloc | apply Kd.R_drewN | apply Kd.R_drew)); exact (Kd.R_mono (Zz.rF_ gb300 (Kd.R_types HO275.out BK300.out (by decide)) (fun _ hk => hk.2) _ _ _ _) (fun _ h_ => h_.1)))); (case side6 => exact (Kd.R_reads' HO275.out).2.1); (case side7 => refine (Kd.R_reads' (e := 9) (base := w.heap.size) (ok := fun k_ => (((True ∧ some k_ ≠ (.slice Ao22 t267.length co22 : Value).ownBlock) ∧ some k_ ≠ (.slice Ao36 t286.length co36 : Value).ownBlock) ∧ some k_ ≠ (.slice Ao44 t296.length co44 : Value).ownBlock)) (n := t276.length) (c := co28) ?_).2.2; exact (by (with_reducible repeat (first | apply Kd.R_alloc | apply Kd.R_drewN | apply Kd.R_drew)); exact (Kd.R_mono (Zz.rF_ gb300 (Kd.R_types HO278.out BK300.out (by decide)) (fun _ hk => hk.2) _ _ _ _) (fun _ h_ => h_.1)))); (case side8 => exact (Kd.R_reads' HO278.out).2.1); rintro e w55 ⟨rfl, hb⟩; have n0_ := Aside0.mk (Kd.R_below (by (with_reducible repeat (first | apply Kd.R_alloc | apply Kd.R_drewN | apply Kd.R_drew)); exact (Kd.R_mono (Zz.rF_ gb300 (Kd.R_types HO266.out BK300.out (by decide)) (fun _ hk => hk.2) _ _ _ _) (fun _ h_ => h_.1))) hb); have n1_ := Aside0.mk (Kd.R_below (by (with_reducible repeat (first | apply Kd.R_alloc | apply Kd.R_drewN | apply Kd.R_drew)); exact (Kd.R_mono (Zz.rF_ gb300 (Kd.R_types HO269.out BK300.out (by decide)) (fun _ hk => hk.2) _ _ _ _) (fun _ h_ => h_.1))) hb); have n2_ := Aside0.mk (Kd.R_below (by (with_reducible repeat (first | apply Kd.R_alloc | apply Kd.R_drewN | apply Kd.R_drew)); exact (Kd.R_mono (Zz.rF_ gb300 (Kd.R_types HO275.out BK300.out (by decide)) (fun _ hk => hk.2) _ _ _ _) (fun _ h_ => h_.1))) hb); have n3_ := Aside0.mk (Kd.R_below (by (with_reducible repeat (first | apply Kd.R_alloc | apply Kd.R_drewN | apply Kd.R_drew)); exact (Kd.R_mono (Zz.rF_ gb300 (Kd.R_types HO278.out BK300.out (by decide)) (fun _ hk => hk.2) _ _ _ _) (fun _ h_ => h_.1))) hb); have n4_ := Aside0.mk (Kd.R_below (by (with_reducible repeat (first | apply Kd.R_alloc | apply Kd.R_drewN | apply Kd.R_drew)); exact (Kd.R_mono (Zz.rF_ gb300 (Kd.R_types HO285.out BK300.out (by decide)) (fun _ hk => hk.2) _ _ _ _) (fun _ h_ => h_.1))) hb); have n5_ := Aside0.mk (Kd.R_below (by (with_reducible repeat (first | apply Kd.R_alloc | apply Kd.R_drewN | apply Kd.R_drew)); exact (Kd.R_mono (Zz.rF_ gb300 (Kd.R_types HO288.out BK300.out (by decide)) (fun _ hk => hk.2) _ _ _ _) (fun _ h_ => h_.1))) hb); have n6_ := Aside0.mk (Kd.R_below (by (with_reducible repeat (first | apply Kd.R_alloc | apply Kd.R_drewN | apply Kd.R_drew)); exact (Kd.R_mono (Zz.rF_ gb300 (Kd.R_types HO295.out BK300.out (by decide)) (fun _ hk => hk.2) _ _ _ _) (fun _ h_ => h_.1))) hb); have n7_ := Aside0.mk (Kd.R_below (by (with_reducible repeat (first | apply Kd.R_alloc | apply Kd.R_drewN | apply Kd.R_drew)); exact (Kd.R_mono (Zz.rF_ gb300 (Kd.R_types HO298.out BK300.out (by decide)) (fun _ hk => hk.2) _ _ _ _) (fun _ h_ => h_.1))) hb); have n8_ := Aside0.mk (blk_below (g := gb260) (o := .cells #[.int .i64 a0_0, .int .i64 a0_1, .slice A0_2 l0_2.length c0_2, .slice A0_3 l0_3.length c0_3] 31 (0, 0)) (Zz.rb4_ NB260_300.out BK260.out) hb); have n9_ := Aside0.mk (blk_below (g := gb280) (o := .cells #[.int .i64 t271, .int .i64 t272, .slice Ao27 t273.length co27, .slice Ao28 t276.length co28] 36 (0, 0)) (Zz.rb4_ NB280_300.out BK280.out) hb); have n10_ := Aside0.mk (blk_below (g := gb289) (o := .cells #[.int .i64 t281, .int .i64 t282, .slice Ao35 t283.length co35, .slice Ao36 t286.length co36] 36 (0, 0)) (Zz.rb4_ NB289_300.out BK289.out) hb); have n11_ := Aside0.mk (blk_below (g := gb300) (o := .cells #[.int .i64 t291, .int .i64 t292, .slice Ao43 t293.length co43, .slice Ao44 t296.length co44] 36 (0, 0)) (by (with_reducible repeat (first | refine blk_drewN ?_ _ | refine blk_drew ?_ | refine blk_alloc ?_ _)); refine blk_put (cs := #[.int .i64 t291, .int .i64 t292, .slice Ao43 t293.length co43, .slice none 0 0]) ?_ 3 _ rfl; (with_reducible repeat (first | refine blk_drewN ?_ _ | refine blk_drew ?_ | refine blk_alloc ?_ _)); refine blk_put (cs := #[.int .i64 t291, .int .i64 t292, .slice none 0 0, .slice none 0 0]) ?_ 2 _ rfl; (with_reducible repeat (first | refine blk_drewN ?_ _ | refine blk_drew ?_ | refine blk_alloc ?_ _)); refine blk_put (cs := #[.int .i64 t291, .int .i64 0, .slice none 0 0, .slice none 0 0]) ?_ 1 _ rfl; (with_reducible repeat (first | refine blk_drewN ?_ _ | refine blk_drew ?_ | refine blk_alloc ?_ _)); refine blk_put (cs := #[.int .i64 0, .int .i64 0, .slice none 0 0, .slice none 0 0]) ?_ 0 _ rfl; (with_reducible repeat (first | refine blk_drewN ?_ _ | refine blk_drew ?_ | refine blk_alloc ?_ _)); exact BK300.out) hb); have n12_ := Aside0.mk (below_step (Zz.rB_ HB.out) hb); clear HO266; clear HO269; clear HO275; clear HO278; clear HO285; clear HO288; clear HO295; clear HO298; clear BK260; clear BK280; clear BK289; clear BK300; clear HB; have HO266 := n0_; have HO269 := n1_; have HO275 := n2_; have HO278 := n3_; have HO285 := n4_; have HO288 := n5_; have HO295 := n6_; have HO298 := n7_; have BK260 := n8_; have BK280 := n9_; have BK289 := n10_; have BK300 := n11_; have HB := n12_; clear n0_ n1_ n2_ n3_ n4_ n5_ n6_ n7_ n8_ n9_ n10_ n11_ n12_; (try clear hb); (try clear hb2); (try clear hk); (try clear hi)))
      go_meet
      case rel => exact ⟨_, ((t299 != t279)), (by first | rfl | (simp; done) | (simp [*]; done)), H', ⟨by first | omega | exact Nat.le_refl _⟩, ⟨by (with_reducible repeat (first | apply Kd.R_alloc | apply Kd.R_drewN | apply Kd.R_drew)); exact Kd.R_mono HO275.out (fun _ hk => ⟨hk.1.2, hk.2⟩)⟩, ⟨by (with_reducible repeat (first | apply Kd.R_alloc | apply Kd.R_drewN | apply Kd.R_drew)); exact Kd.R_mono HO278.out (fun _ hk => ⟨hk.1.2, hk.2⟩)⟩, ⟨by (with_reducible repeat (first | apply Kd.R_alloc | apply Kd.R_drewN | apply Kd.R_drew)); exact Kd.R_mono HO285.out (fun _ hk => ⟨hk.1.2, hk.2⟩)⟩, ⟨by (with_reducible repeat (first | apply Kd.R_alloc | apply Kd.R_drewN | apply Kd.R_drew)); exact Kd.R_mono HO288.out (fun _ hk => ⟨hk.1.2, hk.2⟩)⟩, ⟨by (with_reducible repeat (first | apply Kd.R_alloc | apply Kd.R_drewN | apply Kd.R_drew)); exact Kd.R_mono HO295.out (fun _ hk => ⟨hk.1.2, hk.2⟩)⟩, ⟨by (with_reducible repeat (first | apply Kd.R_alloc | apply Kd.R_drewN | apply Kd.R_drew)); exact Kd.R_mono HO298.out (fun _ hk => ⟨hk.1.2, hk.2⟩)⟩, ⟨Zz.rb_ BK260.out⟩, ⟨Zz.rb_ BK280.out⟩, ⟨Zz.rb_ BK289.out⟩, ⟨Zz.rb_ BK300.out⟩, ⟨Zz.rB_ HB.out⟩⟩
     ·
      replace c47 := Bool.eq_false_iff.mpr c47
      subst c47
      have H1 : (laws_FnExactGet.j0 k a1 a2 t270 t279 t290 t299 true a0_0 a0_1 l0_2 l0_3 t271 t272 t273 t276 t281 t282 t283 t286 t291 t292 t293 t296) = some r := by rw [if_neg (show ¬ (false = true) by decide)] at H; exact H
      clear H
      have H := H1
      clear H1
      have H' := Aside0.mk H
      clear H
      have hnb56 := NB300_260.out
      have hnc56 := NB260_300.out
      have hnb57 := NB300_280.out
      have hnc57 := NB280_300.out
      have hnb58 := NB300_289.out
      have hnc58 := NB289_300.out
      have hcz59_0 : w38.cell? ⟨gb300, 0, none⟩ = some (.int .i64 0) := (blk_cell BK300.out 0).trans rfl
      have hcz59_1 : w38.cell? ⟨gb300, 1, none⟩ = some (.int .i64 0) := (blk_cell BK300.out 1).trans rfl
      have hcz59_2 : w38.cell? ⟨gb300, 2, none⟩ = some (.slice none 0 0) := (blk_cell BK300.out 2).trans rfl
      have hcz59_3 : w38.cell? ⟨gb300, 3, none⟩ = some (.slice none 0 0) := (blk_cell BK300.out 3).trans rfl
      have hfz59_0 := blk_frozen BK300.out 0
      have hfz59_1 := blk_frozen BK300.out 1
      have hfz59_2 := blk_frozen BK300.out 2
      have hfz59_3 := blk_frozen BK300.out 3
      have hnb60 := NB280_260.out
      have hnc60 := NB260_280.out
      have hnb61 := NB280_289.out
      have hnc61 := NB289_280.out
      have hcz62_0 : w38.cell? ⟨gb280, 0, none⟩ = some (.int .i64 t271) := (blk_cell BK280.out 0).trans rfl
      have hcz62_1 : w38.cell? ⟨gb280, 1, none⟩ = some (.int .i64 t272) := (blk_cell BK280.out 1).trans rfl
      have hcz62_2 : w38.cell? ⟨gb280, 2, none⟩ = some (.slice Ao27 t273.length co27) := (blk_cell BK280.out 2).trans rfl
      have hcz62_3 : w38.cell? ⟨gb280, 3, none⟩ = some (.slice Ao28 t276.length co28) := (blk_cell BK280.out 3).trans rfl
      have hfz62_0 := blk_frozen BK280.out 0
      have hfz62_1 := blk_frozen BK280.out 1
      have hfz62_2 := blk_frozen BK280.out 2
      have hfz62_3 := blk_frozen BK280.out 3
      go_wp2_with (first | (go_at_call 22; (with_reducible refine (laws_eqStore.calls k t291 t292 _ _ t293 _ _ t296 t271 t272 _ _ t273 _ _ t276 false _ ?side1 ?side2 ?side3 ?side4 ?side5 ?side6 ?side7 ?side8 A46.out).mono ?_); (case side1 => refine (Kd.R_reads' (e := 92) (base := w.heap.size) (ok := fun k_ => (((True ∧ some k_ ≠ (.slice Ao21 t264.length co21 : Value).ownBlock) ∧ some k_ ≠ (.slice Ao27 t273.length co27 : Value).ownBlock) ∧ some k_ ≠ (.slice Ao35 t283.length co35 : Value).ownBlock)) (n := t293.length) (c := co43) ?_).2.2; exact (by (with_reducible repeat (first | apply Kd.R_alloc | apply Kd.R_drewN | apply Kd.R_drew)); exact (Kd.R_mono (Zz.rF_ gb300 (Kd.R_types HO295.out BK300.out (by decide)) (fun _ hk => hk.2) _ _ _ _) (fun _ h_ => h_.1)))); (case side2 => exact (Kd.R_reads' HO295.out).2.1); (case side3 => refine (Kd.R_reads' (e := 9) (base := w.heap.size) (ok := fun k_ => (((True ∧ some k_ ≠ (.slice Ao22 t267.length co22 : Value).ownBlock) ∧ some k_ ≠ (.slice Ao28 t276.length co28 : Value).ownBlock) ∧ some k_ ≠ (.slice Ao36 t286.length co36 : Value).ownBlock)) (n := t296.length) (c := co44) ?_).2.2; exact (by (with_reducible repeat (first | apply Kd.R_alloc | apply Kd.R_drewN | apply Kd.R_drew)); exact (Kd.R_mono (Zz.rF_ gb300 (Kd.R_types HO298.out BK300.out (by decide)) (fun _ hk => hk.2) _ _ _ _) (fun _ h_ => h_.1)))); (case side4 => exact (Kd.R_reads' HO298.out).2.1); (case side5 => refine (Kd.R_reads' (e := 92) (base := w.heap.size) (ok := fun k_ => (((True ∧ some k_ ≠ (.slice Ao21 t264.length co21 : Value).ownBlock) ∧ some k_ ≠ (.slice Ao35 t283.length co35 : Value).ownBlock) ∧ some k_ ≠ (.slice Ao43 t293.length co43 : Value).ownBlock)) (n := t273.length) (c := co27) ?_).2.2; exact (by (with_reducible repeat (first | apply Kd.R_alloc | apply Kd.R_drewN | apply Kd.R_drew)); exact (Kd.R_mono (Zz.rF_ gb300 (Kd.R_types HO275.out BK300.out (by decide)) (fun _ hk => hk.2) _ _ _ _) (fun _ h_ => h_.1)))); (case side6 => exact (Kd.R_reads' HO275.out).2.1); (case side7 => refine (Kd.R_reads' (e := 9) (base := w.heap.size) (ok := fun k_ => (((True ∧ some k_ ≠ (.slice Ao22 t267.length co22 : Value).ownBlock) ∧ some k_ ≠ (.slice Ao36 t286.length co36 : Value).ownBlock) ∧ some k_ ≠ (.slice Ao44 t296.length co44 : Value).ownBlock)) (n := t276.length) (c := co28) ?_).2.2; exact (by (with_reducible repeat (first | apply Kd.R_alloc | apply Kd.R_drewN | apply Kd.R_drew)); exact (Kd.R_mono (Zz.rF_ gb300 (Kd.R_types HO278.out BK300.out (by decide)) (fun _ hk => hk.2) _ _ _ _) (fun _ h_ => h_.1)))); (case side8 => exact (Kd.R_reads' HO278.out).2.1); rintro e w63 ⟨rfl, hb⟩; have n0_ := Aside0.mk (Kd.R_below (by (with_reducible repeat (first | apply Kd.R_alloc | apply Kd.R_drewN | apply Kd.R_drew)); exact (Kd.R_mono (Zz.rF_ gb300 (Kd.R_types HO266.out BK300.out (by decide)) (fun _ hk => hk.2) _ _ _ _) (fun _ h_ => h_.1))) hb); have n1_ := Aside0.mk (Kd.R_below (by (with_reducible repeat (first | apply Kd.R_alloc | apply Kd.R_drewN | apply Kd.R_drew)); exact (Kd.R_mono (Zz.rF_ gb300 (Kd.R_types HO269.out BK300.out (by decide)) (fun _ hk => hk.2) _ _ _ _) (fun _ h_ => h_.1))) hb); have n2_ := Aside0.mk (Kd.R_below (by (with_reducible repeat (first | apply Kd.R_alloc | apply Kd.R_drewN | apply Kd.R_drew)); exact (Kd.R_mono (Zz.rF_ gb300 (Kd.R_types HO275.out BK300.out (by decide)) (fun _ hk => hk.2) _ _ _ _) (fun _ h_ => h_.1))) hb); have n3_ := Aside0.mk (Kd.R_below (by (with_reducible repeat (first | apply Kd.R_alloc | apply Kd.R_drewN | apply Kd.R_drew)); exact (Kd.R_mono (Zz.rF_ gb300 (Kd.R_types HO278.out BK300.out (by decide)) (fun _ hk => hk.2) _ _ _ _) (fun _ h_ => h_.1))) hb); have n4_ := Aside0.mk (Kd.R_below (by (with_reducible repeat (first | apply Kd.R_alloc | apply Kd.R_drewN | apply Kd.R_drew)); exact (Kd.R_mono (Zz.rF_ gb300 (Kd.R_types HO285.out BK300.out (by decide)) (fun _ hk => hk.2) _ _ _ _) (fun _ h_ => h_.1))) hb); have n5_ := Aside0.mk (Kd.R_below (by (with_reducible repeat (first | apply Kd.R_alloc | apply Kd.R_drewN | apply Kd.R_drew)); exact (Kd.R_mono (Zz.rF_ gb300 (Kd.R_types HO288.out BK300.out (by decide)) (fun _ hk => hk.2) _ _ _ _) (fun _ h_ => h_.1))) hb); have n6_ := Aside0.mk (Kd.R_below (by (with_reducible repeat (first | apply Kd.R_alloc | apply Kd.R_drewN | apply Kd.R_drew)); exact (Kd.R_mono (Zz.rF_ gb300 (Kd.R_types HO295.out BK300.out (by decide)) (fun _ hk => hk.2) _ _ _ _) (fun _ h_ => h_.1))) hb); have n7_ := Aside0.mk (Kd.R_below (by (with_reducible repeat (first | apply Kd.R_alloc | apply Kd.R_drewN | apply Kd.R_drew)); exact (Kd.R_mono (Zz.rF_ gb300 (Kd.R_types HO298.out BK300.out (by decide)) (fun _ hk => hk.2) _ _ _ _) (fun _ h_ => h_.1))) hb); have n8_ := Aside0.mk (blk_below (g := gb260) (o := .cells #[.int .i64 a0_0, .int .i64 a0_1, .slice A0_2 l0_2.length c0_2, .slice A0_3 l0_3.length c0_3] 31 (0, 0)) (Zz.rb4_ NB260_300.out BK260.out) hb); have n9_ := Aside0.mk (blk_below (g := gb280) (o := .cells #[.int .i64 t271, .int .i64 t272, .slice Ao27 t273.length co27, .slice Ao28 t276.length co28] 36 (0, 0)) (Zz.rb4_ NB280_300.out BK280.out) hb); have n10_ := Aside0.mk (blk_below (g := gb289) (o := .cells #[.int .i64 t281, .int .i64 t282, .slice Ao35 t283.length co35, .slice Ao36 t286.length co36] 36 (0, 0)) (Zz.rb4_ NB289_300.out BK289.out) hb); have n11_ := Aside0.mk (blk_below (g := gb300) (o := .cells #[.int .i64 t291, .int .i64 t292, .slice Ao43 t293.length co43, .slice Ao44 t296.length co44] 36 (0, 0)) (by (with_reducible repeat (first | refine blk_drewN ?_ _ | refine blk_drew ?_ | refine blk_alloc ?_ _)); refine blk_put (cs := #[.int .i64 t291, .int .i64 t292, .slice Ao43 t293.length co43, .slice none 0 0]) ?_ 3 _ rfl; (with_reducible repeat (first | refine blk_drewN ?_ _ | refine blk_drew ?_ | refine blk_alloc ?_ _)); refine blk_put (cs := #[.int .i64 t291, .int .i64 t292, .slice none 0 0, .slice none 0 0]) ?_ 2 _ rfl; (with_reducible repeat (first | refine blk_drewN ?_ _ | refine blk_drew ?_ | refine blk_alloc ?_ _)); refine blk_put (cs := #[.int .i64 t291, .int .i64 0, .slice none 0 0, .slice none 0 0]) ?_ 1 _ rfl; (with_reducible repeat (first | refine blk_drewN ?_ _ | refine blk_drew ?_ | refine blk_alloc ?_ _)); refine blk_put (cs := #[.int .i64 0, .int .i64 0, .slice none 0 0, .slice none 0 0]) ?_ 0 _ rfl; (with_reducible repeat (first | refine blk_drewN ?_ _ | refine blk_drew ?_ | refine blk_alloc ?_ _)); exact BK300.out) hb); have n12_ := Aside0.mk (below_step (Zz.rB_ HB.out) hb); clear HO266; clear HO269; clear HO275; clear HO278; clear HO285; clear HO288; clear HO295; clear HO298; clear BK260; clear BK280; clear BK289; clear BK300; clear HB; have HO266 := n0_; have HO269 := n1_; have HO275 := n2_; have HO278 := n3_; have HO285 := n4_; have HO288 := n5_; have HO295 := n6_; have HO298 := n7_; have BK260 := n8_; have BK280 := n9_; have BK289 := n10_; have BK300 := n11_; have HB := n12_; clear n0_ n1_ n2_ n3_ n4_ n5_ n6_ n7_ n8_ n9_ n10_ n11_ n12_; (try clear hb); (try clear hb2); (try clear hk); (try clear hi)))
      go_meet
      case rel => exact ⟨_, (true), (by first | rfl | (simp; done) | (simp [*]; done)), H', ⟨by first | omega | exact Nat.le_refl _⟩, ⟨by (with_reducible repeat (first | apply Kd.R_alloc | apply Kd.R_drewN | apply Kd.R_drew)); exact Kd.R_mono HO275.out (fun _ hk => ⟨hk.1.2, hk.2⟩)⟩, ⟨by (with_reducible repeat (first | apply Kd.R_alloc | apply Kd.R_drewN | apply Kd.R_drew)); exact Kd.R_mono HO278.out (fun _ hk => ⟨hk.1.2, hk.2⟩)⟩, ⟨by (with_reducible repeat (first | apply Kd.R_alloc | apply Kd.R_drewN | apply Kd.R_drew)); exact Kd.R_mono HO285.out (fun _ hk => ⟨hk.1.2, hk.2⟩)⟩, ⟨by (with_reducible repeat (first | apply Kd.R_alloc | apply Kd.R_drewN | apply Kd.R_drew)); exact Kd.R_mono HO288.out (fun _ hk => ⟨hk.1.2, hk.2⟩)⟩, ⟨by (with_reducible repeat (first | apply Kd.R_alloc | apply Kd.R_drewN | apply Kd.R_drew)); exact Kd.R_mono HO295.out (fun _ hk => ⟨hk.1.2, hk.2⟩)⟩, ⟨by (with_reducible repeat (first | apply Kd.R_alloc | apply Kd.R_drewN | apply Kd.R_drew)); exact Kd.R_mono HO298.out (fun _ hk => ⟨hk.1.2, hk.2⟩)⟩, ⟨Zz.rb_ BK260.out⟩, ⟨Zz.rb_ BK280.out⟩, ⟨Zz.rb_ BK289.out⟩, ⟨Zz.rb_ BK300.out⟩, ⟨Zz.rB_ HB.out⟩⟩
    ·
     rw [if_neg c45] at H
     have c45b0 : (t290.toList == t270.toList) = false := beq_eq_false_iff_ne.mpr c45
     have c45b1 : (t290.toList != t270.toList) = true := bne_iff_ne.mpr c45
     (first | rw [c45b0] | (simp only [i64_w, i32_w]; rw [c45b0]) | skip)
     have H' := Aside0.mk H
     clear H
     go_wp2
     go_meet
     case rel => exact ⟨_, (true), (by first | rfl | (simp; done) | (simp [*]; done)), H', ⟨by first | omega | exact Nat.le_refl _⟩, ⟨by (with_reducible repeat (first | apply Kd.R_alloc | apply Kd.R_drewN | apply Kd.R_drew)); exact Kd.R_mono (Zz.rF_ gb300 (Kd.R_types HO275.out BK300.out (by decide)) (fun _ hk => hk.2) _ _ _ _) (fun _ hk => ⟨hk.1.1.2, hk.1.2⟩)⟩, ⟨by (with_reducible repeat (first | apply Kd.R_alloc | apply Kd.R_drewN | apply Kd.R_drew)); exact Kd.R_mono (Zz.rF_ gb300 (Kd.R_types HO278.out BK300.out (by decide)) (fun _ hk => hk.2) _ _ _ _) (fun _ hk => ⟨hk.1.1.2, hk.1.2⟩)⟩, ⟨by (with_reducible repeat (first | apply Kd.R_alloc | apply Kd.R_drewN | apply Kd.R_drew)); exact Kd.R_mono (Zz.rF_ gb300 (Kd.R_types HO285.out BK300.out (by decide)) (fun _ hk => hk.2) _ _ _ _) (fun _ hk => ⟨hk.1.1.2, hk.1.2⟩)⟩, ⟨by (with_reducible repeat (first | apply Kd.R_alloc | apply Kd.R_drewN | apply Kd.R_drew)); exact Kd.R_mono (Zz.rF_ gb300 (Kd.R_types HO288.out BK300.out (by decide)) (fun _ hk => hk.2) _ _ _ _) (fun _ hk => ⟨hk.1.1.2, hk.1.2⟩)⟩, ⟨by (with_reducible repeat (first | apply Kd.R_alloc | apply Kd.R_drewN | apply Kd.R_drew)); exact Kd.R_mono (Zz.rF_ gb300 (Kd.R_types HO295.out BK300.out (by decide)) (fun _ hk => hk.2) _ _ _ _) (fun _ hk => ⟨hk.1.1.2, hk.1.2⟩)⟩, ⟨by (with_reducible repeat (first | apply Kd.R_alloc | apply Kd.R_drewN | apply Kd.R_drew)); exact Kd.R_mono (Zz.rF_ gb300 (Kd.R_types HO298.out BK300.out (by decide)) (fun _ hk => hk.2) _ _ _ _) (fun _ hk => ⟨hk.1.1.2, hk.1.2⟩)⟩, ⟨by (with_reducible repeat (first | refine blk_drewN ?_ _ | refine blk_drew ?_ | refine blk_alloc ?_ _)); refine blk_far ?_ NB260_300.out _; (with_reducible repeat (first | refine blk_drewN ?_ _ | refine blk_drew ?_ | refine blk_alloc ?_ _)); refine blk_far ?_ NB260_300.out _; (with_reducible repeat (first | refine blk_drewN ?_ _ | refine blk_drew ?_ | refine blk_alloc ?_ _)); refine blk_far ?_ NB260_300.out _; (with_reducible repeat (first | refine blk_drewN ?_ _ | refine blk_drew ?_ | refine blk_alloc ?_ _)); refine blk_far ?_ NB260_300.out _; (with_reducible repeat (first | refine blk_drewN ?_ _ | refine blk_drew ?_ | refine blk_alloc ?_ _)); exact BK260.out⟩, ⟨by (with_reducible repeat (first | refine blk_drewN ?_ _ | refine blk_drew ?_ | refine blk_alloc ?_ _)); refine blk_far ?_ NB280_300.out _; (with_reducible repeat (first | refine blk_drewN ?_ _ | refine blk_drew ?_ | refine blk_alloc ?_ _)); refine blk_far ?_ NB280_300.out _; (with_reducible repeat (first | refine blk_drewN ?_ _ | refine blk_drew ?_ | refine blk_alloc ?_ _)); refine blk_far ?_ NB280_300.out _; (with_reducible repeat (first | refine blk_drewN ?_ _ | refine blk_drew ?_ | refine blk_alloc ?_ _)); refine blk_far ?_ NB280_300.out _; (with_reducible repeat (first | refine blk_drewN ?_ _ | refine blk_drew ?_ | refine blk_alloc ?_ _)); exact BK280.out⟩, ⟨by (with_reducible repeat (first | refine blk_drewN ?_ _ | refine blk_drew ?_ | refine blk_alloc ?_ _)); refine blk_far ?_ NB289_300.out _; (with_reducible repeat (first | refine blk_drewN ?_ _ | refine blk_drew ?_ | refine blk_alloc ?_ _)); refine blk_far ?_ NB289_300.out _; (with_reducible repeat (first | refine blk_drewN ?_ _ | refine blk_drew ?_ | refine blk_alloc ?_ _)); refine blk_far ?_ NB289_300.out _; (with_reducible repeat (first | refine blk_drewN ?_ _ | refine blk_drew ?_ | refine blk_alloc ?_ _)); refine blk_far ?_ NB289_300.out _; (with_reducible repeat (first | refine blk_drewN ?_ _ | refine blk_drew ?_ | refine blk_alloc ?_ _)); exact BK289.out⟩, ⟨by (with_reducible repeat (first | refine blk_drewN ?_ _ | refine blk_drew ?_ | refine blk_alloc ?_ _)); refine blk_put (cs := #[.int .i64 t291, .int .i64 t292, .slice Ao43 t293.length co43, .slice none 0 0]) ?_ 3 _ rfl; (with_reducible repeat (first | refine blk_drewN ?_ _ | refine blk_drew ?_ | refine blk_alloc ?_ _)); refine blk_put (cs := #[.int .i64 t291, .int .i64 t292, .slice none 0 0, .slice none 0 0]) ?_ 2 _ rfl; (with_reducible repeat (first | refine blk_drewN ?_ _ | refine blk_drew ?_ | refine blk_alloc ?_ _)); refine blk_put (cs := #[.int .i64 t291, .int .i64 0, .slice none 0 0, .slice none 0 0]) ?_ 1 _ rfl; (with_reducible repeat (first | refine blk_drewN ?_ _ | refine blk_drew ?_ | refine blk_alloc ?_ _)); refine blk_put (cs := #[.int .i64 0, .int .i64 0, .slice none 0 0, .slice none 0 0]) ?_ 0 _ rfl; (with_reducible repeat (first | refine blk_drewN ?_ _ | refine blk_drew ?_ | refine blk_alloc ?_ _)); exact BK300.out⟩, ⟨Zz.rB_ HB.out⟩⟩
   case rest =>
    clear HC15
    try clear c1
    try clear c2
    try clear p2
    try clear c3
    try clear c4
    try clear c4b0
    try clear c4b1
    try clear c5
    try clear c6
    try clear c7
    try clear c7b0
    try clear c18
    try clear c20
    try clear c25
    try clear c32
    try clear c33
    try clear c36
    try clear c37
    try clear c39
    try clear c40
    try clear c41
    try clear c45
    try clear c45b0
    try clear c45b1
    try clear c47
    try clear c48
    try clear c49
    try clear c50
    try clear c52
    try clear c53
    try clear c56
    try clear c57
    try clear c58
    try clear c60
    try clear c61
    try clear hcz17_0
    try clear hcz17_1
    try clear hcz17_2
    try clear hcz17_3
    try clear hcz19_0
    try clear hcz19_1
    try clear hcz19_2
    try clear hcz19_3
    try clear hcz26_0
    try clear hcz26_1
    try clear hcz26_2
    try clear hcz26_3
    try clear hcz29_0
    try clear hcz29_1
    try clear hcz29_2
    try clear hcz29_3
    try clear hcz34_0
    try clear hcz34_1
    try clear hcz34_2
    try clear hcz34_3
    try clear hcz42_0
    try clear hcz42_1
    try clear hcz42_2
    try clear hcz42_3
    try clear hcz51_0
    try clear hcz51_1
    try clear hcz51_2
    try clear hcz51_3
    try clear hcz54_0
    try clear hcz54_1
    try clear hcz54_2
    try clear hcz54_3
    try clear hcz59_0
    try clear hcz59_1
    try clear hcz59_2
    try clear hcz59_3
    try clear hcz62_0
    try clear hcz62_1
    try clear hcz62_2
    try clear hcz62_3
    try clear hcz9_0
    try clear hcz9_1
    try clear hcz9_2
    try clear hcz9_3
    try clear hfz17_0
    try clear hfz17_1
    try clear hfz17_2
    try clear hfz17_3
    try clear hfz19_0
    try clear hfz19_1
    try clear hfz19_2
    try clear hfz19_3
    try clear hfz26_0
    try clear hfz26_1
    try clear hfz26_2
    try clear hfz26_3
    try clear hfz29_0
    try clear hfz29_1
    try clear hfz29_2
    try clear hfz29_3
    try clear hfz34_0
    try clear hfz34_1
    try clear hfz34_2
    try clear hfz34_3
    try clear hfz42_0
    try clear hfz42_1
    try clear hfz42_2
    try clear hfz42_3
    try clear hfz51_0
    try clear hfz51_1
    try clear hfz51_2
    try clear hfz51_3
    try clear hfz54_0
    try clear hfz54_1
    try clear hfz54_2
    try clear hfz54_3
    try clear hfz59_0
    try clear hfz59_1
    try clear hfz59_2
    try clear hfz59_3
    try clear hfz62_0
    try clear hfz62_1
    try clear hfz62_2
    try clear hfz62_3
    try clear hfz9_0
    try clear hfz9_1
    try clear hfz9_2
    try clear hfz9_3
    obtain ⟨kq, x61_14, rfl, HA, HJ14, HO_281002, HO_281003, HO_290002, HO_290003, HO_301002, HO_301003, BK260, BK280, BK289, BK300, HB⟩ := hcut
    cases kq with
    | zero => exact absurd HA.out (by simp [laws_FnExactGet.j0])
    | succ kj14 =>
     have H := HA.out
     clear HA
     simp only [laws_FnExactGet.j0] at H
     by_cases c64 : x61_14 = true
     ·
      subst c64
      have H1 : (some false) = some r := by rw [if_pos rfl] at H; exact H
      clear H
      have H := H1
      clear H1
      obtain rfl := Option.some.inj H
      go_wp2
      go_ret
      exact ⟨by first | rfl | (simp [errW_none, errW_some] <;> rfl) | (simp [*, errW_none, errW_some] <;> rfl), by repeat (first | (with_reducible first | exact HB.out | apply below_alloc | apply pw_below_drewN | apply below_drew1 | refine below_set ?_ GE260.out | refine below_set ?_ GE280.out | refine below_set ?_ GE289.out | refine below_set ?_ GE300.out) | exact HB.out)⟩
     ·
      replace c64 := Bool.eq_false_iff.mpr c64
      subst c64
      have H1 : ((laws_toStore.f kj14 a0_0 a0_1 l0_2 l0_3).bind fun bt302 => ((laws_eqStore.f kj14 t281 t282 t283 t286 bt302.1 bt302.2.1 bt302.2.2.1 bt302.2.2.2).bind fun t310 => (if t310 = true then ((laws_markStore.f kj14 t281 t282 t283 t286 1).bind fun bt311 => (if bt311.1 < 0 then (laws_FnExactGet.j1 kj14 a1 a2 t270 t279 true a0_0 a0_1 l0_2 l0_3 t271 t272 t273 t276 t291 t292 t293 t296) else (if t290.toList = t270.toList then ((laws_eqStore.f kj14 t291 t292 t293 t296 t271 t272 t273 t276).bind fun t314 => (if t314 = true then (laws_FnExactGet.j1 kj14 a1 a2 t270 t279 (t299 != t279) a0_0 a0_1 l0_2 l0_3 t271 t272 t273 t276 t291 t292 t293 t296) else (laws_FnExactGet.j1 kj14 a1 a2 t270 t279 true a0_0 a0_1 l0_2 l0_3 t271 t272 t273 t276 t291 t292 t293 t296))) else (laws_FnExactGet.j1 kj14 a1 a2 t270 t279 true a0_0 a0_1 l0_2 l0_3 t271 t272 t273 t276 t291 t292 t293 t296)))) else (some false)))) = some r := by rw [if_neg (show ¬ (false = true) by decide)] at H; exact H
      clear H
      have H := H1
      clear H1
      replace H := Option.bind_eq_some_iff.mp H
      obtain ⟨⟨t302, t303, t304, t307⟩, A650, H⟩ := H
      replace H : ((laws_eqStore.f kj14 t281 t282 t283 t286 t302 t303 t304 t307).bind fun t310 => (if t310 = true then ((laws_markStore.f kj14 t281 t282 t283 t286 1).bind fun bt311 => (if bt311.1 < 0 then (laws_FnExactGet.j1 kj14 a1 a2 t270 t279 true a0_0 a0_1 l0_2 l0_3 t271 t272 t273 t276 t291 t292 t293 t296) else (if t290.toList = t270.toList then ((laws_eqStore.f kj14 t291 t292 t293 t296 t271 t272 t273 t276).bind fun t314 => (if t314 = true then (laws_FnExactGet.j1 kj14 a1 a2 t270 t279 (t299 != t279) a0_0 a0_1 l0_2 l0_3 t271 t272 t273 t276 t291 t292 t293 t296) else (laws_FnExactGet.j1 kj14 a1 a2 t270 t279 true a0_0 a0_1 l0_2 l0_3 t271 t272 t273 t276 t291 t292 t293 t296))) else (laws_FnExactGet.j1 kj14 a1 a2 t270 t279 true a0_0 a0_1 l0_2 l0_3 t271 t272 t273 t276 t291 t292 t293 t296)))) else (some false))) = some r := H
      have A65 := Aside0.mk A650
      clear A650
      replace H := Option.bind_eq_some_iff.mp H
      obtain ⟨t310, A660, H⟩ := H
      replace H : (if t310 = true then ((laws_markStore.f kj14 t281 t282 t283 t286 1).bind fun bt311 => (if bt311.1 < 0 then (laws_FnExactGet.j1 kj14 a1 a2 t270 t279 true a0_0 a0_1 l0_2 l0_3 t271 t272 t273 t276 t291 t292 t293 t296) else (if t290.toList = t270.toList then ((laws_eqStore.f kj14 t291 t292 t293 t296 t271 t272 t273 t276).bind fun t314 => (if t314 = true then (laws_FnExactGet.j1 kj14 a1 a2 t270 t279 (t299 != t279) a0_0 a0_1 l0_2 l0_3 t271 t272 t273 t276 t291 t292 t293 t296) else (laws_FnExactGet.j1 kj14 a1 a2 t270 t279 true a0_0 a0_1 l0_2 l0_3 t271 t272 t273 t276 t291 t292 t293 t296))) else (laws_FnExactGet.j1 kj14 a1 a2 t270 t279 true a0_0 a0_1 l0_2 l0_3 t271 t272 t273 t276 t291 t292 t293 t296)))) else (some false)) = some r := H
      have A66 := Aside0.mk A660
      clear A660
      by_cases c67 : t310 = true
      ·
       subst c67
       have H1 : ((laws_markStore.f kj14 t281 t282 t283 t286 1).bind fun bt311 => (if bt311.1 < 0 then (laws_FnExactGet.j1 kj14 a1 a2 t270 t279 true a0_0 a0_1 l0_2 l0_3 t271 t272 t273 t276 t291 t292 t293 t296) else (if t290.toList = t270.toList then ((laws_eqStore.f kj14 t291 t292 t293 t296 t271 t272 t273 t276).bind fun t314 => (if t314 = true then (laws_FnExactGet.j1 kj14 a1 a2 t270 t279 (t299 != t279) a0_0 a0_1 l0_2 l0_3 t271 t272 t273 t276 t291 t292 t293 t296) else (laws_FnExactGet.j1 kj14 a1 a2 t270 t279 true a0_0 a0_1 l0_2 l0_3 t271 t272 t273 t276 t291 t292 t293 t296))) else (laws_FnExactGet.j1 kj14 a1 a2 t270 t279 true a0_0 a0_1 l0_2 l0_3 t271 t272 t273 t276 t291 t292 t293 t296)))) = some r := by rw [if_pos rfl] at H; exact H
       clear H
       have H := H1
       clear H1
       replace H := Option.bind_eq_some_iff.mp H
       obtain ⟨⟨t311, t312, t313⟩, A680, H⟩ := H
       replace H : (if t311 < 0 then (laws_FnExactGet.j1 kj14 a1 a2 t270 t279 true a0_0 a0_1 l0_2 l0_3 t271 t272 t273 t276 t291 t292 t293 t296) else (if t290.toList = t270.toList then ((laws_eqStore.f kj14 t291 t292 t293 t296 t271 t272 t273 t276).bind fun t314 => (if t314 = true then (laws_FnExactGet.j1 kj14 a1 a2 t270 t279 (t299 != t279) a0_0 a0_1 l0_2 l0_3 t271 t272 t273 t276 t291 t292 t293 t296) else (laws_FnExactGet.j1 kj14 a1 a2 t270 t279 true a0_0 a0_1 l0_2 l0_3 t271 t272 t273 t276 t291 t292 t293 t296))) else (laws_FnExactGet.j1 kj14 a1 a2 t270 t279 true a0_0 a0_1 l0_2 l0_3 t271 t272 t273 t276 t291 t292 t293 t296))) = some r := H
       have A68 := Aside0.mk A680
       clear A680
       have HC69 := Aside0.mk H
       clear H
       try go_wp2
       have n0_ := Aside0.mk (Kd.R_drew HO_281002.out)
       have n1_ := Aside0.mk (Kd.R_drew HO_281003.out)
       have n2_ := Aside0.mk (Kd.R_drew HO_290002.out)
       have n3_ := Aside0.mk (Kd.R_drew HO_290003.out)
       have n4_ := Aside0.mk (Kd.R_drew HO_301002.out)
       have n5_ := Aside0.mk (Kd.R_drew HO_301003.out)
       have n6_ := Aside0.mk (blk_drew BK260.out)
       have n7_ := Aside0.mk (blk_drew BK280.out)
       have n8_ := Aside0.mk (blk_drew BK289.out)
       have n9_ := Aside0.mk (blk_drew BK300.out)
       have n10_ := Aside0.mk (below_drew1 HB.out)
       clear HO_281002
       clear HO_281003
       clear HO_290002
       clear HO_290003
       clear HO_301002
       clear HO_301003
       clear BK260
       clear BK280
       clear BK289
       clear BK300
       clear HB
       have HO_281002 := n0_
       have HO_281003 := n1_
       have HO_290002 := n2_
       have HO_290003 := n3_
       have HO_301002 := n4_
       have HO_301003 := n5_
       have BK260 := n6_
       have BK280 := n7_
       have BK289 := n8_
       have BK300 := n9_
       have HB := n10_
       clear n0_ n1_ n2_ n3_ n4_ n5_ n6_ n7_ n8_ n9_ n10_
       refine start_ (n := 5) (S := fun w' => w'.cell? ⟨gb289, 0, none⟩ = some (.int .i64 t281) ∧ w'.cell? ⟨gb289, 1, none⟩ = some (.int .i64 t282) ∧ w'.cell? ⟨gb289, 2, none⟩ = some (.slice Ao35 t283.length co35) ∧ w'.cell? ⟨gb289, 3, none⟩ = some (.slice Ao36 t286.length co36) ∧ w'.cell? ⟨gb260, 0, none⟩ = some (.int .i64 a0_0) ∧ w'.cell? ⟨gb260, 1, none⟩ = some (.int .i64 a0_1) ∧ w'.cell? ⟨gb260, 2, none⟩ = some (.slice A0_2 l0_2.length c0_2) ∧ w'.cell? ⟨gb260, 3, none⟩ = some (.slice A0_3 l0_3.length c0_3)) (ds := []) #[false, false, false, false, false] (by kernel_rfl) rfl rfl ⟨(blk_cell BK289.out 0).trans rfl, (blk_cell BK289.out 1).trans rfl, (blk_cell BK289.out 2).trans rfl, (blk_cell BK289.out 3).trans rfl, (blk_cell BK260.out 0).trans rfl, (blk_cell BK260.out 1).trans rfl, (blk_cell BK260.out 2).trans rfl, (blk_cell BK260.out 3).trans rfl⟩ (fun hHeld => ?_)
       generalize wc.drew = w70 at HO_281002 HO_281003 HO_290002 HO_290003 HO_301002 HO_301003 BK260 BK280 BK289 BK300 HB hHeld ⊢
       refine take_ (i := 0) (N := some 62) (v := ?_) (a' := ?_) #[true, false, false, false, false] rfl rfl (by kernel_rfl) (fun _ _ _ h => h) (Or.inl ⟨by rfl, ?_⟩) hHeld ?_ ?_
       rotate_left
       ·
        rintro w' ⟨s0, s1, s2, s3, s4, s5, s6, s7⟩
        go_simp
        with_reducible rfl
       rotate_left
       ·
        simp only [Act.put, List.setIfInBounds_toArray, List.set_cons_zero, List.set_cons_succ, i64_w, i32_w]
        rfl
       refine take_ (i := 1) (N := some 63) (v := ?_) (a' := ?_) #[true, true, false, false, false] rfl rfl (by kernel_rfl) (fun _ _ _ h => h) (Or.inl ⟨by rfl, ?_⟩) hHeld ?_ ?_
       rotate_left
       ·
        rintro w' ⟨s0, s1, s2, s3, s4, s5, s6, s7⟩
        go_simp
        with_reducible rfl
       rotate_left
       ·
        simp only [Act.put, List.setIfInBounds_toArray, List.set_cons_zero, List.set_cons_succ, i64_w, i32_w]
        rfl
       refine one_ (i := 2) (N := some 64) #[true, true, true, false, false] rfl rfl (by kernel_rfl) (by decide) (fun K hK => ?_)
       refine goes_ Try.func20 (by kernel_rfl) rfl #[.agg #[.int .i64 a0_0, .int .i64 a0_1, .slice A0_2 l0_2.length c0_2, .slice A0_3 l0_3.length c0_3]] (by rfl) rfl rfl (by (try simp only [List.map_toArray, List.map_cons, List.map_nil]); first | done | rfl | (simp only [List.length_drop, List.length_take]; rfl)) ?_
       with_reducible refine (laws_toStore.calls kj14 a0_0 a0_1 _ _ l0_2 _ _ l0_3 t302 t303 t304 t307 _ ?side1 ?side2 ?side3 ?side4 A65.out).mono ?_
       (case side1 => repeat (first | exact (Kd.C_below HR0_2.out HB.out) | (with_reducible refine Kd.C_alloc ?_ _) | (with_reducible refine Kd.C_drewN ?_ _) | (with_reducible refine Kd.C_drew ?_)))
       (case side2 => exact HC0_2.out)
       (case side3 => repeat (first | exact (Kd.C_below HR0_3.out HB.out) | (with_reducible refine Kd.C_alloc ?_ _) | (with_reducible refine Kd.C_drewN ?_ _) | (with_reducible refine Kd.C_drew ?_)))
       (case side4 => exact HC0_3.out)
       rintro e w71 ⟨v305, v308, rfl, ho0, ho1, hb⟩
       refine ⟨_, rfl, ?_⟩
       have n0_ := Aside0.mk (Kd.R_elder' (Zz.rR_ HO_281002.out) (Kd.R_base ho0) hb)
       have n1_ := Aside0.mk (Kd.R_elder' (Zz.rR_ HO_281003.out) (Kd.R_base ho1) hb)
       have n2_ := Aside0.mk (Kd.R_elder' (Zz.rR_ HO_290002.out) (Kd.R_base ho0) hb)
       have n3_ := Aside0.mk (Kd.R_elder' (Zz.rR_ HO_290003.out) (Kd.R_base ho1) hb)
       have n4_ := Aside0.mk (Kd.R_elder' (Zz.rR_ HO_301002.out) (Kd.R_base ho0) hb)
       have n5_ := Aside0.mk (Kd.R_elder' (Zz.rR_ HO_301003.out) (Kd.R_base ho1) hb)
       have n6_ := Aside0.mk (Kd.R_lower (Kd.R_new' (Kd.R_new' (Kd.R_new' ho0 (Kd.R_lt (Zz.rR_ HO_281002.out))) (Kd.R_lt (Zz.rR_ HO_290002.out))) (Kd.R_lt (Zz.rR_ HO_301002.out))) (below_size (Zz.rB_ HB.out)))
       have n7_ := Aside0.mk (Kd.R_lower (Kd.R_new' (Kd.R_new' (Kd.R_new' ho1 (Kd.R_lt (Zz.rR_ HO_281003.out))) (Kd.R_lt (Zz.rR_ HO_290003.out))) (Kd.R_lt (Zz.rR_ HO_301003.out))) (below_size (Zz.rB_ HB.out)))
       have n8_ := Aside0.mk (blk_below (g := gb260) (o := .cells #[.int .i64 a0_0, .int .i64 a0_1, .slice A0_2 l0_2.length c0_2, .slice A0_3 l0_3.length c0_3] 31 (0, 0)) (Zz.rb_ BK260.out) hb)
       have n9_ := Aside0.mk (blk_below (g := gb280) (o := .cells #[.int .i64 t271, .int .i64 t272, .slice Ao27 t273.length co27, .slice Ao28 t276.length co28] 36 (0, 0)) (Zz.rb_ BK280.out) hb)
       have n10_ := Aside0.mk (blk_below (g := gb289) (o := .cells #[.int .i64 t281, .int .i64 t282, .slice Ao35 t283.length co35, .slice Ao36 t286.length co36] 36 (0, 0)) (Zz.rb_ BK289.out) hb)
       have n11_ := Aside0.mk (blk_below (g := gb300) (o := .cells #[.int .i64 t291, .int .i64 t292, .slice Ao43 t293.length co43, .slice Ao44 t296.length co44] 36 (0, 0)) (Zz.rb_ BK300.out) hb)
       have n12_ := Aside0.mk (below_step (Zz.rB_ HB.out) hb)
       clear HO_281002
       clear HO_281003
       clear HO_290002
       clear HO_290003
       clear HO_301002
       clear HO_301003
       clear BK260
       clear BK280
       clear BK289
       clear BK300
       clear HB
       have HO_281002 := n0_
       have HO_281003 := n1_
       have HO_290002 := n2_
       have HO_290003 := n3_
       have HO_301002 := n4_
       have HO_301003 := n5_
       have HO306 := n6_
       have HO309 := n7_
       have BK260 := n8_
       have BK280 := n9_
       have BK289 := n10_
       have BK300 := n11_
       have HB := n12_
       clear n0_ n1_ n2_ n3_ n4_ n5_ n6_ n7_ n8_ n9_ n10_ n11_ n12_
       (try clear hb)
       (try clear hb2)
       (try clear hk)
       (try clear hi)
       (try clear ho0)
       (try clear ho1)
       obtain ⟨Ao72, co72, eo72⟩ := Kd.R_slice HO306.out
       (first | subst eo72 | (injection eo72 with f1_ f2_ f3_; have f4_ := f1_.symm; have f5_ := f3_.symm; clear f1_ f2_ f3_; subst f4_; subst f5_))
       obtain ⟨Ao73, co73, eo73⟩ := Kd.R_slice HO309.out
       (first | subst eo73 | (injection eo73 with f1_ f2_ f3_; have f4_ := f1_.symm; have f5_ := f3_.symm; clear f1_ f2_ f3_; subst f4_; subst f5_))
       refine hK.out _ _ ⟨(blk_cell BK289.out 0).trans rfl, (blk_cell BK289.out 1).trans rfl, (blk_cell BK289.out 2).trans rfl, (blk_cell BK289.out 3).trans rfl, (blk_cell BK260.out 0).trans rfl, (blk_cell BK260.out 1).trans rfl, (blk_cell BK260.out 2).trans rfl, (blk_cell BK260.out 3).trans rfl⟩ (fun hHeld => ?_)
       clear hK K
       refine norm_ (a' := ?_) ?_ ?_
       rotate_left
       ·
        show Act.put _ (some 64) _ = _
        simp only [Act.put, List.setIfInBounds_toArray, List.set_cons_zero, List.set_cons_succ, i64_w, i32_w]
        rfl
       refine one_ (i := 3) (N := some 65) #[true, true, true, true, false] rfl rfl (by kernel_rfl) (by decide) (fun K hK => ?_)
       refine goes_ Try.func22 (by kernel_rfl) rfl #[.agg #[.int .i64 t281, .int .i64 t282, .slice Ao35 t283.length co35, .slice Ao36 t286.length co36], .agg #[.int .i64 t302, .int .i64 t303, .slice Ao72 t304.length co72, .slice Ao73 t307.length co73]] (by rfl) rfl rfl (by (try simp only [List.map_toArray, List.map_cons, List.map_nil]); first | done | rfl | (simp only [List.length_drop, List.length_take]; rfl)) ?_
       with_reducible refine (laws_eqStore.calls kj14 t281 t282 _ _ t283 _ _ t286 t302 t303 _ _ t304 _ _ t307 true _ ?side1 ?side2 ?side3 ?side4 ?side5 ?side6 ?side7 ?side8 A66.out).mono ?_
       (case side1 => repeat (first | exact (Kd.R_reads' HO_290002.out).2.2 | (with_reducible refine Kd.C_alloc ?_ _) | (with_reducible refine Kd.C_drewN ?_ _) | (with_reducible refine Kd.C_drew ?_)))
       (case side2 => exact (Kd.R_reads' HO_290002.out).2.1)
       (case side3 => repeat (first | exact (Kd.R_reads' HO_290003.out).2.2 | (with_reducible refine Kd.C_alloc ?_ _) | (with_reducible refine Kd.C_drewN ?_ _) | (with_reducible refine Kd.C_drew ?_)))
       (case side4 => exact (Kd.R_reads' HO_290003.out).2.1)
       (case side5 => repeat (first | exact (Kd.R_reads' HO306.out).2.2 | (with_reducible refine Kd.C_alloc ?_ _) | (with_reducible refine Kd.C_drewN ?_ _) | (with_reducible refine Kd.C_drew ?_)))
       (case side6 => exact (Kd.R_reads' HO306.out).2.1)
       (case side7 => repeat (first | exact (Kd.R_reads' HO309.out).2.2 | (with_reducible refine Kd.C_alloc ?_ _) | (with_reducible refine Kd.C_drewN ?_ _) | (with_reducible refine Kd.C_drew ?_)))
       (case side8 => exact (Kd.R_reads' HO309.out).2.1)
       rintro e w74 ⟨rfl, hb⟩
       refine ⟨_, rfl, ?_⟩
       have n0_ := Aside0.mk (Kd.R_below (Zz.rR_ HO_281002.out) hb)
       have n1_ := Aside0.mk (Kd.R_below (Zz.rR_ HO_281003.out) hb)
       have n2_ := Aside0.mk (Kd.R_below (Zz.rR_ HO_290002.out) hb)
       have n3_ := Aside0.mk (Kd.R_below (Zz.rR_ HO_290003.out) hb)
       have n4_ := Aside0.mk (Kd.R_below (Zz.rR_ HO_301002.out) hb)
       have n5_ := Aside0.mk (Kd.R_below (Zz.rR_ HO_301003.out) hb)
       have n6_ := Aside0.mk (Kd.R_below (Zz.rR_ HO306.out) hb)
       have n7_ := Aside0.mk (Kd.R_below (Zz.rR_ HO309.out) hb)
       have n8_ := Aside0.mk (blk_below (g := gb260) (o := .cells #[.int .i64 a0_0, .int .i64 a0_1, .slice A0_2 l0_2.length c0_2, .slice A0_3 l0_3.length c0_3] 31 (0, 0)) (Zz.rb_ BK260.out) hb)
       have n9_ := Aside0.mk (blk_below (g := gb280) (o := .cells #[.int .i64 t271, .int .i64 t272, .slice Ao27 t273.length co27, .slice Ao28 t276.length co28] 36 (0, 0)) (Zz.rb_ BK280.out) hb)
       have n10_ := Aside0.mk (blk_below (g := gb289) (o := .cells #[.int .i64 t281, .int .i64 t282, .slice Ao35 t283.length co35, .slice Ao36 t286.length co36] 36 (0, 0)) (Zz.rb_ BK289.out) hb)
       have n11_ := Aside0.mk (blk_below (g := gb300) (o := .cells #[.int .i64 t291, .int .i64 t292, .slice Ao43 t293.length co43, .slice Ao44 t296.length co44] 36 (0, 0)) (Zz.rb_ BK300.out) hb)
       have n12_ := Aside0.mk (below_step (Zz.rB_ HB.out) hb)
       clear HO_281002
       clear HO_281003
       clear HO_290002
       clear HO_290003
       clear HO_301002
       clear HO_301003
       clear HO306
       clear HO309
       clear BK260
       clear BK280
       clear BK289
       clear BK300
       clear HB
       have HO_281002 := n0_
       have HO_281003 := n1_
       have HO_290002 := n2_
       have HO_290003 := n3_
       have HO_301002 := n4_
       have HO_301003 := n5_
       have HO306 := n6_
       have HO309 := n7_
       have BK260 := n8_
       have BK280 := n9_
       have BK289 := n10_
       have BK300 := n11_
       have HB := n12_
       clear n0_ n1_ n2_ n3_ n4_ n5_ n6_ n7_ n8_ n9_ n10_ n11_ n12_
       (try clear hb)
       (try clear hb2)
       (try clear hk)
       (try clear hi)
       refine hK.out _ _ ⟨(blk_cell BK289.out 0).trans rfl, (blk_cell BK289.out 1).trans rfl, (blk_cell BK289.out 2).trans rfl, (blk_cell BK289.out 3).trans rfl, (blk_cell BK260.out 0).trans rfl, (blk_cell BK260.out 1).trans rfl, (blk_cell BK260.out 2).trans rfl, (blk_cell BK260.out 3).trans rfl⟩ (fun hHeld => ?_)
       clear hK K
       refine norm_ (a' := ?_) ?_ ?_
       rotate_left
       ·
        show Act.put _ (some 65) _ = _
        simp only [Act.put, List.setIfInBounds_toArray, List.set_cons_zero, List.set_cons_succ, i64_w, i32_w]
        rfl
       refine pure_ (i := 4) (N := some 66) (v := ?_) (a' := ?_) #[true, true, true, true, true] rfl rfl (by kernel_rfl) (fun _ _ _ h => h) (Or.inl ⟨by rfl, ?_⟩) ?_ ?_
       rotate_left
       ·
        intro w'
        go_simp
        with_reducible rfl
       rotate_left
       ·
        simp only [Act.put, List.setIfInBounds_toArray, List.set_cons_zero, List.set_cons_succ, i64_w, i32_w]
        rfl
       refine done_ (by kernel_rfl) ?_
       have hnb75 := NB289_260.out
       have hnc75 := NB260_289.out
       have hnb76 := NB289_280.out
       have hnc76 := NB280_289.out
       have hnb77 := NB289_300.out
       have hnc77 := NB300_289.out
       have hcz78_0 : w74.cell? ⟨gb289, 0, none⟩ = some (.int .i64 t281) := (blk_cell BK289.out 0).trans rfl
       have hcz78_1 : w74.cell? ⟨gb289, 1, none⟩ = some (.int .i64 t282) := (blk_cell BK289.out 1).trans rfl
       have hcz78_2 : w74.cell? ⟨gb289, 2, none⟩ = some (.slice Ao35 t283.length co35) := (blk_cell BK289.out 2).trans rfl
       have hcz78_3 : w74.cell? ⟨gb289, 3, none⟩ = some (.slice Ao36 t286.length co36) := (blk_cell BK289.out 3).trans rfl
       have hfz78_0 := blk_frozen BK289.out 0
       have hfz78_1 := blk_frozen BK289.out 1
       have hfz78_2 := blk_frozen BK289.out 2
       have hfz78_3 := blk_frozen BK289.out 3
       go_upto_region 16 with (first | ((with_reducible refine gate_callee (f := 38) rfl ?_); refine goesL_ (some 69) rfl rfl Try.func38 (by kernel_rfl) rfl #[.agg #[.int .i64 t281, .int .i64 t282, .slice Ao35 t283.length co35, .slice Ao36 t286.length co36], .int .i64 1] rfl (by (try simp only [List.map_toArray, List.map_cons, List.map_nil]); first | done | rfl | (simp only [List.length_drop, List.length_take]; rfl)) ?_; (with_reducible refine (laws_markStore.calls kj14 t281 t282 (fun k_ => some k_ = (.slice Ao35 t283.length co35 : Value).ownBlock) (.slice Ao35 t283.length co35) t283 (fun k_ => some k_ = (.slice Ao36 t286.length co36 : Value).ownBlock) (.slice Ao36 t286.length co36) t286 1 t311 t312 t313 w _ ?side1 ?side2 ?side3 A68.out).mono ?_); (case side1 => exact Zz.rB_ HB.out); (case side2 => exact Kd.R_tight rfl HO_290002.out); (case side3 => exact Kd.R_tight rfl HO_290003.out); rintro e w79 ⟨rfl, hy0, hy1, hb, hkp⟩; refine ⟨_, rfl, ?_⟩; have n0_ := Aside0.mk (Kd.R_mono (ok' := fun k_ => some k_ ≠ (.slice Ao35 t283.length co35 : Value).ownBlock ∧ some k_ ≠ (.slice Ao43 t293.length co43 : Value).ownBlock ∧ some k_ ≠ (.slice Ao72 t304.length co72 : Value).ownBlock) (Kd.R_keptB ((Kd.R_apart' HO_281002.out (Kd.R_typed HO_290003.out) (by decide))) hkp (fun k_ hk_ hs_ => Or.elim hs_ (fun e_ => (hk_.1.1.1) e_) (fun e_ => (hk_.2) e_))) (fun k_ hk_ => ⟨hk_.1.1.1.1, hk_.1.1.1.2, hk_.1.1.2⟩)); have n1_ := Aside0.mk (Kd.R_mono (ok' := fun k_ => some k_ ≠ (.slice Ao36 t286.length co36 : Value).ownBlock ∧ some k_ ≠ (.slice Ao44 t296.length co44 : Value).ownBlock ∧ some k_ ≠ (.slice Ao73 t307.length co73 : Value).ownBlock) (Kd.R_keptB ((Kd.R_apart' HO_281003.out (Kd.R_typed HO_290002.out) (by decide))) hkp (fun k_ hk_ hs_ => Or.elim hs_ (fun e_ => (hk_.2) e_) (fun e_ => (hk_.1.1.1) e_))) (fun k_ hk_ => ⟨hk_.1.1.1.1, hk_.1.1.1.2, hk_.1.1.2⟩)); have n2_ := Aside0.mk (Kd.R_reok rfl hy0 (fun k_ e_ => HO_290002.out.1 k_ e_)); have n3_ := Aside0.mk (Kd.R_reok rfl hy1 (fun k_ e_ => HO_290003.out.1 k_ e_)); have n4_ := Aside0.mk (Kd.R_mono (ok' := fun k_ => some k_ ≠ (.slice Ao27 t273.length co27 : Value).ownBlock ∧ some k_ ≠ (.slice Ao35 t283.length co35 : Value).ownBlock ∧ some k_ ≠ (.slice Ao72 t304.length co72 : Value).ownBlock) (Kd.R_keptB ((Kd.R_apart' HO_301002.out (Kd.R_typed HO_290003.out) (by decide))) hkp (fun k_ hk_ hs_ => Or.elim hs_ (fun e_ => (hk_.1.1.2) e_) (fun e_ => (hk_.2) e_))) (fun k_ hk_ => ⟨hk_.1.1.1.1, hk_.1.1.1.2, hk_.1.1.2⟩)); have n5_ := Aside0.mk (Kd.R_mono (ok' := fun k_ => some k_ ≠ (.slice Ao28 t276.length co28 : Value).ownBlock ∧ some k_ ≠ (.slice Ao36 t286.length co36 : Value).ownBlock ∧ some k_ ≠ (.slice Ao73 t307.length co73 : Value).ownBlock) (Kd.R_keptB ((Kd.R_apart' HO_301003.out (Kd.R_typed HO_290002.out) (by decide))) hkp (fun k_ hk_ hs_ => Or.elim hs_ (fun e_ => (hk_.2) e_) (fun e_ => (hk_.1.1.2) e_))) (fun k_ hk_ => ⟨hk_.1.1.1.1, hk_.1.1.1.2, hk_.1.1.2⟩)); have n6_ := Aside0.mk (blk_kept (Zz.rb_ BK260.out) hkp (fun hs_ => Or.elim hs_ (fun e_ => (fun e_ => (Kd.R_ne HO_290002.out BK260.out (by decide)) e_) e_) (fun e_ => (fun e_ => (Kd.R_ne HO_290003.out BK260.out (by decide)) e_) e_))); have n7_ := Aside0.mk (blk_kept (Zz.rb_ BK280.out) hkp (fun hs_ => Or.elim hs_ (fun e_ => (fun e_ => (Kd.R_ne HO_290002.out BK280.out (by decide)) e_) e_) (fun e_ => (fun e_ => (Kd.R_ne HO_290003.out BK280.out (by decide)) e_) e_))); have n8_ := Aside0.mk (blk_kept (Zz.rb_ BK289.out) hkp (fun hs_ => Or.elim hs_ (fun e_ => (fun e_ => (Kd.R_ne HO_290002.out BK289.out (by decide)) e_) e_) (fun e_ => (fun e_ => (Kd.R_ne HO_290003.out BK289.out (by decide)) e_) e_))); have n9_ := Aside0.mk (blk_kept (Zz.rb_ BK300.out) hkp (fun hs_ => Or.elim hs_ (fun e_ => (fun e_ => (Kd.R_ne HO_290002.out BK300.out (by decide)) e_) e_) (fun e_ => (fun e_ => (Kd.R_ne HO_290003.out BK300.out (by decide)) e_) e_))); have n10_ := Aside0.mk (Kd.R_mono (ok' := fun k_ => some k_ ≠ (.slice Ao27 t273.length co27 : Value).ownBlock ∧ some k_ ≠ (.slice Ao35 t283.length co35 : Value).ownBlock ∧ some k_ ≠ (.slice Ao43 t293.length co43 : Value).ownBlock) (Kd.R_keptB ((Kd.R_apart' HO306.out (Kd.R_typed HO_290003.out) (by decide))) hkp (fun k_ hk_ hs_ => Or.elim hs_ (fun e_ => (hk_.1.1.2) e_) (fun e_ => (hk_.2) e_))) (fun k_ hk_ => ⟨hk_.1.1.1.1.2, hk_.1.1.1.2, hk_.1.1.2⟩)); have n11_ := Aside0.mk (Kd.R_mono (ok' := fun k_ => some k_ ≠ (.slice Ao28 t276.length co28 : Value).ownBlock ∧ some k_ ≠ (.slice Ao36 t286.length co36 : Value).ownBlock ∧ some k_ ≠ (.slice Ao44 t296.length co44 : Value).ownBlock) (Kd.R_keptB ((Kd.R_apart' HO309.out (Kd.R_typed HO_290002.out) (by decide))) hkp (fun k_ hk_ hs_ => Or.elim hs_ (fun e_ => (hk_.2) e_) (fun e_ => (hk_.1.1.2) e_))) (fun k_ hk_ => ⟨hk_.1.1.1.1.2, hk_.1.1.1.2, hk_.1.1.2⟩)); have n12_ := Aside0.mk (hb); clear HO_281002; clear HO_281003; clear HO_290002; clear HO_290003; clear HO_301002; clear HO_301003; clear BK260; clear BK280; clear BK289; clear BK300; clear HO306; clear HO309; clear HB; have HO_281002 := n0_; have HO_281003 := n1_; have HO_290002 := n2_; have HO_290003 := n3_; have HO_301002 := n4_; have HO_301003 := n5_; have BK260 := n6_; have BK280 := n7_; have BK289 := n8_; have BK300 := n9_; have HO306 := n10_; have HO309 := n11_; have HB := n12_; clear n0_ n1_ n2_ n3_ n4_ n5_ n6_ n7_ n8_ n9_ n10_ n11_ n12_; (try clear hb); (try clear hkp); (try clear hy0); (try clear hy1)))
       (try simp only [Act.put, List.setIfInBounds_toArray, List.set_cons_zero, List.set_cons_succ])
       go_cut [87] (fun v87 wc => ∃ (kq : Nat) (x87_68 : Bool), v87 = .bool x87_68 ∧ Aside0 (laws_FnExactGet.j1 kq a1 a2 t270 t279 x87_68 a0_0 a0_1 l0_2 l0_3 t271 t272 t273 t276 t291 t292 t293 t296 = some r) ∧ Aside0 (kq ≤ kj14) ∧ Aside0 (Kd.R k92 92 wc w.heap.size (fun k_ => some k_ ≠ ((.slice Ao35 t283.length co35) : Value).ownBlock ∧ some k_ ≠ ((.slice Ao43 t293.length co43) : Value).ownBlock) (.slice Ao27 t273.length co27) t273) ∧ Aside0 (Kd.R Kd.string 9 wc w.heap.size (fun k_ => some k_ ≠ ((.slice Ao36 t286.length co36) : Value).ownBlock ∧ some k_ ≠ ((.slice Ao44 t296.length co44) : Value).ownBlock) (.slice Ao28 t276.length co28) t276) ∧ Aside0 (Kd.R k92 92 wc w.heap.size (fun k_ => some k_ ≠ ((.slice Ao27 t273.length co27) : Value).ownBlock ∧ some k_ ≠ ((.slice Ao43 t293.length co43) : Value).ownBlock) (.slice Ao35 t283.length co35) t312) ∧ Aside0 (Kd.R Kd.string 9 wc w.heap.size (fun k_ => some k_ ≠ ((.slice Ao28 t276.length co28) : Value).ownBlock ∧ some k_ ≠ ((.slice Ao44 t296.length co44) : Value).ownBlock) (.slice Ao36 t286.length co36) t313) ∧ Aside0 (Kd.R k92 92 wc w.heap.size (fun k_ => some k_ ≠ ((.slice Ao27 t273.length co27) : Value).ownBlock ∧ some k_ ≠ ((.slice Ao35 t283.length co35) : Value).ownBlock) (.slice Ao43 t293.length co43) t293) ∧ Aside0 (Kd.R Kd.string 9 wc w.heap.size (fun k_ => some k_ ≠ ((.slice Ao28 t276.length co28) : Value).ownBlock ∧ some k_ ≠ ((.slice Ao36 t286.length co36) : Value).ownBlock) (.slice Ao44 t296.length co44) t296) ∧ Aside0 (wc.heap[gb260]? = some (.cells #[.int .i64 a0_0, .int .i64 a0_1, (.slice A0_2 l0_2.length c0_2), (.slice A0_3 l0_3.length c0_3)] 31 (0, 0))) ∧ Aside0 (wc.heap[gb280]? = some (.cells #[.int .i64 t271, .int .i64 t272, (.slice Ao27 t273.length co27), (.slice Ao28 t276.length co28)] 36 (0, 0))) ∧ Aside0 (wc.heap[gb289]? = some (.cells #[.int .i64 t281, .int .i64 t282, (.slice Ao35 t283.length co35), (.slice Ao36 t286.length co36)] 36 (0, 0))) ∧ Aside0 (wc.heap[gb300]? = some (.cells #[.int .i64 t291, .int .i64 t292, (.slice Ao43 t293.length co43), (.slice Ao44 t296.length co44)] 36 (0, 0))) ∧ Aside0 (Below w.heap.size w wc))
       case first =>
        have H := HC69.out
        clear HC69
        by_cases c80 : t311 < 0
        ·
         rw [if_pos c80] at H
         have c80b0 : decide (t311 < 0) = true := decide_eq_true c80
         clear c80
         (first | rw [c80b0] | (simp only [i64_w, i32_w]; rw [c80b0]) | skip)
         have H' := Aside0.mk H
         clear H
         go_wp2
         go_meet
         case rel => exact ⟨_, (true), (by first | rfl | (simp; done) | (simp [*]; done)), H', ⟨by have := HJ14.out; first | omega | exact Nat.le_refl _⟩, ⟨by (with_reducible repeat (first | apply Kd.R_alloc | apply Kd.R_drewN | apply Kd.R_drew)); exact Kd.R_mono HO_281002.out (fun _ hk => ⟨hk.1, hk.2.1⟩)⟩, ⟨by (with_reducible repeat (first | apply Kd.R_alloc | apply Kd.R_drewN | apply Kd.R_drew)); exact Kd.R_mono HO_281003.out (fun _ hk => ⟨hk.1, hk.2.1⟩)⟩, ⟨by (with_reducible repeat (first | apply Kd.R_alloc | apply Kd.R_drewN | apply Kd.R_drew)); exact Kd.R_mono HO_290002.out (fun _ hk => ⟨hk.1.1, hk.1.2⟩)⟩, ⟨by (with_reducible repeat (first | apply Kd.R_alloc | apply Kd.R_drewN | apply Kd.R_drew)); exact Kd.R_mono HO_290003.out (fun _ hk => ⟨hk.1.1, hk.1.2⟩)⟩, ⟨by (with_reducible repeat (first | apply Kd.R_alloc | apply Kd.R_drewN | apply Kd.R_drew)); exact Kd.R_mono HO_301002.out (fun _ hk => ⟨hk.1, hk.2.1⟩)⟩, ⟨by (with_reducible repeat (first | apply Kd.R_alloc | apply Kd.R_drewN | apply Kd.R_drew)); exact Kd.R_mono HO_301003.out (fun _ hk => ⟨hk.1, hk.2.1⟩)⟩, ⟨Zz.rb_ BK260.out⟩, ⟨Zz.rb_ BK280.out⟩, ⟨Zz.rb_ BK289.out⟩, ⟨Zz.rb_ BK300.out⟩, ⟨Zz.rB_ HB.out⟩⟩
        ·
         rw [if_neg c80] at H
         have c80b0 : decide (t311 < 0) = false := decide_eq_false c80
         clear c80
         (first | rw [c80b0] | (simp only [i64_w, i32_w]; rw [c80b0]) | skip)
         by_cases c81 : t290.toList = t270.toList
         ·
          rw [if_pos c81] at H
          have c81b0 : (t290.toList == t270.toList) = true := beq_iff_eq.mpr c81
          have c81b1 : (t290.toList != t270.toList) = false := bne_eq_false_iff_eq.mpr c81
          clear c81
          replace H := Option.bind_eq_some_iff.mp H
          obtain ⟨t314, A820, H⟩ := H
          replace H : (if t314 = true then (laws_FnExactGet.j1 kj14 a1 a2 t270 t279 (t299 != t279) a0_0 a0_1 l0_2 l0_3 t271 t272 t273 t276 t291 t292 t293 t296) else (laws_FnExactGet.j1 kj14 a1 a2 t270 t279 true a0_0 a0_1 l0_2 l0_3 t271 t272 t273 t276 t291 t292 t293 t296)) = some r := H
          have A82 := Aside0.mk A820
          clear A820
          by_cases c83 : t314 = true
          ·
           subst c83
           have H1 : (laws_FnExactGet.j1 kj14 a1 a2 t270 t279 (t299 != t279) a0_0 a0_1 l0_2 l0_3 t271 t272 t273 t276 t291 t292 t293 t296) = some r := by rw [if_pos rfl] at H; exact H
           clear H
           have H := H1
           clear H1
           have H' := Aside0.mk H
           clear H
           have hnb84 := NB300_260.out
           have hnc84 := NB260_300.out
           have hnb85 := NB300_280.out
           have hnc85 := NB280_300.out
           have hnb86 := NB300_289.out
           have hnc86 := NB289_300.out
           have hcz87_0 : w79.cell? ⟨gb300, 0, none⟩ = some (.int .i64 t291) := (blk_cell BK300.out 0).trans rfl
           have hcz87_1 : w79.cell? ⟨gb300, 1, none⟩ = some (.int .i64 t292) := (blk_cell BK300.out 1).trans rfl
           have hcz87_2 : w79.cell? ⟨gb300, 2, none⟩ = some (.slice Ao43 t293.length co43) := (blk_cell BK300.out 2).trans rfl
           have hcz87_3 : w79.cell? ⟨gb300, 3, none⟩ = some (.slice Ao44 t296.length co44) := (blk_cell BK300.out 3).trans rfl
           have hfz87_0 := blk_frozen BK300.out 0
           have hfz87_1 := blk_frozen BK300.out 1
           have hfz87_2 := blk_frozen BK300.out 2
           have hfz87_3 := blk_frozen BK300.out 3
           have hnb88 := NB280_260.out
           have hnc88 := NB260_280.out
           have hnb89 := NB280_289.out
           have hnc89 := NB289_280.out
           have hcz90_0 : w79.cell? ⟨gb280, 0, none⟩ = some (.int .i64 t271) := (blk_cell BK280.out 0).trans rfl
           have hcz90_1 : w79.cell? ⟨gb280, 1, none⟩ = some (.int .i64 t272) := (blk_cell BK280.out 1).trans rfl
           have hcz90_2 : w79.cell? ⟨gb280, 2, none⟩ = some (.slice Ao27 t273.length co27) := (blk_cell BK280.out 2).trans rfl
           have hcz90_3 : w79.cell? ⟨gb280, 3, none⟩ = some (.slice Ao28 t276.length co28) := (blk_cell BK280.out 3).trans rfl
           have hfz90_0 := blk_frozen BK280.out 0
           have hfz90_1 := blk_frozen BK280.out 1
           have hfz90_2 := blk_frozen BK280.out 2
           have hfz90_3 := blk_frozen BK280.out 3
           go_wp2_with (first | (go_at_call 22; (with_reducible refine (laws_eqStore.calls kj14 t291 t292 _ _ t293 _ _ t296 t271 t272 _ _ t273 _ _ t276 true _ ?side1 ?side2 ?side3 ?side4 ?side5 ?side6 ?side7 ?side8 A82.out).mono ?_); (case side1 => repeat (first | exact (Kd.R_reads' HO_301002.out).2.2 | (with_reducible refine Kd.C_alloc ?_ _) | (with_reducible refine Kd.C_drewN ?_ _) | (with_reducible refine Kd.C_drew ?_))); (case side2 => exact (Kd.R_reads' HO_301002.out).2.1); (case side3 => repeat (first | exact (Kd.R_reads' HO_301003.out).2.2 | (with_reducible refine Kd.C_alloc ?_ _) | (with_reducible refine Kd.C_drewN ?_ _) | (with_reducible refine Kd.C_drew ?_))); (case side4 => exact (Kd.R_reads' HO_301003.out).2.1); (case side5 => repeat (first | exact (Kd.R_reads' HO_281002.out).2.2 | (with_reducible refine Kd.C_alloc ?_ _) | (with_reducible refine Kd.C_drewN ?_ _) | (with_reducible refine Kd.C_drew ?_))); (case side6 => exact (Kd.R_reads' HO_281002.out).2.1); (case side7 => repeat (first | exact (Kd.R_reads' HO_281003.out).2.2 | (with_reducible refine Kd.C_alloc ?_ _) | (with_reducible refine Kd.C_drewN ?_ _) | (with_reducible refine Kd.C_drew ?_))); (case side8 => exact (Kd.R_reads' HO_281003.out).2.1); rintro e w91 ⟨rfl, hb⟩; have n0_ := Aside0.mk (Kd.R_below (Zz.rR_ HO_281002.out) hb); have n1_ := Aside0.mk (Kd.R_below (Zz.rR_ HO_281003.out) hb); have n2_ := Aside0.mk (Kd.R_below (Zz.rR_ HO_290002.out) hb); have n3_ := Aside0.mk (Kd.R_below (Zz.rR_ HO_290003.out) hb); have n4_ := Aside0.mk (Kd.R_below (Zz.rR_ HO_301002.out) hb); have n5_ := Aside0.mk (Kd.R_below (Zz.rR_ HO_301003.out) hb); have n6_ := Aside0.mk (Kd.R_below (Zz.rR_ HO306.out) hb); have n7_ := Aside0.mk (Kd.R_below (Zz.rR_ HO309.out) hb); have n8_ := Aside0.mk (blk_below (g := gb260) (o := .cells #[.int .i64 a0_0, .int .i64 a0_1, .slice A0_2 l0_2.length c0_2, .slice A0_3 l0_3.length c0_3] 31 (0, 0)) (Zz.rb_ BK260.out) hb); have n9_ := Aside0.mk (blk_below (g := gb280) (o := .cells #[.int .i64 t271, .int .i64 t272, .slice Ao27 t273.length co27, .slice Ao28 t276.length co28] 36 (0, 0)) (Zz.rb_ BK280.out) hb); have n10_ := Aside0.mk (blk_below (g := gb289) (o := .cells #[.int .i64 t281, .int .i64 t282, .slice Ao35 t283.length co35, .slice Ao36 t286.length co36] 36 (0, 0)) (Zz.rb_ BK289.out) hb); have n11_ := Aside0.mk (blk_below (g := gb300) (o := .cells #[.int .i64 t291, .int .i64 t292, .slice Ao43 t293.length co43, .slice Ao44 t296.length co44] 36 (0, 0)) (Zz.rb_ BK300.out) hb); have n12_ := Aside0.mk (below_step (Zz.rB_ HB.out) hb); clear HO_281002; clear HO_281003; clear HO_290002; clear HO_290003; clear HO_301002; clear HO_301003; clear HO306; clear HO309; clear BK260; clear BK280; clear BK289; clear BK300; clear HB; have HO_281002 := n0_; have HO_281003 := n1_; have HO_290002 := n2_; have HO_290003 := n3_; have HO_301002 := n4_; have HO_301003 := n5_; have HO306 := n6_; have HO309 := n7_; have BK260 := n8_; have BK280 := n9_; have BK289 := n10_; have BK300 := n11_; have HB := n12_; clear n0_ n1_ n2_ n3_ n4_ n5_ n6_ n7_ n8_ n9_ n10_ n11_ n12_; (try clear hb); (try clear hb2); (try clear hk); (try clear hi)))
           go_meet
           case rel => exact ⟨_, ((t299 != t279)), (by first | rfl | (simp; done) | (simp [*]; done)), H', ⟨by have := HJ14.out; first | omega | exact Nat.le_refl _⟩, ⟨by (with_reducible repeat (first | apply Kd.R_alloc | apply Kd.R_drewN | apply Kd.R_drew)); exact Kd.R_mono HO_281002.out (fun _ hk => ⟨hk.1, hk.2.1⟩)⟩, ⟨by (with_reducible repeat (first | apply Kd.R_alloc | apply Kd.R_drewN | apply Kd.R_drew)); exact Kd.R_mono HO_281003.out (fun _ hk => ⟨hk.1, hk.2.1⟩)⟩, ⟨by (with_reducible repeat (first | apply Kd.R_alloc | apply Kd.R_drewN | apply Kd.R_drew)); exact Kd.R_mono HO_290002.out (fun _ hk => ⟨hk.1.1, hk.1.2⟩)⟩, ⟨by (with_reducible repeat (first | apply Kd.R_alloc | apply Kd.R_drewN | apply Kd.R_drew)); exact Kd.R_mono HO_290003.out (fun _ hk => ⟨hk.1.1, hk.1.2⟩)⟩, ⟨by (with_reducible repeat (first | apply Kd.R_alloc | apply Kd.R_drewN | apply Kd.R_drew)); exact Kd.R_mono HO_301002.out (fun _ hk => ⟨hk.1, hk.2.1⟩)⟩, ⟨by (with_reducible repeat (first | apply Kd.R_alloc | apply Kd.R_drewN | apply Kd.R_drew)); exact Kd.R_mono HO_301003.out (fun _ hk => ⟨hk.1, hk.2.1⟩)⟩, ⟨Zz.rb_ BK260.out⟩, ⟨Zz.rb_ BK280.out⟩, ⟨Zz.rb_ BK289.out⟩, ⟨Zz.rb_ BK300.out⟩, ⟨Zz.rB_ HB.out⟩⟩
          ·
           replace c83 := Bool.eq_false_iff.mpr c83
           subst c83
           have H1 : (laws_FnExactGet.j1 kj14 a1 a2 t270 t279 true a0_0 a0_1 l0_2 l0_3 t271 t272 t273 t276 t291 t292 t293 t296) = some r := by rw [if_neg (show ¬ (false = true) by decide)] at H; exact H
           clear H
           have H := H1
           clear H1
           have H' := Aside0.mk H
           clear H
           have hnb92 := NB300_260.out
           have hnc92 := NB260_300.out
           have hnb93 := NB300_280.out
           have hnc93 := NB280_300.out
           have hnb94 := NB300_289.out
           have hnc94 := NB289_300.out
           have hcz95_0 : w79.cell? ⟨gb300, 0, none⟩ = some (.int .i64 t291) := (blk_cell BK300.out 0).trans rfl
           have hcz95_1 : w79.cell? ⟨gb300, 1, none⟩ = some (.int .i64 t292) := (blk_cell BK300.out 1).trans rfl
           have hcz95_2 : w79.cell? ⟨gb300, 2, none⟩ = some (.slice Ao43 t293.length co43) := (blk_cell BK300.out 2).trans rfl
           have hcz95_3 : w79.cell? ⟨gb300, 3, none⟩ = some (.slice Ao44 t296.length co44) := (blk_cell BK300.out 3).trans rfl
           have hfz95_0 := blk_frozen BK300.out 0
           have hfz95_1 := blk_frozen BK300.out 1
           have hfz95_2 := blk_frozen BK300.out 2
           have hfz95_3 := blk_frozen BK300.out 3
           have hnb96 := NB280_260.out
           have hnc96 := NB260_280.out
           have hnb97 := NB280_289.out
           have hnc97 := NB289_280.out
           have hcz98_0 : w79.cell? ⟨gb280, 0, none⟩ = some (.int .i64 t271) := (blk_cell BK280.out 0).trans rfl
           have hcz98_1 : w79.cell? ⟨gb280, 1, none⟩ = some (.int .i64 t272) := (blk_cell BK280.out 1).trans rfl
           have hcz98_2 : w79.cell? ⟨gb280, 2, none⟩ = some (.slice Ao27 t273.length co27) := (blk_cell BK280.out 2).trans rfl
           have hcz98_3 : w79.cell? ⟨gb280, 3, none⟩ = some (.slice Ao28 t276.length co28) := (blk_cell BK280.out 3).trans rfl
           have hfz98_0 := blk_frozen BK280.out 0
           have hfz98_1 := blk_frozen BK280.out 1
           have hfz98_2 := blk_frozen BK280.out 2
           have hfz98_3 := blk_frozen BK280.out 3
           go_wp2_with (first | (go_at_call 22; (with_reducible refine (laws_eqStore.calls kj14 t291 t292 _ _ t293 _ _ t296 t271 t272 _ _ t273 _ _ t276 false _ ?side1 ?side2 ?side3 ?side4 ?side5 ?side6 ?side7 ?side8 A82.out).mono ?_); (case side1 => repeat (first | exact (Kd.R_reads' HO_301002.out).2.2 | (with_reducible refine Kd.C_alloc ?_ _) | (with_reducible refine Kd.C_drewN ?_ _) | (with_reducible refine Kd.C_drew ?_))); (case side2 => exact (Kd.R_reads' HO_301002.out).2.1); (case side3 => repeat (first | exact (Kd.R_reads' HO_301003.out).2.2 | (with_reducible refine Kd.C_alloc ?_ _) | (with_reducible refine Kd.C_drewN ?_ _) | (with_reducible refine Kd.C_drew ?_))); (case side4 => exact (Kd.R_reads' HO_301003.out).2.1); (case side5 => repeat (first | exact (Kd.R_reads' HO_281002.out).2.2 | (with_reducible refine Kd.C_alloc ?_ _) | (with_reducible refine Kd.C_drewN ?_ _) | (with_reducible refine Kd.C_drew ?_))); (case side6 => exact (Kd.R_reads' HO_281002.out).2.1); (case side7 => repeat (first | exact (Kd.R_reads' HO_281003.out).2.2 | (with_reducible refine Kd.C_alloc ?_ _) | (with_reducible refine Kd.C_drewN ?_ _) | (with_reducible refine Kd.C_drew ?_))); (case side8 => exact (Kd.R_reads' HO_281003.out).2.1); rintro e w99 ⟨rfl, hb⟩; have n0_ := Aside0.mk (Kd.R_below (Zz.rR_ HO_281002.out) hb); have n1_ := Aside0.mk (Kd.R_below (Zz.rR_ HO_281003.out) hb); have n2_ := Aside0.mk (Kd.R_below (Zz.rR_ HO_290002.out) hb); have n3_ := Aside0.mk (Kd.R_below (Zz.rR_ HO_290003.out) hb); have n4_ := Aside0.mk (Kd.R_below (Zz.rR_ HO_301002.out) hb); have n5_ := Aside0.mk (Kd.R_below (Zz.rR_ HO_301003.out) hb); have n6_ := Aside0.mk (Kd.R_below (Zz.rR_ HO306.out) hb); have n7_ := Aside0.mk (Kd.R_below (Zz.rR_ HO309.out) hb); have n8_ := Aside0.mk (blk_below (g := gb260) (o := .cells #[.int .i64 a0_0, .int .i64 a0_1, .slice A0_2 l0_2.length c0_2, .slice A0_3 l0_3.length c0_3] 31 (0, 0)) (Zz.rb_ BK260.out) hb); have n9_ := Aside0.mk (blk_below (g := gb280) (o := .cells #[.int .i64 t271, .int .i64 t272, .slice Ao27 t273.length co27, .slice Ao28 t276.length co28] 36 (0, 0)) (Zz.rb_ BK280.out) hb); have n10_ := Aside0.mk (blk_below (g := gb289) (o := .cells #[.int .i64 t281, .int .i64 t282, .slice Ao35 t283.length co35, .slice Ao36 t286.length co36] 36 (0, 0)) (Zz.rb_ BK289.out) hb); have n11_ := Aside0.mk (blk_below (g := gb300) (o := .cells #[.int .i64 t291, .int .i64 t292, .slice Ao43 t293.length co43, .slice Ao44 t296.length co44] 36 (0, 0)) (Zz.rb_ BK300.out) hb); have n12_ := Aside0.mk (below_step (Zz.rB_ HB.out) hb); clear HO_281002; clear HO_281003; clear HO_290002; clear HO_290003; clear HO_301002; clear HO_301003; clear HO306; clear HO309; clear BK260; clear BK280; clear BK289; clear BK300; clear HB; have HO_281002 := n0_; have HO_281003 := n1_; have HO_290002 := n2_; have HO_290003 := n3_; have HO_301002 := n4_; have HO_301003 := n5_; have HO306 := n6_; have HO309 := n7_; have BK260 := n8_; have BK280 := n9_; have BK289 := n10_; have BK300 := n11_; have HB := n12_; clear n0_ n1_ n2_ n3_ n4_ n5_ n6_ n7_ n8_ n9_ n10_ n11_ n12_; (try clear hb); (try clear hb2); (try clear hk); (try clear hi)))
           go_meet
           case rel => exact ⟨_, (true), (by first | rfl | (simp; done) | (simp [*]; done)), H', ⟨by have := HJ14.out; first | omega | exact Nat.le_refl _⟩, ⟨by (with_reducible repeat (first | apply Kd.R_alloc | apply Kd.R_drewN | apply Kd.R_drew)); exact Kd.R_mono HO_281002.out (fun _ hk => ⟨hk.1, hk.2.1⟩)⟩, ⟨by (with_reducible repeat (first | apply Kd.R_alloc | apply Kd.R_drewN | apply Kd.R_drew)); exact Kd.R_mono HO_281003.out (fun _ hk => ⟨hk.1, hk.2.1⟩)⟩, ⟨by (with_reducible repeat (first | apply Kd.R_alloc | apply Kd.R_drewN | apply Kd.R_drew)); exact Kd.R_mono HO_290002.out (fun _ hk => ⟨hk.1.1, hk.1.2⟩)⟩, ⟨by (with_reducible repeat (first | apply Kd.R_alloc | apply Kd.R_drewN | apply Kd.R_drew)); exact Kd.R_mono HO_290003.out (fun _ hk => ⟨hk.1.1, hk.1.2⟩)⟩, ⟨by (with_reducible repeat (first | apply Kd.R_alloc | apply Kd.R_drewN | apply Kd.R_drew)); exact Kd.R_mono HO_301002.out (fun _ hk => ⟨hk.1, hk.2.1⟩)⟩, ⟨by (with_reducible repeat (first | apply Kd.R_alloc | apply Kd.R_drewN | apply Kd.R_drew)); exact Kd.R_mono HO_301003.out (fun _ hk => ⟨hk.1, hk.2.1⟩)⟩, ⟨Zz.rb_ BK260.out⟩, ⟨Zz.rb_ BK280.out⟩, ⟨Zz.rb_ BK289.out⟩, ⟨Zz.rb_ BK300.out⟩, ⟨Zz.rB_ HB.out⟩⟩
         ·
          rw [if_neg c81] at H
          have c81b0 : (t290.toList == t270.toList) = false := beq_eq_false_iff_ne.mpr c81
          have c81b1 : (t290.toList != t270.toList) = true := bne_iff_ne.mpr c81
          have H' := Aside0.mk H
          clear H
          go_wp2
          go_meet
          case rel => exact ⟨_, (true), (by first | rfl | (simp; done) | (simp [*]; done)), H', ⟨by have := HJ14.out; first | omega | exact Nat.le_refl _⟩, ⟨by (with_reducible repeat (first | apply Kd.R_alloc | apply Kd.R_drewN | apply Kd.R_drew)); exact Kd.R_mono HO_281002.out (fun _ hk => ⟨hk.1, hk.2.1⟩)⟩, ⟨by (with_reducible repeat (first | apply Kd.R_alloc | apply Kd.R_drewN | apply Kd.R_drew)); exact Kd.R_mono HO_281003.out (fun _ hk => ⟨hk.1, hk.2.1⟩)⟩, ⟨by (with_reducible repeat (first | apply Kd.R_alloc | apply Kd.R_drewN | apply Kd.R_drew)); exact Kd.R_mono HO_290002.out (fun _ hk => ⟨hk.1.1, hk.1.2⟩)⟩, ⟨by (with_reducible repeat (first | apply Kd.R_alloc | apply Kd.R_drewN | apply Kd.R_drew)); exact Kd.R_mono HO_290003.out (fun _ hk => ⟨hk.1.1, hk.1.2⟩)⟩, ⟨by (with_reducible repeat (first | apply Kd.R_alloc | apply Kd.R_drewN | apply Kd.R_drew)); exact Kd.R_mono HO_301002.out (fun _ hk => ⟨hk.1, hk.2.1⟩)⟩, ⟨by (with_reducible repeat (first | apply Kd.R_alloc | apply Kd.R_drewN | apply Kd.R_drew)); exact Kd.R_mono HO_301003.out (fun _ hk => ⟨hk.1, hk.2.1⟩)⟩, ⟨Zz.rb_ BK260.out⟩, ⟨Zz.rb_ BK280.out⟩, ⟨Zz.rb_ BK289.out⟩, ⟨Zz.rb_ BK300.out⟩, ⟨Zz.rB_ HB.out⟩⟩
       case rest =>
        clear HC69
        try clear c1
        try clear c2
        try clear p2
        try clear c3
        try clear c4
        try clear c4b0
        try clear c4b1
        try clear c5
        try clear c6
        try clear c7
        try clear c7b0
        try clear c8
        try clear c9
        try clear c18
        try clear c20
        try clear c22
        try clear c25
        try clear c32
        try clear c33
        try clear c36
        try clear c37
        try clear c38
        try clear c39
        try clear c40
        try clear c41
        try clear c45
        try clear c45b0
        try clear c45b1
        try clear c47
        try clear c48
        try clear c49
        try clear c50
        try clear c52
        try clear c53
        try clear c56
        try clear c57
        try clear c58
        try clear c60
        try clear c61
        try clear c64
        try clear c67
        try clear c75
        try clear c76
        try clear c77
        try clear c80
        try clear c80b0
        try clear c81
        try clear c81b0
        try clear c81b1
        try clear c83
        try clear c84
        try clear c85
        try clear c86
        try clear c88
        try clear c89
        try clear c92
        try clear c93
        try clear c94
        try clear c96
        try clear c97
        try clear hcz17_0
        try clear hcz17_1
        try clear hcz17_2
        try clear hcz17_3
        try clear hcz19_0
        try clear hcz19_1
        try clear hcz19_2
        try clear hcz19_3
        try clear hcz26_0
        try clear hcz26_1
        try clear hcz26_2
        try clear hcz26_3
        try clear hcz29_0
        try clear hcz29_1
        try clear hcz29_2
        try clear hcz29_3
        try clear hcz34_0
        try clear hcz34_1
        try clear hcz34_2
        try clear hcz34_3
        try clear hcz42_0
        try clear hcz42_1
        try clear hcz42_2
        try clear hcz42_3
        try clear hcz51_0
        try clear hcz51_1
        try clear hcz51_2
        try clear hcz51_3
        try clear hcz54_0
        try clear hcz54_1
        try clear hcz54_2
        try clear hcz54_3
        try clear hcz59_0
        try clear hcz59_1
        try clear hcz59_2
        try clear hcz59_3
        try clear hcz62_0
        try clear hcz62_1
        try clear hcz62_2
        try clear hcz62_3
        try clear hcz78_0
        try clear hcz78_1
        try clear hcz78_2
        try clear hcz78_3
        try clear hcz87_0
        try clear hcz87_1
        try clear hcz87_2
        try clear hcz87_3
        try clear hcz90_0
        try clear hcz90_1
        try clear hcz90_2
        try clear hcz90_3
        try clear hcz95_0
        try clear hcz95_1
        try clear hcz95_2
        try clear hcz95_3
        try clear hcz98_0
        try clear hcz98_1
        try clear hcz98_2
        try clear hcz98_3
        try clear hcz9_0
        try clear hcz9_1
        try clear hcz9_2
        try clear hcz9_3
        try clear hfz17_0
        try clear hfz17_1
        try clear hfz17_2
        try clear hfz17_3
        try clear hfz19_0
        try clear hfz19_1
        try clear hfz19_2
        try clear hfz19_3
        try clear hfz26_0
        try clear hfz26_1
        try clear hfz26_2
        try clear hfz26_3
        try clear hfz29_0
        try clear hfz29_1
        try clear hfz29_2
        try clear hfz29_3
        try clear hfz34_0
        try clear hfz34_1
        try clear hfz34_2
        try clear hfz34_3
        try clear hfz42_0
        try clear hfz42_1
        try clear hfz42_2
        try clear hfz42_3
        try clear hfz51_0
        try clear hfz51_1
        try clear hfz51_2
        try clear hfz51_3
        try clear hfz54_0
        try clear hfz54_1
        try clear hfz54_2
        try clear hfz54_3
        try clear hfz59_0
        try clear hfz59_1
        try clear hfz59_2
        try clear hfz59_3
        try clear hfz62_0
        try clear hfz62_1
        try clear hfz62_2
        try clear hfz62_3
        try clear hfz78_0
        try clear hfz78_1
        try clear hfz78_2
        try clear hfz78_3
        try clear hfz87_0
        try clear hfz87_1
        try clear hfz87_2
        try clear hfz87_3
        try clear hfz90_0
        try clear hfz90_1
        try clear hfz90_2
        try clear hfz90_3
        try clear hfz95_0
        try clear hfz95_1
        try clear hfz95_2
        try clear hfz95_3
        try clear hfz98_0
        try clear hfz98_1
        try clear hfz98_2
        try clear hfz98_3
        try clear hfz9_0
        try clear hfz9_1
        try clear hfz9_2
        try clear hfz9_3
        try clear p2
        obtain ⟨kq, x87_68, rfl, HA, HJ68, HO_281002, HO_281003, HO_290002, HO_290003, HO_301002, HO_301003, BK260, BK280, BK289, BK300, HB⟩ := hcut
        have hl290002_68 := (Kd.R_reads' HO_290002.out).1
        rw [hl290002_68] at HO_290002
        (try simp only [hl290002_68])
        (try simp only [hl290002_68] at BK260)
        (try simp only [hl290002_68] at BK280)
        (try simp only [hl290002_68] at BK289)
        (try simp only [hl290002_68] at BK300)
        (try simp only [hl290002_68] at HO_281002)
        (try simp only [hl290002_68] at HO_281003)
        (try simp only [hl290002_68] at HO_290003)
        (try simp only [hl290002_68] at HO_301002)
        (try simp only [hl290002_68] at HO_301003)
        have hl290003_68 := (Kd.R_reads' HO_290003.out).1
        rw [hl290003_68] at HO_290003
        (try simp only [hl290003_68])
        (try simp only [hl290003_68] at BK260)
        (try simp only [hl290003_68] at BK280)
        (try simp only [hl290003_68] at BK289)
        (try simp only [hl290003_68] at BK300)
        (try simp only [hl290003_68] at HO_281002)
        (try simp only [hl290003_68] at HO_281003)
        (try simp only [hl290003_68] at HO_290002)
        (try simp only [hl290003_68] at HO_301002)
        (try simp only [hl290003_68] at HO_301003)
        cases kq with
        | zero => exact absurd HA.out (by simp [laws_FnExactGet.j1])
        | succ kj68 =>
         have H := HA.out
         clear HA
         simp only [laws_FnExactGet.j1] at H
         by_cases c100 : x87_68 = true
         ·
          subst c100
          have H1 : (some false) = some r := by rw [if_pos rfl] at H; exact H
          clear H
          have H := H1
          clear H1
          obtain rfl := Option.some.inj H
          go_wp2
          go_ret
          exact ⟨by first | rfl | (simp [errW_none, errW_some] <;> rfl) | (simp [*, errW_none, errW_some] <;> rfl), by repeat (first | (with_reducible first | exact HB.out | apply below_alloc | apply pw_below_drewN | apply below_drew1 | refine below_set ?_ GE260.out | refine below_set ?_ GE280.out | refine below_set ?_ GE289.out | refine below_set ?_ GE300.out) | exact HB.out)⟩
         ·
          replace c100 := Bool.eq_false_iff.mpr c100
          subst c100
          have H1 : ((laws_markStore.f kj68 t291 t292 t293 t296 1).bind fun bt315 => ((laws_heldStore.f kj68 t291 t292 bt315.2.1 bt315.2.2 1).bind fun t318 => (if t318 < 0 then (some false) else (if t318 = bt315.1 then ((laws_toStore.f kj68 a0_0 a0_1 l0_2 l0_3).bind fun bt319 => ((impl_Get.f kj68 bt319.1 bt319.2.1 bt319.2.2.1 bt319.2.2.2 a1 a2).bind fun bt327 => (if bt327.1.toList = t270.toList then ((laws_eqStore.f kj68 bt327.2.1 bt327.2.2.1 bt327.2.2.2.1 bt327.2.2.2.2.1 t271 t272 t273 t276).bind fun t338 => (if t338 = true then (laws_FnExactGet.j2 kj68 bt315.1 (bt327.2.2.2.2.2 != t279) t291 t292 bt315.2.1 bt315.2.2) else (laws_FnExactGet.j2 kj68 bt315.1 true t291 t292 bt315.2.1 bt315.2.2))) else (laws_FnExactGet.j2 kj68 bt315.1 true t291 t292 bt315.2.1 bt315.2.2)))) else (some false))))) = some r := by rw [if_neg (show ¬ (false = true) by decide)] at H; exact H
          clear H
          have H := H1
          clear H1
          replace H := Option.bind_eq_some_iff.mp H
          obtain ⟨⟨t315, t316, t317⟩, A1010, H⟩ := H
          replace H : ((laws_heldStore.f kj68 t291 t292 t316 t317 1).bind fun t318 => (if t318 < 0 then (some false) else (if t318 = t315 then ((laws_toStore.f kj68 a0_0 a0_1 l0_2 l0_3).bind fun bt319 => ((impl_Get.f kj68 bt319.1 bt319.2.1 bt319.2.2.1 bt319.2.2.2 a1 a2).bind fun bt327 => (if bt327.1.toList = t270.toList then ((laws_eqStore.f kj68 bt327.2.1 bt327.2.2.1 bt327.2.2.2.1 bt327.2.2.2.2.1 t271 t272 t273 t276).bind fun t338 => (if t338 = true then (laws_FnExactGet.j2 kj68 t315 (bt327.2.2.2.2.2 != t279) t291 t292 t316 t317) else (laws_FnExactGet.j2 kj68 t315 true t291 t292 t316 t317))) else (laws_FnExactGet.j2 kj68 t315 true t291 t292 t316 t317)))) else (some false)))) = some r := H
          have A101 := Aside0.mk A1010
          clear A1010
          replace H := Option.bind_eq_some_iff.mp H
          obtain ⟨t318, A1020, H⟩ := H
          replace H : (if t318 < 0 then (some false) else (if t318 = t315 then ((laws_toStore.f kj68 a0_0 a0_1 l0_2 l0_3).bind fun bt319 => ((impl_Get.f kj68 bt319.1 bt319.2.1 bt319.2.2.1 bt319.2.2.2 a1 a2).bind fun bt327 => (if bt327.1.toList = t270.toList then ((laws_eqStore.f kj68 bt327.2.1 bt327.2.2.1 bt327.2.2.2.1 bt327.2.2.2.2.1 t271 t272 t273 t276).bind fun t338 => (if t338 = true then (laws_FnExactGet.j2 kj68 t315 (bt327.2.2.2.2.2 != t279) t291 t292 t316 t317) else (laws_FnExactGet.j2 kj68 t315 true t291 t292 t316 t317))) else (laws_FnExactGet.j2 kj68 t315 true t291 t292 t316 t317)))) else (some false))) = some r := H
          have A102 := Aside0.mk A1020
          clear A1020
          by_cases c103 : t318 < 0
          ·
           rw [if_pos c103] at H
           have c103b0 : decide (t318 < 0) = true := decide_eq_true c103
           clear c103
           obtain rfl := Option.some.inj H
           have hnb104 := NB300_260.out
           have hnc104 := NB260_300.out
           have hnb105 := NB300_280.out
           have hnc105 := NB280_300.out
           have hnb106 := NB300_289.out
           have hnc106 := NB289_300.out
           have hcz107_0 : wc.cell? ⟨gb300, 0, none⟩ = some (.int .i64 t291) := (blk_cell BK300.out 0).trans rfl
           have hcz107_1 : wc.cell? ⟨gb300, 1, none⟩ = some (.int .i64 t292) := (blk_cell BK300.out 1).trans rfl
           have hcz107_2 : wc.cell? ⟨gb300, 2, none⟩ = some (.slice Ao43 t293.length co43) := (blk_cell BK300.out 2).trans rfl
           have hcz107_3 : wc.cell? ⟨gb300, 3, none⟩ = some (.slice Ao44 t296.length co44) := (blk_cell BK300.out 3).trans rfl
           have hfz107_0 := blk_frozen BK300.out 0
           have hfz107_1 := blk_frozen BK300.out 1
           have hfz107_2 := blk_frozen BK300.out 2
           have hfz107_3 := blk_frozen BK300.out 3
           go_wp2_with (first | ((with_reducible refine gate_callee (f := 38) rfl ?_); refine goesL_ (some 90) rfl rfl Try.func38 (by kernel_rfl) rfl #[.agg #[.int .i64 t291, .int .i64 t292, .slice Ao43 t293.length co43, .slice Ao44 t296.length co44], .int .i64 1] rfl (by (try simp only [List.map_toArray, List.map_cons, List.map_nil]); first | done | rfl | (simp only [List.length_drop, List.length_take]; rfl)) ?_; (with_reducible refine (laws_markStore.calls kj68 t291 t292 (fun k_ => some k_ = (.slice Ao43 t293.length co43 : Value).ownBlock) (.slice Ao43 t293.length co43) t293 (fun k_ => some k_ = (.slice Ao44 t296.length co44 : Value).ownBlock) (.slice Ao44 t296.length co44) t296 1 t315 t316 t317 w _ ?side1 ?side2 ?side3 A101.out).mono ?_); (case side1 => exact Zz.rB_ HB.out); (case side2 => exact Kd.R_tight rfl HO_301002.out); (case side3 => exact Kd.R_tight rfl HO_301003.out); rintro e w108 ⟨rfl, hy0, hy1, hb, hkp⟩; refine ⟨_, rfl, ?_⟩; have n0_ := Aside0.mk (Kd.R_mono (ok' := fun k_ => some k_ ≠ (.slice Ao35 t312.length co35 : Value).ownBlock ∧ some k_ ≠ (.slice Ao43 t293.length co43 : Value).ownBlock) (Kd.R_keptB ((Kd.R_apart' HO_281002.out (Kd.R_typed HO_301003.out) (by decide))) hkp (fun k_ hk_ hs_ => Or.elim hs_ (fun e_ => (hk_.1.2) e_) (fun e_ => (hk_.2) e_))) (fun k_ hk_ => ⟨hk_.1.1.1, hk_.1.1.2⟩)); have n1_ := Aside0.mk (Kd.R_mono (ok' := fun k_ => some k_ ≠ (.slice Ao36 t313.length co36 : Value).ownBlock ∧ some k_ ≠ (.slice Ao44 t296.length co44 : Value).ownBlock) (Kd.R_keptB ((Kd.R_apart' HO_281003.out (Kd.R_typed HO_301002.out) (by decide))) hkp (fun k_ hk_ hs_ => Or.elim hs_ (fun e_ => (hk_.2) e_) (fun e_ => (hk_.1.2) e_))) (fun k_ hk_ => ⟨hk_.1.1.1, hk_.1.1.2⟩)); have n2_ := Aside0.mk (Kd.R_mono (ok' := fun k_ => some k_ ≠ (.slice Ao27 t273.length co27 : Value).ownBlock ∧ some k_ ≠ (.slice Ao43 t293.length co43 : Value).ownBlock) (Kd.R_keptB ((Kd.R_apart' HO_290002.out (Kd.R_typed HO_301003.out) (by decide))) hkp (fun k_ hk_ hs_ => Or.elim hs_ (fun e_ => (hk_.1.2) e_) (fun e_ => (hk_.2) e_))) (fun k_ hk_ => ⟨hk_.1.1.1, hk_.1.1.2⟩)); have n3_ := Aside0.mk (Kd.R_mono (ok' := fun k_ => some k_ ≠ (.slice Ao28 t276.length co28 : Value).ownBlock ∧ some k_ ≠ (.slice Ao44 t296.length co44 : Value).ownBlock) (Kd.R_keptB ((Kd.R_apart' HO_290003.out (Kd.R_typed HO_301002.out) (by decide))) hkp (fun k_ hk_ hs_ => Or.elim hs_ (fun e_ => (hk_.2) e_) (fun e_ => (hk_.1.2) e_))) (fun k_ hk_ => ⟨hk_.1.1.1, hk_.1.1.2⟩)); have n4_ := Aside0.mk (Kd.R_reok rfl hy0 (fun k_ e_ => HO_301002.out.1 k_ e_)); have n5_ := Aside0.mk (Kd.R_reok rfl hy1 (fun k_ e_ => HO_301003.out.1 k_ e_)); have n6_ := Aside0.mk (blk_kept (Zz.rb_ BK260.out) hkp (fun hs_ => Or.elim hs_ (fun e_ => (fun e_ => (Kd.R_ne HO_301002.out BK260.out (by decide)) e_) e_) (fun e_ => (fun e_ => (Kd.R_ne HO_301003.out BK260.out (by decide)) e_) e_))); have n7_ := Aside0.mk (blk_kept (Zz.rb_ BK280.out) hkp (fun hs_ => Or.elim hs_ (fun e_ => (fun e_ => (Kd.R_ne HO_301002.out BK280.out (by decide)) e_) e_) (fun e_ => (fun e_ => (Kd.R_ne HO_301003.out BK280.out (by decide)) e_) e_))); have n8_ := Aside0.mk (blk_kept (Zz.rb_ BK289.out) hkp (fun hs_ => Or.elim hs_ (fun e_ => (fun e_ => (Kd.R_ne HO_301002.out BK289.out (by decide)) e_) e_) (fun e_ => (fun e_ => (Kd.R_ne HO_301003.out BK289.out (by decide)) e_) e_))); have n9_ := Aside0.mk (blk_kept (Zz.rb_ BK300.out) hkp (fun hs_ => Or.elim hs_ (fun e_ => (fun e_ => (Kd.R_ne HO_301002.out BK300.out (by decide)) e_) e_) (fun e_ => (fun e_ => (Kd.R_ne HO_301003.out BK300.out (by decide)) e_) e_))); have n10_ := Aside0.mk (hb); clear HO_281002; clear HO_281003; clear HO_290002; clear HO_290003; clear HO_301002; clear HO_301003; clear BK260; clear BK280; clear BK289; clear BK300; clear HB; have HO_281002 := n0_; have HO_281003 := n1_; have HO_290002 := n2_; have HO_290003 := n3_; have HO_301002 := n4_; have HO_301003 := n5_; have BK260 := n6_; have BK280 := n7_; have BK289 := n8_; have BK300 := n9_; have HB := n10_; clear n0_ n1_ n2_ n3_ n4_ n5_ n6_ n7_ n8_ n9_ n10_; (try clear hb); (try clear hkp); (try clear hy0); (try clear hy1); have hcz109_0 : w108.cell? ⟨gb300, 0, none⟩ = some (.int .i64 t291) := (blk_cell BK300.out 0).trans rfl; have hcz109_1 : w108.cell? ⟨gb300, 1, none⟩ = some (.int .i64 t292) := (blk_cell BK300.out 1).trans rfl; have hcz109_2 : w108.cell? ⟨gb300, 2, none⟩ = some (.slice Ao43 t293.length co43) := (blk_cell BK300.out 2).trans rfl; have hcz109_3 : w108.cell? ⟨gb300, 3, none⟩ = some (.slice Ao44 t296.length co44) := (blk_cell BK300.out 3).trans rfl; have hfz109_0 := blk_frozen BK300.out 0; have hfz109_1 := blk_frozen BK300.out 1; have hfz109_2 := blk_frozen BK300.out 2; have hfz109_3 := blk_frozen BK300.out 3) | ((with_reducible refine gate_callee (f := 39) rfl ?_); refine goesL_ (some 93) rfl rfl Try.func39 (by kernel_rfl) rfl #[.agg #[.int .i64 t291, .int .i64 t292, .slice Ao43 t316.length co43, .slice Ao44 t317.length co44], .int .i64 1] rfl (by (try simp only [List.map_toArray, List.map_cons, List.map_nil]); first | done | (rw [show t316.length = t293.length from (Kd.R_reads' HO_301002.out).1.symm, show t317.length = t296.length from (Kd.R_reads' HO_301003.out).1.symm] <;> rfl) | rfl | (simp only [List.length_drop, List.length_take]; rfl)) ?_; (with_reducible refine (laws_heldStore.calls kj68 t291 t292 _ _ t316 _ _ t317 1 t318 _ ?side1 ?side2 ?side3 ?side4 A102.out).mono ?_); (case side1 => repeat (first | exact (Kd.R_reads' HO_301002.out).2.2 | (with_reducible refine Kd.C_alloc ?_ _) | (with_reducible refine Kd.C_drewN ?_ _) | (with_reducible refine Kd.C_drew ?_))); (case side2 => rw [show t316.length = t293.length from (Kd.R_reads' HO_301002.out).1.symm]; exact (Kd.R_reads' HO_301002.out).2.1); (case side3 => repeat (first | exact (Kd.R_reads' HO_301003.out).2.2 | (with_reducible refine Kd.C_alloc ?_ _) | (with_reducible refine Kd.C_drewN ?_ _) | (with_reducible refine Kd.C_drew ?_))); (case side4 => rw [show t317.length = t296.length from (Kd.R_reads' HO_301003.out).1.symm]; exact (Kd.R_reads' HO_301003.out).2.1); rintro e w110 ⟨rfl, hb⟩; refine ⟨_, rfl, ?_⟩; have n0_ := Aside0.mk (Kd.R_below (Zz.rR_ HO_281002.out) hb); have n1_ := Aside0.mk (Kd.R_below (Zz.rR_ HO_281003.out) hb); have n2_ := Aside0.mk (Kd.R_below (Zz.rR_ HO_290002.out) hb); have n3_ := Aside0.mk (Kd.R_below (Zz.rR_ HO_290003.out) hb); have n4_ := Aside0.mk (Kd.R_below (Zz.rR_ HO_301002.out) hb); have n5_ := Aside0.mk (Kd.R_below (Zz.rR_ HO_301003.out) hb); have n6_ := Aside0.mk (blk_below (g := gb260) (o := .cells #[.int .i64 a0_0, .int .i64 a0_1, .slice A0_2 l0_2.length c0_2, .slice A0_3 l0_3.length c0_3] 31 (0, 0)) (Zz.rb_ BK260.out) hb); have n7_ := Aside0.mk (blk_below (g := gb280) (o := .cells #[.int .i64 t271, .int .i64 t272, .slice Ao27 t273.length co27, .slice Ao28 t276.length co28] 36 (0, 0)) (Zz.rb_ BK280.out) hb); have n8_ := Aside0.mk (blk_below (g := gb289) (o := .cells #[.int .i64 t281, .int .i64 t282, .slice Ao35 t312.length co35, .slice Ao36 t313.length co36] 36 (0, 0)) (Zz.rb_ BK289.out) hb); have n9_ := Aside0.mk (blk_below (g := gb300) (o := .cells #[.int .i64 t291, .int .i64 t292, .slice Ao43 t293.length co43, .slice Ao44 t296.length co44] 36 (0, 0)) (Zz.rb_ BK300.out) hb); have n10_ := Aside0.mk (below_step (Zz.rB_ HB.out) hb); clear HO_281002; clear HO_281003; clear HO_290002; clear HO_290003; clear HO_301002; clear HO_301003; clear BK260; clear BK280; clear BK289; clear BK300; clear HB; have HO_281002 := n0_; have HO_281003 := n1_; have HO_290002 := n2_; have HO_290003 := n3_; have HO_301002 := n4_; have HO_301003 := n5_; have BK260 := n6_; have BK280 := n7_; have BK289 := n8_; have BK300 := n9_; have HB := n10_; clear n0_ n1_ n2_ n3_ n4_ n5_ n6_ n7_ n8_ n9_ n10_; (try clear hb); (try clear hb2); (try clear hk); (try clear hi)))
           go_ret
           exact ⟨by first | rfl | (simp [errW_none, errW_some] <;> rfl) | (simp [*, errW_none, errW_some] <;> rfl), by repeat (first | (with_reducible first | exact HB.out | apply below_alloc | apply pw_below_drewN | apply below_drew1 | refine below_set ?_ GE260.out | refine below_set ?_ GE280.out | refine below_set ?_ GE289.out | refine below_set ?_ GE300.out) | exact HB.out)⟩
          ·
           rw [if_neg c103] at H
           have c103b0 : decide (t318 < 0) = false := decide_eq_false c103
           clear c103
           by_cases c111 : t318 = t315
           ·
            rw [if_pos c111] at H
            have c111b0 : (t318 == t315) = true := beq_iff_eq.mpr c111
            have c111b1 : (t318 != t315) = false := bne_eq_false_iff_eq.mpr c111
            clear c111
            replace H := Option.bind_eq_some_iff.mp H
            obtain ⟨⟨t319, t320, t321, t324⟩, A1120, H⟩ := H
            replace H : ((impl_Get.f kj68 t319 t320 t321 t324 a1 a2).bind fun bt327 => (if bt327.1.toList = t270.toList then ((laws_eqStore.f kj68 bt327.2.1 bt327.2.2.1 bt327.2.2.2.1 bt327.2.2.2.2.1 t271 t272 t273 t276).bind fun t338 => (if t338 = true then (laws_FnExactGet.j2 kj68 t315 (bt327.2.2.2.2.2 != t279) t291 t292 t316 t317) else (laws_FnExactGet.j2 kj68 t315 true t291 t292 t316 t317))) else (laws_FnExactGet.j2 kj68 t315 true t291 t292 t316 t317))) = some r := H
            have A112 := Aside0.mk A1120
            clear A1120
            replace H := Option.bind_eq_some_iff.mp H
            obtain ⟨⟨t327, t328, t329, t330, t333, t336⟩, A1130, H⟩ := H
            replace H : (if t327.toList = t270.toList then ((laws_eqStore.f kj68 t328 t329 t330 t333 t271 t272 t273 t276).bind fun t338 => (if t338 = true then (laws_FnExactGet.j2 kj68 t315 (t336 != t279) t291 t292 t316 t317) else (laws_FnExactGet.j2 kj68 t315 true t291 t292 t316 t317))) else (laws_FnExactGet.j2 kj68 t315 true t291 t292 t316 t317)) = some r := H
            have A113 := Aside0.mk A1130
            clear A1130
            have HC114 := Aside0.mk H
            clear H
            have hnb115 := NB300_260.out
            have hnc115 := NB260_300.out
            have hnb116 := NB300_280.out
            have hnc116 := NB280_300.out
            have hnb117 := NB300_289.out
            have hnc117 := NB289_300.out
            have hcz118_0 : wc.cell? ⟨gb300, 0, none⟩ = some (.int .i64 t291) := (blk_cell BK300.out 0).trans rfl
            have hcz118_1 : wc.cell? ⟨gb300, 1, none⟩ = some (.int .i64 t292) := (blk_cell BK300.out 1).trans rfl
            have hcz118_2 : wc.cell? ⟨gb300, 2, none⟩ = some (.slice Ao43 t293.length co43) := (blk_cell BK300.out 2).trans rfl
            have hcz118_3 : wc.cell? ⟨gb300, 3, none⟩ = some (.slice Ao44 t296.length co44) := (blk_cell BK300.out 3).trans rfl
            have hfz118_0 := blk_frozen BK300.out 0
            have hfz118_1 := blk_frozen BK300.out 1
            have hfz118_2 := blk_frozen BK300.out 2
            have hfz118_3 := blk_frozen BK300.out 3
            go_upto_region 27 with (first | ((with_reducible refine gate_callee (f := 38) rfl ?_); refine goesL_ (some 90) rfl rfl Try.func38 (by kernel_rfl) rfl #[.agg #[.int .i64 t291, .int .i64 t292, .slice Ao43 t293.length co43, .slice Ao44 t296.length co44], .int .i64 1] rfl (by (try simp only [List.map_toArray, List.map_cons, List.map_nil]); first | done | rfl | (simp only [List.length_drop, List.length_take]; rfl)) ?_; (with_reducible refine (laws_markStore.calls kj68 t291 t292 (fun k_ => some k_ = (.slice Ao43 t293.length co43 : Value).ownBlock) (.slice Ao43 t293.length co43) t293 (fun k_ => some k_ = (.slice Ao44 t296.length co44 : Value).ownBlock) (.slice Ao44 t296.length co44) t296 1 t315 t316 t317 w _ ?side1 ?side2 ?side3 A101.out).mono ?_); (case side1 => exact Zz.rB_ HB.out); (case side2 => exact Kd.R_tight rfl HO_301002.out); (case side3 => exact Kd.R_tight rfl HO_301003.out); rintro e w119 ⟨rfl, hy0, hy1, hb, hkp⟩; refine ⟨_, rfl, ?_⟩; have n0_ := Aside0.mk (Kd.R_mono (ok' := fun k_ => some k_ ≠ (.slice Ao35 t312.length co35 : Value).ownBlock ∧ some k_ ≠ (.slice Ao43 t293.length co43 : Value).ownBlock) (Kd.R_keptB ((Kd.R_apart' HO_281002.out (Kd.R_typed HO_301003.out) (by decide))) hkp (fun k_ hk_ hs_ => Or.elim hs_ (fun e_ => (hk_.1.2) e_) (fun e_ => (hk_.2) e_))) (fun k_ hk_ => ⟨hk_.1.1.1, hk_.1.1.2⟩)); have n1_ := Aside0.mk (Kd.R_mono (ok' := fun k_ => some k_ ≠ (.slice Ao36 t313.length co36 : Value).ownBlock ∧ some k_ ≠ (.slice Ao44 t296.length co44 : Value).ownBlock) (Kd.R_keptB ((Kd.R_apart' HO_281003.out (Kd.R_typed HO_301002.out) (by decide))) hkp (fun k_ hk_ hs_ => Or.elim hs_ (fun e_ => (hk_.2) e_) (fun e_ => (hk_.1.2) e_))) (fun k_ hk_ => ⟨hk_.1.1.1, hk_.1.1.2⟩)); have n2_ := Aside0.mk (Kd.R_mono (ok' := fun k_ => some k_ ≠ (.slice Ao27 t273.length co27 : Value).ownBlock ∧ some k_ ≠ (.slice Ao43 t293.length co43 : Value).ownBlock) (Kd.R_keptB ((Kd.R_apart' HO_290002.out (Kd.R_typed HO_301003.out) (by decide))) hkp (fun k_ hk_ hs_ => Or.elim hs_ (fun e_ => (hk_.1.2) e_) (fun e_ => (hk_.2) e_))) (fun k_ hk_ => ⟨hk_.1.1.1, hk_.1.1.2⟩)); have n3_ := Aside0.mk (Kd.R_mono (ok' := fun k_ => some k_ ≠ (.slice Ao28 t276.length co28 : Value).ownBlock ∧ some k_ ≠ (.slice Ao44 t296.length co44 : Value).ownBlock) (Kd.R_keptB ((Kd.R_apart' HO_290003.out (Kd.R_typed HO_301002.out) (by decide))) hkp (fun k_ hk_ hs_ => Or.elim hs_ (fun e_ => (hk_.2) e_) (fun e_ => (hk_.1.2) e_))) (fun k_ hk_ => ⟨hk_.1.1.1, hk_.1.1.2⟩)); have n4_ := Aside0.mk (Kd.R_reok rfl hy0 (fun k_ e_ => HO_301002.out.1 k_ e_)); have n5_ := Aside0.mk (Kd.R_reok rfl hy1 (fun k_ e_ => HO_301003.out.1 k_ e_)); have n6_ := Aside0.mk (blk_kept (Zz.rb_ BK260.out) hkp (fun hs_ => Or.elim hs_ (fun e_ => (fun e_ => (Kd.R_ne HO_301002.out BK260.out (by decide)) e_) e_) (fun e_ => (fun e_ => (Kd.R_ne HO_301003.out BK260.out (by decide)) e_) e_))); have n7_ := Aside0.mk (blk_kept (Zz.rb_ BK280.out) hkp (fun hs_ => Or.elim hs_ (fun e_ => (fun e_ => (Kd.R_ne HO_301002.out BK280.out (by decide)) e_) e_) (fun e_ => (fun e_ => (Kd.R_ne HO_301003.out BK280.out (by decide)) e_) e_))); have n8_ := Aside0.mk (blk_kept (Zz.rb_ BK289.out) hkp (fun hs_ => Or.elim hs_ (fun e_ => (fun e_ => (Kd.R_ne HO_301002.out BK289.out (by decide)) e_) e_) (fun e_ => (fun e_ => (Kd.R_ne HO_301003.out BK289.out (by decide)) e_) e_))); have n9_ := Aside0.mk (blk_kept (Zz.rb_ BK300.out) hkp (fun hs_ => Or.elim hs_ (fun e_ => (fun e_ => (Kd.R_ne HO_301002.out BK300.out (by decide)) e_) e_) (fun e_ => (fun e_ => (Kd.R_ne HO_301003.out BK300.out (by decide)) e_) e_))); have n10_ := Aside0.mk (hb); clear HO_281002; clear HO_281003; clear HO_290002; clear HO_290003; clear HO_301002; clear HO_301003; clear BK260; clear BK280; clear BK289; clear BK300; clear HB; have HO_281002 := n0_; have HO_281003 := n1_; have HO_290002 := n2_; have HO_290003 := n3_; have HO_301002 := n4_; have HO_301003 := n5_; have BK260 := n6_; have BK280 := n7_; have BK289 := n8_; have BK300 := n9_; have HB := n10_; clear n0_ n1_ n2_ n3_ n4_ n5_ n6_ n7_ n8_ n9_ n10_; (try clear hb); (try clear hkp); (try clear hy0); (try clear hy1); have hcz120_0 : w119.cell? ⟨gb300, 0, none⟩ = some (.int .i64 t291) := (blk_cell BK300.out 0).trans rfl; have hcz120_1 : w119.cell? ⟨gb300, 1, none⟩ = some (.int .i64 t292) := (blk_cell BK300.out 1).trans rfl; have hcz120_2 : w119.cell? ⟨gb300, 2, none⟩ = some (.slice Ao43 t293.length co43) := (blk_cell BK300.out 2).trans rfl; have hcz120_3 : w119.cell? ⟨gb300, 3, none⟩ = some (.slice Ao44 t296.length co44) := (blk_cell BK300.out 3).trans rfl; have hfz120_0 := blk_frozen BK300.out 0; have hfz120_1 := blk_frozen BK300.out 1; have hfz120_2 := blk_frozen BK300.out 2; have hfz120_3 := blk_frozen BK300.out 3) | ((with_reducible refine gate_callee (f := 39) rfl ?_); refine goesL_ (some 93) rfl rfl Try.func39 (by kernel_rfl) rfl #[.agg #[.int .i64 t291, .int .i64 t292, .slice Ao43 t316.length co43, .slice Ao44 t317.length co44], .int .i64 1] rfl (by (try simp only [List.map_toArray, List.map_cons, List.map_nil]); first | done | (rw [show t316.length = t293.length from (Kd.R_reads' HO_301002.out).1.symm, show t317.length = t296.length from (Kd.R_reads' HO_301003.out).1.symm] <;> rfl) | rfl | (simp only [List.length_drop, List.length_take]; rfl)) ?_; (with_reducible refine (laws_heldStore.calls kj68 t291 t292 _ _ t316 _ _ t317 1 t318 _ ?side1 ?side2 ?side3 ?side4 A102.out).mono ?_); (case side1 => repeat (first | exact (Kd.R_reads' HO_301002.out).2.2 | (with_reducible refine Kd.C_alloc ?_ _) | (with_reducible refine Kd.C_drewN ?_ _) | (with_reducible refine Kd.C_drew ?_))); (case side2 => rw [show t316.length = t293.length from (Kd.R_reads' HO_301002.out).1.symm]; exact (Kd.R_reads' HO_301002.out).2.1); (case side3 => repeat (first | exact (Kd.R_reads' HO_301003.out).2.2 | (with_reducible refine Kd.C_alloc ?_ _) | (with_reducible refine Kd.C_drewN ?_ _) | (with_reducible refine Kd.C_drew ?_))); (case side4 => rw [show t317.length = t296.length from (Kd.R_reads' HO_301003.out).1.symm]; exact (Kd.R_reads' HO_301003.out).2.1); rintro e w121 ⟨rfl, hb⟩; refine ⟨_, rfl, ?_⟩; have n0_ := Aside0.mk (Kd.R_below (Zz.rR_ HO_281002.out) hb); have n1_ := Aside0.mk (Kd.R_below (Zz.rR_ HO_281003.out) hb); have n2_ := Aside0.mk (Kd.R_below (Zz.rR_ HO_290002.out) hb); have n3_ := Aside0.mk (Kd.R_below (Zz.rR_ HO_290003.out) hb); have n4_ := Aside0.mk (Kd.R_below (Zz.rR_ HO_301002.out) hb); have n5_ := Aside0.mk (Kd.R_below (Zz.rR_ HO_301003.out) hb); have n6_ := Aside0.mk (blk_below (g := gb260) (o := .cells #[.int .i64 a0_0, .int .i64 a0_1, .slice A0_2 l0_2.length c0_2, .slice A0_3 l0_3.length c0_3] 31 (0, 0)) (Zz.rb_ BK260.out) hb); have n7_ := Aside0.mk (blk_below (g := gb280) (o := .cells #[.int .i64 t271, .int .i64 t272, .slice Ao27 t273.length co27, .slice Ao28 t276.length co28] 36 (0, 0)) (Zz.rb_ BK280.out) hb); have n8_ := Aside0.mk (blk_below (g := gb289) (o := .cells #[.int .i64 t281, .int .i64 t282, .slice Ao35 t312.length co35, .slice Ao36 t313.length co36] 36 (0, 0)) (Zz.rb_ BK289.out) hb); have n9_ := Aside0.mk (blk_below (g := gb300) (o := .cells #[.int .i64 t291, .int .i64 t292, .slice Ao43 t293.length co43, .slice Ao44 t296.length co44] 36 (0, 0)) (Zz.rb_ BK300.out) hb); have n10_ := Aside0.mk (below_step (Zz.rB_ HB.out) hb); clear HO_281002; clear HO_281003; clear HO_290002; clear HO_290003; clear HO_301002; clear HO_301003; clear BK260; clear BK280; clear BK289; clear BK300; clear HB; have HO_281002 := n0_; have HO_281003 := n1_; have HO_290002 := n2_; have HO_290003 := n3_; have HO_301002 := n4_; have HO_301003 := n5_; have BK260 := n6_; have BK280 := n7_; have BK289 := n8_; have BK300 := n9_; have HB := n10_; clear n0_ n1_ n2_ n3_ n4_ n5_ n6_ n7_ n8_ n9_ n10_; (try clear hb); (try clear hb2); (try clear hk); (try clear hi); have hnb122 := NB260_280.out; have hnc122 := NB280_260.out; have hnb123 := NB260_289.out; have hnc123 := NB289_260.out; have hcz124_0 : w121.cell? ⟨gb260, 0, none⟩ = some (.int .i64 a0_0) := (blk_cell BK260.out 0).trans rfl; have hcz124_1 : w121.cell? ⟨gb260, 1, none⟩ = some (.int .i64 a0_1) := (blk_cell BK260.out 1).trans rfl; have hcz124_2 : w121.cell? ⟨gb260, 2, none⟩ = some (.slice A0_2 l0_2.length c0_2) := (blk_cell BK260.out 2).trans rfl; have hcz124_3 : w121.cell? ⟨gb260, 3, none⟩ = some (.slice A0_3 l0_3.length c0_3) := (blk_cell BK260.out 3).trans rfl; have hfz124_0 := blk_frozen BK260.out 0; have hfz124_1 := blk_frozen BK260.out 1; have hfz124_2 := blk_frozen BK260.out 2; have hfz124_3 := blk_frozen BK260.out 3) | ((with_reducible refine gate_callee (f := 20) rfl ?_); refine goesL_ (some 101) rfl rfl Try.func20 (by kernel_rfl) rfl #[.agg #[.int .i64 a0_0, .int .i64 a0_1, .slice A0_2 l0_2.length c0_2, .slice A0_3 l0_3.length c0_3]] rfl (by (try simp only [List.map_toArray, List.map_cons, List.map_nil]); first | done | rfl | (simp only [List.length_drop, List.length_take]; rfl)) ?_; (with_reducible refine (laws_toStore.calls kj68 a0_0 a0_1 _ _ l0_2 _ _ l0_3 t319 t320 t321 t324 _ ?side1 ?side2 ?side3 ?side4 A112.out).mono ?_); (case side1 => repeat (first | exact (Kd.C_below HR0_2.out HB.out) | (with_reducible refine Kd.C_alloc ?_ _) | (with_reducible refine Kd.C_drewN ?_ _) | (with_reducible refine Kd.C_drew ?_))); (case side2 => exact HC0_2.out); (case side3 => repeat (first | exact (Kd.C_below HR0_3.out HB.out) | (with_reducible refine Kd.C_alloc ?_ _) | (with_reducible refine Kd.C_drewN ?_ _) | (with_reducible refine Kd.C_drew ?_))); (case side4 => exact HC0_3.out); rintro e w125 ⟨v322, v325, rfl, ho0, ho1, hb⟩; refine ⟨_, rfl, ?_⟩; have n0_ := Aside0.mk (Kd.R_elder' (Zz.rR_ HO_281002.out) (Kd.R_base ho0) hb); have n1_ := Aside0.mk (Kd.R_elder' (Zz.rR_ HO_281003.out) (Kd.R_base ho1) hb); have n2_ := Aside0.mk (Kd.R_elder' (Zz.rR_ HO_290002.out) (Kd.R_base ho0) hb); have n3_ := Aside0.mk (Kd.R_elder' (Zz.rR_ HO_290003.out) (Kd.R_base ho1) hb); have n4_ := Aside0.mk (Kd.R_elder' (Zz.rR_ HO_301002.out) (Kd.R_base ho0) hb); have n5_ := Aside0.mk (Kd.R_elder' (Zz.rR_ HO_301003.out) (Kd.R_base ho1) hb); have n6_ := Aside0.mk (Kd.R_lower (Kd.R_new' (Kd.R_new' (Kd.R_new' ho0 (Kd.R_lt (Zz.rR_ HO_281002.out))) (Kd.R_lt (Zz.rR_ HO_290002.out))) (Kd.R_lt (Zz.rR_ HO_301002.out))) (below_size (Zz.rB_ HB.out))); have n7_ := Aside0.mk (Kd.R_lower (Kd.R_new' (Kd.R_new' (Kd.R_new' ho1 (Kd.R_lt (Zz.rR_ HO_281003.out))) (Kd.R_lt (Zz.rR_ HO_290003.out))) (Kd.R_lt (Zz.rR_ HO_301003.out))) (below_size (Zz.rB_ HB.out))); have n8_ := Aside0.mk (blk_below (g := gb260) (o := .cells #[.int .i64 a0_0, .int .i64 a0_1, .slice A0_2 l0_2.length c0_2, .slice A0_3 l0_3.length c0_3] 31 (0, 0)) (Zz.rb_ BK260.out) hb); have n9_ := Aside0.mk (blk_below (g := gb280) (o := .cells #[.int .i64 t271, .int .i64 t272, .slice Ao27 t273.length co27, .slice Ao28 t276.length co28] 36 (0, 0)) (Zz.rb_ BK280.out) hb); have n10_ := Aside0.mk (blk_below (g := gb289) (o := .cells #[.int .i64 t281, .int .i64 t282, .slice Ao35 t312.length co35, .slice Ao36 t313.length co36] 36 (0, 0)) (Zz.rb_ BK289.out) hb); have n11_ := Aside0.mk (blk_below (g := gb300) (o := .cells #[.int .i64 t291, .int .i64 t292, .slice Ao43 t293.length co43, .slice Ao44 t296.length co44] 36 (0, 0)) (Zz.rb_ BK300.out) hb); have n12_ := Aside0.mk (below_step (Zz.rB_ HB.out) hb); clear HO_281002; clear HO_281003; clear HO_290002; clear HO_290003; clear HO_301002; clear HO_301003; clear BK260; clear BK280; clear BK289; clear BK300; clear HB; have HO_281002 := n0_; have HO_281003 := n1_; have HO_290002 := n2_; have HO_290003 := n3_; have HO_301002 := n4_; have HO_301003 := n5_; have HO323 := n6_; have HO326 := n7_; have BK260 := n8_; have BK280 := n9_; have BK289 := n10_; have BK300 := n11_; have HB := n12_; clear n0_ n1_ n2_ n3_ n4_ n5_ n6_ n7_ n8_ n9_ n10_ n11_ n12_; (try clear hb); (try clear hb2); (try clear hk); (try clear hi); (try clear ho0); (try clear ho1); obtain ⟨Ao126, co126, eo126⟩ := Kd.R_slice HO323.out; subst eo126; obtain ⟨Ao127, co127, eo127⟩ := Kd.R_slice HO326.out; subst eo127) | ((with_reducible refine gate_callee (f := 37) rfl ?_); refine goesL_ (some 104) rfl rfl Try.func37 (by kernel_rfl) rfl #[.agg #[.int .i64 t319, .int .i64 t320, .slice Ao126 t321.length co126, .slice Ao127 t324.length co127], .string a1, .int .i64 a2] rfl (by (try simp only [List.map_toArray, List.map_cons, List.map_nil]); first | done | rfl | (simp only [List.length_drop, List.length_take]; rfl)) ?_; (with_reducible refine (impl_Get.calls kj68 t319 t320 _ _ t321 _ _ t324 a1 a2 t327 t328 t329 t330 t333 t336 _ ?side1 ?side2 ?side3 ?side4 A113.out).mono ?_); (case side1 => repeat (first | exact (Kd.R_reads' HO323.out).2.2 | (with_reducible refine Kd.C_alloc ?_ _) | (with_reducible refine Kd.C_drewN ?_ _) | (with_reducible refine Kd.C_drew ?_))); (case side2 => exact (Kd.R_reads' HO323.out).2.1); (case side3 => repeat (first | exact (Kd.R_reads' HO326.out).2.2 | (with_reducible refine Kd.C_alloc ?_ _) | (with_reducible refine Kd.C_drewN ?_ _) | (with_reducible refine Kd.C_drew ?_))); (case side4 => exact (Kd.R_reads' HO326.out).2.1); rintro e w128 ⟨v331, v334, rfl, ho0, ho1, hb⟩; refine ⟨_, rfl, ?_⟩; have n0_ := Aside0.mk (Kd.R_elder' (Zz.rR_ HO_281002.out) (Kd.R_base ho0) hb); have n1_ := Aside0.mk (Kd.R_elder' (Zz.rR_ HO_281003.out) (Kd.R_base ho1) hb); have n2_ := Aside0.mk (Kd.R_elder' (Zz.rR_ HO_290002.out) (Kd.R_base ho0) hb); have n3_ := Aside0.mk (Kd.R_elder' (Zz.rR_ HO_290003.out) (Kd.R_base ho1) hb); have n4_ := Aside0.mk (Kd.R_elder' (Zz.rR_ HO_301002.out) (Kd.R_base ho0) hb); have n5_ := Aside0.mk (Kd.R_elder' (Zz.rR_ HO_301003.out) (Kd.R_base ho1) hb); have n6_ := Aside0.mk (Kd.R_elder' (Zz.rR_ HO323.out) (Kd.R_base ho0) hb); have n7_ := Aside0.mk (Kd.R_elder' (Zz.rR_ HO326.out) (Kd.R_base ho1) hb); have n8_ := Aside0.mk (Kd.R_lower (Kd.R_new' (Kd.R_new' (Kd.R_new' (Kd.R_new' ho0 (Kd.R_lt (Zz.rR_ HO_281002.out))) (Kd.R_lt (Zz.rR_ HO_290002.out))) (Kd.R_lt (Zz.rR_ HO_301002.out))) (Kd.R_lt (Zz.rR_ HO323.out))) (below_size (Zz.rB_ HB.out))); have n9_ := Aside0.mk (Kd.R_lower (Kd.R_new' (Kd.R_new' (Kd.R_new' (Kd.R_new' ho1 (Kd.R_lt (Zz.rR_ HO_281003.out))) (Kd.R_lt (Zz.rR_ HO_290003.out))) (Kd.R_lt (Zz.rR_ HO_301003.out))) (Kd.R_lt (Zz.rR_ HO326.out))) (below_size (Zz.rB_ HB.out))); have n10_ := Aside0.mk (blk_below (g := gb260) (o := .cells #[.int .i64 a0_0, .int .i64 a0_1, .slice A0_2 l0_2.length c0_2, .slice A0_3 l0_3.length c0_3] 31 (0, 0)) (Zz.rb_ BK260.out) hb); have n11_ := Aside0.mk (blk_below (g := gb280) (o := .cells #[.int .i64 t271, .int .i64 t272, .slice Ao27 t273.length co27, .slice Ao28 t276.length co28] 36 (0, 0)) (Zz.rb_ BK280.out) hb); have n12_ := Aside0.mk (blk_below (g := gb289) (o := .cells #[.int .i64 t281, .int .i64 t282, .slice Ao35 t312.length co35, .slice Ao36 t313.length co36] 36 (0, 0)) (Zz.rb_ BK289.out) hb); have n13_ := Aside0.mk (blk_below (g := gb300) (o := .cells #[.int .i64 t291, .int .i64 t292, .slice Ao43 t293.length co43, .slice Ao44 t296.length co44] 36 (0, 0)) (Zz.rb_ BK300.out) hb); have n14_ := Aside0.mk (below_step (Zz.rB_ HB.out) hb); clear HO_281002; clear HO_281003; clear HO_290002; clear HO_290003; clear HO_301002; clear HO_301003; clear HO323; clear HO326; clear BK260; clear BK280; clear BK289; clear BK300; clear HB; have HO_281002 := n0_; have HO_281003 := n1_; have HO_290002 := n2_; have HO_290003 := n3_; have HO_301002 := n4_; have HO_301003 := n5_; have HO323 := n6_; have HO326 := n7_; have HO332 := n8_; have HO335 := n9_; have BK260 := n10_; have BK280 := n11_; have BK289 := n12_; have BK300 := n13_; have HB := n14_; clear n0_ n1_ n2_ n3_ n4_ n5_ n6_ n7_ n8_ n9_ n10_ n11_ n12_ n13_ n14_; (try clear hb); (try clear hb2); (try clear hk); (try clear hi); (try clear ho0); (try clear ho1)) | ((with_reducible refine gate_dst (N := 19) rfl ?_); refine box_event ?hg (N := 19) ?hd (cs := #[.int .i64 0, .int .i64 0, .slice none 0 0, .slice none 0 0]) (t := 36) ?hr ?_; (case hd => rfl); (case hg => rfl); (case hr => first | (go_simp; done) | (go_simp; rfl)); intro gb337 hg w129 hbox hb; have n0_ := Aside0.mk (Kd.R_below (Zz.rR_ HO_281002.out) hb); have n1_ := Aside0.mk (Kd.R_below (Zz.rR_ HO_281003.out) hb); have n2_ := Aside0.mk (Kd.R_below (Zz.rR_ HO_290002.out) hb); have n3_ := Aside0.mk (Kd.R_below (Zz.rR_ HO_290003.out) hb); have n4_ := Aside0.mk (Kd.R_below (Zz.rR_ HO_301002.out) hb); have n5_ := Aside0.mk (Kd.R_below (Zz.rR_ HO_301003.out) hb); have n6_ := Aside0.mk (Kd.R_below (Zz.rR_ HO323.out) hb); have n7_ := Aside0.mk (Kd.R_below (Zz.rR_ HO326.out) hb); have n8_ := Aside0.mk (Kd.R_below (Zz.rR_ HO332.out) hb); have n9_ := Aside0.mk (Kd.R_below (Zz.rR_ HO335.out) hb); have n10_ := Aside0.mk (blk_below (g := gb260) (o := .cells #[.int .i64 a0_0, .int .i64 a0_1, .slice A0_2 l0_2.length c0_2, .slice A0_3 l0_3.length c0_3] 31 (0, 0)) (Zz.rb_ BK260.out) hb); have n11_ := Aside0.mk (blk_below (g := gb280) (o := .cells #[.int .i64 t271, .int .i64 t272, .slice Ao27 t273.length co27, .slice Ao28 t276.length co28] 36 (0, 0)) (Zz.rb_ BK280.out) hb); have n12_ := Aside0.mk (blk_below (g := gb289) (o := .cells #[.int .i64 t281, .int .i64 t282, .slice Ao35 t312.length co35, .slice Ao36 t313.length co36] 36 (0, 0)) (Zz.rb_ BK289.out) hb); have n13_ := Aside0.mk (blk_below (g := gb300) (o := .cells #[.int .i64 t291, .int .i64 t292, .slice Ao43 t293.length co43, .slice Ao44 t296.length co44] 36 (0, 0)) (Zz.rb_ BK300.out) hb); have n14_ := Aside0.mk (below_step (Zz.rB_ HB.out) hb); have n15_ := Aside0.mk (hbox); have n16_ := Aside0.mk ((by rw [hg]; exact (below_size (Zz.rB_ HB.out)) : w.heap.size ≤ gb337)); have n17_ := Aside0.mk ((by rw [hg]; exact (below_size (Zz.rB_ HB.out)) : w.heap.size ≤ gb337)); have n18_ := Aside0.mk ((by rw [hg]; exact Nat.ne_of_lt (blk_lt (g := gb260) (o := .cells #[.int .i64 a0_0, .int .i64 a0_1, .slice A0_2 l0_2.length c0_2, .slice A0_3 l0_3.length c0_3] 31 (0, 0)) (Zz.rb_ BK260.out)) : gb260 ≠ gb337)); have n19_ := Aside0.mk ((by rw [hg]; exact Nat.ne_of_gt (blk_lt (g := gb260) (o := .cells #[.int .i64 a0_0, .int .i64 a0_1, .slice A0_2 l0_2.length c0_2, .slice A0_3 l0_3.length c0_3] 31 (0, 0)) (Zz.rb_ BK260.out)) : gb337 ≠ gb260)); have n20_ := Aside0.mk ((by rw [hg]; exact Nat.ne_of_lt (blk_lt (g := gb280) (o := .cells #[.int .i64 t271, .int .i64 t272, .slice Ao27 t273.length co27, .slice Ao28 t276.length co28] 36 (0, 0)) (Zz.rb_ BK280.out)) : gb280 ≠ gb337)); have n21_ := Aside0.mk ((by rw [hg]; exact Nat.ne_of_gt (blk_lt (g := gb280) (o := .cells #[.int .i64 t271, .int .i64 t272, .slice Ao27 t273.length co27, .slice Ao28 t276.length co28] 36 (0, 0)) (Zz.rb_ BK280.out)) : gb337 ≠ gb280)); have n22_ := Aside0.mk ((by rw [hg]; exact Nat.ne_of_lt (blk_lt (g := gb289) (o := .cells #[.int .i64 t281, .int .i64 t282, .slice Ao35 t312.length co35, .slice Ao36 t313.length co36] 36 (0, 0)) (Zz.rb_ BK289.out)) : gb289 ≠ gb337)); have n23_ := Aside0.mk ((by rw [hg]; exact Nat.ne_of_gt (blk_lt (g := gb289) (o := .cells #[.int .i64 t281, .int .i64 t282, .slice Ao35 t312.length co35, .slice Ao36 t313.length co36] 36 (0, 0)) (Zz.rb_ BK289.out)) : gb337 ≠ gb289)); have n24_ := Aside0.mk ((by rw [hg]; exact Nat.ne_of_lt (blk_lt (g := gb300) (o := .cells #[.int .i64 t291, .int .i64 t292, .slice Ao43 t293.length co43, .slice Ao44 t296.length co44] 36 (0, 0)) (Zz.rb_ BK300.out)) : gb300 ≠ gb337)); have n25_ := Aside0.mk ((by rw [hg]; exact Nat.ne_of_gt (blk_lt (g := gb300) (o := .cells #[.int .i64 t291, .int .i64 t292, .slice Ao43 t293.length co43, .slice Ao44 t296.length co44] 36 (0, 0)) (Zz.rb_ BK300.out)) : gb337 ≠ gb300)); clear HO_281002; clear HO_281003; clear HO_290002; clear HO_290003; clear HO_301002; clear HO_301003; clear HO323; clear HO326; clear HO332; clear HO335; clear BK260; clear BK280; clear BK289; clear BK300; clear HB; have HO_281002 := n0_; have HO_281003 := n1_; have HO_290002 := n2_; have HO_290003 := n3_; have HO_301002 := n4_; have HO_301003 := n5_; have HO323 := n6_; have HO326 := n7_; have HO332 := n8_; have HO335 := n9_; have BK260 := n10_; have BK280 := n11_; have BK289 := n12_; have BK300 := n13_; have HB := n14_; have BK337 := n15_; have GW337 := n16_; have GE337 := n17_; have NB260_337 := n18_; have NB337_260 := n19_; have NB280_337 := n20_; have NB337_280 := n21_; have NB289_337 := n22_; have NB337_289 := n23_; have NB300_337 := n24_; have NB337_300 := n25_; clear n0_ n1_ n2_ n3_ n4_ n5_ n6_ n7_ n8_ n9_ n10_ n11_ n12_ n13_ n14_ n15_ n16_ n17_ n18_ n19_ n20_ n21_ n22_ n23_ n24_ n25_; clear hb hbox hg; have hnb130 := NB337_260.out; have hnc130 := NB260_337.out; have hnb131 := NB337_280.out; have hnc131 := NB280_337.out; have hnb132 := NB337_289.out; have hnc132 := NB289_337.out; have hnb133 := NB337_300.out; have hnc133 := NB300_337.out; have hcz134_0 : w129.cell? ⟨gb337, 0, none⟩ = some (.int .i64 0) := (blk_cell BK337.out 0).trans rfl; have hcz134_1 : w129.cell? ⟨gb337, 1, none⟩ = some (.int .i64 0) := (blk_cell BK337.out 1).trans rfl; have hcz134_2 : w129.cell? ⟨gb337, 2, none⟩ = some (.slice none 0 0) := (blk_cell BK337.out 2).trans rfl; have hcz134_3 : w129.cell? ⟨gb337, 3, none⟩ = some (.slice none 0 0) := (blk_cell BK337.out 3).trans rfl; have hfz134_0 := blk_frozen BK337.out 0; have hfz134_1 := blk_frozen BK337.out 1; have hfz134_2 := blk_frozen BK337.out 2; have hfz134_3 := blk_frozen BK337.out 3; obtain ⟨Ao135, co135, eo135⟩ := Kd.R_slice HO332.out; subst eo135; obtain ⟨Ao136, co136, eo136⟩ := Kd.R_slice HO335.out; subst eo136))
            (try simp only [Act.put, List.setIfInBounds_toArray, List.set_cons_zero, List.set_cons_succ])
            go_cut [121] (fun v121 wc => ∃ (kq : Nat) (x121_113 : Bool), v121 = .bool x121_113 ∧ Aside0 (laws_FnExactGet.j2 kq t315 x121_113 t291 t292 t316 t317 = some r) ∧ Aside0 (kq ≤ kj68) ∧ Aside0 (Kd.R k92 92 wc w.heap.size (fun k_ => some k_ ≠ ((.slice Ao35 t312.length co35) : Value).ownBlock ∧ some k_ ≠ ((.slice Ao43 t293.length co43) : Value).ownBlock ∧ some k_ ≠ ((.slice Ao135 t330.length co135) : Value).ownBlock) (.slice Ao27 t273.length co27) t273) ∧ Aside0 (Kd.R Kd.string 9 wc w.heap.size (fun k_ => some k_ ≠ ((.slice Ao36 t313.length co36) : Value).ownBlock ∧ some k_ ≠ ((.slice Ao44 t296.length co44) : Value).ownBlock ∧ some k_ ≠ ((.slice Ao136 t333.length co136) : Value).ownBlock) (.slice Ao28 t276.length co28) t276) ∧ Aside0 (Kd.R k92 92 wc w.heap.size (fun k_ => some k_ ≠ ((.slice Ao27 t273.length co27) : Value).ownBlock ∧ some k_ ≠ ((.slice Ao43 t293.length co43) : Value).ownBlock ∧ some k_ ≠ ((.slice Ao135 t330.length co135) : Value).ownBlock) (.slice Ao35 t312.length co35) t312) ∧ Aside0 (Kd.R Kd.string 9 wc w.heap.size (fun k_ => some k_ ≠ ((.slice Ao28 t276.length co28) : Value).ownBlock ∧ some k_ ≠ ((.slice Ao44 t296.length co44) : Value).ownBlock ∧ some k_ ≠ ((.slice Ao136 t333.length co136) : Value).ownBlock) (.slice Ao36 t313.length co36) t313) ∧ Aside0 (Kd.R k92 92 wc w.heap.size (fun k_ => some k_ ≠ ((.slice Ao27 t273.length co27) : Value).ownBlock ∧ some k_ ≠ ((.slice Ao35 t312.length co35) : Value).ownBlock ∧ some k_ ≠ ((.slice Ao135 t330.length co135) : Value).ownBlock) (.slice Ao43 t293.length co43) t316) ∧ Aside0 (Kd.R Kd.string 9 wc w.heap.size (fun k_ => some k_ ≠ ((.slice Ao28 t276.length co28) : Value).ownBlock ∧ some k_ ≠ ((.slice Ao36 t313.length co36) : Value).ownBlock ∧ some k_ ≠ ((.slice Ao136 t333.length co136) : Value).ownBlock) (.slice Ao44 t296.length co44) t317) ∧ Aside0 (Kd.R k92 92 wc w.heap.size (fun k_ => some k_ ≠ ((.slice Ao27 t273.length co27) : Value).ownBlock ∧ some k_ ≠ ((.slice Ao35 t312.length co35) : Value).ownBlock ∧ some k_ ≠ ((.slice Ao43 t293.length co43) : Value).ownBlock) (.slice Ao135 t330.length co135) t330) ∧ Aside0 (Kd.R Kd.string 9 wc w.heap.size (fun k_ => some k_ ≠ ((.slice Ao28 t276.length co28) : Value).ownBlock ∧ some k_ ≠ ((.slice Ao36 t313.length co36) : Value).ownBlock ∧ some k_ ≠ ((.slice Ao44 t296.length co44) : Value).ownBlock) (.slice Ao136 t333.length co136) t333) ∧ Aside0 (wc.heap[gb260]? = some (.cells #[.int .i64 a0_0, .int .i64 a0_1, (.slice A0_2 l0_2.length c0_2), (.slice A0_3 l0_3.length c0_3)] 31 (0, 0))) ∧ Aside0 (wc.heap[gb280]? = some (.cells #[.int .i64 t271, .int .i64 t272, (.slice Ao27 t273.length co27), (.slice Ao28 t276.length co28)] 36 (0, 0))) ∧ Aside0 (wc.heap[gb289]? = some (.cells #[.int .i64 t281, .int .i64 t282, (.slice Ao35 t312.length co35), (.slice Ao36 t313.length co36)] 36 (0, 0))) ∧ Aside0 (wc.heap[gb300]? = some (.cells #[.int .i64 t291, .int .i64 t292, (.slice Ao43 t293.length co43), (.slice Ao44 t296.length co44)] 36 (0, 0))) ∧ Aside0 (wc.heap[gb337]? = some (.cells #[.int .i64 t328, .int .i64 t329, (.slice Ao135 t330.length co135), (.slice Ao136 t333.length co136)] 36 (0, 0))) ∧ Aside0 (Below w.heap.size w wc))
            case first =>
             have H := HC114.out
             clear HC114
             by_cases c137 : t327.toList = t270.toList
             ·
              rw [if_pos c137] at H
              have c137b0 : (t327.toList == t270.toList) = true := beq_iff_eq.mpr c137
              have c137b1 : (t327.toList != t270.toList) = false := bne_eq_false_iff_eq.mpr c137
              clear c137
              (first | rw [c137b0] | (simp only [i64_w, i32_w]; rw [c137b0]) | skip)
              replace H := Option.bind_eq_some_iff.mp H
              obtain ⟨t338, A1380, H⟩ := H
              replace H : (if t338 = true then (laws_FnExactGet.j2 kj68 t315 (t336 != t279) t291 t292 t316 t317) else (laws_FnExactGet.j2 kj68 t315 true t291 t292 t316 t317)) = some r := H
              have A138 := Aside0.mk A1380
              clear A1380
              by_cases c139 : t338 = true
              ·
               subst c139
               have H1 : (laws_FnExactGet.j2 kj68 t315 (t336 != t279) t291 t292 t316 t317) = some r := by rw [if_pos rfl] at H; exact H
               clear H
               have H := H1
               clear H1
               have H' := Aside0.mk H
               clear H
               have hnb140 := NB337_260.out
               have hnc140 := NB260_337.out
               have hnb141 := NB337_280.out
               have hnc141 := NB280_337.out
               have hnb142 := NB337_289.out
               have hnc142 := NB289_337.out
               have hnb143 := NB337_300.out
               have hnc143 := NB300_337.out
               have hcz144_0 : w129.cell? ⟨gb337, 0, none⟩ = some (.int .i64 0) := (blk_cell BK337.out 0).trans rfl
               have hcz144_1 : w129.cell? ⟨gb337, 1, none⟩ = some (.int .i64 0) := (blk_cell BK337.out 1).trans rfl
               have hcz144_2 : w129.cell? ⟨gb337, 2, none⟩ = some (.slice none 0 0) := (blk_cell BK337.out 2).trans rfl
               have hcz144_3 : w129.cell? ⟨gb337, 3, none⟩ = some (.slice none 0 0) := (blk_cell BK337.out 3).trans rfl
               have hfz144_0 := blk_frozen BK337.out 0
               have hfz144_1 := blk_frozen BK337.out 1
               have hfz144_2 := blk_frozen BK337.out 2
               have hfz144_3 := blk_frozen BK337.out 3
               have hnb145 := NB280_260.out
               have hnc145 := NB260_280.out
               have hnb146 := NB280_289.out
               have hnc146 := NB289_280.out
               have hnb147 := NB280_300.out
               have hnc147 := NB300_280.out
               have hcz148_0 : w129.cell? ⟨gb280, 0, none⟩ = some (.int .i64 t271) := (blk_cell BK280.out 0).trans rfl
               have hcz148_1 : w129.cell? ⟨gb280, 1, none⟩ = some (.int .i64 t272) := (blk_cell BK280.out 1).trans rfl
               have hcz148_2 : w129.cell? ⟨gb280, 2, none⟩ = some (.slice Ao27 t273.length co27) := (blk_cell BK280.out 2).trans rfl
               have hcz148_3 : w129.cell? ⟨gb280, 3, none⟩ = some (.slice Ao28 t276.length co28) := (blk_cell BK280.out 3).trans rfl
               have hfz148_0 := blk_frozen BK280.out 0
               have hfz148_1 := blk_frozen BK280.out 1
               have hfz148_2 := blk_frozen BK280.out 2
               have hfz148_3 := blk_frozen BK280.out 3
               go_wp2_with (first | (go_at_call 22; (with_reducible refine (laws_eqStore.calls kj68 t328 t329 _ _ t330 _ _ t333 t271 t272 _ _ t273 _ _ t276 true _ ?side1 ?side2 ?side3 ?side4 ?side5 ?side6 ?side7 ?side8 A138.out).mono ?_); (case side1 => refine (Kd.R_reads' (e := 92) (base := w.heap.size) (ok := fun k_ => ((((True ∧ some k_ ≠ (.slice Ao27 t273.length co27 : Value).ownBlock) ∧ some k_ ≠ (.slice Ao35 t312.length co35 : Value).ownBlock) ∧ some k_ ≠ (.slice Ao43 t293.length co43 : Value).ownBlock) ∧ some k_ ≠ (.slice Ao126 t321.length co126 : Value).ownBlock)) (n := t330.length) (c := co135) ?_).2.2; exact (by (with_reducible repeat (first | apply Kd.R_alloc | apply Kd.R_drewN | apply Kd.R_drew)); exact (Kd.R_mono (Zz.rF_ gb337 (Kd.R_types HO332.out BK337.out (by decide)) (fun _ hk => hk.2) _ _ _ _) (fun _ h_ => h_.1)))); (case side2 => exact (Kd.R_reads' HO332.out).2.1); (case side3 => refine (Kd.R_reads' (e := 9) (base := w.heap.size) (ok := fun k_ => ((((True ∧ some k_ ≠ (.slice Ao28 t276.length co28 : Value).ownBlock) ∧ some k_ ≠ (.slice Ao36 t313.length co36 : Value).ownBlock) ∧ some k_ ≠ (.slice Ao44 t296.length co44 : Value).ownBlock) ∧ some k_ ≠ (.slice Ao127 t324.length co127 : Value).ownBlock)) (n := t333.length) (c := co136) ?_).2.2; exact (by (with_reducible repeat (first | apply Kd.R_alloc | apply Kd.R_drewN | apply Kd.R_drew)); exact (Kd.R_mono (Zz.rF_ gb337 (Kd.R_types HO335.out BK337.out (by decide)) (fun _ hk => hk.2) _ _ _ _) (fun _ h_ => h_.1)))); (case side4 => exact (Kd.R_reads' HO335.out).2.1); (case side5 => refine (Kd.R_reads' (e := 92) (base := w.heap.size) (ok := fun k_ => (((some k_ ≠ (.slice Ao35 t312.length co35 : Value).ownBlock ∧ some k_ ≠ (.slice Ao43 t293.length co43 : Value).ownBlock) ∧ some k_ ≠ (.slice Ao126 t321.length co126 : Value).ownBlock) ∧ some k_ ≠ (.slice Ao135 t330.length co135 : Value).ownBlock)) (n := t273.length) (c := co27) ?_).2.2; exact (by (with_reducible repeat (first | apply Kd.R_alloc | apply Kd.R_drewN | apply Kd.R_drew)); exact (Kd.R_mono (Zz.rF_ gb337 (Kd.R_types HO_281002.out BK337.out (by decide)) (fun _ hk => hk.2) _ _ _ _) (fun _ h_ => h_.1)))); (case side6 => exact (Kd.R_reads' HO_281002.out).2.1); (case side7 => refine (Kd.R_reads' (e := 9) (base := w.heap.size) (ok := fun k_ => (((some k_ ≠ (.slice Ao36 t313.length co36 : Value).ownBlock ∧ some k_ ≠ (.slice Ao44 t296.length co44 : Value).ownBlock) ∧ some k_ ≠ (.slice Ao127 t324.length co127 : Value).ownBlock) ∧ some k_ ≠ (.slice Ao136 t333.length co136 : Value).ownBlock)) (n := t276.length) (c := co28) ?_).2.2; exact (by (with_reducible repeat (first | apply Kd.R_alloc | apply Kd.R_drewN | apply Kd.R_drew)); exact (Kd.R_mono (Zz.rF_ gb337 (Kd.R_types HO_281003.out BK337.out (by decide)) (fun _ hk => hk.2) _ _ _ _) (fun _ h_ => h_.1)))); (case side8 => exact (Kd.R_reads' HO_281003.out).2.1); rintro e w149 ⟨rfl, hb⟩; have n0_ := Aside0.mk (Kd.R_below (by (with_reducible repeat (first | apply Kd.R_alloc | apply Kd.R_drewN | apply Kd.R_drew)); exact (Kd.R_mono (Zz.rF_ gb337 (Kd.R_types HO_281002.out BK337.out (by decide)) (fun _ hk => hk.2) _ _ _ _) (fun _ h_ => h_.1))) hb); have n1_ := Aside0.mk (Kd.R_below (by (with_reducible repeat (first | apply Kd.R_alloc | apply Kd.R_drewN | apply Kd.R_drew)); exact (Kd.R_mono (Zz.rF_ gb337 (Kd.R_types HO_281003.out BK337.out (by decide)) (fun _ hk => hk.2) _ _ _ _) (fun _ h_ => h_.1))) hb); have n2_ := Aside0.mk (Kd.R_below (by (with_reducible repeat (first | apply Kd.R_alloc | apply Kd.R_drewN | apply Kd.R_drew)); exact (Kd.R_mono (Zz.rF_ gb337 (Kd.R_types HO_290002.out BK337.out (by decide)) (fun _ hk => hk.2) _ _ _ _) (fun _ h_ => h_.1))) hb); have n3_ := Aside0.mk (Kd.R_below (by (with_reducible repeat (first | apply Kd.R_alloc | apply Kd.R_drewN | apply Kd.R_drew)); exact (Kd.R_mono (Zz.rF_ gb337 (Kd.R_types HO_290003.out BK337.out (by decide)) (fun _ hk => hk.2) _ _ _ _) (fun _ h_ => h_.1))) hb); have n4_ := Aside0.mk (Kd.R_below (by (with_reducible repeat (first | apply Kd.R_alloc | apply Kd.R_drewN | apply Kd.R_drew)); exact (Kd.R_mono (Zz.rF_ gb337 (Kd.R_types HO_301002.out BK337.out (by decide)) (fun _ hk => hk.2) _ _ _ _) (fun _ h_ => h_.1))) hb); have n5_ := Aside0.mk (Kd.R_below (by (with_reducible repeat (first | apply Kd.R_alloc | apply Kd.R_drewN | apply Kd.R_drew)); exact (Kd.R_mono (Zz.rF_ gb337 (Kd.R_types HO_301003.out BK337.out (by decide)) (fun _ hk => hk.2) _ _ _ _) (fun _ h_ => h_.1))) hb); have n6_ := Aside0.mk (Kd.R_below (by (with_reducible repeat (first | apply Kd.R_alloc | apply Kd.R_drewN | apply Kd.R_drew)); exact (Kd.R_mono (Zz.rF_ gb337 (Kd.R_types HO323.out BK337.out (by decide)) (fun _ hk => hk.2) _ _ _ _) (fun _ h_ => h_.1))) hb); have n7_ := Aside0.mk (Kd.R_below (by (with_reducible repeat (first | apply Kd.R_alloc | apply Kd.R_drewN | apply Kd.R_drew)); exact (Kd.R_mono (Zz.rF_ gb337 (Kd.R_types HO326.out BK337.out (by decide)) (fun _ hk => hk.2) _ _ _ _) (fun _ h_ => h_.1))) hb); have n8_ := Aside0.mk (Kd.R_below (by (with_reducible repeat (first | apply Kd.R_alloc | apply Kd.R_drewN | apply Kd.R_drew)); exact (Kd.R_mono (Zz.rF_ gb337 (Kd.R_types HO332.out BK337.out (by decide)) (fun _ hk => hk.2) _ _ _ _) (fun _ h_ => h_.1))) hb); have n9_ := Aside0.mk (Kd.R_below (by (with_reducible repeat (first | apply Kd.R_alloc | apply Kd.R_drewN | apply Kd.R_drew)); exact (Kd.R_mono (Zz.rF_ gb337 (Kd.R_types HO335.out BK337.out (by decide)) (fun _ hk => hk.2) _ _ _ _) (fun _ h_ => h_.1))) hb); have n10_ := Aside0.mk (blk_below (g := gb260) (o := .cells #[.int .i64 a0_0, .int .i64 a0_1, .slice A0_2 l0_2.length c0_2, .slice A0_3 l0_3.length c0_3] 31 (0, 0)) (Zz.rb4_ NB260_337.out BK260.out) hb); have n11_ := Aside0.mk (blk_below (g := gb280) (o := .cells #[.int .i64 t271, .int .i64 t272, .slice Ao27 t273.length co27, .slice Ao28 t276.length co28] 36 (0, 0)) (Zz.rb4_ NB280_337.out BK280.out) hb); have n12_ := Aside0.mk (blk_below (g := gb289) (o := .cells #[.int .i64 t281, .int .i64 t282, .slice Ao35 t312.length co35, .slice Ao36 t313.length co36] 36 (0, 0)) (Zz.rb4_ NB289_337.out BK289.out) hb); have n13_ := Aside0.mk (blk_below (g := gb300) (o := .cells #[.int .i64 t291, .int .i64 t292, .slice Ao43 t293.length co43, .slice Ao44 t296.length co44] 36 (0, 0)) (Zz.rb4_ NB300_337.out BK300.out) hb); have n14_ := Aside0.mk (blk_below (g := gb337) (o := .cells #[.int .i64 t328, .int .i64 t329, .slice Ao135 t330.length co135, .slice Ao136 t333.length co136] 36 (0, 0)) (by (with_reducible repeat (first | refine blk_drewN ?_ _ | refine blk_drew ?_ | refine blk_alloc ?_ _)); refine blk_put (cs := #[.int .i64 t328, .int .i64 t329, .slice Ao135 t330.length co135, .slice none 0 0]) ?_ 3 _ rfl; (with_reducible repeat (first | refine blk_drewN ?_ _ | refine blk_drew ?_ | refine blk_alloc ?_ _)); refine blk_put (cs := #[.int .i64 t328, .int .i64 t329, .slice none 0 0, .slice none 0 0]) ?_ 2 _ rfl; (with_reducible repeat (first | refine blk_drewN ?_ _ | refine blk_drew ?_ | refine blk_alloc ?_ _)); refine blk_put (cs := #[.int .i64 t328, .int .i64 0, .slice none 0 0, .slice none 0 0]) ?_ 1 _ rfl; (with_reducible repeat (first | refine blk_drewN ?_ _ | refine blk_drew ?_ | refine blk_alloc ?_ _)); refine blk_put (cs := #[.int .i64 0, .int .i64 0, .slice none 0 0, .slice none 0 0]) ?_ 0 _ rfl; (with_reducible repeat (first | refine blk_drewN ?_ _ | refine blk_drew ?_ | refine blk_alloc ?_ _)); exact BK337.out) hb); have n15_ := Aside0.mk (below_step (Zz.rB_ HB.out) hb); clear HO_281002; clear HO_281003; clear HO_290002; clear HO_290003; clear HO_301002; clear HO_301003; clear HO323; clear HO326; clear HO332; clear HO335; clear BK260; clear BK280; clear BK289; clear BK300; clear BK337; clear HB; have HO_281002 := n0_; have HO_281003 := n1_; have HO_290002 := n2_; have HO_290003 := n3_; have HO_301002 := n4_; have HO_301003 := n5_; have HO323 := n6_; have HO326 := n7_; have HO332 := n8_; have HO335 := n9_; have BK260 := n10_; have BK280 := n11_; have BK289 := n12_; have BK300 := n13_; have BK337 := n14_; have HB := n15_; clear n0_ n1_ n2_ n3_ n4_ n5_ n6_ n7_ n8_ n9_ n10_ n11_ n12_ n13_ n14_ n15_; (try clear hb); (try clear hb2); (try clear hk); (try clear hi)))
               go_meet
               case rel => exact ⟨_, ((t336 != t279)), (by first | rfl | (simp; done) | (simp [*]; done)), H', ⟨by have := HJ14.out; have := HJ68.out; first | omega | exact Nat.le_refl _⟩, ⟨by (try simp only [hl290002_68]); (try simp only [hl290003_68]); (with_reducible repeat (first | apply Kd.R_alloc | apply Kd.R_drewN | apply Kd.R_drew)); exact Kd.R_mono HO_281002.out (fun _ hk => ⟨hk.1.1.1, ⟨hk.1.1.2, hk.2⟩⟩)⟩, ⟨by (try simp only [hl290002_68]); (try simp only [hl290003_68]); (with_reducible repeat (first | apply Kd.R_alloc | apply Kd.R_drewN | apply Kd.R_drew)); exact Kd.R_mono HO_281003.out (fun _ hk => ⟨hk.1.1.1, ⟨hk.1.1.2, hk.2⟩⟩)⟩, ⟨by (try simp only [hl290002_68]); (try simp only [hl290003_68]); (with_reducible repeat (first | apply Kd.R_alloc | apply Kd.R_drewN | apply Kd.R_drew)); exact Kd.R_mono HO_290002.out (fun _ hk => ⟨hk.1.1.1, ⟨hk.1.1.2, hk.2⟩⟩)⟩, ⟨by (try simp only [hl290002_68]); (try simp only [hl290003_68]); (with_reducible repeat (first | apply Kd.R_alloc | apply Kd.R_drewN | apply Kd.R_drew)); exact Kd.R_mono HO_290003.out (fun _ hk => ⟨hk.1.1.1, ⟨hk.1.1.2, hk.2⟩⟩)⟩, ⟨by (try simp only [hl290002_68]); (try simp only [hl290003_68]); (with_reducible repeat (first | apply Kd.R_alloc | apply Kd.R_drewN | apply Kd.R_drew)); exact Kd.R_mono HO_301002.out (fun _ hk => ⟨hk.1.1.1, ⟨hk.1.1.2, hk.2⟩⟩)⟩, ⟨by (try simp only [hl290002_68]); (try simp only [hl290003_68]); (with_reducible repeat (first | apply Kd.R_alloc | apply Kd.R_drewN | apply Kd.R_drew)); exact Kd.R_mono HO_301003.out (fun _ hk => ⟨hk.1.1.1, ⟨hk.1.1.2, hk.2⟩⟩)⟩, ⟨by (try simp only [hl290002_68]); (try simp only [hl290003_68]); (with_reducible repeat (first | apply Kd.R_alloc | apply Kd.R_drewN | apply Kd.R_drew)); exact Kd.R_mono HO332.out (fun _ hk => ⟨hk.1.1.1.2, ⟨hk.1.1.2, hk.1.2⟩⟩)⟩, ⟨by (try simp only [hl290002_68]); (try simp only [hl290003_68]); (with_reducible repeat (first | apply Kd.R_alloc | apply Kd.R_drewN | apply Kd.R_drew)); exact Kd.R_mono HO335.out (fun _ hk => ⟨hk.1.1.1.2, ⟨hk.1.1.2, hk.1.2⟩⟩)⟩, ⟨by (try simp only [hl290002_68]); (try simp only [hl290003_68]); (with_reducible repeat (first | refine blk_drewN ?_ _ | refine blk_drew ?_ | refine blk_alloc ?_ _)); exact BK260.out⟩, ⟨by (try simp only [hl290002_68]); (try simp only [hl290003_68]); (with_reducible repeat (first | refine blk_drewN ?_ _ | refine blk_drew ?_ | refine blk_alloc ?_ _)); exact BK280.out⟩, ⟨by (try simp only [hl290002_68]); (try simp only [hl290003_68]); (with_reducible repeat (first | refine blk_drewN ?_ _ | refine blk_drew ?_ | refine blk_alloc ?_ _)); exact BK289.out⟩, ⟨by (try simp only [hl290002_68]); (try simp only [hl290003_68]); (with_reducible repeat (first | refine blk_drewN ?_ _ | refine blk_drew ?_ | refine blk_alloc ?_ _)); exact BK300.out⟩, ⟨by (try simp only [hl290002_68]); (try simp only [hl290003_68]); (with_reducible repeat (first | refine blk_drewN ?_ _ | refine blk_drew ?_ | refine blk_alloc ?_ _)); exact BK337.out⟩, ⟨Zz.rB_ HB.out⟩⟩
              ·
               replace c139 := Bool.eq_false_iff.mpr c139
               subst c139
               have H1 : (laws_FnExactGet.j2 kj68 t315 true t291 t292 t316 t317) = some r := by rw [if_neg (show ¬ (false = true) by decide)] at H; exact H
               clear H
               have H := H1
               clear H1
               have H' := Aside0.mk H
               clear H
               have hnb150 := NB337_260.out
               have hnc150 := NB260_337.out
               have hnb151 := NB337_280.out
               have hnc151 := NB280_337.out
               have hnb152 := NB337_289.out
               have hnc152 := NB289_337.out
               have hnb153 := NB337_300.out
               have hnc153 := NB300_337.out
               have hcz154_0 : w129.cell? ⟨gb337, 0, none⟩ = some (.int .i64 0) := (blk_cell BK337.out 0).trans rfl
               have hcz154_1 : w129.cell? ⟨gb337, 1, none⟩ = some (.int .i64 0) := (blk_cell BK337.out 1).trans rfl
               have hcz154_2 : w129.cell? ⟨gb337, 2, none⟩ = some (.slice none 0 0) := (blk_cell BK337.out 2).trans rfl
               have hcz154_3 : w129.cell? ⟨gb337, 3, none⟩ = some (.slice none 0 0) := (blk_cell BK337.out 3).trans rfl
               have hfz154_0 := blk_frozen BK337.out 0
               have hfz154_1 := blk_frozen BK337.out 1
               have hfz154_2 := blk_frozen BK337.out 2
               have hfz154_3 := blk_frozen BK337.out 3
               have hnb155 := NB280_260.out
               have hnc155 := NB260_280.out
               have hnb156 := NB280_289.out
               have hnc156 := NB289_280.out
               have hnb157 := NB280_300.out
               have hnc157 := NB300_280.out
               have hcz158_0 : w129.cell? ⟨gb280, 0, none⟩ = some (.int .i64 t271) := (blk_cell BK280.out 0).trans rfl
               have hcz158_1 : w129.cell? ⟨gb280, 1, none⟩ = some (.int .i64 t272) := (blk_cell BK280.out 1).trans rfl
               have hcz158_2 : w129.cell? ⟨gb280, 2, none⟩ = some (.slice Ao27 t273.length co27) := (blk_cell BK280.out 2).trans rfl
               have hcz158_3 : w129.cell? ⟨gb280, 3, none⟩ = some (.slice Ao28 t276.length co28) := (blk_cell BK280.out 3).trans rfl
               have hfz158_0 := blk_frozen BK280.out 0
               have hfz158_1 := blk_frozen BK280.out 1
               have hfz158_2 := blk_frozen BK280.out 2
               have hfz158_3 := blk_frozen BK280.out 3
               go_wp2_with (first | (go_at_call 22; (with_reducible refine (laws_eqStore.calls kj68 t328 t329 _ _ t330 _ _ t333 t271 t272 _ _ t273 _ _ t276 false _ ?side1 ?side2 ?side3 ?side4 ?side5 ?side6 ?side7 ?side8 A138.out).mono ?_); (case side1 => refine (Kd.R_reads' (e := 92) (base := w.heap.size) (ok := fun k_ => ((((True ∧ some k_ ≠ (.slice Ao27 t273.length co27 : Value).ownBlock) ∧ some k_ ≠ (.slice Ao35 t312.length co35 : Value).ownBlock) ∧ some k_ ≠ (.slice Ao43 t293.length co43 : Value).ownBlock) ∧ some k_ ≠ (.slice Ao126 t321.length co126 : Value).ownBlock)) (n := t330.length) (c := co135) ?_).2.2; exact (by (with_reducible repeat (first | apply Kd.R_alloc | apply Kd.R_drewN | apply Kd.R_drew)); exact (Kd.R_mono (Zz.rF_ gb337 (Kd.R_types HO332.out BK337.out (by decide)) (fun _ hk => hk.2) _ _ _ _) (fun _ h_ => h_.1)))); (case side2 => exact (Kd.R_reads' HO332.out).2.1); (case side3 => refine (Kd.R_reads' (e := 9) (base := w.heap.size) (ok := fun k_ => ((((True ∧ some k_ ≠ (.slice Ao28 t276.length co28 : Value).ownBlock) ∧ some k_ ≠ (.slice Ao36 t313.length co36 : Value).ownBlock) ∧ some k_ ≠ (.slice Ao44 t296.length co44 : Value).ownBlock) ∧ some k_ ≠ (.slice Ao127 t324.length co127 : Value).ownBlock)) (n := t333.length) (c := co136) ?_).2.2; exact (by (with_reducible repeat (first | apply Kd.R_alloc | apply Kd.R_drewN | apply Kd.R_drew)); exact (Kd.R_mono (Zz.rF_ gb337 (Kd.R_types HO335.out BK337.out (by decide)) (fun _ hk => hk.2) _ _ _ _) (fun _ h_ => h_.1)))); (case side4 => exact (Kd.R_reads' HO335.out).2.1); (case side5 => refine (Kd.R_reads' (e := 92) (base := w.heap.size) (ok := fun k_ => (((some k_ ≠ (.slice Ao35 t312.length co35 : Value).ownBlock ∧ some k_ ≠ (.slice Ao43 t293.length co43 : Value).ownBlock) ∧ some k_ ≠ (.slice Ao126 t321.length co126 : Value).ownBlock) ∧ some k_ ≠ (.slice Ao135 t330.length co135 : Value).ownBlock)) (n := t273.length) (c := co27) ?_).2.2; exact (by (with_reducible repeat (first | apply Kd.R_alloc | apply Kd.R_drewN | apply Kd.R_drew)); exact (Kd.R_mono (Zz.rF_ gb337 (Kd.R_types HO_281002.out BK337.out (by decide)) (fun _ hk => hk.2) _ _ _ _) (fun _ h_ => h_.1)))); (case side6 => exact (Kd.R_reads' HO_281002.out).2.1); (case side7 => refine (Kd.R_reads' (e := 9) (base := w.heap.size) (ok := fun k_ => (((some k_ ≠ (.slice Ao36 t313.length co36 : Value).ownBlock ∧ some k_ ≠ (.slice Ao44 t296.length co44 : Value).ownBlock) ∧ some k_ ≠ (.slice Ao127 t324.length co127 : Value).ownBlock) ∧ some k_ ≠ (.slice Ao136 t333.length co136 : Value).ownBlock)) (n := t276.length) (c := co28) ?_).2.2; exact (by (with_reducible repeat (first | apply Kd.R_alloc | apply Kd.R_drewN | apply Kd.R_drew)); exact (Kd.R_mono (Zz.rF_ gb337 (Kd.R_types HO_281003.out BK337.out (by decide)) (fun _ hk => hk.2) _ _ _ _) (fun _ h_ => h_.1)))); (case side8 => exact (Kd.R_reads' HO_281003.out).2.1); rintro e w159 ⟨rfl, hb⟩; have n0_ := Aside0.mk (Kd.R_below (by (with_reducible repeat (first | apply Kd.R_alloc | apply Kd.R_drewN | apply Kd.R_drew)); exact (Kd.R_mono (Zz.rF_ gb337 (Kd.R_types HO_281002.out BK337.out (by decide)) (fun _ hk => hk.2) _ _ _ _) (fun _ h_ => h_.1))) hb); have n1_ := Aside0.mk (Kd.R_below (by (with_reducible repeat (first | apply Kd.R_alloc | apply Kd.R_drewN | apply Kd.R_drew)); exact (Kd.R_mono (Zz.rF_ gb337 (Kd.R_types HO_281003.out BK337.out (by decide)) (fun _ hk => hk.2) _ _ _ _) (fun _ h_ => h_.1))) hb); have n2_ := Aside0.mk (Kd.R_below (by (with_reducible repeat (first | apply Kd.R_alloc | apply Kd.R_drewN | apply Kd.R_drew)); exact (Kd.R_mono (Zz.rF_ gb337 (Kd.R_types HO_290002.out BK337.out (by decide)) (fun _ hk => hk.2) _ _ _ _) (fun _ h_ => h_.1))) hb); have n3_ := Aside0.mk (Kd.R_below (by (with_reducible repeat (first | apply Kd.R_alloc | apply Kd.R_drewN | apply Kd.R_drew)); exact (Kd.R_mono (Zz.rF_ gb337 (Kd.R_types HO_290003.out BK337.out (by decide)) (fun _ hk => hk.2) _ _ _ _) (fun _ h_ => h_.1))) hb); have n4_ := Aside0.mk (Kd.R_below (by (with_reducible repeat (first | apply Kd.R_alloc | apply Kd.R_drewN | apply Kd.R_drew)); exact (Kd.R_mono (Zz.rF_ gb337 (Kd.R_types HO_301002.out BK337.out (by decide)) (fun _ hk => hk.2) _ _ _ _) (fun _ h_ => h_.1))) hb); have n5_ := Aside0.mk (Kd.R_below (by (with_reducible repeat (first | apply Kd.R_alloc | apply Kd.R_drewN | apply Kd.R_drew)); exact (Kd.R_mono (Zz.rF_ gb337 (Kd.R_types HO_301003.out BK337.out (by decide)) (fun _ hk => hk.2) _ _ _ _) (fun _ h_ => h_.1))) hb); have n6_ := Aside0.mk (Kd.R_below (by (with_reducible repeat (first | apply Kd.R_alloc | apply Kd.R_drewN | apply Kd.R_drew)); exact (Kd.R_mono (Zz.rF_ gb337 (Kd.R_types HO323.out BK337.out (by decide)) (fun _ hk => hk.2) _ _ _ _) (fun _ h_ => h_.1))) hb); have n7_ := Aside0.mk (Kd.R_below (by (with_reducible repeat (first | apply Kd.R_alloc | apply Kd.R_drewN | apply Kd.R_drew)); exact (Kd.R_mono (Zz.rF_ gb337 (Kd.R_types HO326.out BK337.out (by decide)) (fun _ hk => hk.2) _ _ _ _) (fun _ h_ => h_.1))) hb); have n8_ := Aside0.mk (Kd.R_below (by (with_reducible repeat (first | apply Kd.R_alloc | apply Kd.R_drewN | apply Kd.R_drew)); exact (Kd.R_mono (Zz.rF_ gb337 (Kd.R_types HO332.out BK337.out (by decide)) (fun _ hk => hk.2) _ _ _ _) (fun _ h_ => h_.1))) hb); have n9_ := Aside0.mk (Kd.R_below (by (with_reducible repeat (first | apply Kd.R_alloc | apply Kd.R_drewN | apply Kd.R_drew)); exact (Kd.R_mono (Zz.rF_ gb337 (Kd.R_types HO335.out BK337.out (by decide)) (fun _ hk => hk.2) _ _ _ _) (fun _ h_ => h_.1))) hb); have n10_ := Aside0.mk (blk_below (g := gb260) (o := .cells #[.int .i64 a0_0, .int .i64 a0_1, .slice A0_2 l0_2.length c0_2, .slice A0_3 l0_3.length c0_3] 31 (0, 0)) (Zz.rb4_ NB260_337.out BK260.out) hb); have n11_ := Aside0.mk (blk_below (g := gb280) (o := .cells #[.int .i64 t271, .int .i64 t272, .slice Ao27 t273.length co27, .slice Ao28 t276.length co28] 36 (0, 0)) (Zz.rb4_ NB280_337.out BK280.out) hb); have n12_ := Aside0.mk (blk_below (g := gb289) (o := .cells #[.int .i64 t281, .int .i64 t282, .slice Ao35 t312.length co35, .slice Ao36 t313.length co36] 36 (0, 0)) (Zz.rb4_ NB289_337.out BK289.out) hb); have n13_ := Aside0.mk (blk_below (g := gb300) (o := .cells #[.int .i64 t291, .int .i64 t292, .slice Ao43 t293.length co43, .slice Ao44 t296.length co44] 36 (0, 0)) (Zz.rb4_ NB300_337.out BK300.out) hb); have n14_ := Aside0.mk (blk_below (g := gb337) (o := .cells #[.int .i64 t328, .int .i64 t329, .slice Ao135 t330.length co135, .slice Ao136 t333.length co136] 36 (0, 0)) (by (with_reducible repeat (first | refine blk_drewN ?_ _ | refine blk_drew ?_ | refine blk_alloc ?_ _)); refine blk_put (cs := #[.int .i64 t328, .int .i64 t329, .slice Ao135 t330.length co135, .slice none 0 0]) ?_ 3 _ rfl; (with_reducible repeat (first | refine blk_drewN ?_ _ | refine blk_drew ?_ | refine blk_alloc ?_ _)); refine blk_put (cs := #[.int .i64 t328, .int .i64 t329, .slice none 0 0, .slice none 0 0]) ?_ 2 _ rfl; (with_reducible repeat (first | refine blk_drewN ?_ _ | refine blk_drew ?_ | refine blk_alloc ?_ _)); refine blk_put (cs := #[.int .i64 t328, .int .i64 0, .slice none 0 0, .slice none 0 0]) ?_ 1 _ rfl; (with_reducible repeat (first | refine blk_drewN ?_ _ | refine blk_drew ?_ | refine blk_alloc ?_ _)); refine blk_put (cs := #[.int .i64 0, .int .i64 0, .slice none 0 0, .slice none 0 0]) ?_ 0 _ rfl; (with_reducible repeat (first | refine blk_drewN ?_ _ | refine blk_drew ?_ | refine blk_alloc ?_ _)); exact BK337.out) hb); have n15_ := Aside0.mk (below_step (Zz.rB_ HB.out) hb); clear HO_281002; clear HO_281003; clear HO_290002; clear HO_290003; clear HO_301002; clear HO_301003; clear HO323; clear HO326; clear HO332; clear HO335; clear BK260; clear BK280; clear BK289; clear BK300; clear BK337; clear HB; have HO_281002 := n0_; have HO_281003 := n1_; have HO_290002 := n2_; have HO_290003 := n3_; have HO_301002 := n4_; have HO_301003 := n5_; have HO323 := n6_; have HO326 := n7_; have HO332 := n8_; have HO335 := n9_; have BK260 := n10_; have BK280 := n11_; have BK289 := n12_; have BK300 := n13_; have BK337 := n14_; have HB := n15_; clear n0_ n1_ n2_ n3_ n4_ n5_ n6_ n7_ n8_ n9_ n10_ n11_ n12_ n13_ n14_ n15_; (try clear hb); (try clear hb2); (try clear hk); (try clear hi)))
               go_meet
               case rel => exact ⟨_, (true), (by first | rfl | (simp; done) | (simp [*]; done)), H', ⟨by have := HJ14.out; have := HJ68.out; first | omega | exact Nat.le_refl _⟩, ⟨by (try simp only [hl290002_68]); (try simp only [hl290003_68]); (with_reducible repeat (first | apply Kd.R_alloc | apply Kd.R_drewN | apply Kd.R_drew)); exact Kd.R_mono HO_281002.out (fun _ hk => ⟨hk.1.1.1, ⟨hk.1.1.2, hk.2⟩⟩)⟩, ⟨by (try simp only [hl290002_68]); (try simp only [hl290003_68]); (with_reducible repeat (first | apply Kd.R_alloc | apply Kd.R_drewN | apply Kd.R_drew)); exact Kd.R_mono HO_281003.out (fun _ hk => ⟨hk.1.1.1, ⟨hk.1.1.2, hk.2⟩⟩)⟩, ⟨by (try simp only [hl290002_68]); (try simp only [hl290003_68]); (with_reducible repeat (first | apply Kd.R_alloc | apply Kd.R_drewN | apply Kd.R_drew)); exact Kd.R_mono HO_290002.out (fun _ hk => ⟨hk.1.1.1, ⟨hk.1.1.2, hk.2⟩⟩)⟩, ⟨by (try simp only [hl290002_68]); (try simp only [hl290003_68]); (with_reducible repeat (first | apply Kd.R_alloc | apply Kd.R_drewN | apply Kd.R_drew)); exact Kd.R_mono HO_290003.out (fun _ hk => ⟨hk.1.1.1, ⟨hk.1.1.2, hk.2⟩⟩)⟩, ⟨by (try simp only [hl290002_68]); (try simp only [hl290003_68]); (with_reducible repeat (first | apply Kd.R_alloc | apply Kd.R_drewN | apply Kd.R_drew)); exact Kd.R_mono HO_301002.out (fun _ hk => ⟨hk.1.1.1, ⟨hk.1.1.2, hk.2⟩⟩)⟩, ⟨by (try simp only [hl290002_68]); (try simp only [hl290003_68]); (with_reducible repeat (first | apply Kd.R_alloc | apply Kd.R_drewN | apply Kd.R_drew)); exact Kd.R_mono HO_301003.out (fun _ hk => ⟨hk.1.1.1, ⟨hk.1.1.2, hk.2⟩⟩)⟩, ⟨by (try simp only [hl290002_68]); (try simp only [hl290003_68]); (with_reducible repeat (first | apply Kd.R_alloc | apply Kd.R_drewN | apply Kd.R_drew)); exact Kd.R_mono HO332.out (fun _ hk => ⟨hk.1.1.1.2, ⟨hk.1.1.2, hk.1.2⟩⟩)⟩, ⟨by (try simp only [hl290002_68]); (try simp only [hl290003_68]); (with_reducible repeat (first | apply Kd.R_alloc | apply Kd.R_drewN | apply Kd.R_drew)); exact Kd.R_mono HO335.out (fun _ hk => ⟨hk.1.1.1.2, ⟨hk.1.1.2, hk.1.2⟩⟩)⟩, ⟨by (try simp only [hl290002_68]); (try simp only [hl290003_68]); (with_reducible repeat (first | refine blk_drewN ?_ _ | refine blk_drew ?_ | refine blk_alloc ?_ _)); exact BK260.out⟩, ⟨by (try simp only [hl290002_68]); (try simp only [hl290003_68]); (with_reducible repeat (first | refine blk_drewN ?_ _ | refine blk_drew ?_ | refine blk_alloc ?_ _)); exact BK280.out⟩, ⟨by (try simp only [hl290002_68]); (try simp only [hl290003_68]); (with_reducible repeat (first | refine blk_drewN ?_ _ | refine blk_drew ?_ | refine blk_alloc ?_ _)); exact BK289.out⟩, ⟨by (try simp only [hl290002_68]); (try simp only [hl290003_68]); (with_reducible repeat (first | refine blk_drewN ?_ _ | refine blk_drew ?_ | refine blk_alloc ?_ _)); exact BK300.out⟩, ⟨by (try simp only [hl290002_68]); (try simp only [hl290003_68]); (with_reducible repeat (first | refine blk_drewN ?_ _ | refine blk_drew ?_ | refine blk_alloc ?_ _)); exact BK337.out⟩, ⟨Zz.rB_ HB.out⟩⟩
             ·
              rw [if_neg c137] at H
              have c137b0 : (t327.toList == t270.toList) = false := beq_eq_false_iff_ne.mpr c137
              have c137b1 : (t327.toList != t270.toList) = true := bne_iff_ne.mpr c137
              (first | rw [c137b0] | (simp only [i64_w, i32_w]; rw [c137b0]) | skip)
              have H' := Aside0.mk H
              clear H
              go_wp2
              go_meet
              case rel => exact ⟨_, (true), (by first | rfl | (simp; done) | (simp [*]; done)), H', ⟨by have := HJ14.out; have := HJ68.out; first | omega | exact Nat.le_refl _⟩, ⟨by (try simp only [hl290002_68]); (try simp only [hl290003_68]); (with_reducible repeat (first | apply Kd.R_alloc | apply Kd.R_drewN | apply Kd.R_drew)); exact Kd.R_mono (Zz.rF_ gb337 (Kd.R_types HO_281002.out BK337.out (by decide)) (fun _ hk => hk.2) _ _ _ _) (fun _ hk => ⟨hk.1.1.1.1, ⟨hk.1.1.1.2, hk.1.2⟩⟩)⟩, ⟨by (try simp only [hl290002_68]); (try simp only [hl290003_68]); (with_reducible repeat (first | apply Kd.R_alloc | apply Kd.R_drewN | apply Kd.R_drew)); exact Kd.R_mono (Zz.rF_ gb337 (Kd.R_types HO_281003.out BK337.out (by decide)) (fun _ hk => hk.2) _ _ _ _) (fun _ hk => ⟨hk.1.1.1.1, ⟨hk.1.1.1.2, hk.1.2⟩⟩)⟩, ⟨by (try simp only [hl290002_68]); (try simp only [hl290003_68]); (with_reducible repeat (first | apply Kd.R_alloc | apply Kd.R_drewN | apply Kd.R_drew)); exact Kd.R_mono (Zz.rF_ gb337 (Kd.R_types HO_290002.out BK337.out (by decide)) (fun _ hk => hk.2) _ _ _ _) (fun _ hk => ⟨hk.1.1.1.1, ⟨hk.1.1.1.2, hk.1.2⟩⟩)⟩, ⟨by (try simp only [hl290002_68]); (try simp only [hl290003_68]); (with_reducible repeat (first | apply Kd.R_alloc | apply Kd.R_drewN | apply Kd.R_drew)); exact Kd.R_mono (Zz.rF_ gb337 (Kd.R_types HO_290003.out BK337.out (by decide)) (fun _ hk => hk.2) _ _ _ _) (fun _ hk => ⟨hk.1.1.1.1, ⟨hk.1.1.1.2, hk.1.2⟩⟩)⟩, ⟨by (try simp only [hl290002_68]); (try simp only [hl290003_68]); (with_reducible repeat (first | apply Kd.R_alloc | apply Kd.R_drewN | apply Kd.R_drew)); exact Kd.R_mono (Zz.rF_ gb337 (Kd.R_types HO_301002.out BK337.out (by decide)) (fun _ hk => hk.2) _ _ _ _) (fun _ hk => ⟨hk.1.1.1.1, ⟨hk.1.1.1.2, hk.1.2⟩⟩)⟩, ⟨by (try simp only [hl290002_68]); (try simp only [hl290003_68]); (with_reducible repeat (first | apply Kd.R_alloc | apply Kd.R_drewN | apply Kd.R_drew)); exact Kd.R_mono (Zz.rF_ gb337 (Kd.R_types HO_301003.out BK337.out (by decide)) (fun _ hk => hk.2) _ _ _ _) (fun _ hk => ⟨hk.1.1.1.1, ⟨hk.1.1.1.2, hk.1.2⟩⟩)⟩, ⟨by (try simp only [hl290002_68]); (try simp only [hl290003_68]); (with_reducible repeat (first | apply Kd.R_alloc | apply Kd.R_drewN | apply Kd.R_drew)); exact Kd.R_mono (Zz.rF_ gb337 (Kd.R_types HO332.out BK337.out (by decide)) (fun _ hk => hk.2) _ _ _ _) (fun _ hk => ⟨hk.1.1.1.1.2, ⟨hk.1.1.1.2, hk.1.1.2⟩⟩)⟩, ⟨by (try simp only [hl290002_68]); (try simp only [hl290003_68]); (with_reducible repeat (first | apply Kd.R_alloc | apply Kd.R_drewN | apply Kd.R_drew)); exact Kd.R_mono (Zz.rF_ gb337 (Kd.R_types HO335.out BK337.out (by decide)) (fun _ hk => hk.2) _ _ _ _) (fun _ hk => ⟨hk.1.1.1.1.2, ⟨hk.1.1.1.2, hk.1.1.2⟩⟩)⟩, ⟨by (try simp only [hl290002_68]); (try simp only [hl290003_68]); (with_reducible repeat (first | refine blk_drewN ?_ _ | refine blk_drew ?_ | refine blk_alloc ?_ _)); refine blk_far ?_ NB260_337.out _; (with_reducible repeat (first | refine blk_drewN ?_ _ | refine blk_drew ?_ | refine blk_alloc ?_ _)); refine blk_far ?_ NB260_337.out _; (with_reducible repeat (first | refine blk_drewN ?_ _ | refine blk_drew ?_ | refine blk_alloc ?_ _)); refine blk_far ?_ NB260_337.out _; (with_reducible repeat (first | refine blk_drewN ?_ _ | refine blk_drew ?_ | refine blk_alloc ?_ _)); refine blk_far ?_ NB260_337.out _; (with_reducible repeat (first | refine blk_drewN ?_ _ | refine blk_drew ?_ | refine blk_alloc ?_ _)); exact BK260.out⟩, ⟨by (try simp only [hl290002_68]); (try simp only [hl290003_68]); (with_reducible repeat (first | refine blk_drewN ?_ _ | refine blk_drew ?_ | refine blk_alloc ?_ _)); refine blk_far ?_ NB280_337.out _; (with_reducible repeat (first | refine blk_drewN ?_ _ | refine blk_drew ?_ | refine blk_alloc ?_ _)); refine blk_far ?_ NB280_337.out _; (with_reducible repeat (first | refine blk_drewN ?_ _ | refine blk_drew ?_ | refine blk_alloc ?_ _)); refine blk_far ?_ NB280_337.out _; (with_reducible repeat (first | refine blk_drewN ?_ _ | refine blk_drew ?_ | refine blk_alloc ?_ _)); refine blk_far ?_ NB280_337.out _; (with_reducible repeat (first | refine blk_drewN ?_ _ | refine blk_drew ?_ | refine blk_alloc ?_ _)); exact BK280.out⟩, ⟨by (try simp only [hl290002_68]); (try simp only [hl290003_68]); (with_reducible repeat (first | refine blk_drewN ?_ _ | refine blk_drew ?_ | refine blk_alloc ?_ _)); refine blk_far ?_ NB289_337.out _; (with_reducible repeat (first | refine blk_drewN ?_ _ | refine blk_drew ?_ | refine blk_alloc ?_ _)); refine blk_far ?_ NB289_337.out _; (with_reducible repeat (first | refine blk_drewN ?_ _ | refine blk_drew ?_ | refine blk_alloc ?_ _)); refine blk_far ?_ NB289_337.out _; (with_reducible repeat (first | refine blk_drewN ?_ _ | refine blk_drew ?_ | refine blk_alloc ?_ _)); refine blk_far ?_ NB289_337.out _; (with_reducible repeat (first | refine blk_drewN ?_ _ | refine blk_drew ?_ | refine blk_alloc ?_ _)); exact BK289.out⟩, ⟨by (try simp only [hl290002_68]); (try simp only [hl290003_68]); (with_reducible repeat (first | refine blk_drewN ?_ _ | refine blk_drew ?_ | refine blk_alloc ?_ _)); refine blk_far ?_ NB300_337.out _; (with_reducible repeat (first | refine blk_drewN ?_ _ | refine blk_drew ?_ | refine blk_alloc ?_ _)); refine blk_far ?_ NB300_337.out _; (with_reducible repeat (first | refine blk_drewN ?_ _ | refine blk_drew ?_ | refine blk_alloc ?_ _)); refine blk_far ?_ NB300_337.out _; (with_reducible repeat (first | refine blk_drewN ?_ _ | refine blk_drew ?_ | refine blk_alloc ?_ _)); refine blk_far ?_ NB300_337.out _; (with_reducible repeat (first | refine blk_drewN ?_ _ | refine blk_drew ?_ | refine blk_alloc ?_ _)); exact BK300.out⟩, ⟨by (try simp only [hl290002_68]); (try simp only [hl290003_68]); (with_reducible repeat (first | refine blk_drewN ?_ _ | refine blk_drew ?_ | refine blk_alloc ?_ _)); refine blk_put (cs := #[.int .i64 t328, .int .i64 t329, .slice Ao135 t330.length co135, .slice none 0 0]) ?_ 3 _ rfl; (with_reducible repeat (first | refine blk_drewN ?_ _ | refine blk_drew ?_ | refine blk_alloc ?_ _)); refine blk_put (cs := #[.int .i64 t328, .int .i64 t329, .slice none 0 0, .slice none 0 0]) ?_ 2 _ rfl; (with_reducible repeat (first | refine blk_drewN ?_ _ | refine blk_drew ?_ | refine blk_alloc ?_ _)); refine blk_put (cs := #[.int .i64 t328, .int .i64 0, .slice none 0 0, .slice none 0 0]) ?_ 1 _ rfl; (with_reducible repeat (first | refine blk_drewN ?_ _ | refine blk_drew ?_ | refine blk_alloc ?_ _)); refine blk_put (cs := #[.int .i64 0, .int .i64 0, .slice none 0 0, .slice none 0 0]) ?_ 0 _ rfl; (with_reducible repeat (first | refine blk_drewN ?_ _ | refine blk_drew ?_ | refine blk_alloc ?_ _)); exact BK337.out⟩, ⟨Zz.rB_ HB.out⟩⟩
            case rest =>
             clear HC114
             try clear c1
             try clear c2
             try clear p2
             try clear c3
             try clear c4
             try clear c4b0
             try clear c4b1
             try clear c5
             try clear c6
             try clear c7
             try clear c7b0
             try clear c8
             try clear c9
             try clear c10
             try clear c11
             try clear c12
             try clear c13
             try clear c14
             try clear c15
             try clear c18
             try clear c20
             try clear c22
             try clear c25
             try clear c32
             try clear c33
             try clear c36
             try clear c37
             try clear c38
             try clear c39
             try clear c40
             try clear c41
             try clear c45
             try clear c45b0
             try clear c45b1
             try clear c47
             try clear c48
             try clear c49
             try clear c50
             try clear c52
             try clear c53
             try clear c56
             try clear c57
             try clear c58
             try clear c60
             try clear c61
             try clear c64
             try clear c67
             try clear c75
             try clear c76
             try clear c77
             try clear c80
             try clear c80b0
             try clear c81
             try clear c81b0
             try clear c81b1
             try clear c83
             try clear c84
             try clear c85
             try clear c86
             try clear c88
             try clear c89
             try clear c92
             try clear c93
             try clear c94
             try clear c96
             try clear c97
             try clear c100
             try clear c103
             try clear c103b0
             try clear c104
             try clear c105
             try clear c106
             try clear c111
             try clear c111b0
             try clear c111b1
             try clear c115
             try clear c116
             try clear c117
             try clear c122
             try clear c123
             try clear c130
             try clear c131
             try clear c132
             try clear c133
             try clear c137
             try clear c137b0
             try clear c137b1
             try clear c139
             try clear c140
             try clear c141
             try clear c142
             try clear c143
             try clear c145
             try clear c146
             try clear c147
             try clear c150
             try clear c151
             try clear c152
             try clear c153
             try clear c155
             try clear c156
             try clear c157
             try clear hcz107_0
             try clear hcz107_1
             try clear hcz107_2
             try clear hcz107_3
             try clear hcz109_0
             try clear hcz109_1
             try clear hcz109_2
             try clear hcz109_3
             try clear hcz118_0
             try clear hcz118_1
             try clear hcz118_2
             try clear hcz118_3
             try clear hcz120_0
             try clear hcz120_1
             try clear hcz120_2
             try clear hcz120_3
             try clear hcz124_0
             try clear hcz124_1
             try clear hcz124_2
             try clear hcz124_3
             try clear hcz134_0
             try clear hcz134_1
             try clear hcz134_2
             try clear hcz134_3
             try clear hcz144_0
             try clear hcz144_1
             try clear hcz144_2
             try clear hcz144_3
             try clear hcz148_0
             try clear hcz148_1
             try clear hcz148_2
             try clear hcz148_3
             try clear hcz154_0
             try clear hcz154_1
             try clear hcz154_2
             try clear hcz154_3
             try clear hcz158_0
             try clear hcz158_1
             try clear hcz158_2
             try clear hcz158_3
             try clear hcz17_0
             try clear hcz17_1
             try clear hcz17_2
             try clear hcz17_3
             try clear hcz19_0
             try clear hcz19_1
             try clear hcz19_2
             try clear hcz19_3
             try clear hcz26_0
             try clear hcz26_1
             try clear hcz26_2
             try clear hcz26_3
             try clear hcz29_0
             try clear hcz29_1
             try clear hcz29_2
             try clear hcz29_3
             try clear hcz34_0
             try clear hcz34_1
             try clear hcz34_2
             try clear hcz34_3
             try clear hcz42_0
             try clear hcz42_1
             try clear hcz42_2
             try clear hcz42_3
             try clear hcz51_0
             try clear hcz51_1
             try clear hcz51_2
             try clear hcz51_3
             try clear hcz54_0
             try clear hcz54_1
             try clear hcz54_2
             try clear hcz54_3
             try clear hcz59_0
             try clear hcz59_1
             try clear hcz59_2
             try clear hcz59_3
             try clear hcz62_0
             try clear hcz62_1
             try clear hcz62_2
             try clear hcz62_3
             try clear hcz78_0
             try clear hcz78_1
             try clear hcz78_2
             try clear hcz78_3
             try clear hcz87_0
             try clear hcz87_1
             try clear hcz87_2
             try clear hcz87_3
             try clear hcz90_0
             try clear hcz90_1
             try clear hcz90_2
             try clear hcz90_3
             try clear hcz95_0
             try clear hcz95_1
             try clear hcz95_2
             try clear hcz95_3
             try clear hcz98_0
             try clear hcz98_1
             try clear hcz98_2
             try clear hcz98_3
             try clear hcz9_0
             try clear hcz9_1
             try clear hcz9_2
             try clear hcz9_3
             try clear hfz107_0
             try clear hfz107_1
             try clear hfz107_2
             try clear hfz107_3
             try clear hfz109_0
             try clear hfz109_1
             try clear hfz109_2
             try clear hfz109_3
             try clear hfz118_0
             try clear hfz118_1
             try clear hfz118_2
             try clear hfz118_3
             try clear hfz120_0
             try clear hfz120_1
             try clear hfz120_2
             try clear hfz120_3
             try clear hfz124_0
             try clear hfz124_1
             try clear hfz124_2
             try clear hfz124_3
             try clear hfz134_0
             try clear hfz134_1
             try clear hfz134_2
             try clear hfz134_3
             try clear hfz144_0
             try clear hfz144_1
             try clear hfz144_2
             try clear hfz144_3
             try clear hfz148_0
             try clear hfz148_1
             try clear hfz148_2
             try clear hfz148_3
             try clear hfz154_0
             try clear hfz154_1
             try clear hfz154_2
             try clear hfz154_3
             try clear hfz158_0
             try clear hfz158_1
             try clear hfz158_2
             try clear hfz158_3
             try clear hfz17_0
             try clear hfz17_1
             try clear hfz17_2
             try clear hfz17_3
             try clear hfz19_0
             try clear hfz19_1
             try clear hfz19_2
             try clear hfz19_3
             try clear hfz26_0
             try clear hfz26_1
             try clear hfz26_2
             try clear hfz26_3
             try clear hfz29_0
             try clear hfz29_1
             try clear hfz29_2
             try clear hfz29_3
             try clear hfz34_0
             try clear hfz34_1
             try clear hfz34_2
             try clear hfz34_3
             try clear hfz42_0
             try clear hfz42_1
             try clear hfz42_2
             try clear hfz42_3
             try clear hfz51_0
             try clear hfz51_1
             try clear hfz51_2
             try clear hfz51_3
             try clear hfz54_0
             try clear hfz54_1
             try clear hfz54_2
             try clear hfz54_3
             try clear hfz59_0
             try clear hfz59_1
             try clear hfz59_2
             try clear hfz59_3
             try clear hfz62_0
             try clear hfz62_1
             try clear hfz62_2
             try clear hfz62_3
             try clear hfz78_0
             try clear hfz78_1
             try clear hfz78_2
             try clear hfz78_3
             try clear hfz87_0
             try clear hfz87_1
             try clear hfz87_2
             try clear hfz87_3
             try clear hfz90_0
             try clear hfz90_1
             try clear hfz90_2
             try clear hfz90_3
             try clear hfz95_0
             try clear hfz95_1
             try clear hfz95_2
             try clear hfz95_3
             try clear hfz98_0
             try clear hfz98_1
             try clear hfz98_2
             try clear hfz98_3
             try clear hfz9_0
             try clear hfz9_1
             try clear hfz9_2
             try clear hfz9_3
             try clear p2
             obtain ⟨kq, x121_113, rfl, HA, HJ113, HO_281002, HO_281003, HO_290002, HO_290003, HO_301002, HO_301003, HO_338002, HO_338003, BK260, BK280, BK289, BK300, BK337, HB⟩ := hcut
             have hl301002_113 := (Kd.R_reads' HO_301002.out).1
             rw [hl301002_113] at HO_301002
             (try simp only [hl301002_113])
             (try simp only [hl301002_113] at BK260)
             (try simp only [hl301002_113] at BK280)
             (try simp only [hl301002_113] at BK289)
             (try simp only [hl301002_113] at BK300)
             (try simp only [hl301002_113] at BK337)
             (try simp only [hl301002_113] at HO_281002)
             (try simp only [hl301002_113] at HO_281003)
             (try simp only [hl301002_113] at HO_290002)
             (try simp only [hl301002_113] at HO_290003)
             (try simp only [hl301002_113] at HO_301003)
             (try simp only [hl301002_113] at HO_338002)
             (try simp only [hl301002_113] at HO_338003)
             have hl301003_113 := (Kd.R_reads' HO_301003.out).1
             rw [hl301003_113] at HO_301003
             (try simp only [hl301003_113])
             (try simp only [hl301003_113] at BK260)
             (try simp only [hl301003_113] at BK280)
             (try simp only [hl301003_113] at BK289)
             (try simp only [hl301003_113] at BK300)
             (try simp only [hl301003_113] at BK337)
             (try simp only [hl301003_113] at HO_281002)
             (try simp only [hl301003_113] at HO_281003)
             (try simp only [hl301003_113] at HO_290002)
             (try simp only [hl301003_113] at HO_290003)
             (try simp only [hl301003_113] at HO_301002)
             (try simp only [hl301003_113] at HO_338002)
             (try simp only [hl301003_113] at HO_338003)
             cases kq with
             | zero => exact absurd HA.out (by simp [laws_FnExactGet.j2])
             | succ kj113 =>
              have H := HA.out
              clear HA
              simp only [laws_FnExactGet.j2] at H
              by_cases c160 : x121_113 = true
              ·
               subst c160
               have H1 : (some false) = some r := by rw [if_pos rfl] at H; exact H
               clear H
               have H := H1
               clear H1
               obtain rfl := Option.some.inj H
               go_wp2
               go_ret
               exact ⟨by first | rfl | (simp [errW_none, errW_some] <;> rfl) | (simp [*, errW_none, errW_some] <;> rfl), by repeat (first | (with_reducible first | exact HB.out | apply below_alloc | apply pw_below_drewN | apply below_drew1 | refine below_set ?_ GE260.out | refine below_set ?_ GE280.out | refine below_set ?_ GE289.out | refine below_set ?_ GE300.out | refine below_set ?_ GE337.out) | exact HB.out)⟩
              ·
               replace c160 := Bool.eq_false_iff.mpr c160
               subst c160
               have H1 : ((laws_heldStore.f kj113 t291 t292 t316 t317 1).bind fun t339 => (if t339 < 0 then (some false) else (if t339 = t315 then (some true) else (some false)))) = some r := by rw [if_neg (show ¬ (false = true) by decide)] at H; exact H
               clear H
               have H := H1
               clear H1
               replace H := Option.bind_eq_some_iff.mp H
               obtain ⟨t339, A1610, H⟩ := H
               replace H : (if t339 < 0 then (some false) else (if t339 = t315 then (some true) else (some false))) = some r := H
               have A161 := Aside0.mk A1610
               clear A1610
               by_cases c162 : t339 < 0
               ·
                rw [if_pos c162] at H
                have c162b0 : decide (t339 < 0) = true := decide_eq_true c162
                clear c162
                obtain rfl := Option.some.inj H
                have hnb163 := NB300_260.out
                have hnc163 := NB260_300.out
                have hnb164 := NB300_280.out
                have hnc164 := NB280_300.out
                have hnb165 := NB300_289.out
                have hnc165 := NB289_300.out
                have hnb166 := NB300_337.out
                have hnc166 := NB337_300.out
                have hcz167_0 : wc.cell? ⟨gb300, 0, none⟩ = some (.int .i64 t291) := (blk_cell BK300.out 0).trans rfl
                have hcz167_1 : wc.cell? ⟨gb300, 1, none⟩ = some (.int .i64 t292) := (blk_cell BK300.out 1).trans rfl
                have hcz167_2 : wc.cell? ⟨gb300, 2, none⟩ = some (.slice Ao43 t316.length co43) := (blk_cell BK300.out 2).trans rfl
                have hcz167_3 : wc.cell? ⟨gb300, 3, none⟩ = some (.slice Ao44 t317.length co44) := (blk_cell BK300.out 3).trans rfl
                have hfz167_0 := blk_frozen BK300.out 0
                have hfz167_1 := blk_frozen BK300.out 1
                have hfz167_2 := blk_frozen BK300.out 2
                have hfz167_3 := blk_frozen BK300.out 3
                go_wp2_with (first | ((with_reducible refine gate_callee (f := 39) rfl ?_); refine goesL_ (some 124) rfl rfl Try.func39 (by kernel_rfl) rfl #[.agg #[.int .i64 t291, .int .i64 t292, .slice Ao43 t316.length co43, .slice Ao44 t317.length co44], .int .i64 1] rfl (by (try simp only [List.map_toArray, List.map_cons, List.map_nil]); first | done | rfl | (simp only [List.length_drop, List.length_take]; rfl)) ?_; (with_reducible refine (laws_heldStore.calls kj113 t291 t292 _ _ t316 _ _ t317 1 t339 _ ?side1 ?side2 ?side3 ?side4 A161.out).mono ?_); (case side1 => repeat (first | exact (Kd.R_reads' HO_301002.out).2.2 | (with_reducible refine Kd.C_alloc ?_ _) | (with_reducible refine Kd.C_drewN ?_ _) | (with_reducible refine Kd.C_drew ?_))); (case side2 => exact (Kd.R_reads' HO_301002.out).2.1); (case side3 => repeat (first | exact (Kd.R_reads' HO_301003.out).2.2 | (with_reducible refine Kd.C_alloc ?_ _) | (with_reducible refine Kd.C_drewN ?_ _) | (with_reducible refine Kd.C_drew ?_))); (case side4 => exact (Kd.R_reads' HO_301003.out).2.1); rintro e w168 ⟨rfl, hb⟩; refine ⟨_, rfl, ?_⟩; have n0_ := Aside0.mk (Kd.R_below (Zz.rR_ HO_281002.out) hb); have n1_ := Aside0.mk (Kd.R_below (Zz.rR_ HO_281003.out) hb); have n2_ := Aside0.mk (Kd.R_below (Zz.rR_ HO_290002.out) hb); have n3_ := Aside0.mk (Kd.R_below (Zz.rR_ HO_290003.out) hb); have n4_ := Aside0.mk (Kd.R_below (Zz.rR_ HO_301002.out) hb); have n5_ := Aside0.mk (Kd.R_below (Zz.rR_ HO_301003.out) hb); have n6_ := Aside0.mk (Kd.R_below (Zz.rR_ HO_338002.out) hb); have n7_ := Aside0.mk (Kd.R_below (Zz.rR_ HO_338003.out) hb); have n8_ := Aside0.mk (blk_below (g := gb260) (o := .cells #[.int .i64 a0_0, .int .i64 a0_1, .slice A0_2 l0_2.length c0_2, .slice A0_3 l0_3.length c0_3] 31 (0, 0)) (Zz.rb_ BK260.out) hb); have n9_ := Aside0.mk (blk_below (g := gb280) (o := .cells #[.int .i64 t271, .int .i64 t272, .slice Ao27 t273.length co27, .slice Ao28 t276.length co28] 36 (0, 0)) (Zz.rb_ BK280.out) hb); have n10_ := Aside0.mk (blk_below (g := gb289) (o := .cells #[.int .i64 t281, .int .i64 t282, .slice Ao35 t312.length co35, .slice Ao36 t313.length co36] 36 (0, 0)) (Zz.rb_ BK289.out) hb); have n11_ := Aside0.mk (blk_below (g := gb300) (o := .cells #[.int .i64 t291, .int .i64 t292, .slice Ao43 t316.length co43, .slice Ao44 t317.length co44] 36 (0, 0)) (Zz.rb_ BK300.out) hb); have n12_ := Aside0.mk (blk_below (g := gb337) (o := .cells #[.int .i64 t328, .int .i64 t329, .slice Ao135 t330.length co135, .slice Ao136 t333.length co136] 36 (0, 0)) (Zz.rb_ BK337.out) hb); have n13_ := Aside0.mk (below_step (Zz.rB_ HB.out) hb); clear HO_281002; clear HO_281003; clear HO_290002; clear HO_290003; clear HO_301002; clear HO_301003; clear HO_338002; clear HO_338003; clear BK260; clear BK280; clear BK289; clear BK300; clear BK337; clear HB; have HO_281002 := n0_; have HO_281003 := n1_; have HO_290002 := n2_; have HO_290003 := n3_; have HO_301002 := n4_; have HO_301003 := n5_; have HO_338002 := n6_; have HO_338003 := n7_; have BK260 := n8_; have BK280 := n9_; have BK289 := n10_; have BK300 := n11_; have BK337 := n12_; have HB := n13_; clear n0_ n1_ n2_ n3_ n4_ n5_ n6_ n7_ n8_ n9_ n10_ n11_ n12_ n13_; (try clear hb); (try clear hb2); (try clear hk); (try clear hi)))
                go_ret
                exact ⟨by first | rfl | (simp [errW_none, errW_some] <;> rfl) | (simp [*, errW_none, errW_some] <;> rfl), by repeat (first | (with_reducible first | exact HB.out | apply below_alloc | apply pw_below_drewN | apply below_drew1 | refine below_set ?_ GE260.out | refine below_set ?_ GE280.out | refine below_set ?_ GE289.out | refine below_set ?_ GE300.out | refine below_set ?_ GE337.out) | exact HB.out)⟩
               ·
                rw [if_neg c162] at H
                have c162b0 : decide (t339 < 0) = false := decide_eq_false c162
                clear c162
                by_cases c169 : t339 = t315
                ·
                 rw [if_pos c169] at H
                 have c169b0 : (t339 == t315) = true := beq_iff_eq.mpr c169
                 have c169b1 : (t339 != t315) = false := bne_eq_false_iff_eq.mpr c169
                 clear c169
                 obtain rfl := Option.some.inj H
                 have hnb170 := NB300_260.out
                 have hnc170 := NB260_300.out
                 have hnb171 := NB300_280.out
                 have hnc171 := NB280_300.out
                 have hnb172 := NB300_289.out
                 have hnc172 := NB289_300.out
                 have hnb173 := NB300_337.out
                 have hnc173 := NB337_300.out
                 have hcz174_0 : wc.cell? ⟨gb300, 0, none⟩ = some (.int .i64 t291) := (blk_cell BK300.out 0).trans rfl
                 have hcz174_1 : wc.cell? ⟨gb300, 1, none⟩ = some (.int .i64 t292) := (blk_cell BK300.out 1).trans rfl
                 have hcz174_2 : wc.cell? ⟨gb300, 2, none⟩ = some (.slice Ao43 t316.length co43) := (blk_cell BK300.out 2).trans rfl
                 have hcz174_3 : wc.cell? ⟨gb300, 3, none⟩ = some (.slice Ao44 t317.length co44) := (blk_cell BK300.out 3).trans rfl
                 have hfz174_0 := blk_frozen BK300.out 0
                 have hfz174_1 := blk_frozen BK300.out 1
                 have hfz174_2 := blk_frozen BK300.out 2
                 have hfz174_3 := blk_frozen BK300.out 3
                 go_wp2_with (first | ((with_reducible refine gate_callee (f := 39) rfl ?_); refine goesL_ (some 124) rfl rfl Try.func39 (by kernel_rfl) rfl #[.agg #[.int .i64 t291, .int .i64 t292, .slice Ao43 t316.length co43, .slice Ao44 t317.length co44], .int .i64 1] rfl (by (try simp only [List.map_toArray, List.map_cons, List.map_nil]); first | done | rfl | (simp only [List.length_drop, List.length_take]; rfl)) ?_; (with_reducible refine (laws_heldStore.calls kj113 t291 t292 _ _ t316 _ _ t317 1 t339 _ ?side1 ?side2 ?side3 ?side4 A161.out).mono ?_); (case side1 => repeat (first | exact (Kd.R_reads' HO_301002.out).2.2 | (with_reducible refine Kd.C_alloc ?_ _) | (with_reducible refine Kd.C_drewN ?_ _) | (with_reducible refine Kd.C_drew ?_))); (case side2 => exact (Kd.R_reads' HO_301002.out).2.1); (case side3 => repeat (first | exact (Kd.R_reads' HO_301003.out).2.2 | (with_reducible refine Kd.C_alloc ?_ _) | (with_reducible refine Kd.C_drewN ?_ _) | (with_reducible refine Kd.C_drew ?_))); (case side4 => exact (Kd.R_reads' HO_301003.out).2.1); rintro e w175 ⟨rfl, hb⟩; refine ⟨_, rfl, ?_⟩; have n0_ := Aside0.mk (Kd.R_below (Zz.rR_ HO_281002.out) hb); have n1_ := Aside0.mk (Kd.R_below (Zz.rR_ HO_281003.out) hb); have n2_ := Aside0.mk (Kd.R_below (Zz.rR_ HO_290002.out) hb); have n3_ := Aside0.mk (Kd.R_below (Zz.rR_ HO_290003.out) hb); have n4_ := Aside0.mk (Kd.R_below (Zz.rR_ HO_301002.out) hb); have n5_ := Aside0.mk (Kd.R_below (Zz.rR_ HO_301003.out) hb); have n6_ := Aside0.mk (Kd.R_below (Zz.rR_ HO_338002.out) hb); have n7_ := Aside0.mk (Kd.R_below (Zz.rR_ HO_338003.out) hb); have n8_ := Aside0.mk (blk_below (g := gb260) (o := .cells #[.int .i64 a0_0, .int .i64 a0_1, .slice A0_2 l0_2.length c0_2, .slice A0_3 l0_3.length c0_3] 31 (0, 0)) (Zz.rb_ BK260.out) hb); have n9_ := Aside0.mk (blk_below (g := gb280) (o := .cells #[.int .i64 t271, .int .i64 t272, .slice Ao27 t273.length co27, .slice Ao28 t276.length co28] 36 (0, 0)) (Zz.rb_ BK280.out) hb); have n10_ := Aside0.mk (blk_below (g := gb289) (o := .cells #[.int .i64 t281, .int .i64 t282, .slice Ao35 t312.length co35, .slice Ao36 t313.length co36] 36 (0, 0)) (Zz.rb_ BK289.out) hb); have n11_ := Aside0.mk (blk_below (g := gb300) (o := .cells #[.int .i64 t291, .int .i64 t292, .slice Ao43 t316.length co43, .slice Ao44 t317.length co44] 36 (0, 0)) (Zz.rb_ BK300.out) hb); have n12_ := Aside0.mk (blk_below (g := gb337) (o := .cells #[.int .i64 t328, .int .i64 t329, .slice Ao135 t330.length co135, .slice Ao136 t333.length co136] 36 (0, 0)) (Zz.rb_ BK337.out) hb); have n13_ := Aside0.mk (below_step (Zz.rB_ HB.out) hb); clear HO_281002; clear HO_281003; clear HO_290002; clear HO_290003; clear HO_301002; clear HO_301003; clear HO_338002; clear HO_338003; clear BK260; clear BK280; clear BK289; clear BK300; clear BK337; clear HB; have HO_281002 := n0_; have HO_281003 := n1_; have HO_290002 := n2_; have HO_290003 := n3_; have HO_301002 := n4_; have HO_301003 := n5_; have HO_338002 := n6_; have HO_338003 := n7_; have BK260 := n8_; have BK280 := n9_; have BK289 := n10_; have BK300 := n11_; have BK337 := n12_; have HB := n13_; clear n0_ n1_ n2_ n3_ n4_ n5_ n6_ n7_ n8_ n9_ n10_ n11_ n12_ n13_; (try clear hb); (try clear hb2); (try clear hk); (try clear hi)))
                 go_ret
                 exact ⟨by first | rfl | (simp [errW_none, errW_some] <;> rfl) | (simp [*, errW_none, errW_some] <;> rfl), by repeat (first | (with_reducible first | exact HB.out | apply below_alloc | apply pw_below_drewN | apply below_drew1 | refine below_set ?_ GE260.out | refine below_set ?_ GE280.out | refine below_set ?_ GE289.out | refine below_set ?_ GE300.out | refine below_set ?_ GE337.out) | exact HB.out)⟩
                ·
                 rw [if_neg c169] at H
                 have c169b0 : (t339 == t315) = false := beq_eq_false_iff_ne.mpr c169
                 have c169b1 : (t339 != t315) = true := bne_iff_ne.mpr c169
                 obtain rfl := Option.some.inj H
                 have hnb176 := NB300_260.out
                 have hnc176 := NB260_300.out
                 have hnb177 := NB300_280.out
                 have hnc177 := NB280_300.out
                 have hnb178 := NB300_289.out
                 have hnc178 := NB289_300.out
                 have hnb179 := NB300_337.out
                 have hnc179 := NB337_300.out
                 have hcz180_0 : wc.cell? ⟨gb300, 0, none⟩ = some (.int .i64 t291) := (blk_cell BK300.out 0).trans rfl
                 have hcz180_1 : wc.cell? ⟨gb300, 1, none⟩ = some (.int .i64 t292) := (blk_cell BK300.out 1).trans rfl
                 have hcz180_2 : wc.cell? ⟨gb300, 2, none⟩ = some (.slice Ao43 t316.length co43) := (blk_cell BK300.out 2).trans rfl
                 have hcz180_3 : wc.cell? ⟨gb300, 3, none⟩ = some (.slice Ao44 t317.length co44) := (blk_cell BK300.out 3).trans rfl
                 have hfz180_0 := blk_frozen BK300.out 0
                 have hfz180_1 := blk_frozen BK300.out 1
                 have hfz180_2 := blk_frozen BK300.out 2
                 have hfz180_3 := blk_frozen BK300.out 3
                 go_wp2_with (first | ((with_reducible refine gate_callee (f := 39) rfl ?_); refine goesL_ (some 124) rfl rfl Try.func39 (by kernel_rfl) rfl #[.agg #[.int .i64 t291, .int .i64 t292, .slice Ao43 t316.length co43, .slice Ao44 t317.length co44], .int .i64 1] rfl (by (try simp only [List.map_toArray, List.map_cons, List.map_nil]); first | done | rfl | (simp only [List.length_drop, List.length_take]; rfl)) ?_; (with_reducible refine (laws_heldStore.calls kj113 t291 t292 _ _ t316 _ _ t317 1 t339 _ ?side1 ?side2 ?side3 ?side4 A161.out).mono ?_); (case side1 => repeat (first | exact (Kd.R_reads' HO_301002.out).2.2 | (with_reducible refine Kd.C_alloc ?_ _) | (with_reducible refine Kd.C_drewN ?_ _) | (with_reducible refine Kd.C_drew ?_))); (case side2 => exact (Kd.R_reads' HO_301002.out).2.1); (case side3 => repeat (first | exact (Kd.R_reads' HO_301003.out).2.2 | (with_reducible refine Kd.C_alloc ?_ _) | (with_reducible refine Kd.C_drewN ?_ _) | (with_reducible refine Kd.C_drew ?_))); (case side4 => exact (Kd.R_reads' HO_301003.out).2.1); rintro e w181 ⟨rfl, hb⟩; refine ⟨_, rfl, ?_⟩; have n0_ := Aside0.mk (Kd.R_below (Zz.rR_ HO_281002.out) hb); have n1_ := Aside0.mk (Kd.R_below (Zz.rR_ HO_281003.out) hb); have n2_ := Aside0.mk (Kd.R_below (Zz.rR_ HO_290002.out) hb); have n3_ := Aside0.mk (Kd.R_below (Zz.rR_ HO_290003.out) hb); have n4_ := Aside0.mk (Kd.R_below (Zz.rR_ HO_301002.out) hb); have n5_ := Aside0.mk (Kd.R_below (Zz.rR_ HO_301003.out) hb); have n6_ := Aside0.mk (Kd.R_below (Zz.rR_ HO_338002.out) hb); have n7_ := Aside0.mk (Kd.R_below (Zz.rR_ HO_338003.out) hb); have n8_ := Aside0.mk (blk_below (g := gb260) (o := .cells #[.int .i64 a0_0, .int .i64 a0_1, .slice A0_2 l0_2.length c0_2, .slice A0_3 l0_3.length c0_3] 31 (0, 0)) (Zz.rb_ BK260.out) hb); have n9_ := Aside0.mk (blk_below (g := gb280) (o := .cells #[.int .i64 t271, .int .i64 t272, .slice Ao27 t273.length co27, .slice Ao28 t276.length co28] 36 (0, 0)) (Zz.rb_ BK280.out) hb); have n10_ := Aside0.mk (blk_below (g := gb289) (o := .cells #[.int .i64 t281, .int .i64 t282, .slice Ao35 t312.length co35, .slice Ao36 t313.length co36] 36 (0, 0)) (Zz.rb_ BK289.out) hb); have n11_ := Aside0.mk (blk_below (g := gb300) (o := .cells #[.int .i64 t291, .int .i64 t292, .slice Ao43 t316.length co43, .slice Ao44 t317.length co44] 36 (0, 0)) (Zz.rb_ BK300.out) hb); have n12_ := Aside0.mk (blk_below (g := gb337) (o := .cells #[.int .i64 t328, .int .i64 t329, .slice Ao135 t330.length co135, .slice Ao136 t333.length co136] 36 (0, 0)) (Zz.rb_ BK337.out) hb); have n13_ := Aside0.mk (below_step (Zz.rB_ HB.out) hb); clear HO_281002; clear HO_281003; clear HO_290002; clear HO_290003; clear HO_301002; clear HO_301003; clear HO_338002; clear HO_338003; clear BK260; clear BK280; clear BK289; clear BK300; clear BK337; clear HB; have HO_281002 := n0_; have HO_281003 := n1_; have HO_290002 := n2_; have HO_290003 := n3_; have HO_301002 := n4_; have HO_301003 := n5_; have HO_338002 := n6_; have HO_338003 := n7_; have BK260 := n8_; have BK280 := n9_; have BK289 := n10_; have BK300 := n11_; have BK337 := n12_; have HB := n13_; clear n0_ n1_ n2_ n3_ n4_ n5_ n6_ n7_ n8_ n9_ n10_ n11_ n12_ n13_; (try clear hb); (try clear hb2); (try clear hk); (try clear hi)))
                 go_ret
                 exact ⟨by first | rfl | (simp [errW_none, errW_some] <;> rfl) | (simp [*, errW_none, errW_some] <;> rfl), by repeat (first | (with_reducible first | exact HB.out | apply below_alloc | apply pw_below_drewN | apply below_drew1 | refine below_set ?_ GE260.out | refine below_set ?_ GE280.out | refine below_set ?_ GE289.out | refine below_set ?_ GE300.out | refine below_set ?_ GE337.out) | exact HB.out)⟩
           ·
            rw [if_neg c111] at H
            have c111b0 : (t318 == t315) = false := beq_eq_false_iff_ne.mpr c111
            have c111b1 : (t318 != t315) = true := bne_iff_ne.mpr c111
            obtain rfl := Option.some.inj H
            have hnb182 := NB300_260.out
            have hnc182 := NB260_300.out
            have hnb183 := NB300_280.out
            have hnc183 := NB280_300.out
            have hnb184 := NB300_289.out
            have hnc184 := NB289_300.out
            have hcz185_0 : wc.cell? ⟨gb300, 0, none⟩ = some (.int .i64 t291) := (blk_cell BK300.out 0).trans rfl
            have hcz185_1 : wc.cell? ⟨gb300, 1, none⟩ = some (.int .i64 t292) := (blk_cell BK300.out 1).trans rfl
            have hcz185_2 : wc.cell? ⟨gb300, 2, none⟩ = some (.slice Ao43 t293.length co43) := (blk_cell BK300.out 2).trans rfl
            have hcz185_3 : wc.cell? ⟨gb300, 3, none⟩ = some (.slice Ao44 t296.length co44) := (blk_cell BK300.out 3).trans rfl
            have hfz185_0 := blk_frozen BK300.out 0
            have hfz185_1 := blk_frozen BK300.out 1
            have hfz185_2 := blk_frozen BK300.out 2
            have hfz185_3 := blk_frozen BK300.out 3
            go_wp2_with (first | ((with_reducible refine gate_callee (f := 38) rfl ?_); refine goesL_ (some 90) rfl rfl Try.func38 (by kernel_rfl) rfl #[.agg #[.int .i64 t291, .int .i64 t292, .slice Ao43 t293.length co43, .slice Ao44 t296.length co44], .int .i64 1] rfl (by (try simp only [List.map_toArray, List.map_cons, List.map_nil]); first | done | rfl | (simp only [List.length_drop, List.length_take]; rfl)) ?_; (with_reducible refine (laws_markStore.calls kj68 t291 t292 (fun k_ => some k_ = (.slice Ao43 t293.length co43 : Value).ownBlock) (.slice Ao43 t293.length co43) t293 (fun k_ => some k_ = (.slice Ao44 t296.length co44 : Value).ownBlock) (.slice Ao44 t296.length co44) t296 1 t315 t316 t317 w _ ?side1 ?side2 ?side3 A101.out).mono ?_); (case side1 => exact Zz.rB_ HB.out); (case side2 => exact Kd.R_tight rfl HO_301002.out); (case side3 => exact Kd.R_tight rfl HO_301003.out); rintro e w186 ⟨rfl, hy0, hy1, hb, hkp⟩; refine ⟨_, rfl, ?_⟩; have n0_ := Aside0.mk (Kd.R_mono (ok' := fun k_ => some k_ ≠ (.slice Ao35 t312.length co35 : Value).ownBlock ∧ some k_ ≠ (.slice Ao43 t293.length co43 : Value).ownBlock) (Kd.R_keptB ((Kd.R_apart' HO_281002.out (Kd.R_typed HO_301003.out) (by decide))) hkp (fun k_ hk_ hs_ => Or.elim hs_ (fun e_ => (hk_.1.2) e_) (fun e_ => (hk_.2) e_))) (fun k_ hk_ => ⟨hk_.1.1.1, hk_.1.1.2⟩)); have n1_ := Aside0.mk (Kd.R_mono (ok' := fun k_ => some k_ ≠ (.slice Ao36 t313.length co36 : Value).ownBlock ∧ some k_ ≠ (.slice Ao44 t296.length co44 : Value).ownBlock) (Kd.R_keptB ((Kd.R_apart' HO_281003.out (Kd.R_typed HO_301002.out) (by decide))) hkp (fun k_ hk_ hs_ => Or.elim hs_ (fun e_ => (hk_.2) e_) (fun e_ => (hk_.1.2) e_))) (fun k_ hk_ => ⟨hk_.1.1.1, hk_.1.1.2⟩)); have n2_ := Aside0.mk (Kd.R_mono (ok' := fun k_ => some k_ ≠ (.slice Ao27 t273.length co27 : Value).ownBlock ∧ some k_ ≠ (.slice Ao43 t293.length co43 : Value).ownBlock) (Kd.R_keptB ((Kd.R_apart' HO_290002.out (Kd.R_typed HO_301003.out) (by decide))) hkp (fun k_ hk_ hs_ => Or.elim hs_ (fun e_ => (hk_.1.2) e_) (fun e_ => (hk_.2) e_))) (fun k_ hk_ => ⟨hk_.1.1.1, hk_.1.1.2⟩)); have n3_ := Aside0.mk (Kd.R_mono (ok' := fun k_ => some k_ ≠ (.slice Ao28 t276.length co28 : Value).ownBlock ∧ some k_ ≠ (.slice Ao44 t296.length co44 : Value).ownBlock) (Kd.R_keptB ((Kd.R_apart' HO_290003.out (Kd.R_typed HO_301002.out) (by decide))) hkp (fun k_ hk_ hs_ => Or.elim hs_ (fun e_ => (hk_.2) e_) (fun e_ => (hk_.1.2) e_))) (fun k_ hk_ => ⟨hk_.1.1.1, hk_.1.1.2⟩)); have n4_ := Aside0.mk (Kd.R_reok rfl hy0 (fun k_ e_ => HO_301002.out.1 k_ e_)); have n5_ := Aside0.mk (Kd.R_reok rfl hy1 (fun k_ e_ => HO_301003.out.1 k_ e_)); have n6_ := Aside0.mk (blk_kept (Zz.rb_ BK260.out) hkp (fun hs_ => Or.elim hs_ (fun e_ => (fun e_ => (Kd.R_ne HO_301002.out BK260.out (by decide)) e_) e_) (fun e_ => (fun e_ => (Kd.R_ne HO_301003.out BK260.out (by decide)) e_) e_))); have n7_ := Aside0.mk (blk_kept (Zz.rb_ BK280.out) hkp (fun hs_ => Or.elim hs_ (fun e_ => (fun e_ => (Kd.R_ne HO_301002.out BK280.out (by decide)) e_) e_) (fun e_ => (fun e_ => (Kd.R_ne HO_301003.out BK280.out (by decide)) e_) e_))); have n8_ := Aside0.mk (blk_kept (Zz.rb_ BK289.out) hkp (fun hs_ => Or.elim hs_ (fun e_ => (fun e_ => (Kd.R_ne HO_301002.out BK289.out (by decide)) e_) e_) (fun e_ => (fun e_ => (Kd.R_ne HO_301003.out BK289.out (by decide)) e_) e_))); have n9_ := Aside0.mk (blk_kept (Zz.rb_ BK300.out) hkp (fun hs_ => Or.elim hs_ (fun e_ => (fun e_ => (Kd.R_ne HO_301002.out BK300.out (by decide)) e_) e_) (fun e_ => (fun e_ => (Kd.R_ne HO_301003.out BK300.out (by decide)) e_) e_))); have n10_ := Aside0.mk (hb); clear HO_281002; clear HO_281003; clear HO_290002; clear HO_290003; clear HO_301002; clear HO_301003; clear BK260; clear BK280; clear BK289; clear BK300; clear HB; have HO_281002 := n0_; have HO_281003 := n1_; have HO_290002 := n2_; have HO_290003 := n3_; have HO_301002 := n4_; have HO_301003 := n5_; have BK260 := n6_; have BK280 := n7_; have BK289 := n8_; have BK300 := n9_; have HB := n10_; clear n0_ n1_ n2_ n3_ n4_ n5_ n6_ n7_ n8_ n9_ n10_; (try clear hb); (try clear hkp); (try clear hy0); (try clear hy1); have hcz187_0 : w186.cell? ⟨gb300, 0, none⟩ = some (.int .i64 t291) := (blk_cell BK300.out 0).trans rfl; have hcz187_1 : w186.cell? ⟨gb300, 1, none⟩ = some (.int .i64 t292) := (blk_cell BK300.out 1).trans rfl; have hcz187_2 : w186.cell? ⟨gb300, 2, none⟩ = some (.slice Ao43 t293.length co43) := (blk_cell BK300.out 2).trans rfl; have hcz187_3 : w186.cell? ⟨gb300, 3, none⟩ = some (.slice Ao44 t296.length co44) := (blk_cell BK300.out 3).trans rfl; have hfz187_0 := blk_frozen BK300.out 0; have hfz187_1 := blk_frozen BK300.out 1; have hfz187_2 := blk_frozen BK300.out 2; have hfz187_3 := blk_frozen BK300.out 3) | ((with_reducible refine gate_callee (f := 39) rfl ?_); refine goesL_ (some 93) rfl rfl Try.func39 (by kernel_rfl) rfl #[.agg #[.int .i64 t291, .int .i64 t292, .slice Ao43 t316.length co43, .slice Ao44 t317.length co44], .int .i64 1] rfl (by (try simp only [List.map_toArray, List.map_cons, List.map_nil]); first | done | (rw [show t316.length = t293.length from (Kd.R_reads' HO_301002.out).1.symm, show t317.length = t296.length from (Kd.R_reads' HO_301003.out).1.symm] <;> rfl) | rfl | (simp only [List.length_drop, List.length_take]; rfl)) ?_; (with_reducible refine (laws_heldStore.calls kj68 t291 t292 _ _ t316 _ _ t317 1 t318 _ ?side1 ?side2 ?side3 ?side4 A102.out).mono ?_); (case side1 => repeat (first | exact (Kd.R_reads' HO_301002.out).2.2 | (with_reducible refine Kd.C_alloc ?_ _) | (with_reducible refine Kd.C_drewN ?_ _) | (with_reducible refine Kd.C_drew ?_))); (case side2 => rw [show t316.length = t293.length from (Kd.R_reads' HO_301002.out).1.symm]; exact (Kd.R_reads' HO_301002.out).2.1); (case side3 => repeat (first | exact (Kd.R_reads' HO_301003.out).2.2 | (with_reducible refine Kd.C_alloc ?_ _) | (with_reducible refine Kd.C_drewN ?_ _) | (with_reducible refine Kd.C_drew ?_))); (case side4 => rw [show t317.length = t296.length from (Kd.R_reads' HO_301003.out).1.symm]; exact (Kd.R_reads' HO_301003.out).2.1); rintro e w188 ⟨rfl, hb⟩; refine ⟨_, rfl, ?_⟩; have n0_ := Aside0.mk (Kd.R_below (Zz.rR_ HO_281002.out) hb); have n1_ := Aside0.mk (Kd.R_below (Zz.rR_ HO_281003.out) hb); have n2_ := Aside0.mk (Kd.R_below (Zz.rR_ HO_290002.out) hb); have n3_ := Aside0.mk (Kd.R_below (Zz.rR_ HO_290003.out) hb); have n4_ := Aside0.mk (Kd.R_below (Zz.rR_ HO_301002.out) hb); have n5_ := Aside0.mk (Kd.R_below (Zz.rR_ HO_301003.out) hb); have n6_ := Aside0.mk (blk_below (g := gb260) (o := .cells #[.int .i64 a0_0, .int .i64 a0_1, .slice A0_2 l0_2.length c0_2, .slice A0_3 l0_3.length c0_3] 31 (0, 0)) (Zz.rb_ BK260.out) hb); have n7_ := Aside0.mk (blk_below (g := gb280) (o := .cells #[.int .i64 t271, .int .i64 t272, .slice Ao27 t273.length co27, .slice Ao28 t276.length co28] 36 (0, 0)) (Zz.rb_ BK280.out) hb); have n8_ := Aside0.mk (blk_below (g := gb289) (o := .cells #[.int .i64 t281, .int .i64 t282, .slice Ao35 t312.length co35, .slice Ao36 t313.length co36] 36 (0, 0)) (Zz.rb_ BK289.out) hb); have n9_ := Aside0.mk (blk_below (g := gb300) (o := .cells #[.int .i64 t291, .int .i64 t292, .slice Ao43 t293.length co43, .slice Ao44 t296.length co44] 36 (0, 0)) (Zz.rb_ BK300.out) hb); have n10_ := Aside0.mk (below_step (Zz.rB_ HB.out) hb); clear HO_281002; clear HO_281003; clear HO_290002; clear HO_290003; clear HO_301002; clear HO_301003; clear BK260; clear BK280; clear BK289; clear BK300; clear HB; have HO_281002 := n0_; have HO_281003 := n1_; have HO_290002 := n2_; have HO_290003 := n3_; have HO_301002 := n4_; have HO_301003 := n5_; have BK260 := n6_; have BK280 := n7_; have BK289 := n8_; have BK300 := n9_; have HB := n10_; clear n0_ n1_ n2_ n3_ n4_ n5_ n6_ n7_ n8_ n9_ n10_; (try clear hb); (try clear hb2); (try clear hk); (try clear hi)))
            go_ret
            exact ⟨by first | rfl | (simp [errW_none, errW_some] <;> rfl) | (simp [*, errW_none, errW_some] <;> rfl), by repeat (first | (with_reducible first | exact HB.out | apply below_alloc | apply pw_below_drewN | apply below_drew1 | refine below_set ?_ GE260.out | refine below_set ?_ GE280.out | refine below_set ?_ GE289.out | refine below_set ?_ GE300.out) | exact HB.out)⟩
      ·
       replace c67 := Bool.eq_false_iff.mpr c67
       subst c67
       have H1 : (some false) = some r := by rw [if_neg (show ¬ (false = true) by decide)] at H; exact H
       clear H
       have H := H1
       clear H1
       obtain rfl := Option.some.inj H
       try go_wp2
       have n0_ := Aside0.mk (Kd.R_drew HO_281002.out)
       have n1_ := Aside0.mk (Kd.R_drew HO_281003.out)
       have n2_ := Aside0.mk (Kd.R_drew HO_290002.out)
       have n3_ := Aside0.mk (Kd.R_drew HO_290003.out)
       have n4_ := Aside0.mk (Kd.R_drew HO_301002.out)
       have n5_ := Aside0.mk (Kd.R_drew HO_301003.out)
       have n6_ := Aside0.mk (blk_drew BK260.out)
       have n7_ := Aside0.mk (blk_drew BK280.out)
       have n8_ := Aside0.mk (blk_drew BK289.out)
       have n9_ := Aside0.mk (blk_drew BK300.out)
       have n10_ := Aside0.mk (below_drew1 HB.out)
       clear HO_281002
       clear HO_281003
       clear HO_290002
       clear HO_290003
       clear HO_301002
       clear HO_301003
       clear BK260
       clear BK280
       clear BK289
       clear BK300
       clear HB
       have HO_281002 := n0_
       have HO_281003 := n1_
       have HO_290002 := n2_
       have HO_290003 := n3_
       have HO_301002 := n4_
       have HO_301003 := n5_
       have BK260 := n6_
       have BK280 := n7_
       have BK289 := n8_
       have BK300 := n9_
       have HB := n10_
       clear n0_ n1_ n2_ n3_ n4_ n5_ n6_ n7_ n8_ n9_ n10_
       refine start_ (n := 5) (S := fun w' => w'.cell? ⟨gb289, 0, none⟩ = some (.int .i64 t281) ∧ w'.cell? ⟨gb289, 1, none⟩ = some (.int .i64 t282) ∧ w'.cell? ⟨gb289, 2, none⟩ = some (.slice Ao35 t283.length co35) ∧ w'.cell? ⟨gb289, 3, none⟩ = some (.slice Ao36 t286.length co36) ∧ w'.cell? ⟨gb260, 0, none⟩ = some (.int .i64 a0_0) ∧ w'.cell? ⟨gb260, 1, none⟩ = some (.int .i64 a0_1) ∧ w'.cell? ⟨gb260, 2, none⟩ = some (.slice A0_2 l0_2.length c0_2) ∧ w'.cell? ⟨gb260, 3, none⟩ = some (.slice A0_3 l0_3.length c0_3)) (ds := []) #[false, false, false, false, false] (by kernel_rfl) rfl rfl ⟨(blk_cell BK289.out 0).trans rfl, (blk_cell BK289.out 1).trans rfl, (blk_cell BK289.out 2).trans rfl, (blk_cell BK289.out 3).trans rfl, (blk_cell BK260.out 0).trans rfl, (blk_cell BK260.out 1).trans rfl, (blk_cell BK260.out 2).trans rfl, (blk_cell BK260.out 3).trans rfl⟩ (fun hHeld => ?_)
       generalize wc.drew = w189 at HO_281002 HO_281003 HO_290002 HO_290003 HO_301002 HO_301003 BK260 BK280 BK289 BK300 HB hHeld ⊢
       refine take_ (i := 0) (N := some 62) (v := ?_) (a' := ?_) #[true, false, false, false, false] rfl rfl (by kernel_rfl) (fun _ _ _ h => h) (Or.inl ⟨by rfl, ?_⟩) hHeld ?_ ?_
       rotate_left
       ·
        rintro w' ⟨s0, s1, s2, s3, s4, s5, s6, s7⟩
        go_simp
        with_reducible rfl
       rotate_left
       ·
        simp only [Act.put, List.setIfInBounds_toArray, List.set_cons_zero, List.set_cons_succ, i64_w, i32_w]
        rfl
       refine take_ (i := 1) (N := some 63) (v := ?_) (a' := ?_) #[true, true, false, false, false] rfl rfl (by kernel_rfl) (fun _ _ _ h => h) (Or.inl ⟨by rfl, ?_⟩) hHeld ?_ ?_
       rotate_left
       ·
        rintro w' ⟨s0, s1, s2, s3, s4, s5, s6, s7⟩
        go_simp
        with_reducible rfl
       rotate_left
       ·
        simp only [Act.put, List.setIfInBounds_toArray, List.set_cons_zero, List.set_cons_succ, i64_w, i32_w]
        rfl
       refine one_ (i := 2) (N := some 64) #[true, true, true, false, false] rfl rfl (by kernel_rfl) (by decide) (fun K hK => ?_)
       refine goes_ Try.func20 (by kernel_rfl) rfl #[.agg #[.int .i64 a0_0, .int .i64 a0_1, .slice A0_2 l0_2.length c0_2, .slice A0_3 l0_3.length c0_3]] (by rfl) rfl rfl (by (try simp only [List.map_toArray, List.map_cons, List.map_nil]); first | done | rfl | (simp only [List.length_drop, List.length_take]; rfl)) ?_
       with_reducible refine (laws_toStore.calls kj14 a0_0 a0_1 _ _ l0_2 _ _ l0_3 t302 t303 t304 t307 _ ?side1 ?side2 ?side3 ?side4 A65.out).mono ?_
       (case side1 => repeat (first | exact (Kd.C_below HR0_2.out HB.out) | (with_reducible refine Kd.C_alloc ?_ _) | (with_reducible refine Kd.C_drewN ?_ _) | (with_reducible refine Kd.C_drew ?_)))
       (case side2 => exact HC0_2.out)
       (case side3 => repeat (first | exact (Kd.C_below HR0_3.out HB.out) | (with_reducible refine Kd.C_alloc ?_ _) | (with_reducible refine Kd.C_drewN ?_ _) | (with_reducible refine Kd.C_drew ?_)))
       (case side4 => exact HC0_3.out)
       rintro e w190 ⟨v305, v308, rfl, ho0, ho1, hb⟩
       refine ⟨_, rfl, ?_⟩
       have n0_ := Aside0.mk (Kd.R_elder' (Zz.rR_ HO_281002.out) (Kd.R_base ho0) hb)
       have n1_ := Aside0.mk (Kd.R_elder' (Zz.rR_ HO_281003.out) (Kd.R_base ho1) hb)
       have n2_ := Aside0.mk (Kd.R_elder' (Zz.rR_ HO_290002.out) (Kd.R_base ho0) hb)
       have n3_ := Aside0.mk (Kd.R_elder' (Zz.rR_ HO_290003.out) (Kd.R_base ho1) hb)
       have n4_ := Aside0.mk (Kd.R_elder' (Zz.rR_ HO_301002.out) (Kd.R_base ho0) hb)
       have n5_ := Aside0.mk (Kd.R_elder' (Zz.rR_ HO_301003.out) (Kd.R_base ho1) hb)
       have n6_ := Aside0.mk (Kd.R_lower (Kd.R_new' (Kd.R_new' (Kd.R_new' ho0 (Kd.R_lt (Zz.rR_ HO_281002.out))) (Kd.R_lt (Zz.rR_ HO_290002.out))) (Kd.R_lt (Zz.rR_ HO_301002.out))) (below_size (Zz.rB_ HB.out)))
       have n7_ := Aside0.mk (Kd.R_lower (Kd.R_new' (Kd.R_new' (Kd.R_new' ho1 (Kd.R_lt (Zz.rR_ HO_281003.out))) (Kd.R_lt (Zz.rR_ HO_290003.out))) (Kd.R_lt (Zz.rR_ HO_301003.out))) (below_size (Zz.rB_ HB.out)))
       have n8_ := Aside0.mk (blk_below (g := gb260) (o := .cells #[.int .i64 a0_0, .int .i64 a0_1, .slice A0_2 l0_2.length c0_2, .slice A0_3 l0_3.length c0_3] 31 (0, 0)) (Zz.rb_ BK260.out) hb)
       have n9_ := Aside0.mk (blk_below (g := gb280) (o := .cells #[.int .i64 t271, .int .i64 t272, .slice Ao27 t273.length co27, .slice Ao28 t276.length co28] 36 (0, 0)) (Zz.rb_ BK280.out) hb)
       have n10_ := Aside0.mk (blk_below (g := gb289) (o := .cells #[.int .i64 t281, .int .i64 t282, .slice Ao35 t283.length co35, .slice Ao36 t286.length co36] 36 (0, 0)) (Zz.rb_ BK289.out) hb)
       have n11_ := Aside0.mk (blk_below (g := gb300) (o := .cells #[.int .i64 t291, .int .i64 t292, .slice Ao43 t293.length co43, .slice Ao44 t296.length co44] 36 (0, 0)) (Zz.rb_ BK300.out) hb)
       have n12_ := Aside0.mk (below_step (Zz.rB_ HB.out) hb)
       clear HO_281002
       clear HO_281003
       clear HO_290002
       clear HO_290003
       clear HO_301002
       clear HO_301003
       clear BK260
       clear BK280
       clear BK289
       clear BK300
       clear HB
       have HO_281002 := n0_
       have HO_281003 := n1_
       have HO_290002 := n2_
       have HO_290003 := n3_
       have HO_301002 := n4_
       have HO_301003 := n5_
       have HO306 := n6_
       have HO309 := n7_
       have BK260 := n8_
       have BK280 := n9_
       have BK289 := n10_
       have BK300 := n11_
       have HB := n12_
       clear n0_ n1_ n2_ n3_ n4_ n5_ n6_ n7_ n8_ n9_ n10_ n11_ n12_
       (try clear hb)
       (try clear hb2)
       (try clear hk)
       (try clear hi)
       (try clear ho0)
       (try clear ho1)
       obtain ⟨Ao191, co191, eo191⟩ := Kd.R_slice HO306.out
       (first | subst eo191 | (injection eo191 with f1_ f2_ f3_; have f4_ := f1_.symm; have f5_ := f3_.symm; clear f1_ f2_ f3_; subst f4_; subst f5_))
       obtain ⟨Ao192, co192, eo192⟩ := Kd.R_slice HO309.out
       (first | subst eo192 | (injection eo192 with f1_ f2_ f3_; have f4_ := f1_.symm; have f5_ := f3_.symm; clear f1_ f2_ f3_; subst f4_; subst f5_))
       refine hK.out _ _ ⟨(blk_cell BK289.out 0).trans rfl, (blk_cell BK289.out 1).trans rfl, (blk_cell BK289.out 2).trans rfl, (blk_cell BK289.out 3).trans rfl, (blk_cell BK260.out 0).trans rfl, (blk_cell BK260.out 1).trans rfl, (blk_cell BK260.out 2).trans rfl, (blk_cell BK260.out 3).trans rfl⟩ (fun hHeld => ?_)
       clear hK K
       refine norm_ (a' := ?_) ?_ ?_
       rotate_left
       ·
        show Act.put _ (some 64) _ = _
        simp only [Act.put, List.setIfInBounds_toArray, List.set_cons_zero, List.set_cons_succ, i64_w, i32_w]
        rfl
       refine one_ (i := 3) (N := some 65) #[true, true, true, true, false] rfl rfl (by kernel_rfl) (by decide) (fun K hK => ?_)
       refine goes_ Try.func22 (by kernel_rfl) rfl #[.agg #[.int .i64 t281, .int .i64 t282, .slice Ao35 t283.length co35, .slice Ao36 t286.length co36], .agg #[.int .i64 t302, .int .i64 t303, .slice Ao191 t304.length co191, .slice Ao192 t307.length co192]] (by rfl) rfl rfl (by (try simp only [List.map_toArray, List.map_cons, List.map_nil]); first | done | rfl | (simp only [List.length_drop, List.length_take]; rfl)) ?_
       with_reducible refine (laws_eqStore.calls kj14 t281 t282 _ _ t283 _ _ t286 t302 t303 _ _ t304 _ _ t307 false _ ?side1 ?side2 ?side3 ?side4 ?side5 ?side6 ?side7 ?side8 A66.out).mono ?_
       (case side1 => repeat (first | exact (Kd.R_reads' HO_290002.out).2.2 | (with_reducible refine Kd.C_alloc ?_ _) | (with_reducible refine Kd.C_drewN ?_ _) | (with_reducible refine Kd.C_drew ?_)))
       (case side2 => exact (Kd.R_reads' HO_290002.out).2.1)
       (case side3 => repeat (first | exact (Kd.R_reads' HO_290003.out).2.2 | (with_reducible refine Kd.C_alloc ?_ _) | (with_reducible refine Kd.C_drewN ?_ _) | (with_reducible refine Kd.C_drew ?_)))
       (case side4 => exact (Kd.R_reads' HO_290003.out).2.1)
       (case side5 => repeat (first | exact (Kd.R_reads' HO306.out).2.2 | (with_reducible refine Kd.C_alloc ?_ _) | (with_reducible refine Kd.C_drewN ?_ _) | (with_reducible refine Kd.C_drew ?_)))
       (case side6 => exact (Kd.R_reads' HO306.out).2.1)
       (case side7 => repeat (first | exact (Kd.R_reads' HO309.out).2.2 | (with_reducible refine Kd.C_alloc ?_ _) | (with_reducible refine Kd.C_drewN ?_ _) | (with_reducible refine Kd.C_drew ?_)))
       (case side8 => exact (Kd.R_reads' HO309.out).2.1)
       rintro e w193 ⟨rfl, hb⟩
       refine ⟨_, rfl, ?_⟩
       have n0_ := Aside0.mk (Kd.R_below (Zz.rR_ HO_281002.out) hb)
       have n1_ := Aside0.mk (Kd.R_below (Zz.rR_ HO_281003.out) hb)
       have n2_ := Aside0.mk (Kd.R_below (Zz.rR_ HO_290002.out) hb)
       have n3_ := Aside0.mk (Kd.R_below (Zz.rR_ HO_290003.out) hb)
       have n4_ := Aside0.mk (Kd.R_below (Zz.rR_ HO_301002.out) hb)
       have n5_ := Aside0.mk (Kd.R_below (Zz.rR_ HO_301003.out) hb)
       have n6_ := Aside0.mk (Kd.R_below (Zz.rR_ HO306.out) hb)
       have n7_ := Aside0.mk (Kd.R_below (Zz.rR_ HO309.out) hb)
       have n8_ := Aside0.mk (blk_below (g := gb260) (o := .cells #[.int .i64 a0_0, .int .i64 a0_1, .slice A0_2 l0_2.length c0_2, .slice A0_3 l0_3.length c0_3] 31 (0, 0)) (Zz.rb_ BK260.out) hb)
       have n9_ := Aside0.mk (blk_below (g := gb280) (o := .cells #[.int .i64 t271, .int .i64 t272, .slice Ao27 t273.length co27, .slice Ao28 t276.length co28] 36 (0, 0)) (Zz.rb_ BK280.out) hb)
       have n10_ := Aside0.mk (blk_below (g := gb289) (o := .cells #[.int .i64 t281, .int .i64 t282, .slice Ao35 t283.length co35, .slice Ao36 t286.length co36] 36 (0, 0)) (Zz.rb_ BK289.out) hb)
       have n11_ := Aside0.mk (blk_below (g := gb300) (o := .cells #[.int .i64 t291, .int .i64 t292, .slice Ao43 t293.length co43, .slice Ao44 t296.length co44] 36 (0, 0)) (Zz.rb_ BK300.out) hb)
       have n12_ := Aside0.mk (below_step (Zz.rB_ HB.out) hb)
       clear HO_281002
       clear HO_281003
       clear HO_290002
       clear HO_290003
       clear HO_301002
       clear HO_301003
       clear HO306
       clear HO309
       clear BK260
       clear BK280
       clear BK289
       clear BK300
       clear HB
       have HO_281002 := n0_
       have HO_281003 := n1_
       have HO_290002 := n2_
       have HO_290003 := n3_
       have HO_301002 := n4_
       have HO_301003 := n5_
       have HO306 := n6_
       have HO309 := n7_
       have BK260 := n8_
       have BK280 := n9_
       have BK289 := n10_
       have BK300 := n11_
       have HB := n12_
       clear n0_ n1_ n2_ n3_ n4_ n5_ n6_ n7_ n8_ n9_ n10_ n11_ n12_
       (try clear hb)
       (try clear hb2)
       (try clear hk)
       (try clear hi)
       refine hK.out _ _ ⟨(blk_cell BK289.out 0).trans rfl, (blk_cell BK289.out 1).trans rfl, (blk_cell BK289.out 2).trans rfl, (blk_cell BK289.out 3).trans rfl, (blk_cell BK260.out 0).trans rfl, (blk_cell BK260.out 1).trans rfl, (blk_cell BK260.out 2).trans rfl, (blk_cell BK260.out 3).trans rfl⟩ (fun hHeld => ?_)
       clear hK K
       refine norm_ (a' := ?_) ?_ ?_
       rotate_left
       ·
        show Act.put _ (some 65) _ = _
        simp only [Act.put, List.setIfInBounds_toArray, List.set_cons_zero, List.set_cons_succ, i64_w, i32_w]
        rfl
       refine pure_ (i := 4) (N := some 66) (v := ?_) (a' := ?_) #[true, true, true, true, true] rfl rfl (by kernel_rfl) (fun _ _ _ h => h) (Or.inl ⟨by rfl, ?_⟩) ?_ ?_
       rotate_left
       ·
        intro w'
        go_simp
        with_reducible rfl
       rotate_left
       ·
        simp only [Act.put, List.setIfInBounds_toArray, List.set_cons_zero, List.set_cons_succ, i64_w, i32_w]
        rfl
       refine done_ (by kernel_rfl) ?_
       try go_wp2
       go_ret
       exact ⟨by first | rfl | (simp [errW_none, errW_some] <;> rfl) | (simp [*, errW_none, errW_some] <;> rfl), by repeat (first | (with_reducible first | exact HB.out | apply below_alloc | apply pw_below_drewN | apply below_drew1 | refine below_set ?_ GE260.out | refine below_set ?_ GE280.out | refine below_set ?_ GE289.out | refine below_set ?_ GE300.out) | exact HB.out)⟩

end Go.Proofs.Ytbhkinfdilngiaa.PFnExactGet

-- Walks of printed functions (by wip/gen.py of this session, with the kit's program).
import Derived.Test.YtbhkinfdilngiaaGFnExactValidFetchx0
import Derived.Test.YtbhkinfdilngiaaGFnExactValidFetchx1
import Derived.Test.YtbhkinfdilngiaaGFnExactValidFetchx3
import Derived.Test.YtbhkinfdilngiaaGFnExactValidFetchx4
namespace Go.Proofs.Ytbhkinfdilngiaa.PFnExactValidFetch
open Go.RowKit Go.Proofs.YtbhkinfdilngiaaW.PrintWords Go.Proofs.YtbhkinfdilngiaaW.PrintLast Go.Proofs.YtbhkinfdilngiaaW.PrintMore
attribute [local go_sem] max2_int min2_int max_two min_two max_three min_three max_four min_four   -- for this text's walks alone
attribute [local go_sem] Go.Proofs.Ytbhkinfdilngiaa.L.str_geq
set_option linter.unusedVariables false
set_option linter.unusedSimpArgs false

/-! ### spec_ValidFetch: function 45 -/
mutual
def spec_ValidFetch.j0 : Nat → Bool → ByteArray → Int → Bool → Int → Int → List (S92) → List ByteArray → List (S112) → Option (Bool)
 | 0, _, _, _, _, _, _, _, _, _ => none
 | k + 1, x31, x138000, x138001, x138002, x138003, x138004, x138005, x138006, x138007 => if x31 = true then (some false) else (spec_ValidFetch.l0 k 0 x138000 x138001 x138002 x138003 x138004 x138005 x138006 x138007)
def spec_ValidFetch.l0 : Nat → Int → ByteArray → Int → Bool → Int → Int → List (S92) → List ByteArray → List (S112) → Option (Bool)
 | 0, _, _, _, _, _, _, _, _, _ => none
 | k + 1, x3, x138000, x138001, x138002, x138003, x138004, x138005, x138006, x138007 => if x3 < (x138007.length : Int) then (if 0 ≤ x3 then ((spec_l1In.f ((rd_T112 x138007 x3).f0) 0 3).bind fun t144 => (if t144 = true then ((spec_l1In.f ((rd_T112 x138007 x3).f1) 0 5).bind fun t145 => (if t145 = true then ((spec_l1In.f ((rd_T112 x138007 x3).f2) (-1) x138001).bind fun t146 => (if t146 = true then (spec_ValidFetch.j2 k x3 (decide ((((rd_T112 x138007 x3).f4).length : Int) > 376)) x138000 x138001 x138002 x138003 x138004 x138005 x138006 x138007 ((rd_T112 x138007 x3).f0) ((rd_T112 x138007 x3).f1) ((rd_T112 x138007 x3).f2) ((rd_T112 x138007 x3).f3) ((rd_T112 x138007 x3).f4)) else (spec_ValidFetch.j2 k x3 true x138000 x138001 x138002 x138003 x138004 x138005 x138006 x138007 ((rd_T112 x138007 x3).f0) ((rd_T112 x138007 x3).f1) ((rd_T112 x138007 x3).f2) ((rd_T112 x138007 x3).f3) ((rd_T112 x138007 x3).f4)))) else (spec_ValidFetch.j2 k x3 true x138000 x138001 x138002 x138003 x138004 x138005 x138006 x138007 ((rd_T112 x138007 x3).f0) ((rd_T112 x138007 x3).f1) ((rd_T112 x138007 x3).f2) ((rd_T112 x138007 x3).f3) ((rd_T112 x138007 x3).f4)))) else (spec_ValidFetch.j2 k x3 true x138000 x138001 x138002 x138003 x138004 x138005 x138006 x138007 ((rd_T112 x138007 x3).f0) ((rd_T112 x138007 x3).f1) ((rd_T112 x138007 x3).f2) ((rd_T112 x138007 x3).f3) ((rd_T112 x138007 x3).f4)))) else (none)) else (some true)
def spec_ValidFetch.j2 : Nat → Int → Bool → ByteArray → Int → Bool → Int → Int → List (S92) → List ByteArray → List (S112) → Int → Int → Int → ByteArray → List ByteArray → Option (Bool)
 | 0, _, _, _, _, _, _, _, _, _, _, _, _, _, _, _ => none
 | k + 1, x3, x67, x138000, x138001, x138002, x138003, x138004, x138005, x138006, x138007, x144000, x144001, x144002, x144003, x144004 => if x67 = true then (some false) else (if x144001 > 0 then (if (x144003.size : Int) = x138003 then (if x144001 = 0 then (spec_ValidFetch.j3 k x3 (x144003.toList != ([] : List UInt8)) x138000 x138001 x138002 x138003 x138004 x138005 x138006 x138007 x144000 x144001 x144002 x144003 x144004) else (spec_ValidFetch.j3 k x3 false x138000 x138001 x138002 x138003 x138004 x138005 x138006 x138007 x144000 x144001 x144002 x144003 x144004)) else (spec_ValidFetch.j3 k x3 true x138000 x138001 x138002 x138003 x138004 x138005 x138006 x138007 x144000 x144001 x144002 x144003 x144004)) else (if x144001 = 0 then (spec_ValidFetch.j3 k x3 (x144003.toList != ([] : List UInt8)) x138000 x138001 x138002 x138003 x138004 x138005 x138006 x138007 x144000 x144001 x144002 x144003 x144004) else (spec_ValidFetch.j3 k x3 false x138000 x138001 x138002 x138003 x138004 x138005 x138006 x138007 x144000 x144001 x144002 x144003 x144004)))
def spec_ValidFetch.j3 : Nat → Int → Bool → ByteArray → Int → Bool → Int → Int → List (S92) → List ByteArray → List (S112) → Int → Int → Int → ByteArray → List ByteArray → Option (Bool)
 | 0, _, _, _, _, _, _, _, _, _, _, _, _, _, _, _ => none
 | k + 1, x3, x89, x138000, x138001, x138002, x138003, x138004, x138005, x138006, x138007, x144000, x144001, x144002, x144003, x144004 => if x89 = true then (some false) else (spec_ValidFetch.l1 k x3 0 x138000 x138001 x138002 x138003 x138004 x138005 x138006 x138007 x144000 x144001 x144002 x144003 x144004)
def spec_ValidFetch.l1 : Nat → Int → Int → ByteArray → Int → Bool → Int → Int → List (S92) → List ByteArray → List (S112) → Int → Int → Int → ByteArray → List ByteArray → Option (Bool)
 | 0, _, _, _, _, _, _, _, _, _, _, _, _, _, _, _ => none
 | k + 1, x3, x5, x138000, x138001, x138002, x138003, x138004, x138005, x138006, x138007, x144000, x144001, x144002, x144003, x144004 => if x5 < (x144004.length : Int) then (if 0 ≤ x5 then (if ((rdOf ByteArray.empty x144004 x5).size : Int) = x138003 then (if x5 > 0 then (if 0 ≤ (wrap64 (x5 - 1)) then (if (wrap64 (x5 - 1)) < (x144004.length : Int) then (if ((Op.bytesLess ((rdOf ByteArray.empty x144004 (wrap64 (x5 - 1))).toList) ((rdOf ByteArray.empty x144004 x5).toList)) = true) then (spec_ValidFetch.l1 k x3 (wrap64 (x5 + 1)) x138000 x138001 x138002 x138003 x138004 x138005 x138006 x138007 x144000 x144001 x144002 x144003 x144004) else (some false)) else (none)) else (none)) else (spec_ValidFetch.l1 k x3 (wrap64 (x5 + 1)) x138000 x138001 x138002 x138003 x138004 x138005 x138006 x138007 x144000 x144001 x144002 x144003 x144004)) else (some false)) else (none)) else (spec_ValidFetch.l0 k (wrap64 (x3 + 1)) x138000 x138001 x138002 x138003 x138004 x138005 x138006 x138007)
end
def spec_ValidFetch.f (k : Nat) (a0_0 : ByteArray) (a0_1 : Int) (a0_2 : Bool) (a0_3 : Int) (a0_4 : Int) (l0_5 : List (S92)) (l0_6 : List ByteArray) (l0_7 : List (S112)) : Option (Bool) := (spec_ValidStore.f k a0_3 a0_4 l0_5 l0_6).bind fun t138 => (if t138 = true then ((spec_l2In.f k l0_6 a0_0).bind fun t139 => (if t139 = true then ((spec_l1In.f a0_1 0 1000000).bind fun t140 => (if t140 = true then ((spec_l1In.f (l0_7.length : Int) 1 5).bind fun t141 => (spec_ValidFetch.j0 k (!t141) a0_0 a0_1 a0_2 a0_3 a0_4 l0_5 l0_6 l0_7)) else (spec_ValidFetch.j0 k true a0_0 a0_1 a0_2 a0_3 a0_4 l0_5 l0_6 l0_7))) else (spec_ValidFetch.j0 k true a0_0 a0_1 a0_2 a0_3 a0_4 l0_5 l0_6 l0_7))) else (spec_ValidFetch.j0 k true a0_0 a0_1 a0_2 a0_3 a0_4 l0_5 l0_6 l0_7))
theorem spec_ValidFetch.mono_l : ∀ k, (∀ y0 y1 y2 y3 y4 y5 y6 y7 y8, LeO (spec_ValidFetch.j0 k y0 y1 y2 y3 y4 y5 y6 y7 y8) (spec_ValidFetch.j0 (k + 1) y0 y1 y2 y3 y4 y5 y6 y7 y8)) ∧ (∀ y0 y1 y2 y3 y4 y5 y6 y7 y8, LeO (spec_ValidFetch.l0 k y0 y1 y2 y3 y4 y5 y6 y7 y8) (spec_ValidFetch.l0 (k + 1) y0 y1 y2 y3 y4 y5 y6 y7 y8)) ∧ (∀ y0 y1 y2 y3 y4 y5 y6 y7 y8 y9 y10 y11 y12 y13 y14, LeO (spec_ValidFetch.j2 k y0 y1 y2 y3 y4 y5 y6 y7 y8 y9 y10 y11 y12 y13 y14) (spec_ValidFetch.j2 (k + 1) y0 y1 y2 y3 y4 y5 y6 y7 y8 y9 y10 y11 y12 y13 y14)) ∧ (∀ y0 y1 y2 y3 y4 y5 y6 y7 y8 y9 y10 y11 y12 y13 y14, LeO (spec_ValidFetch.j3 k y0 y1 y2 y3 y4 y5 y6 y7 y8 y9 y10 y11 y12 y13 y14) (spec_ValidFetch.j3 (k + 1) y0 y1 y2 y3 y4 y5 y6 y7 y8 y9 y10 y11 y12 y13 y14)) ∧ (∀ y0 y1 y2 y3 y4 y5 y6 y7 y8 y9 y10 y11 y12 y13 y14, LeO (spec_ValidFetch.l1 k y0 y1 y2 y3 y4 y5 y6 y7 y8 y9 y10 y11 y12 y13 y14) (spec_ValidFetch.l1 (k + 1) y0 y1 y2 y3 y4 y5 y6 y7 y8 y9 y10 y11 y12 y13 y14))
 | 0 => ⟨fun _ _ _ _ _ _ _ _ _ r h => by simp [spec_ValidFetch.j0] at h, fun _ _ _ _ _ _ _ _ _ r h => by simp [spec_ValidFetch.l0] at h, fun _ _ _ _ _ _ _ _ _ _ _ _ _ _ _ r h => by simp [spec_ValidFetch.j2] at h, fun _ _ _ _ _ _ _ _ _ _ _ _ _ _ _ r h => by simp [spec_ValidFetch.j3] at h, fun _ _ _ _ _ _ _ _ _ _ _ _ _ _ _ r h => by simp [spec_ValidFetch.l1] at h⟩
 | k + 1 => by
  obtain ⟨ih0, ih1, ih2, ih3, ih4⟩ := spec_ValidFetch.mono_l k
  refine ⟨?_, ?_, ?_, ?_, ?_⟩
  ·
   intro y0 y1 y2 y3 y4 y5 y6 y7 y8
   unfold spec_ValidFetch.j0
   repeat' first
   | (with_reducible exact ih0 _ _ _ _ _ _ _ _ _)
   | (with_reducible exact ih1 _ _ _ _ _ _ _ _ _)
   | (with_reducible exact ih2 _ _ _ _ _ _ _ _ _ _ _ _ _ _ _)
   | (with_reducible exact ih3 _ _ _ _ _ _ _ _ _ _ _ _ _ _ _)
   | (with_reducible exact ih4 _ _ _ _ _ _ _ _ _ _ _ _ _ _ _)
   | (with_reducible exact spec_ValidStore.mono _ _ _ _ _)
   | (with_reducible exact spec_l2In.mono _ _ _)
   | (with_reducible exact LeO.refl _)
   | (with_reducible exact LeO.none _)
   | (with_reducible refine LeO.ite ?_ ?_)
   | (with_reducible refine LeO.bind ?_ (fun _ => ?_))
   | exact ih0 _ _ _ _ _ _ _ _ _
   | exact ih1 _ _ _ _ _ _ _ _ _
   | exact ih2 _ _ _ _ _ _ _ _ _ _ _ _ _ _ _
   | exact ih3 _ _ _ _ _ _ _ _ _ _ _ _ _ _ _
   | exact ih4 _ _ _ _ _ _ _ _ _ _ _ _ _ _ _
   | exact spec_ValidStore.mono _ _ _ _ _
   | exact spec_l2In.mono _ _ _
   | exact LeO.none _
   | refine LeO.ite ?_ ?_
   | refine LeO.bind ?_ (fun _ => ?_)
  ·
   intro y0 y1 y2 y3 y4 y5 y6 y7 y8
   unfold spec_ValidFetch.l0
   repeat' first
   | (with_reducible exact ih0 _ _ _ _ _ _ _ _ _)
   | (with_reducible exact ih1 _ _ _ _ _ _ _ _ _)
   | (with_reducible exact ih2 _ _ _ _ _ _ _ _ _ _ _ _ _ _ _)
   | (with_reducible exact ih3 _ _ _ _ _ _ _ _ _ _ _ _ _ _ _)
   | (with_reducible exact ih4 _ _ _ _ _ _ _ _ _ _ _ _ _ _ _)
   | (with_reducible exact spec_ValidStore.mono _ _ _ _ _)
   | (with_reducible exact spec_l2In.mono _ _ _)
   | (with_reducible exact LeO.refl _)
   | (with_reducible exact LeO.none _)
   | (with_reducible refine LeO.ite ?_ ?_)
   | (with_reducible refine LeO.bind ?_ (fun _ => ?_))
   | exact ih0 _ _ _ _ _ _ _ _ _
   | exact ih1 _ _ _ _ _ _ _ _ _
   | exact ih2 _ _ _ _ _ _ _ _ _ _ _ _ _ _ _
   | exact ih3 _ _ _ _ _ _ _ _ _ _ _ _ _ _ _
   | exact ih4 _ _ _ _ _ _ _ _ _ _ _ _ _ _ _
   | exact spec_ValidStore.mono _ _ _ _ _
   | exact spec_l2In.mono _ _ _
   | exact LeO.none _
   | refine LeO.ite ?_ ?_
   | refine LeO.bind ?_ (fun _ => ?_)
  ·
   intro y0 y1 y2 y3 y4 y5 y6 y7 y8 y9 y10 y11 y12 y13 y14
   unfold spec_ValidFetch.j2
   repeat' first
   | (with_reducible exact ih0 _ _ _ _ _ _ _ _ _)
   | (with_reducible exact ih1 _ _ _ _ _ _ _ _ _)
   | (with_reducible exact ih2 _ _ _ _ _ _ _ _ _ _ _ _ _ _ _)
   | (with_reducible exact ih3 _ _ _ _ _ _ _ _ _ _ _ _ _ _ _)
   | (with_reducible exact ih4 _ _ _ _ _ _ _ _ _ _ _ _ _ _ _)
   | (with_reducible exact spec_ValidStore.mono _ _ _ _ _)
   | (with_reducible exact spec_l2In.mono _ _ _)
   | (with_reducible exact LeO.refl _)
   | (with_reducible exact LeO.none _)
   | (with_reducible refine LeO.ite ?_ ?_)
   | (with_reducible refine LeO.bind ?_ (fun _ => ?_))
   | exact ih0 _ _ _ _ _ _ _ _ _
   | exact ih1 _ _ _ _ _ _ _ _ _
   | exact ih2 _ _ _ _ _ _ _ _ _ _ _ _ _ _ _
   | exact ih3 _ _ _ _ _ _ _ _ _ _ _ _ _ _ _
   | exact ih4 _ _ _ _ _ _ _ _ _ _ _ _ _ _ _
   | exact spec_ValidStore.mono _ _ _ _ _
   | exact spec_l2In.mono _ _ _
   | exact LeO.none _
   | refine LeO.ite ?_ ?_
   | refine LeO.bind ?_ (fun _ => ?_)
  ·
   intro y0 y1 y2 y3 y4 y5 y6 y7 y8 y9 y10 y11 y12 y13 y14
   unfold spec_ValidFetch.j3
   repeat' first
   | (with_reducible exact ih0 _ _ _ _ _ _ _ _ _)
   | (with_reducible exact ih1 _ _ _ _ _ _ _ _ _)
   | (with_reducible exact ih2 _ _ _ _ _ _ _ _ _ _ _ _ _ _ _)
   | (with_reducible exact ih3 _ _ _ _ _ _ _ _ _ _ _ _ _ _ _)
   | (with_reducible exact ih4 _ _ _ _ _ _ _ _ _ _ _ _ _ _ _)
   | (with_reducible exact spec_ValidStore.mono _ _ _ _ _)
   | (with_reducible exact spec_l2In.mono _ _ _)
   | (with_reducible exact LeO.refl _)
   | (with_reducible exact LeO.none _)
   | (with_reducible refine LeO.ite ?_ ?_)
   | (with_reducible refine LeO.bind ?_ (fun _ => ?_))
   | exact ih0 _ _ _ _ _ _ _ _ _
   | exact ih1 _ _ _ _ _ _ _ _ _
   | exact ih2 _ _ _ _ _ _ _ _ _ _ _ _ _ _ _
   | exact ih3 _ _ _ _ _ _ _ _ _ _ _ _ _ _ _
   | exact ih4 _ _ _ _ _ _ _ _ _ _ _ _ _ _ _
   | exact spec_ValidStore.mono _ _ _ _ _
   | exact spec_l2In.mono _ _ _
   | exact LeO.none _
   | refine LeO.ite ?_ ?_
   | refine LeO.bind ?_ (fun _ => ?_)
  ·
   intro y0 y1 y2 y3 y4 y5 y6 y7 y8 y9 y10 y11 y12 y13 y14
   unfold spec_ValidFetch.l1
   repeat' first
   | (with_reducible exact ih0 _ _ _ _ _ _ _ _ _)
   | (with_reducible exact ih1 _ _ _ _ _ _ _ _ _)
   | (with_reducible exact ih2 _ _ _ _ _ _ _ _ _ _ _ _ _ _ _)
   | (with_reducible exact ih3 _ _ _ _ _ _ _ _ _ _ _ _ _ _ _)
   | (with_reducible exact ih4 _ _ _ _ _ _ _ _ _ _ _ _ _ _ _)
   | (with_reducible exact spec_ValidStore.mono _ _ _ _ _)
   | (with_reducible exact spec_l2In.mono _ _ _)
   | (with_reducible exact LeO.refl _)
   | (with_reducible exact LeO.none _)
   | (with_reducible refine LeO.ite ?_ ?_)
   | (with_reducible refine LeO.bind ?_ (fun _ => ?_))
   | exact ih0 _ _ _ _ _ _ _ _ _
   | exact ih1 _ _ _ _ _ _ _ _ _
   | exact ih2 _ _ _ _ _ _ _ _ _ _ _ _ _ _ _
   | exact ih3 _ _ _ _ _ _ _ _ _ _ _ _ _ _ _
   | exact ih4 _ _ _ _ _ _ _ _ _ _ _ _ _ _ _
   | exact spec_ValidStore.mono _ _ _ _ _
   | exact spec_l2In.mono _ _ _
   | exact LeO.none _
   | refine LeO.ite ?_ ?_
   | refine LeO.bind ?_ (fun _ => ?_)
theorem spec_ValidFetch.mono : ∀ a0 a1 a2 a3 a4 a5 a6 a7 k, LeO (spec_ValidFetch.f k a0 a1 a2 a3 a4 a5 a6 a7) (spec_ValidFetch.f (k + 1) a0 a1 a2 a3 a4 a5 a6 a7) := by
 intro a0 a1 a2 a3 a4 a5 a6 a7 k
 obtain ⟨ih0, ih1, ih2, ih3, ih4⟩ := spec_ValidFetch.mono_l k
 unfold spec_ValidFetch.f
 repeat' first
   | (with_reducible exact ih0 _ _ _ _ _ _ _ _ _)
   | (with_reducible exact ih1 _ _ _ _ _ _ _ _ _)
   | (with_reducible exact ih2 _ _ _ _ _ _ _ _ _ _ _ _ _ _ _)
   | (with_reducible exact ih3 _ _ _ _ _ _ _ _ _ _ _ _ _ _ _)
   | (with_reducible exact ih4 _ _ _ _ _ _ _ _ _ _ _ _ _ _ _)
   | (with_reducible exact spec_ValidStore.mono _ _ _ _ _)
   | (with_reducible exact spec_l2In.mono _ _ _)
   | (with_reducible exact LeO.refl _)
   | (with_reducible exact LeO.none _)
   | (with_reducible refine LeO.ite ?_ ?_)
   | (with_reducible refine LeO.bind ?_ (fun _ => ?_))
   | exact ih0 _ _ _ _ _ _ _ _ _
   | exact ih1 _ _ _ _ _ _ _ _ _
   | exact ih2 _ _ _ _ _ _ _ _ _ _ _ _ _ _ _
   | exact ih3 _ _ _ _ _ _ _ _ _ _ _ _ _ _ _
   | exact ih4 _ _ _ _ _ _ _ _ _ _ _ _ _ _ _
   | exact spec_ValidStore.mono _ _ _ _ _
   | exact spec_l2In.mono _ _ _
   | exact LeO.none _
   | refine LeO.ite ?_ ?_
   | refine LeO.bind ?_ (fun _ => ?_)
set_option maxHeartbeats 8000000 in
set_option maxRecDepth 100000 in
theorem spec_ValidFetch.calls (k : Nat) (a0_0 : ByteArray) (a0_1 : Int) (a0_2 : Bool) (a0_3 : Int) (a0_4 : Int) (A0_5 : Option Addr) (c0_5 : Nat) (l0_5 : List (S92)) (A0_6 : Option Addr) (c0_6 : Nat) (l0_6 : List ByteArray) (A0_7 : Option Addr) (c0_7 : Nat) (l0_7 : List (S112)) (r : Bool) (w : World) (hr0_5 : Kd.C k92 w A0_5 l0_5.length l0_5) (hc0_5 : l0_5.length ≤ c0_5) (hr0_6 : Kd.C Kd.string w A0_6 l0_6.length l0_6) (hc0_6 : l0_6.length ≤ c0_6) (hr0_7 : Kd.C k112 w A0_7 l0_7.length l0_7) (hc0_7 : l0_7.length ≤ c0_7) (h : spec_ValidFetch.f k a0_0 a0_1 a0_2 a0_3 a0_4 l0_5 l0_6 l0_7 = some r) :
  Calls Try.prog 45 #[.agg #[.string a0_0, .int .i64 a0_1, .bool a0_2, .int .i64 a0_3, .int .i64 a0_4, .slice A0_5 l0_5.length c0_5, .slice A0_6 l0_6.length c0_6, .slice A0_7 l0_7.length c0_7]] w fun e w' => e = .returned (.bool r) ∧ Below w.heap.size w w' := by
 have hu69 := Try.underlying69
 have hu36 := Try.underlying36
 have hu112 := Try.underlying112
 have HR0_5 := Aside0.mk hr0_5
 have HC0_5 := Aside0.mk hc0_5
 clear hr0_5 hc0_5
 have HR0_6 := Aside0.mk hr0_6
 have HC0_6 := Aside0.mk hc0_6
 clear hr0_6 hc0_6
 have HR0_7 := Aside0.mk hr0_7
 have HC0_7 := Aside0.mk hc0_7
 clear hr0_7 hc0_7
 have HB := Aside0.mk (Below.refl w.heap.size w)
 have H : ((spec_ValidStore.f k a0_3 a0_4 l0_5 l0_6).bind fun t138 => (if t138 = true then ((spec_l2In.f k l0_6 a0_0).bind fun t139 => (if t139 = true then ((spec_l1In.f a0_1 0 1000000).bind fun t140 => (if t140 = true then ((spec_l1In.f (l0_7.length : Int) 1 5).bind fun t141 => (spec_ValidFetch.j0 k (!t141) a0_0 a0_1 a0_2 a0_3 a0_4 l0_5 l0_6 l0_7)) else (spec_ValidFetch.j0 k true a0_0 a0_1 a0_2 a0_3 a0_4 l0_5 l0_6 l0_7))) else (spec_ValidFetch.j0 k true a0_0 a0_1 a0_2 a0_3 a0_4 l0_5 l0_6 l0_7))) else (spec_ValidFetch.j0 k true a0_0 a0_1 a0_2 a0_3 a0_4 l0_5 l0_6 l0_7))) = some r := h
 clear h
 have HC2 := Aside0.mk H
 clear H
 go_enter Try.func45, Try.ntmps45
 go_upto_region 1 with (first | ((with_reducible refine gate_dst (N := 1) rfl ?_); (try (refine gate_guard (by rfl) ?_; dsimp only)); refine box_event ?hg (N := 1) ?hd (cs := #[.string a0_0, .int .i64 a0_1, .bool a0_2, .int .i64 a0_3, .int .i64 a0_4, .slice A0_5 l0_5.length c0_5, .slice A0_6 l0_6.length c0_6, .slice A0_7 l0_7.length c0_7]) (t := 69) ?hr ?_; (case hd => rfl); (case hg => rfl); (case hr => first | (go_simp; done) | (go_simp; rfl)); intro gb137 hg w3 hbox hb; have n0_ := Aside0.mk (below_step (Zz.rB_ HB.out) hb); have n1_ := Aside0.mk (hbox); have n2_ := Aside0.mk ((by rw [hg]; exact (below_size (Zz.rB_ HB.out)) : w.heap.size ≤ gb137)); have n3_ := Aside0.mk ((by rw [hg]; exact (below_size (Zz.rB_ HB.out)) : w.heap.size ≤ gb137)); clear HB; have HB := n0_; have BK137 := n1_; have GW137 := n2_; have GE137 := n3_; clear n0_ n1_ n2_ n3_; clear hb hbox hg))
 repeat (go_quiet (first | ((with_reducible refine gate_dst (N := 1) rfl ?_); (try (refine gate_guard (by rfl) ?_; dsimp only)); refine box_event ?hg (N := 1) ?hd (cs := #[.string a0_0, .int .i64 a0_1, .bool a0_2, .int .i64 a0_3, .int .i64 a0_4, .slice A0_5 l0_5.length c0_5, .slice A0_6 l0_6.length c0_6, .slice A0_7 l0_7.length c0_7]) (t := 69) ?hr ?_; (case hd => rfl); (case hg => rfl); (case hr => first | (go_simp; done) | (go_simp; rfl)); intro gb137 hg w3 hbox hb; have n0_ := Aside0.mk (below_step (Zz.rB_ HB.out) hb); have n1_ := Aside0.mk (hbox); have n2_ := Aside0.mk ((by rw [hg]; exact (below_size (Zz.rB_ HB.out)) : w.heap.size ≤ gb137)); have n3_ := Aside0.mk ((by rw [hg]; exact (below_size (Zz.rB_ HB.out)) : w.heap.size ≤ gb137)); clear HB; have HB := n0_; have BK137 := n1_; have GW137 := n2_; have GE137 := n3_; clear n0_ n1_ n2_ n3_; clear hb hbox hg)); go_upto_region 1 with (first | ((with_reducible refine gate_dst (N := 1) rfl ?_); (try (refine gate_guard (by rfl) ?_; dsimp only)); refine box_event ?hg (N := 1) ?hd (cs := #[.string a0_0, .int .i64 a0_1, .bool a0_2, .int .i64 a0_3, .int .i64 a0_4, .slice A0_5 l0_5.length c0_5, .slice A0_6 l0_6.length c0_6, .slice A0_7 l0_7.length c0_7]) (t := 69) ?hr ?_; (case hd => rfl); (case hg => rfl); (case hr => first | (go_simp; done) | (go_simp; rfl)); intro gb137 hg w3 hbox hb; have n0_ := Aside0.mk (below_step (Zz.rB_ HB.out) hb); have n1_ := Aside0.mk (hbox); have n2_ := Aside0.mk ((by rw [hg]; exact (below_size (Zz.rB_ HB.out)) : w.heap.size ≤ gb137)); have n3_ := Aside0.mk ((by rw [hg]; exact (below_size (Zz.rB_ HB.out)) : w.heap.size ≤ gb137)); clear HB; have HB := n0_; have BK137 := n1_; have GW137 := n2_; have GE137 := n3_; clear n0_ n1_ n2_ n3_; clear hb hbox hg)))
 (try simp only [Act.put, List.setIfInBounds_toArray, List.set_cons_zero, List.set_cons_succ])
 go_cut [31] (fun v31 wc => ∃ (kq : Nat) (x31_1 : Bool), v31 = .bool x31_1 ∧ Aside0 (spec_ValidFetch.j0 kq x31_1 a0_0 a0_1 a0_2 a0_3 a0_4 l0_5 l0_6 l0_7 = some r) ∧ Aside0 (kq ≤ k) ∧ Aside0 (wc.heap[gb137]? = some (.cells #[.string a0_0, .int .i64 a0_1, .bool a0_2, .int .i64 a0_3, .int .i64 a0_4, (.slice A0_5 l0_5.length c0_5), (.slice A0_6 l0_6.length c0_6), (.slice A0_7 l0_7.length c0_7)] 69 (0, 0))) ∧ Aside0 (Below w.heap.size w wc))
 case first =>
  have H := HC2.out
  clear HC2
  replace H := Option.bind_eq_some_iff.mp H
  obtain ⟨t138, A40, H⟩ := H
  replace H : (if t138 = true then ((spec_l2In.f k l0_6 a0_0).bind fun t139 => (if t139 = true then ((spec_l1In.f a0_1 0 1000000).bind fun t140 => (if t140 = true then ((spec_l1In.f (l0_7.length : Int) 1 5).bind fun t141 => (spec_ValidFetch.j0 k (!t141) a0_0 a0_1 a0_2 a0_3 a0_4 l0_5 l0_6 l0_7)) else (spec_ValidFetch.j0 k true a0_0 a0_1 a0_2 a0_3 a0_4 l0_5 l0_6 l0_7))) else (spec_ValidFetch.j0 k true a0_0 a0_1 a0_2 a0_3 a0_4 l0_5 l0_6 l0_7))) else (spec_ValidFetch.j0 k true a0_0 a0_1 a0_2 a0_3 a0_4 l0_5 l0_6 l0_7)) = some r := H
  have A4 := Aside0.mk A40
  clear A40
  by_cases c5 : t138 = true
  ·
   subst c5
   have H1 : ((spec_l2In.f k l0_6 a0_0).bind fun t139 => (if t139 = true then ((spec_l1In.f a0_1 0 1000000).bind fun t140 => (if t140 = true then ((spec_l1In.f (l0_7.length : Int) 1 5).bind fun t141 => (spec_ValidFetch.j0 k (!t141) a0_0 a0_1 a0_2 a0_3 a0_4 l0_5 l0_6 l0_7)) else (spec_ValidFetch.j0 k true a0_0 a0_1 a0_2 a0_3 a0_4 l0_5 l0_6 l0_7))) else (spec_ValidFetch.j0 k true a0_0 a0_1 a0_2 a0_3 a0_4 l0_5 l0_6 l0_7))) = some r := by rw [if_pos rfl] at H; exact H
   clear H
   have H := H1
   clear H1
   replace H := Option.bind_eq_some_iff.mp H
   obtain ⟨t139, A60, H⟩ := H
   replace H : (if t139 = true then ((spec_l1In.f a0_1 0 1000000).bind fun t140 => (if t140 = true then ((spec_l1In.f (l0_7.length : Int) 1 5).bind fun t141 => (spec_ValidFetch.j0 k (!t141) a0_0 a0_1 a0_2 a0_3 a0_4 l0_5 l0_6 l0_7)) else (spec_ValidFetch.j0 k true a0_0 a0_1 a0_2 a0_3 a0_4 l0_5 l0_6 l0_7))) else (spec_ValidFetch.j0 k true a0_0 a0_1 a0_2 a0_3 a0_4 l0_5 l0_6 l0_7)) = some r := H
   have A6 := Aside0.mk A60
   clear A60
   by_cases c7 : t139 = true
   ·
    subst c7
    have H1 : ((spec_l1In.f a0_1 0 1000000).bind fun t140 => (if t140 = true then ((spec_l1In.f (l0_7.length : Int) 1 5).bind fun t141 => (spec_ValidFetch.j0 k (!t141) a0_0 a0_1 a0_2 a0_3 a0_4 l0_5 l0_6 l0_7)) else (spec_ValidFetch.j0 k true a0_0 a0_1 a0_2 a0_3 a0_4 l0_5 l0_6 l0_7))) = some r := by rw [if_pos rfl] at H; exact H
    clear H
    have H := H1
    clear H1
    replace H := Option.bind_eq_some_iff.mp H
    obtain ⟨t140, A80, H⟩ := H
    replace H : (if t140 = true then ((spec_l1In.f (l0_7.length : Int) 1 5).bind fun t141 => (spec_ValidFetch.j0 k (!t141) a0_0 a0_1 a0_2 a0_3 a0_4 l0_5 l0_6 l0_7)) else (spec_ValidFetch.j0 k true a0_0 a0_1 a0_2 a0_3 a0_4 l0_5 l0_6 l0_7)) = some r := H
    have A8 := Aside0.mk A80
    clear A80
    by_cases c9 : t140 = true
    ·
     subst c9
     have H1 : ((spec_l1In.f (l0_7.length : Int) 1 5).bind fun t141 => (spec_ValidFetch.j0 k (!t141) a0_0 a0_1 a0_2 a0_3 a0_4 l0_5 l0_6 l0_7)) = some r := by rw [if_pos rfl] at H; exact H
     clear H
     have H := H1
     clear H1
     replace H := Option.bind_eq_some_iff.mp H
     obtain ⟨t141, A100, H⟩ := H
     replace H : (spec_ValidFetch.j0 k (!t141) a0_0 a0_1 a0_2 a0_3 a0_4 l0_5 l0_6 l0_7) = some r := H
     have A10 := Aside0.mk A100
     clear A100
     have H' := Aside0.mk H
     clear H
     have hcz11_0 : w3.cell? ⟨gb137, 0, none⟩ = some (.string a0_0) := (blk_cell BK137.out 0).trans rfl
     have hcz11_1 : w3.cell? ⟨gb137, 1, none⟩ = some (.int .i64 a0_1) := (blk_cell BK137.out 1).trans rfl
     have hcz11_2 : w3.cell? ⟨gb137, 2, none⟩ = some (.bool a0_2) := (blk_cell BK137.out 2).trans rfl
     have hcz11_3 : w3.cell? ⟨gb137, 3, none⟩ = some (.int .i64 a0_3) := (blk_cell BK137.out 3).trans rfl
     have hcz11_4 : w3.cell? ⟨gb137, 4, none⟩ = some (.int .i64 a0_4) := (blk_cell BK137.out 4).trans rfl
     have hcz11_5 : w3.cell? ⟨gb137, 5, none⟩ = some (.slice A0_5 l0_5.length c0_5) := (blk_cell BK137.out 5).trans rfl
     have hcz11_6 : w3.cell? ⟨gb137, 6, none⟩ = some (.slice A0_6 l0_6.length c0_6) := (blk_cell BK137.out 6).trans rfl
     have hcz11_7 : w3.cell? ⟨gb137, 7, none⟩ = some (.slice A0_7 l0_7.length c0_7) := (blk_cell BK137.out 7).trans rfl
     have hfz11_0 := blk_frozen BK137.out 0
     have hfz11_1 := blk_frozen BK137.out 1
     have hfz11_2 := blk_frozen BK137.out 2
     have hfz11_3 := blk_frozen BK137.out 3
     have hfz11_4 := blk_frozen BK137.out 4
     have hfz11_5 := blk_frozen BK137.out 5
     have hfz11_6 := blk_frozen BK137.out 6
     have hfz11_7 := blk_frozen BK137.out 7
     go_wp2_with (first | (go_at_call 19; (with_reducible refine (spec_ValidStore.calls k a0_3 a0_4 _ _ l0_5 _ _ l0_6 true _ ?side1 ?side2 ?side3 ?side4 A4.out).mono ?_); (case side1 => repeat (first | exact (Kd.C_below HR0_5.out HB.out) | (with_reducible refine Kd.C_alloc ?_ _) | (with_reducible refine Kd.C_drewN ?_ _) | (with_reducible refine Kd.C_drew ?_))); (case side2 => exact HC0_5.out); (case side3 => repeat (first | exact (Kd.C_below HR0_6.out HB.out) | (with_reducible refine Kd.C_alloc ?_ _) | (with_reducible refine Kd.C_drewN ?_ _) | (with_reducible refine Kd.C_drew ?_))); (case side4 => exact HC0_6.out); rintro e w12 ⟨rfl, hb⟩; have n0_ := Aside0.mk (blk_below (g := gb137) (o := .cells #[.string a0_0, .int .i64 a0_1, .bool a0_2, .int .i64 a0_3, .int .i64 a0_4, .slice A0_5 l0_5.length c0_5, .slice A0_6 l0_6.length c0_6, .slice A0_7 l0_7.length c0_7] 69 (0, 0)) (Zz.rb_ BK137.out) hb); have n1_ := Aside0.mk (below_step (Zz.rB_ HB.out) hb); clear BK137; clear HB; have BK137 := n0_; have HB := n1_; clear n0_ n1_; (try clear hb); (try clear hb2); (try clear hk); (try clear hi); have hcz13_0 : w12.cell? ⟨gb137, 0, none⟩ = some (.string a0_0) := (blk_cell BK137.out 0).trans rfl; have hcz13_1 : w12.cell? ⟨gb137, 1, none⟩ = some (.int .i64 a0_1) := (blk_cell BK137.out 1).trans rfl; have hcz13_2 : w12.cell? ⟨gb137, 2, none⟩ = some (.bool a0_2) := (blk_cell BK137.out 2).trans rfl; have hcz13_3 : w12.cell? ⟨gb137, 3, none⟩ = some (.int .i64 a0_3) := (blk_cell BK137.out 3).trans rfl; have hcz13_4 : w12.cell? ⟨gb137, 4, none⟩ = some (.int .i64 a0_4) := (blk_cell BK137.out 4).trans rfl; have hcz13_5 : w12.cell? ⟨gb137, 5, none⟩ = some (.slice A0_5 l0_5.length c0_5) := (blk_cell BK137.out 5).trans rfl; have hcz13_6 : w12.cell? ⟨gb137, 6, none⟩ = some (.slice A0_6 l0_6.length c0_6) := (blk_cell BK137.out 6).trans rfl; have hcz13_7 : w12.cell? ⟨gb137, 7, none⟩ = some (.slice A0_7 l0_7.length c0_7) := (blk_cell BK137.out 7).trans rfl; have hfz13_0 := blk_frozen BK137.out 0; have hfz13_1 := blk_frozen BK137.out 1; have hfz13_2 := blk_frozen BK137.out 2; have hfz13_3 := blk_frozen BK137.out 3; have hfz13_4 := blk_frozen BK137.out 4; have hfz13_5 := blk_frozen BK137.out 5; have hfz13_6 := blk_frozen BK137.out 6; have hfz13_7 := blk_frozen BK137.out 7) | (go_at_call 94; (with_reducible refine (spec_l2In.calls k _ _ l0_6 a0_0 true _ ?side1 ?side2 A6.out).mono ?_); (case side1 => repeat (first | exact (Kd.C_below HR0_6.out HB.out) | (with_reducible refine Kd.C_alloc ?_ _) | (with_reducible refine Kd.C_drewN ?_ _) | (with_reducible refine Kd.C_drew ?_))); (case side2 => exact HC0_6.out); rintro e w' ⟨rfl, ⟨nd, rfl⟩⟩; (try first | exact ⟨rfl, _, World.drewN_drewN _ _ _⟩ | exact ⟨rfl, _, Eq.trans (World.drewN_drewN _ _ _) (congrArg (World.drewN _) (Nat.add_assoc _ _ _))⟩)) | (go_at_call 66; (with_reducible refine (spec_l1In.calls a0_1 0 1000000 true _ A8.out).mono ?_); rintro e w' ⟨rfl, ⟨nd, rfl⟩⟩; (try first | exact ⟨rfl, _, World.drewN_drewN _ _ _⟩ | exact ⟨rfl, _, Eq.trans (World.drewN_drewN _ _ _) (congrArg (World.drewN _) (Nat.add_assoc _ _ _))⟩)) | (go_at_call 66; (with_reducible refine (spec_l1In.calls (l0_7.length : Int) 1 5 t141 _ A10.out).mono ?_); rintro e w' ⟨rfl, ⟨nd, rfl⟩⟩; (try first | exact ⟨rfl, _, World.drewN_drewN _ _ _⟩ | exact ⟨rfl, _, Eq.trans (World.drewN_drewN _ _ _) (congrArg (World.drewN _) (Nat.add_assoc _ _ _))⟩)))
     repeat (go_quiet (first | (go_at_call 19; (with_reducible refine (spec_ValidStore.calls k a0_3 a0_4 _ _ l0_5 _ _ l0_6 true _ ?side1 ?side2 ?side3 ?side4 A4.out).mono ?_); (case side1 => repeat (first | exact (Kd.C_below HR0_5.out HB.out) | (with_reducible refine Kd.C_alloc ?_ _) | (with_reducible refine Kd.C_drewN ?_ _) | (with_reducible refine Kd.C_drew ?_))); (case side2 => exact HC0_5.out); (case side3 => repeat (first | exact (Kd.C_below HR0_6.out HB.out) | (with_reducible refine Kd.C_alloc ?_ _) | (with_reducible refine Kd.C_drewN ?_ _) | (with_reducible refine Kd.C_drew ?_))); (case side4 => exact HC0_6.out); rintro e w12 ⟨rfl, hb⟩; have n0_ := Aside0.mk (blk_below (g := gb137) (o := .cells #[.string a0_0, .int .i64 a0_1, .bool a0_2, .int .i64 a0_3, .int .i64 a0_4, .slice A0_5 l0_5.length c0_5, .slice A0_6 l0_6.length c0_6, .slice A0_7 l0_7.length c0_7] 69 (0, 0)) (Zz.rb_ BK137.out) hb); have n1_ := Aside0.mk (below_step (Zz.rB_ HB.out) hb); clear BK137; clear HB; have BK137 := n0_; have HB := n1_; clear n0_ n1_; (try clear hb); (try clear hb2); (try clear hk); (try clear hi); have hcz13_0 : w12.cell? ⟨gb137, 0, none⟩ = some (.string a0_0) := (blk_cell BK137.out 0).trans rfl; have hcz13_1 : w12.cell? ⟨gb137, 1, none⟩ = some (.int .i64 a0_1) := (blk_cell BK137.out 1).trans rfl; have hcz13_2 : w12.cell? ⟨gb137, 2, none⟩ = some (.bool a0_2) := (blk_cell BK137.out 2).trans rfl; have hcz13_3 : w12.cell? ⟨gb137, 3, none⟩ = some (.int .i64 a0_3) := (blk_cell BK137.out 3).trans rfl; have hcz13_4 : w12.cell? ⟨gb137, 4, none⟩ = some (.int .i64 a0_4) := (blk_cell BK137.out 4).trans rfl; have hcz13_5 : w12.cell? ⟨gb137, 5, none⟩ = some (.slice A0_5 l0_5.length c0_5) := (blk_cell BK137.out 5).trans rfl; have hcz13_6 : w12.cell? ⟨gb137, 6, none⟩ = some (.slice A0_6 l0_6.length c0_6) := (blk_cell BK137.out 6).trans rfl; have hcz13_7 : w12.cell? ⟨gb137, 7, none⟩ = some (.slice A0_7 l0_7.length c0_7) := (blk_cell BK137.out 7).trans rfl; have hfz13_0 := blk_frozen BK137.out 0; have hfz13_1 := blk_frozen BK137.out 1; have hfz13_2 := blk_frozen BK137.out 2; have hfz13_3 := blk_frozen BK137.out 3; have hfz13_4 := blk_frozen BK137.out 4; have hfz13_5 := blk_frozen BK137.out 5; have hfz13_6 := blk_frozen BK137.out 6; have hfz13_7 := blk_frozen BK137.out 7) | (go_at_call 94; (with_reducible refine (spec_l2In.calls k _ _ l0_6 a0_0 true _ ?side1 ?side2 A6.out).mono ?_); (case side1 => repeat (first | exact (Kd.C_below HR0_6.out HB.out) | (with_reducible refine Kd.C_alloc ?_ _) | (with_reducible refine Kd.C_drewN ?_ _) | (with_reducible refine Kd.C_drew ?_))); (case side2 => exact HC0_6.out); rintro e w' ⟨rfl, ⟨nd, rfl⟩⟩; (try first | exact ⟨rfl, _, World.drewN_drewN _ _ _⟩ | exact ⟨rfl, _, Eq.trans (World.drewN_drewN _ _ _) (congrArg (World.drewN _) (Nat.add_assoc _ _ _))⟩)) | (go_at_call 66; (with_reducible refine (spec_l1In.calls a0_1 0 1000000 true _ A8.out).mono ?_); rintro e w' ⟨rfl, ⟨nd, rfl⟩⟩; (try first | exact ⟨rfl, _, World.drewN_drewN _ _ _⟩ | exact ⟨rfl, _, Eq.trans (World.drewN_drewN _ _ _) (congrArg (World.drewN _) (Nat.add_assoc _ _ _))⟩)) | (go_at_call 66; (with_reducible refine (spec_l1In.calls (l0_7.length : Int) 1 5 t141 _ A10.out).mono ?_); rintro e w' ⟨rfl, ⟨nd, rfl⟩⟩; (try first | exact ⟨rfl, _, World.drewN_drewN _ _ _⟩ | exact ⟨rfl, _, Eq.trans (World.drewN_drewN _ _ _) (congrArg (World.drewN _) (Nat.add_assoc _ _ _))⟩))); try go_wp2_with (first | (go_at_call 19; (with_reducible refine (spec_ValidStore.calls k a0_3 a0_4 _ _ l0_5 _ _ l0_6 true _ ?side1 ?side2 ?side3 ?side4 A4.out).mono ?_); (case side1 => repeat (first | exact (Kd.C_below HR0_5.out HB.out) | (with_reducible refine Kd.C_alloc ?_ _) | (with_reducible refine Kd.C_drewN ?_ _) | (with_reducible refine Kd.C_drew ?_))); (case side2 => exact HC0_5.out); (case side3 => repeat (first | exact (Kd.C_below HR0_6.out HB.out) | (with_reducible refine Kd.C_alloc ?_ _) | (with_reducible refine Kd.C_drewN ?_ _) | (with_reducible refine Kd.C_drew ?_))); (case side4 => exact HC0_6.out); rintro e w12 ⟨rfl, hb⟩; have n0_ := Aside0.mk (blk_below (g := gb137) (o := .cells #[.string a0_0, .int .i64 a0_1, .bool a0_2, .int .i64 a0_3, .int .i64 a0_4, .slice A0_5 l0_5.length c0_5, .slice A0_6 l0_6.length c0_6, .slice A0_7 l0_7.length c0_7] 69 (0, 0)) (Zz.rb_ BK137.out) hb); have n1_ := Aside0.mk (below_step (Zz.rB_ HB.out) hb); clear BK137; clear HB; have BK137 := n0_; have HB := n1_; clear n0_ n1_; (try clear hb); (try clear hb2); (try clear hk); (try clear hi); have hcz13_0 : w12.cell? ⟨gb137, 0, none⟩ = some (.string a0_0) := (blk_cell BK137.out 0).trans rfl; have hcz13_1 : w12.cell? ⟨gb137, 1, none⟩ = some (.int .i64 a0_1) := (blk_cell BK137.out 1).trans rfl; have hcz13_2 : w12.cell? ⟨gb137, 2, none⟩ = some (.bool a0_2) := (blk_cell BK137.out 2).trans rfl; have hcz13_3 : w12.cell? ⟨gb137, 3, none⟩ = some (.int .i64 a0_3) := (blk_cell BK137.out 3).trans rfl; have hcz13_4 : w12.cell? ⟨gb137, 4, none⟩ = some (.int .i64 a0_4) := (blk_cell BK137.out 4).trans rfl; have hcz13_5 : w12.cell? ⟨gb137, 5, none⟩ = some (.slice A0_5 l0_5.length c0_5) := (blk_cell BK137.out 5).trans rfl; have hcz13_6 : w12.cell? ⟨gb137, 6, none⟩ = some (.slice A0_6 l0_6.length c0_6) := (blk_cell BK137.out 6).trans rfl; have hcz13_7 : w12.cell? ⟨gb137, 7, none⟩ = some (.slice A0_7 l0_7.length c0_7) := (blk_cell BK137.out 7).trans rfl; have hfz13_0 := blk_frozen BK137.out 0; have hfz13_1 := blk_frozen BK137.out 1; have hfz13_2 := blk_frozen BK137.out 2; have hfz13_3 := blk_frozen BK137.out 3; have hfz13_4 := blk_frozen BK137.out 4; have hfz13_5 := blk_frozen BK137.out 5; have hfz13_6 := blk_frozen BK137.out 6; have hfz13_7 := blk_frozen BK137.out 7) | (go_at_call 94; (with_reducible refine (spec_l2In.calls k _ _ l0_6 a0_0 true _ ?side1 ?side2 A6.out).mono ?_); (case side1 => repeat (first | exact (Kd.C_below HR0_6.out HB.out) | (with_reducible refine Kd.C_alloc ?_ _) | (with_reducible refine Kd.C_drewN ?_ _) | (with_reducible refine Kd.C_drew ?_))); (case side2 => exact HC0_6.out); rintro e w' ⟨rfl, ⟨nd, rfl⟩⟩; (try first | exact ⟨rfl, _, World.drewN_drewN _ _ _⟩ | exact ⟨rfl, _, Eq.trans (World.drewN_drewN _ _ _) (congrArg (World.drewN _) (Nat.add_assoc _ _ _))⟩)) | (go_at_call 66; (with_reducible refine (spec_l1In.calls a0_1 0 1000000 true _ A8.out).mono ?_); rintro e w' ⟨rfl, ⟨nd, rfl⟩⟩; (try first | exact ⟨rfl, _, World.drewN_drewN _ _ _⟩ | exact ⟨rfl, _, Eq.trans (World.drewN_drewN _ _ _) (congrArg (World.drewN _) (Nat.add_assoc _ _ _))⟩)) | (go_at_call 66; (with_reducible refine (spec_l1In.calls (l0_7.length : Int) 1 5 t141 _ A10.out).mono ?_); rintro e w' ⟨rfl, ⟨nd, rfl⟩⟩; (try first | exact ⟨rfl, _, World.drewN_drewN _ _ _⟩ | exact ⟨rfl, _, Eq.trans (World.drewN_drewN _ _ _) (congrArg (World.drewN _) (Nat.add_assoc _ _ _))⟩))))
     go_meet
     case rel => exact ⟨_, (!t141), (by first | rfl | (simp; done) | (simp [*]; done)), H', ⟨by first | omega | exact Nat.le_refl _⟩, ⟨Zz.rb_ BK137.out⟩, ⟨Zz.rB_ HB.out⟩⟩
    ·
     replace c9 := Bool.eq_false_iff.mpr c9
     subst c9
     have H1 : (spec_ValidFetch.j0 k true a0_0 a0_1 a0_2 a0_3 a0_4 l0_5 l0_6 l0_7) = some r := by rw [if_neg (show ¬ (false = true) by decide)] at H; exact H
     clear H
     have H := H1
     clear H1
     have H' := Aside0.mk H
     clear H
     have hcz14_0 : w3.cell? ⟨gb137, 0, none⟩ = some (.string a0_0) := (blk_cell BK137.out 0).trans rfl
     have hcz14_1 : w3.cell? ⟨gb137, 1, none⟩ = some (.int .i64 a0_1) := (blk_cell BK137.out 1).trans rfl
     have hcz14_2 : w3.cell? ⟨gb137, 2, none⟩ = some (.bool a0_2) := (blk_cell BK137.out 2).trans rfl
     have hcz14_3 : w3.cell? ⟨gb137, 3, none⟩ = some (.int .i64 a0_3) := (blk_cell BK137.out 3).trans rfl
     have hcz14_4 : w3.cell? ⟨gb137, 4, none⟩ = some (.int .i64 a0_4) := (blk_cell BK137.out 4).trans rfl
     have hcz14_5 : w3.cell? ⟨gb137, 5, none⟩ = some (.slice A0_5 l0_5.length c0_5) := (blk_cell BK137.out 5).trans rfl
     have hcz14_6 : w3.cell? ⟨gb137, 6, none⟩ = some (.slice A0_6 l0_6.length c0_6) := (blk_cell BK137.out 6).trans rfl
     have hcz14_7 : w3.cell? ⟨gb137, 7, none⟩ = some (.slice A0_7 l0_7.length c0_7) := (blk_cell BK137.out 7).trans rfl
     have hfz14_0 := blk_frozen BK137.out 0
     have hfz14_1 := blk_frozen BK137.out 1
     have hfz14_2 := blk_frozen BK137.out 2
     have hfz14_3 := blk_frozen BK137.out 3
     have hfz14_4 := blk_frozen BK137.out 4
     have hfz14_5 := blk_frozen BK137.out 5
     have hfz14_6 := blk_frozen BK137.out 6
     have hfz14_7 := blk_frozen BK137.out 7
     go_wp2_with (first | (go_at_call 19; (with_reducible refine (spec_ValidStore.calls k a0_3 a0_4 _ _ l0_5 _ _ l0_6 true _ ?side1 ?side2 ?side3 ?side4 A4.out).mono ?_); (case side1 => repeat (first | exact (Kd.C_below HR0_5.out HB.out) | (with_reducible refine Kd.C_alloc ?_ _) | (with_reducible refine Kd.C_drewN ?_ _) | (with_reducible refine Kd.C_drew ?_))); (case side2 => exact HC0_5.out); (case side3 => repeat (first | exact (Kd.C_below HR0_6.out HB.out) | (with_reducible refine Kd.C_alloc ?_ _) | (with_reducible refine Kd.C_drewN ?_ _) | (with_reducible refine Kd.C_drew ?_))); (case side4 => exact HC0_6.out); rintro e w15 ⟨rfl, hb⟩; have n0_ := Aside0.mk (blk_below (g := gb137) (o := .cells #[.string a0_0, .int .i64 a0_1, .bool a0_2, .int .i64 a0_3, .int .i64 a0_4, .slice A0_5 l0_5.length c0_5, .slice A0_6 l0_6.length c0_6, .slice A0_7 l0_7.length c0_7] 69 (0, 0)) (Zz.rb_ BK137.out) hb); have n1_ := Aside0.mk (below_step (Zz.rB_ HB.out) hb); clear BK137; clear HB; have BK137 := n0_; have HB := n1_; clear n0_ n1_; (try clear hb); (try clear hb2); (try clear hk); (try clear hi); have hcz16_0 : w15.cell? ⟨gb137, 0, none⟩ = some (.string a0_0) := (blk_cell BK137.out 0).trans rfl; have hcz16_1 : w15.cell? ⟨gb137, 1, none⟩ = some (.int .i64 a0_1) := (blk_cell BK137.out 1).trans rfl; have hcz16_2 : w15.cell? ⟨gb137, 2, none⟩ = some (.bool a0_2) := (blk_cell BK137.out 2).trans rfl; have hcz16_3 : w15.cell? ⟨gb137, 3, none⟩ = some (.int .i64 a0_3) := (blk_cell BK137.out 3).trans rfl; have hcz16_4 : w15.cell? ⟨gb137, 4, none⟩ = some (.int .i64 a0_4) := (blk_cell BK137.out 4).trans rfl; have hcz16_5 : w15.cell? ⟨gb137, 5, none⟩ = some (.slice A0_5 l0_5.length c0_5) := (blk_cell BK137.out 5).trans rfl; have hcz16_6 : w15.cell? ⟨gb137, 6, none⟩ = some (.slice A0_6 l0_6.length c0_6) := (blk_cell BK137.out 6).trans rfl; have hcz16_7 : w15.cell? ⟨gb137, 7, none⟩ = some (.slice A0_7 l0_7.length c0_7) := (blk_cell BK137.out 7).trans rfl; have hfz16_0 := blk_frozen BK137.out 0; have hfz16_1 := blk_frozen BK137.out 1; have hfz16_2 := blk_frozen BK137.out 2; have hfz16_3 := blk_frozen BK137.out 3; have hfz16_4 := blk_frozen BK137.out 4; have hfz16_5 := blk_frozen BK137.out 5; have hfz16_6 := blk_frozen BK137.out 6; have hfz16_7 := blk_frozen BK137.out 7) | (go_at_call 94; (with_reducible refine (spec_l2In.calls k _ _ l0_6 a0_0 true _ ?side1 ?side2 A6.out).mono ?_); (case side1 => repeat (first | exact (Kd.C_below HR0_6.out HB.out) | (with_reducible refine Kd.C_alloc ?_ _) | (with_reducible refine Kd.C_drewN ?_ _) | (with_reducible refine Kd.C_drew ?_))); (case side2 => exact HC0_6.out); rintro e w' ⟨rfl, ⟨nd, rfl⟩⟩; (try first | exact ⟨rfl, _, World.drewN_drewN _ _ _⟩ | exact ⟨rfl, _, Eq.trans (World.drewN_drewN _ _ _) (congrArg (World.drewN _) (Nat.add_assoc _ _ _))⟩)) | (go_at_call 66; (with_reducible refine (spec_l1In.calls a0_1 0 1000000 false _ A8.out).mono ?_); rintro e w' ⟨rfl, ⟨nd, rfl⟩⟩; (try first | exact ⟨rfl, _, World.drewN_drewN _ _ _⟩ | exact ⟨rfl, _, Eq.trans (World.drewN_drewN _ _ _) (congrArg (World.drewN _) (Nat.add_assoc _ _ _))⟩)))
     repeat (go_quiet (first | (go_at_call 19; (with_reducible refine (spec_ValidStore.calls k a0_3 a0_4 _ _ l0_5 _ _ l0_6 true _ ?side1 ?side2 ?side3 ?side4 A4.out).mono ?_); (case side1 => repeat (first | exact (Kd.C_below HR0_5.out HB.out) | (with_reducible refine Kd.C_alloc ?_ _) | (with_reducible refine Kd.C_drewN ?_ _) | (with_reducible refine Kd.C_drew ?_))); (case side2 => exact HC0_5.out); (case side3 => repeat (first | exact (Kd.C_below HR0_6.out HB.out) | (with_reducible refine Kd.C_alloc ?_ _) | (with_reducible refine Kd.C_drewN ?_ _) | (with_reducible refine Kd.C_drew ?_))); (case side4 => exact HC0_6.out); rintro e w15 ⟨rfl, hb⟩; have n0_ := Aside0.mk (blk_below (g := gb137) (o := .cells #[.string a0_0, .int .i64 a0_1, .bool a0_2, .int .i64 a0_3, .int .i64 a0_4, .slice A0_5 l0_5.length c0_5, .slice A0_6 l0_6.length c0_6, .slice A0_7 l0_7.length c0_7] 69 (0, 0)) (Zz.rb_ BK137.out) hb); have n1_ := Aside0.mk (below_step (Zz.rB_ HB.out) hb); clear BK137; clear HB; have BK137 := n0_; have HB := n1_; clear n0_ n1_; (try clear hb); (try clear hb2); (try clear hk); (try clear hi); have hcz16_0 : w15.cell? ⟨gb137, 0, none⟩ = some (.string a0_0) := (blk_cell BK137.out 0).trans rfl; have hcz16_1 : w15.cell? ⟨gb137, 1, none⟩ = some (.int .i64 a0_1) := (blk_cell BK137.out 1).trans rfl; have hcz16_2 : w15.cell? ⟨gb137, 2, none⟩ = some (.bool a0_2) := (blk_cell BK137.out 2).trans rfl; have hcz16_3 : w15.cell? ⟨gb137, 3, none⟩ = some (.int .i64 a0_3) := (blk_cell BK137.out 3).trans rfl; have hcz16_4 : w15.cell? ⟨gb137, 4, none⟩ = some (.int .i64 a0_4) := (blk_cell BK137.out 4).trans rfl; have hcz16_5 : w15.cell? ⟨gb137, 5, none⟩ = some (.slice A0_5 l0_5.length c0_5) := (blk_cell BK137.out 5).trans rfl; have hcz16_6 : w15.cell? ⟨gb137, 6, none⟩ = some (.slice A0_6 l0_6.length c0_6) := (blk_cell BK137.out 6).trans rfl; have hcz16_7 : w15.cell? ⟨gb137, 7, none⟩ = some (.slice A0_7 l0_7.length c0_7) := (blk_cell BK137.out 7).trans rfl; have hfz16_0 := blk_frozen BK137.out 0; have hfz16_1 := blk_frozen BK137.out 1; have hfz16_2 := blk_frozen BK137.out 2; have hfz16_3 := blk_frozen BK137.out 3; have hfz16_4 := blk_frozen BK137.out 4; have hfz16_5 := blk_frozen BK137.out 5; have hfz16_6 := blk_frozen BK137.out 6; have hfz16_7 := blk_frozen BK137.out 7) | (go_at_call 94; (with_reducible refine (spec_l2In.calls k _ _ l0_6 a0_0 true _ ?side1 ?side2 A6.out).mono ?_); (case side1 => repeat (first | exact (Kd.C_below HR0_6.out HB.out) | (with_reducible refine Kd.C_alloc ?_ _) | (with_reducible refine Kd.C_drewN ?_ _) | (with_reducible refine Kd.C_drew ?_))); (case side2 => exact HC0_6.out); rintro e w' ⟨rfl, ⟨nd, rfl⟩⟩; (try first | exact ⟨rfl, _, World.drewN_drewN _ _ _⟩ | exact ⟨rfl, _, Eq.trans (World.drewN_drewN _ _ _) (congrArg (World.drewN _) (Nat.add_assoc _ _ _))⟩)) | (go_at_call 66; (with_reducible refine (spec_l1In.calls a0_1 0 1000000 false _ A8.out).mono ?_); rintro e w' ⟨rfl, ⟨nd, rfl⟩⟩; (try first | exact ⟨rfl, _, World.drewN_drewN _ _ _⟩ | exact ⟨rfl, _, Eq.trans (World.drewN_drewN _ _ _) (congrArg (World.drewN _) (Nat.add_assoc _ _ _))⟩))); try go_wp2_with (first | (go_at_call 19; (with_reducible refine (spec_ValidStore.calls k a0_3 a0_4 _ _ l0_5 _ _ l0_6 true _ ?side1 ?side2 ?side3 ?side4 A4.out).mono ?_); (case side1 => repeat (first | exact (Kd.C_below HR0_5.out HB.out) | (with_reducible refine Kd.C_alloc ?_ _) | (with_reducible refine Kd.C_drewN ?_ _) | (with_reducible refine Kd.C_drew ?_))); (case side2 => exact HC0_5.out); (case side3 => repeat (first | exact (Kd.C_below HR0_6.out HB.out) | (with_reducible refine Kd.C_alloc ?_ _) | (with_reducible refine Kd.C_drewN ?_ _) | (with_reducible refine Kd.C_drew ?_))); (case side4 => exact HC0_6.out); rintro e w15 ⟨rfl, hb⟩; have n0_ := Aside0.mk (blk_below (g := gb137) (o := .cells #[.string a0_0, .int .i64 a0_1, .bool a0_2, .int .i64 a0_3, .int .i64 a0_4, .slice A0_5 l0_5.length c0_5, .slice A0_6 l0_6.length c0_6, .slice A0_7 l0_7.length c0_7] 69 (0, 0)) (Zz.rb_ BK137.out) hb); have n1_ := Aside0.mk (below_step (Zz.rB_ HB.out) hb); clear BK137; clear HB; have BK137 := n0_; have HB := n1_; clear n0_ n1_; (try clear hb); (try clear hb2); (try clear hk); (try clear hi); have hcz16_0 : w15.cell? ⟨gb137, 0, none⟩ = some (.string a0_0) := (blk_cell BK137.out 0).trans rfl; have hcz16_1 : w15.cell? ⟨gb137, 1, none⟩ = some (.int .i64 a0_1) := (blk_cell BK137.out 1).trans rfl; have hcz16_2 : w15.cell? ⟨gb137, 2, none⟩ = some (.bool a0_2) := (blk_cell BK137.out 2).trans rfl; have hcz16_3 : w15.cell? ⟨gb137, 3, none⟩ = some (.int .i64 a0_3) := (blk_cell BK137.out 3).trans rfl; have hcz16_4 : w15.cell? ⟨gb137, 4, none⟩ = some (.int .i64 a0_4) := (blk_cell BK137.out 4).trans rfl; have hcz16_5 : w15.cell? ⟨gb137, 5, none⟩ = some (.slice A0_5 l0_5.length c0_5) := (blk_cell BK137.out 5).trans rfl; have hcz16_6 : w15.cell? ⟨gb137, 6, none⟩ = some (.slice A0_6 l0_6.length c0_6) := (blk_cell BK137.out 6).trans rfl; have hcz16_7 : w15.cell? ⟨gb137, 7, none⟩ = some (.slice A0_7 l0_7.length c0_7) := (blk_cell BK137.out 7).trans rfl; have hfz16_0 := blk_frozen BK137.out 0; have hfz16_1 := blk_frozen BK137.out 1; have hfz16_2 := blk_frozen BK137.out 2; have hfz16_3 := blk_frozen BK137.out 3; have hfz16_4 := blk_frozen BK137.out 4; have hfz16_5 := blk_frozen BK137.out 5; have hfz16_6 := blk_frozen BK137.out 6; have hfz16_7 := blk_frozen BK137.out 7) | (go_at_call 94; (with_reducible refine (spec_l2In.calls k _ _ l0_6 a0_0 true _ ?side1 ?side2 A6.out).mono ?_); (case side1 => repeat (first | exact (Kd.C_below HR0_6.out HB.out) | (with_reducible refine Kd.C_alloc ?_ _) | (with_reducible refine Kd.C_drewN ?_ _) | (with_reducible refine Kd.C_drew ?_))); (case side2 => exact HC0_6.out); rintro e w' ⟨rfl, ⟨nd, rfl⟩⟩; (try first | exact ⟨rfl, _, World.drewN_drewN _ _ _⟩ | exact ⟨rfl, _, Eq.trans (World.drewN_drewN _ _ _) (congrArg (World.drewN _) (Nat.add_assoc _ _ _))⟩)) | (go_at_call 66; (with_reducible refine (spec_l1In.calls a0_1 0 1000000 false _ A8.out).mono ?_); rintro e w' ⟨rfl, ⟨nd, rfl⟩⟩; (try first | exact ⟨rfl, _, World.drewN_drewN _ _ _⟩ | exact ⟨rfl, _, Eq.trans (World.drewN_drewN _ _ _) (congrArg (World.drewN _) (Nat.add_assoc _ _ _))⟩))))
     go_meet
     case rel => exact ⟨_, (true), (by first | rfl | (simp; done) | (simp [*]; done)), H', ⟨by first | omega | exact Nat.le_refl _⟩, ⟨Zz.rb_ BK137.out⟩, ⟨Zz.rB_ HB.out⟩⟩
   ·
    replace c7 := Bool.eq_false_iff.mpr c7
    subst c7
    have H1 : (spec_ValidFetch.j0 k true a0_0 a0_1 a0_2 a0_3 a0_4 l0_5 l0_6 l0_7) = some r := by rw [if_neg (show ¬ (false = true) by decide)] at H; exact H
    clear H
    have H := H1
    clear H1
    have H' := Aside0.mk H
    clear H
    have hcz17_0 : w3.cell? ⟨gb137, 0, none⟩ = some (.string a0_0) := (blk_cell BK137.out 0).trans rfl
    have hcz17_1 : w3.cell? ⟨gb137, 1, none⟩ = some (.int .i64 a0_1) := (blk_cell BK137.out 1).trans rfl
    have hcz17_2 : w3.cell? ⟨gb137, 2, none⟩ = some (.bool a0_2) := (blk_cell BK137.out 2).trans rfl
    have hcz17_3 : w3.cell? ⟨gb137, 3, none⟩ = some (.int .i64 a0_3) := (blk_cell BK137.out 3).trans rfl
    have hcz17_4 : w3.cell? ⟨gb137, 4, none⟩ = some (.int .i64 a0_4) := (blk_cell BK137.out 4).trans rfl
    have hcz17_5 : w3.cell? ⟨gb137, 5, none⟩ = some (.slice A0_5 l0_5.length c0_5) := (blk_cell BK137.out 5).trans rfl
    have hcz17_6 : w3.cell? ⟨gb137, 6, none⟩ = some (.slice A0_6 l0_6.length c0_6) := (blk_cell BK137.out 6).trans rfl
    have hcz17_7 : w3.cell? ⟨gb137, 7, none⟩ = some (.slice A0_7 l0_7.length c0_7) := (blk_cell BK137.out 7).trans rfl
    have hfz17_0 := blk_frozen BK137.out 0
    have hfz17_1 := blk_frozen BK137.out 1
    have hfz17_2 := blk_frozen BK137.out 2
    have hfz17_3 := blk_frozen BK137.out 3
    have hfz17_4 := blk_frozen BK137.out 4
    have hfz17_5 := blk_frozen BK137.out 5
    have hfz17_6 := blk_frozen BK137.out 6
    have hfz17_7 := blk_frozen BK137.out 7
    go_wp2_with (first | (go_at_call 19; (with_reducible refine (spec_ValidStore.calls k a0_3 a0_4 _ _ l0_5 _ _ l0_6 true _ ?side1 ?side2 ?side3 ?side4 A4.out).mono ?_); (case side1 => repeat (first | exact (Kd.C_below HR0_5.out HB.out) | (with_reducible refine Kd.C_alloc ?_ _) | (with_reducible refine Kd.C_drewN ?_ _) | (with_reducible refine Kd.C_drew ?_))); (case side2 => exact HC0_5.out); (case side3 => repeat (first | exact (Kd.C_below HR0_6.out HB.out) | (with_reducible refine Kd.C_alloc ?_ _) | (with_reducible refine Kd.C_drewN ?_ _) | (with_reducible refine Kd.C_drew ?_))); (case side4 => exact HC0_6.out); rintro e w18 ⟨rfl, hb⟩; have n0_ := Aside0.mk (blk_below (g := gb137) (o := .cells #[.string a0_0, .int .i64 a0_1, .bool a0_2, .int .i64 a0_3, .int .i64 a0_4, .slice A0_5 l0_5.length c0_5, .slice A0_6 l0_6.length c0_6, .slice A0_7 l0_7.length c0_7] 69 (0, 0)) (Zz.rb_ BK137.out) hb); have n1_ := Aside0.mk (below_step (Zz.rB_ HB.out) hb); clear BK137; clear HB; have BK137 := n0_; have HB := n1_; clear n0_ n1_; (try clear hb); (try clear hb2); (try clear hk); (try clear hi); have hcz19_0 : w18.cell? ⟨gb137, 0, none⟩ = some (.string a0_0) := (blk_cell BK137.out 0).trans rfl; have hcz19_1 : w18.cell? ⟨gb137, 1, none⟩ = some (.int .i64 a0_1) := (blk_cell BK137.out 1).trans rfl; have hcz19_2 : w18.cell? ⟨gb137, 2, none⟩ = some (.bool a0_2) := (blk_cell BK137.out 2).trans rfl; have hcz19_3 : w18.cell? ⟨gb137, 3, none⟩ = some (.int .i64 a0_3) := (blk_cell BK137.out 3).trans rfl; have hcz19_4 : w18.cell? ⟨gb137, 4, none⟩ = some (.int .i64 a0_4) := (blk_cell BK137.out 4).trans rfl; have hcz19_5 : w18.cell? ⟨gb137, 5, none⟩ = some (.slice A0_5 l0_5.length c0_5) := (blk_cell BK137.out 5).trans rfl; have hcz19_6 : w18.cell? ⟨gb137, 6, none⟩ = some (.slice A0_6 l0_6.length c0_6) := (blk_cell BK137.out 6).trans rfl; have hcz19_7 : w18.cell? ⟨gb137, 7, none⟩ = some (.slice A0_7 l0_7.length c0_7) := (blk_cell BK137.out 7).trans rfl; have hfz19_0 := blk_frozen BK137.out 0; have hfz19_1 := blk_frozen BK137.out 1; have hfz19_2 := blk_frozen BK137.out 2; have hfz19_3 := blk_frozen BK137.out 3; have hfz19_4 := blk_frozen BK137.out 4; have hfz19_5 := blk_frozen BK137.out 5; have hfz19_6 := blk_frozen BK137.out 6; have hfz19_7 := blk_frozen BK137.out 7) | (go_at_call 94; (with_reducible refine (spec_l2In.calls k _ _ l0_6 a0_0 false _ ?side1 ?side2 A6.out).mono ?_); (case side1 => repeat (first | exact (Kd.C_below HR0_6.out HB.out) | (with_reducible refine Kd.C_alloc ?_ _) | (with_reducible refine Kd.C_drewN ?_ _) | (with_reducible refine Kd.C_drew ?_))); (case side2 => exact HC0_6.out); rintro e w' ⟨rfl, ⟨nd, rfl⟩⟩; (try first | exact ⟨rfl, _, World.drewN_drewN _ _ _⟩ | exact ⟨rfl, _, Eq.trans (World.drewN_drewN _ _ _) (congrArg (World.drewN _) (Nat.add_assoc _ _ _))⟩)))
    repeat (go_quiet (first | (go_at_call 19; (with_reducible refine (spec_ValidStore.calls k a0_3 a0_4 _ _ l0_5 _ _ l0_6 true _ ?side1 ?side2 ?side3 ?side4 A4.out).mono ?_); (case side1 => repeat (first | exact (Kd.C_below HR0_5.out HB.out) | (with_reducible refine Kd.C_alloc ?_ _) | (with_reducible refine Kd.C_drewN ?_ _) | (with_reducible refine Kd.C_drew ?_))); (case side2 => exact HC0_5.out); (case side3 => repeat (first | exact (Kd.C_below HR0_6.out HB.out) | (with_reducible refine Kd.C_alloc ?_ _) | (with_reducible refine Kd.C_drewN ?_ _) | (with_reducible refine Kd.C_drew ?_))); (case side4 => exact HC0_6.out); rintro e w18 ⟨rfl, hb⟩; have n0_ := Aside0.mk (blk_below (g := gb137) (o := .cells #[.string a0_0, .int .i64 a0_1, .bool a0_2, .int .i64 a0_3, .int .i64 a0_4, .slice A0_5 l0_5.length c0_5, .slice A0_6 l0_6.length c0_6, .slice A0_7 l0_7.length c0_7] 69 (0, 0)) (Zz.rb_ BK137.out) hb); have n1_ := Aside0.mk (below_step (Zz.rB_ HB.out) hb); clear BK137; clear HB; have BK137 := n0_; have HB := n1_; clear n0_ n1_; (try clear hb); (try clear hb2); (try clear hk); (try clear hi); have hcz19_0 : w18.cell? ⟨gb137, 0, none⟩ = some (.string a0_0) := (blk_cell BK137.out 0).trans rfl; have hcz19_1 : w18.cell? ⟨gb137, 1, none⟩ = some (.int .i64 a0_1) := (blk_cell BK137.out 1).trans rfl; have hcz19_2 : w18.cell? ⟨gb137, 2, none⟩ = some (.bool a0_2) := (blk_cell BK137.out 2).trans rfl; have hcz19_3 : w18.cell? ⟨gb137, 3, none⟩ = some (.int .i64 a0_3) := (blk_cell BK137.out 3).trans rfl; have hcz19_4 : w18.cell? ⟨gb137, 4, none⟩ = some (.int .i64 a0_4) := (blk_cell BK137.out 4).trans rfl; have hcz19_5 : w18.cell? ⟨gb137, 5, none⟩ = some (.slice A0_5 l0_5.length c0_5) := (blk_cell BK137.out 5).trans rfl; have hcz19_6 : w18.cell? ⟨gb137, 6, none⟩ = some (.slice A0_6 l0_6.length c0_6) := (blk_cell BK137.out 6).trans rfl; have hcz19_7 : w18.cell? ⟨gb137, 7, none⟩ = some (.slice A0_7 l0_7.length c0_7) := (blk_cell BK137.out 7).trans rfl; have hfz19_0 := blk_frozen BK137.out 0; have hfz19_1 := blk_frozen BK137.out 1; have hfz19_2 := blk_frozen BK137.out 2; have hfz19_3 := blk_frozen BK137.out 3; have hfz19_4 := blk_frozen BK137.out 4; have hfz19_5 := blk_frozen BK137.out 5; have hfz19_6 := blk_frozen BK137.out 6; have hfz19_7 := blk_frozen BK137.out 7) | (go_at_call 94; (with_reducible refine (spec_l2In.calls k _ _ l0_6 a0_0 false _ ?side1 ?side2 A6.out).mono ?_); (case side1 => repeat (first | exact (Kd.C_below HR0_6.out HB.out) | (with_reducible refine Kd.C_alloc ?_ _) | (with_reducible refine Kd.C_drewN ?_ _) | (with_reducible refine Kd.C_drew ?_))); (case side2 => exact HC0_6.out); rintro e w' ⟨rfl, ⟨nd, rfl⟩⟩; (try first | exact ⟨rfl, _, World.drewN_drewN _ _ _⟩ | exact ⟨rfl, _, Eq.trans (World.drewN_drewN _ _ _) (congrArg (World.drewN _) (Nat.add_assoc _ _ _))⟩))); try go_wp2_with (first | (go_at_call 19; (with_reducible refine (spec_ValidStore.calls k a0_3 a0_4 _ _ l0_5 _ _ l0_6 true _ ?side1 ?side2 ?side3 ?side4 A4.out).mono ?_); (case side1 => repeat (first | exact (Kd.C_below HR0_5.out HB.out) | (with_reducible refine Kd.C_alloc ?_ _) | (with_reducible refine Kd.C_drewN ?_ _) | (with_reducible refine Kd.C_drew ?_))); (case side2 => exact HC0_5.out); (case side3 => repeat (first | exact (Kd.C_below HR0_6.out HB.out) | (with_reducible refine Kd.C_alloc ?_ _) | (with_reducible refine Kd.C_drewN ?_ _) | (with_reducible refine Kd.C_drew ?_))); (case side4 => exact HC0_6.out); rintro e w18 ⟨rfl, hb⟩; have n0_ := Aside0.mk (blk_below (g := gb137) (o := .cells #[.string a0_0, .int .i64 a0_1, .bool a0_2, .int .i64 a0_3, .int .i64 a0_4, .slice A0_5 l0_5.length c0_5, .slice A0_6 l0_6.length c0_6, .slice A0_7 l0_7.length c0_7] 69 (0, 0)) (Zz.rb_ BK137.out) hb); have n1_ := Aside0.mk (below_step (Zz.rB_ HB.out) hb); clear BK137; clear HB; have BK137 := n0_; have HB := n1_; clear n0_ n1_; (try clear hb); (try clear hb2); (try clear hk); (try clear hi); have hcz19_0 : w18.cell? ⟨gb137, 0, none⟩ = some (.string a0_0) := (blk_cell BK137.out 0).trans rfl; have hcz19_1 : w18.cell? ⟨gb137, 1, none⟩ = some (.int .i64 a0_1) := (blk_cell BK137.out 1).trans rfl; have hcz19_2 : w18.cell? ⟨gb137, 2, none⟩ = some (.bool a0_2) := (blk_cell BK137.out 2).trans rfl; have hcz19_3 : w18.cell? ⟨gb137, 3, none⟩ = some (.int .i64 a0_3) := (blk_cell BK137.out 3).trans rfl; have hcz19_4 : w18.cell? ⟨gb137, 4, none⟩ = some (.int .i64 a0_4) := (blk_cell BK137.out 4).trans rfl; have hcz19_5 : w18.cell? ⟨gb137, 5, none⟩ = some (.slice A0_5 l0_5.length c0_5) := (blk_cell BK137.out 5).trans rfl; have hcz19_6 : w18.cell? ⟨gb137, 6, none⟩ = some (.slice A0_6 l0_6.length c0_6) := (blk_cell BK137.out 6).trans rfl; have hcz19_7 : w18.cell? ⟨gb137, 7, none⟩ = some (.slice A0_7 l0_7.length c0_7) := (blk_cell BK137.out 7).trans rfl; have hfz19_0 := blk_frozen BK137.out 0; have hfz19_1 := blk_frozen BK137.out 1; have hfz19_2 := blk_frozen BK137.out 2; have hfz19_3 := blk_frozen BK137.out 3; have hfz19_4 := blk_frozen BK137.out 4; have hfz19_5 := blk_frozen BK137.out 5; have hfz19_6 := blk_frozen BK137.out 6; have hfz19_7 := blk_frozen BK137.out 7) | (go_at_call 94; (with_reducible refine (spec_l2In.calls k _ _ l0_6 a0_0 false _ ?side1 ?side2 A6.out).mono ?_); (case side1 => repeat (first | exact (Kd.C_below HR0_6.out HB.out) | (with_reducible refine Kd.C_alloc ?_ _) | (with_reducible refine Kd.C_drewN ?_ _) | (with_reducible refine Kd.C_drew ?_))); (case side2 => exact HC0_6.out); rintro e w' ⟨rfl, ⟨nd, rfl⟩⟩; (try first | exact ⟨rfl, _, World.drewN_drewN _ _ _⟩ | exact ⟨rfl, _, Eq.trans (World.drewN_drewN _ _ _) (congrArg (World.drewN _) (Nat.add_assoc _ _ _))⟩))))
    go_meet
    case rel => exact ⟨_, (true), (by first | rfl | (simp; done) | (simp [*]; done)), H', ⟨by first | omega | exact Nat.le_refl _⟩, ⟨Zz.rb_ BK137.out⟩, ⟨Zz.rB_ HB.out⟩⟩
  ·
   replace c5 := Bool.eq_false_iff.mpr c5
   subst c5
   have H1 : (spec_ValidFetch.j0 k true a0_0 a0_1 a0_2 a0_3 a0_4 l0_5 l0_6 l0_7) = some r := by rw [if_neg (show ¬ (false = true) by decide)] at H; exact H
   clear H
   have H := H1
   clear H1
   have H' := Aside0.mk H
   clear H
   have hcz20_0 : w3.cell? ⟨gb137, 0, none⟩ = some (.string a0_0) := (blk_cell BK137.out 0).trans rfl
   have hcz20_1 : w3.cell? ⟨gb137, 1, none⟩ = some (.int .i64 a0_1) := (blk_cell BK137.out 1).trans rfl
   have hcz20_2 : w3.cell? ⟨gb137, 2, none⟩ = some (.bool a0_2) := (blk_cell BK137.out 2).trans rfl
   have hcz20_3 : w3.cell? ⟨gb137, 3, none⟩ = some (.int .i64 a0_3) := (blk_cell BK137.out 3).trans rfl
   have hcz20_4 : w3.cell? ⟨gb137, 4, none⟩ = some (.int .i64 a0_4) := (blk_cell BK137.out 4).trans rfl
   have hcz20_5 : w3.cell? ⟨gb137, 5, none⟩ = some (.slice A0_5 l0_5.length c0_5) := (blk_cell BK137.out 5).trans rfl
   have hcz20_6 : w3.cell? ⟨gb137, 6, none⟩ = some (.slice A0_6 l0_6.length c0_6) := (blk_cell BK137.out 6).trans rfl
   have hcz20_7 : w3.cell? ⟨gb137, 7, none⟩ = some (.slice A0_7 l0_7.length c0_7) := (blk_cell BK137.out 7).trans rfl
   have hfz20_0 := blk_frozen BK137.out 0
   have hfz20_1 := blk_frozen BK137.out 1
   have hfz20_2 := blk_frozen BK137.out 2
   have hfz20_3 := blk_frozen BK137.out 3
   have hfz20_4 := blk_frozen BK137.out 4
   have hfz20_5 := blk_frozen BK137.out 5
   have hfz20_6 := blk_frozen BK137.out 6
   have hfz20_7 := blk_frozen BK137.out 7
   go_wp2_with (first | (go_at_call 19; (with_reducible refine (spec_ValidStore.calls k a0_3 a0_4 _ _ l0_5 _ _ l0_6 false _ ?side1 ?side2 ?side3 ?side4 A4.out).mono ?_); (case side1 => repeat (first | exact (Kd.C_below HR0_5.out HB.out) | (with_reducible refine Kd.C_alloc ?_ _) | (with_reducible refine Kd.C_drewN ?_ _) | (with_reducible refine Kd.C_drew ?_))); (case side2 => exact HC0_5.out); (case side3 => repeat (first | exact (Kd.C_below HR0_6.out HB.out) | (with_reducible refine Kd.C_alloc ?_ _) | (with_reducible refine Kd.C_drewN ?_ _) | (with_reducible refine Kd.C_drew ?_))); (case side4 => exact HC0_6.out); rintro e w21 ⟨rfl, hb⟩; have n0_ := Aside0.mk (blk_below (g := gb137) (o := .cells #[.string a0_0, .int .i64 a0_1, .bool a0_2, .int .i64 a0_3, .int .i64 a0_4, .slice A0_5 l0_5.length c0_5, .slice A0_6 l0_6.length c0_6, .slice A0_7 l0_7.length c0_7] 69 (0, 0)) (Zz.rb_ BK137.out) hb); have n1_ := Aside0.mk (below_step (Zz.rB_ HB.out) hb); clear BK137; clear HB; have BK137 := n0_; have HB := n1_; clear n0_ n1_; (try clear hb); (try clear hb2); (try clear hk); (try clear hi)))
   repeat (go_quiet (first | (go_at_call 19; (with_reducible refine (spec_ValidStore.calls k a0_3 a0_4 _ _ l0_5 _ _ l0_6 false _ ?side1 ?side2 ?side3 ?side4 A4.out).mono ?_); (case side1 => repeat (first | exact (Kd.C_below HR0_5.out HB.out) | (with_reducible refine Kd.C_alloc ?_ _) | (with_reducible refine Kd.C_drewN ?_ _) | (with_reducible refine Kd.C_drew ?_))); (case side2 => exact HC0_5.out); (case side3 => repeat (first | exact (Kd.C_below HR0_6.out HB.out) | (with_reducible refine Kd.C_alloc ?_ _) | (with_reducible refine Kd.C_drewN ?_ _) | (with_reducible refine Kd.C_drew ?_))); (case side4 => exact HC0_6.out); rintro e w21 ⟨rfl, hb⟩; have n0_ := Aside0.mk (blk_below (g := gb137) (o := .cells #[.string a0_0, .int .i64 a0_1, .bool a0_2, .int .i64 a0_3, .int .i64 a0_4, .slice A0_5 l0_5.length c0_5, .slice A0_6 l0_6.length c0_6, .slice A0_7 l0_7.length c0_7] 69 (0, 0)) (Zz.rb_ BK137.out) hb); have n1_ := Aside0.mk (below_step (Zz.rB_ HB.out) hb); clear BK137; clear HB; have BK137 := n0_; have HB := n1_; clear n0_ n1_; (try clear hb); (try clear hb2); (try clear hk); (try clear hi))); try go_wp2_with (first | (go_at_call 19; (with_reducible refine (spec_ValidStore.calls k a0_3 a0_4 _ _ l0_5 _ _ l0_6 false _ ?side1 ?side2 ?side3 ?side4 A4.out).mono ?_); (case side1 => repeat (first | exact (Kd.C_below HR0_5.out HB.out) | (with_reducible refine Kd.C_alloc ?_ _) | (with_reducible refine Kd.C_drewN ?_ _) | (with_reducible refine Kd.C_drew ?_))); (case side2 => exact HC0_5.out); (case side3 => repeat (first | exact (Kd.C_below HR0_6.out HB.out) | (with_reducible refine Kd.C_alloc ?_ _) | (with_reducible refine Kd.C_drewN ?_ _) | (with_reducible refine Kd.C_drew ?_))); (case side4 => exact HC0_6.out); rintro e w21 ⟨rfl, hb⟩; have n0_ := Aside0.mk (blk_below (g := gb137) (o := .cells #[.string a0_0, .int .i64 a0_1, .bool a0_2, .int .i64 a0_3, .int .i64 a0_4, .slice A0_5 l0_5.length c0_5, .slice A0_6 l0_6.length c0_6, .slice A0_7 l0_7.length c0_7] 69 (0, 0)) (Zz.rb_ BK137.out) hb); have n1_ := Aside0.mk (below_step (Zz.rB_ HB.out) hb); clear BK137; clear HB; have BK137 := n0_; have HB := n1_; clear n0_ n1_; (try clear hb); (try clear hb2); (try clear hk); (try clear hi))))
   go_meet
   case rel => exact ⟨_, (true), (by first | rfl | (simp; done) | (simp [*]; done)), H', ⟨by first | omega | exact Nat.le_refl _⟩, ⟨Zz.rb_ BK137.out⟩, ⟨Zz.rB_ HB.out⟩⟩
 case rest =>
  clear HC2
  try clear p2
  try clear c4
  try clear c5
  try clear c7
  try clear c9
  try clear hcz11_0
  try clear hcz11_1
  try clear hcz11_2
  try clear hcz11_3
  try clear hcz11_4
  try clear hcz11_5
  try clear hcz11_6
  try clear hcz11_7
  try clear hcz13_0
  try clear hcz13_1
  try clear hcz13_2
  try clear hcz13_3
  try clear hcz13_4
  try clear hcz13_5
  try clear hcz13_6
  try clear hcz13_7
  try clear hcz14_0
  try clear hcz14_1
  try clear hcz14_2
  try clear hcz14_3
  try clear hcz14_4
  try clear hcz14_5
  try clear hcz14_6
  try clear hcz14_7
  try clear hcz16_0
  try clear hcz16_1
  try clear hcz16_2
  try clear hcz16_3
  try clear hcz16_4
  try clear hcz16_5
  try clear hcz16_6
  try clear hcz16_7
  try clear hcz17_0
  try clear hcz17_1
  try clear hcz17_2
  try clear hcz17_3
  try clear hcz17_4
  try clear hcz17_5
  try clear hcz17_6
  try clear hcz17_7
  try clear hcz19_0
  try clear hcz19_1
  try clear hcz19_2
  try clear hcz19_3
  try clear hcz19_4
  try clear hcz19_5
  try clear hcz19_6
  try clear hcz19_7
  try clear hcz20_0
  try clear hcz20_1
  try clear hcz20_2
  try clear hcz20_3
  try clear hcz20_4
  try clear hcz20_5
  try clear hcz20_6
  try clear hcz20_7
  try clear hfz11_0
  try clear hfz11_1
  try clear hfz11_2
  try clear hfz11_3
  try clear hfz11_4
  try clear hfz11_5
  try clear hfz11_6
  try clear hfz11_7
  try clear hfz13_0
  try clear hfz13_1
  try clear hfz13_2
  try clear hfz13_3
  try clear hfz13_4
  try clear hfz13_5
  try clear hfz13_6
  try clear hfz13_7
  try clear hfz14_0
  try clear hfz14_1
  try clear hfz14_2
  try clear hfz14_3
  try clear hfz14_4
  try clear hfz14_5
  try clear hfz14_6
  try clear hfz14_7
  try clear hfz16_0
  try clear hfz16_1
  try clear hfz16_2
  try clear hfz16_3
  try clear hfz16_4
  try clear hfz16_5
  try clear hfz16_6
  try clear hfz16_7
  try clear hfz17_0
  try clear hfz17_1
  try clear hfz17_2
  try clear hfz17_3
  try clear hfz17_4
  try clear hfz17_5
  try clear hfz17_6
  try clear hfz17_7
  try clear hfz19_0
  try clear hfz19_1
  try clear hfz19_2
  try clear hfz19_3
  try clear hfz19_4
  try clear hfz19_5
  try clear hfz19_6
  try clear hfz19_7
  try clear hfz20_0
  try clear hfz20_1
  try clear hfz20_2
  try clear hfz20_3
  try clear hfz20_4
  try clear hfz20_5
  try clear hfz20_6
  try clear hfz20_7
  obtain ⟨kq, x31_1, rfl, HA, HJ1, BK137, HB⟩ := hcut
  cases kq with
  | zero => exact absurd HA.out (by simp [spec_ValidFetch.j0])
  | succ kj1 =>
   have H := HA.out
   clear HA
   simp only [spec_ValidFetch.j0] at H
   by_cases c22 : x31_1 = true
   ·
    subst c22
    have H1 : (some false) = some r := by rw [if_pos rfl] at H; exact H
    clear H
    have H := H1
    clear H1
    obtain rfl := Option.some.inj H
    go_wp2
    repeat (go_quiet (fail); try go_wp2)
    go_ret
    exact ⟨by first | rfl | (simp [errW_none, errW_some] <;> rfl) | (simp [*, errW_none, errW_some] <;> rfl), by repeat (first | (with_reducible first | exact HB.out | apply below_alloc | apply pw_below_drewN | apply below_drew1 | refine below_set ?_ GE137.out) | exact HB.out)⟩
   ·
    replace c22 := Bool.eq_false_iff.mpr c22
    subst c22
    have H1 : (spec_ValidFetch.l0 kj1 0 a0_0 a0_1 a0_2 a0_3 a0_4 l0_5 l0_6 l0_7) = some r := by rw [if_neg (show ¬ (false = true) by decide)] at H; exact H
    clear H
    have H := H1
    clear H1
    have H' := Aside0.mk H
    clear H
    go_wp2
    repeat (go_quiet (fail); try go_wp2)
    go_loopg [3] kj1 (fun kq v3 w' => ∃ (x3_2 : Int), v3 = .int .i64 x3_2 ∧ Aside0 (spec_ValidFetch.l0 kq x3_2 a0_0 a0_1 a0_2 a0_3 a0_4 l0_5 l0_6 l0_7 = some r) ∧ Aside0 (kq ≤ kj1) ∧ Aside0 (w'.heap[gb137]? = some (.cells #[.string a0_0, .int .i64 a0_1, .bool a0_2, .int .i64 a0_3, .int .i64 a0_4, (.slice A0_5 l0_5.length c0_5), (.slice A0_6 l0_6.length c0_6), (.slice A0_7 l0_7.length c0_7)] 69 (0, 0))) ∧ Aside0 (Below w.heap.size w w'))
    case atStart => exact ⟨(0), (by first | rfl | (simp; done) | (simp [*]; done)), H', ⟨Nat.le_refl _⟩, ⟨Zz.rb_ BK137.out⟩, ⟨Zz.rB_ HB.out⟩⟩
    case round =>
     clear H'
     try clear c2
     try clear p2
     try clear c4
     try clear c5
     try clear c7
     try clear c9
     try clear c22
     try clear hcz11_0
     try clear hcz11_1
     try clear hcz11_2
     try clear hcz11_3
     try clear hcz11_4
     try clear hcz11_5
     try clear hcz11_6
     try clear hcz11_7
     try clear hcz13_0
     try clear hcz13_1
     try clear hcz13_2
     try clear hcz13_3
     try clear hcz13_4
     try clear hcz13_5
     try clear hcz13_6
     try clear hcz13_7
     try clear hcz14_0
     try clear hcz14_1
     try clear hcz14_2
     try clear hcz14_3
     try clear hcz14_4
     try clear hcz14_5
     try clear hcz14_6
     try clear hcz14_7
     try clear hcz16_0
     try clear hcz16_1
     try clear hcz16_2
     try clear hcz16_3
     try clear hcz16_4
     try clear hcz16_5
     try clear hcz16_6
     try clear hcz16_7
     try clear hcz17_0
     try clear hcz17_1
     try clear hcz17_2
     try clear hcz17_3
     try clear hcz17_4
     try clear hcz17_5
     try clear hcz17_6
     try clear hcz17_7
     try clear hcz19_0
     try clear hcz19_1
     try clear hcz19_2
     try clear hcz19_3
     try clear hcz19_4
     try clear hcz19_5
     try clear hcz19_6
     try clear hcz19_7
     try clear hcz20_0
     try clear hcz20_1
     try clear hcz20_2
     try clear hcz20_3
     try clear hcz20_4
     try clear hcz20_5
     try clear hcz20_6
     try clear hcz20_7
     try clear hfz11_0
     try clear hfz11_1
     try clear hfz11_2
     try clear hfz11_3
     try clear hfz11_4
     try clear hfz11_5
     try clear hfz11_6
     try clear hfz11_7
     try clear hfz13_0
     try clear hfz13_1
     try clear hfz13_2
     try clear hfz13_3
     try clear hfz13_4
     try clear hfz13_5
     try clear hfz13_6
     try clear hfz13_7
     try clear hfz14_0
     try clear hfz14_1
     try clear hfz14_2
     try clear hfz14_3
     try clear hfz14_4
     try clear hfz14_5
     try clear hfz14_6
     try clear hfz14_7
     try clear hfz16_0
     try clear hfz16_1
     try clear hfz16_2
     try clear hfz16_3
     try clear hfz16_4
     try clear hfz16_5
     try clear hfz16_6
     try clear hfz16_7
     try clear hfz17_0
     try clear hfz17_1
     try clear hfz17_2
     try clear hfz17_3
     try clear hfz17_4
     try clear hfz17_5
     try clear hfz17_6
     try clear hfz17_7
     try clear hfz19_0
     try clear hfz19_1
     try clear hfz19_2
     try clear hfz19_3
     try clear hfz19_4
     try clear hfz19_5
     try clear hfz19_6
     try clear hfz19_7
     try clear hfz20_0
     try clear hfz20_1
     try clear hfz20_2
     try clear hfz20_3
     try clear hfz20_4
     try clear hfz20_5
     try clear hfz20_6
     try clear hfz20_7
     try clear p2
     obtain ⟨x3_2, rfl, HA, HK2, BK137, HB⟩ := hrel
     cases gk with
     | zero => exact absurd HA.out (by simp [spec_ValidFetch.l0])
     | succ k2 =>
      have H := HA.out
      clear HA
      simp only [spec_ValidFetch.l0] at H
      by_cases c23 : x3_2 < (l0_7.length : Int)
      ·
       rw [if_pos c23] at H
       have c23b0 : decide (x3_2 < (l0_7.length : Int)) = true := decide_eq_true c23
       clear c23
       by_cases c24 : 0 ≤ x3_2
       ·
        rw [if_pos c24] at H
        have c24b0 : decide (0 ≤ x3_2) = true := decide_eq_true c24
        clear c24
        have HC25 := Aside0.mk H
        clear H
        have hcz26_0 : wr.cell? ⟨gb137, 0, none⟩ = some (.string a0_0) := (blk_cell BK137.out 0).trans rfl
        have hcz26_1 : wr.cell? ⟨gb137, 1, none⟩ = some (.int .i64 a0_1) := (blk_cell BK137.out 1).trans rfl
        have hcz26_2 : wr.cell? ⟨gb137, 2, none⟩ = some (.bool a0_2) := (blk_cell BK137.out 2).trans rfl
        have hcz26_3 : wr.cell? ⟨gb137, 3, none⟩ = some (.int .i64 a0_3) := (blk_cell BK137.out 3).trans rfl
        have hcz26_4 : wr.cell? ⟨gb137, 4, none⟩ = some (.int .i64 a0_4) := (blk_cell BK137.out 4).trans rfl
        have hcz26_5 : wr.cell? ⟨gb137, 5, none⟩ = some (.slice A0_5 l0_5.length c0_5) := (blk_cell BK137.out 5).trans rfl
        have hcz26_6 : wr.cell? ⟨gb137, 6, none⟩ = some (.slice A0_6 l0_6.length c0_6) := (blk_cell BK137.out 6).trans rfl
        have hcz26_7 : wr.cell? ⟨gb137, 7, none⟩ = some (.slice A0_7 l0_7.length c0_7) := (blk_cell BK137.out 7).trans rfl
        have hfz26_0 := blk_frozen BK137.out 0
        have hfz26_1 := blk_frozen BK137.out 1
        have hfz26_2 := blk_frozen BK137.out 2
        have hfz26_3 := blk_frozen BK137.out 3
        have hfz26_4 := blk_frozen BK137.out 4
        have hfz26_5 := blk_frozen BK137.out 5
        have hfz26_6 := blk_frozen BK137.out 6
        have hfz26_7 := blk_frozen BK137.out 7
        have p142 : 0 ≤ (x3_2 : Int) := Zz.od_
        have q142 : x3_2 < (l0_7.length : Int) := Zz.od_
        obtain ⟨ad142, A142_4, c142_4, e142, hx142_0, hx142_1, hx142_2, hx142_3, hx142_4, hl142_4, hi142_4⟩ := at_T112 HR0_7.out x3_2 p142 q142
        cases e142
        replace hx142_0 := (HB.out.cell (World.block_lt_of_cell? w _ hx142_0)).trans hx142_0
        replace hx142_1 := (HB.out.cell (World.block_lt_of_cell? w _ hx142_1)).trans hx142_1
        replace hx142_2 := (HB.out.cell (World.block_lt_of_cell? w _ hx142_2)).trans hx142_2
        replace hx142_3 := (HB.out.cell (World.block_lt_of_cell? w _ hx142_3)).trans hx142_3
        replace hx142_4 := (HB.out.cell (World.block_lt_of_cell? w _ hx142_4)).trans hx142_4
        have HR142_4 := Aside0.mk hi142_4
        have HC142_4 := Aside0.mk hl142_4
        clear hi142_4 hl142_4
        replace p142 := eq_true p142
        replace q142 := eq_true q142
        go_upto_region 7 with (first | ((with_reducible refine gate_dst (N := 4) rfl ?_); (try (refine gate_guard (by rfl) ?_; dsimp only)); refine box_event ?hg (N := 4) ?hd (cs := #[.int .i64 0, .int .i64 0, .int .i64 0, .string (⟨#[]⟩ : ByteArray), .slice none 0 0]) (t := 112) ?hr ?_; (case hd => rfl); (case hg => rfl); (case hr => first | (go_simp; done) | (go_simp; rfl)); intro gb143 hg w27 hbox hb; have n0_ := Aside0.mk (blk_below (g := gb137) (o := .cells #[.string a0_0, .int .i64 a0_1, .bool a0_2, .int .i64 a0_3, .int .i64 a0_4, .slice A0_5 l0_5.length c0_5, .slice A0_6 l0_6.length c0_6, .slice (some ad142) l0_7.length c0_7] 69 (0, 0)) (Zz.rb_ BK137.out) hb); have n1_ := Aside0.mk (below_step (Zz.rB_ HB.out) hb); have n2_ := Aside0.mk (hbox); have n3_ := Aside0.mk ((by rw [hg]; exact (below_size (Zz.rB_ HB.out)) : w.heap.size ≤ gb143)); have n4_ := Aside0.mk ((by rw [hg]; exact (below_size (Zz.rB_ HB.out)) : w.heap.size ≤ gb143)); have n5_ := Aside0.mk ((by rw [hg]; exact Nat.ne_of_lt (blk_lt (g := gb137) (o := .cells #[.string a0_0, .int .i64 a0_1, .bool a0_2, .int .i64 a0_3, .int .i64 a0_4, .slice A0_5 l0_5.length c0_5, .slice A0_6 l0_6.length c0_6, .slice (some ad142) l0_7.length c0_7] 69 (0, 0)) (Zz.rb_ BK137.out)) : gb137 ≠ gb143)); have n6_ := Aside0.mk ((by rw [hg]; exact Nat.ne_of_gt (blk_lt (g := gb137) (o := .cells #[.string a0_0, .int .i64 a0_1, .bool a0_2, .int .i64 a0_3, .int .i64 a0_4, .slice A0_5 l0_5.length c0_5, .slice A0_6 l0_6.length c0_6, .slice (some ad142) l0_7.length c0_7] 69 (0, 0)) (Zz.rb_ BK137.out)) : gb143 ≠ gb137)); clear BK137; clear HB; have BK137 := n0_; have HB := n1_; have BK143 := n2_; have GW143 := n3_; have GE143 := n4_; have NB137_143 := n5_; have NB143_137 := n6_; clear n0_ n1_ n2_ n3_ n4_ n5_ n6_; clear hb hbox hg; have hnb28 := NB143_137.out; have hnc28 := NB137_143.out; have hcz29_0 : w27.cell? ⟨gb143, 0, none⟩ = some (.int .i64 0) := (blk_cell BK143.out 0).trans rfl; have hcz29_1 : w27.cell? ⟨gb143, 1, none⟩ = some (.int .i64 0) := (blk_cell BK143.out 1).trans rfl; have hcz29_2 : w27.cell? ⟨gb143, 2, none⟩ = some (.int .i64 0) := (blk_cell BK143.out 2).trans rfl; have hcz29_3 : w27.cell? ⟨gb143, 3, none⟩ = some (.string (⟨#[]⟩ : ByteArray)) := (blk_cell BK143.out 3).trans rfl; have hcz29_4 : w27.cell? ⟨gb143, 4, none⟩ = some (.slice none 0 0) := (blk_cell BK143.out 4).trans rfl; have hfz29_0 := blk_frozen BK143.out 0; have hfz29_1 := blk_frozen BK143.out 1; have hfz29_2 := blk_frozen BK143.out 2; have hfz29_3 := blk_frozen BK143.out 3; have hfz29_4 := blk_frozen BK143.out 4))
        repeat (go_quiet (first | ((with_reducible refine gate_dst (N := 4) rfl ?_); (try (refine gate_guard (by rfl) ?_; dsimp only)); refine box_event ?hg (N := 4) ?hd (cs := #[.int .i64 0, .int .i64 0, .int .i64 0, .string (⟨#[]⟩ : ByteArray), .slice none 0 0]) (t := 112) ?hr ?_; (case hd => rfl); (case hg => rfl); (case hr => first | (go_simp; done) | (go_simp; rfl)); intro gb143 hg w27 hbox hb; have n0_ := Aside0.mk (blk_below (g := gb137) (o := .cells #[.string a0_0, .int .i64 a0_1, .bool a0_2, .int .i64 a0_3, .int .i64 a0_4, .slice A0_5 l0_5.length c0_5, .slice A0_6 l0_6.length c0_6, .slice (some ad142) l0_7.length c0_7] 69 (0, 0)) (Zz.rb_ BK137.out) hb); have n1_ := Aside0.mk (below_step (Zz.rB_ HB.out) hb); have n2_ := Aside0.mk (hbox); have n3_ := Aside0.mk ((by rw [hg]; exact (below_size (Zz.rB_ HB.out)) : w.heap.size ≤ gb143)); have n4_ := Aside0.mk ((by rw [hg]; exact (below_size (Zz.rB_ HB.out)) : w.heap.size ≤ gb143)); have n5_ := Aside0.mk ((by rw [hg]; exact Nat.ne_of_lt (blk_lt (g := gb137) (o := .cells #[.string a0_0, .int .i64 a0_1, .bool a0_2, .int .i64 a0_3, .int .i64 a0_4, .slice A0_5 l0_5.length c0_5, .slice A0_6 l0_6.length c0_6, .slice (some ad142) l0_7.length c0_7] 69 (0, 0)) (Zz.rb_ BK137.out)) : gb137 ≠ gb143)); have n6_ := Aside0.mk ((by rw [hg]; exact Nat.ne_of_gt (blk_lt (g := gb137) (o := .cells #[.string a0_0, .int .i64 a0_1, .bool a0_2, .int .i64 a0_3, .int .i64 a0_4, .slice A0_5 l0_5.length c0_5, .slice A0_6 l0_6.length c0_6, .slice (some ad142) l0_7.length c0_7] 69 (0, 0)) (Zz.rb_ BK137.out)) : gb143 ≠ gb137)); clear BK137; clear HB; have BK137 := n0_; have HB := n1_; have BK143 := n2_; have GW143 := n3_; have GE143 := n4_; have NB137_143 := n5_; have NB143_137 := n6_; clear n0_ n1_ n2_ n3_ n4_ n5_ n6_; clear hb hbox hg; have hnb28 := NB143_137.out; have hnc28 := NB137_143.out; have hcz29_0 : w27.cell? ⟨gb143, 0, none⟩ = some (.int .i64 0) := (blk_cell BK143.out 0).trans rfl; have hcz29_1 : w27.cell? ⟨gb143, 1, none⟩ = some (.int .i64 0) := (blk_cell BK143.out 1).trans rfl; have hcz29_2 : w27.cell? ⟨gb143, 2, none⟩ = some (.int .i64 0) := (blk_cell BK143.out 2).trans rfl; have hcz29_3 : w27.cell? ⟨gb143, 3, none⟩ = some (.string (⟨#[]⟩ : ByteArray)) := (blk_cell BK143.out 3).trans rfl; have hcz29_4 : w27.cell? ⟨gb143, 4, none⟩ = some (.slice none 0 0) := (blk_cell BK143.out 4).trans rfl; have hfz29_0 := blk_frozen BK143.out 0; have hfz29_1 := blk_frozen BK143.out 1; have hfz29_2 := blk_frozen BK143.out 2; have hfz29_3 := blk_frozen BK143.out 3; have hfz29_4 := blk_frozen BK143.out 4)); go_upto_region 7 with (first | ((with_reducible refine gate_dst (N := 4) rfl ?_); (try (refine gate_guard (by rfl) ?_; dsimp only)); refine box_event ?hg (N := 4) ?hd (cs := #[.int .i64 0, .int .i64 0, .int .i64 0, .string (⟨#[]⟩ : ByteArray), .slice none 0 0]) (t := 112) ?hr ?_; (case hd => rfl); (case hg => rfl); (case hr => first | (go_simp; done) | (go_simp; rfl)); intro gb143 hg w27 hbox hb; have n0_ := Aside0.mk (blk_below (g := gb137) (o := .cells #[.string a0_0, .int .i64 a0_1, .bool a0_2, .int .i64 a0_3, .int .i64 a0_4, .slice A0_5 l0_5.length c0_5, .slice A0_6 l0_6.length c0_6, .slice (some ad142) l0_7.length c0_7] 69 (0, 0)) (Zz.rb_ BK137.out) hb); have n1_ := Aside0.mk (below_step (Zz.rB_ HB.out) hb); have n2_ := Aside0.mk (hbox); have n3_ := Aside0.mk ((by rw [hg]; exact (below_size (Zz.rB_ HB.out)) : w.heap.size ≤ gb143)); have n4_ := Aside0.mk ((by rw [hg]; exact (below_size (Zz.rB_ HB.out)) : w.heap.size ≤ gb143)); have n5_ := Aside0.mk ((by rw [hg]; exact Nat.ne_of_lt (blk_lt (g := gb137) (o := .cells #[.string a0_0, .int .i64 a0_1, .bool a0_2, .int .i64 a0_3, .int .i64 a0_4, .slice A0_5 l0_5.length c0_5, .slice A0_6 l0_6.length c0_6, .slice (some ad142) l0_7.length c0_7] 69 (0, 0)) (Zz.rb_ BK137.out)) : gb137 ≠ gb143)); have n6_ := Aside0.mk ((by rw [hg]; exact Nat.ne_of_gt (blk_lt (g := gb137) (o := .cells #[.string a0_0, .int .i64 a0_1, .bool a0_2, .int .i64 a0_3, .int .i64 a0_4, .slice A0_5 l0_5.length c0_5, .slice A0_6 l0_6.length c0_6, .slice (some ad142) l0_7.length c0_7] 69 (0, 0)) (Zz.rb_ BK137.out)) : gb143 ≠ gb137)); clear BK137; clear HB; have BK137 := n0_; have HB := n1_; have BK143 := n2_; have GW143 := n3_; have GE143 := n4_; have NB137_143 := n5_; have NB143_137 := n6_; clear n0_ n1_ n2_ n3_ n4_ n5_ n6_; clear hb hbox hg; have hnb28 := NB143_137.out; have hnc28 := NB137_143.out; have hcz29_0 : w27.cell? ⟨gb143, 0, none⟩ = some (.int .i64 0) := (blk_cell BK143.out 0).trans rfl; have hcz29_1 : w27.cell? ⟨gb143, 1, none⟩ = some (.int .i64 0) := (blk_cell BK143.out 1).trans rfl; have hcz29_2 : w27.cell? ⟨gb143, 2, none⟩ = some (.int .i64 0) := (blk_cell BK143.out 2).trans rfl; have hcz29_3 : w27.cell? ⟨gb143, 3, none⟩ = some (.string (⟨#[]⟩ : ByteArray)) := (blk_cell BK143.out 3).trans rfl; have hcz29_4 : w27.cell? ⟨gb143, 4, none⟩ = some (.slice none 0 0) := (blk_cell BK143.out 4).trans rfl; have hfz29_0 := blk_frozen BK143.out 0; have hfz29_1 := blk_frozen BK143.out 1; have hfz29_2 := blk_frozen BK143.out 2; have hfz29_3 := blk_frozen BK143.out 3; have hfz29_4 := blk_frozen BK143.out 4)))
        (try simp only [Act.put, List.setIfInBounds_toArray, List.set_cons_zero, List.set_cons_succ])
        go_cut [67] (fun v67 wc => ∃ (kq : Nat) (x67_24 : Bool), v67 = .bool x67_24 ∧ Aside0 (spec_ValidFetch.j2 kq x3_2 x67_24 a0_0 a0_1 a0_2 a0_3 a0_4 l0_5 l0_6 l0_7 ((rd_T112 l0_7 x3_2).f0) ((rd_T112 l0_7 x3_2).f1) ((rd_T112 l0_7 x3_2).f2) ((rd_T112 l0_7 x3_2).f3) ((rd_T112 l0_7 x3_2).f4) = some r) ∧ Aside0 (kq ≤ k2) ∧ Aside0 (wc.heap[gb137]? = some (.cells #[.string a0_0, .int .i64 a0_1, .bool a0_2, .int .i64 a0_3, .int .i64 a0_4, (.slice A0_5 l0_5.length c0_5), (.slice A0_6 l0_6.length c0_6), (.slice (some ad142) l0_7.length c0_7)] 69 (0, 0))) ∧ Aside0 (wc.heap[gb143]? = some (.cells #[.int .i64 ((rd_T112 l0_7 x3_2).f0), .int .i64 ((rd_T112 l0_7 x3_2).f1), .int .i64 ((rd_T112 l0_7 x3_2).f2), .string ((rd_T112 l0_7 x3_2).f3), (.slice A142_4 ((rd_T112 l0_7 x3_2).f4).length c142_4)] 112 (0, 0))) ∧ Aside0 (Below w.heap.size w wc))
        case first =>
         have H := HC25.out
         clear HC25
         replace H := Option.bind_eq_some_iff.mp H
         obtain ⟨t144, A300, H⟩ := H
         replace H : (if t144 = true then ((spec_l1In.f ((rd_T112 l0_7 x3_2).f1) 0 5).bind fun t145 => (if t145 = true then ((spec_l1In.f ((rd_T112 l0_7 x3_2).f2) (-1) a0_1).bind fun t146 => (if t146 = true then (spec_ValidFetch.j2 k2 x3_2 (decide ((((rd_T112 l0_7 x3_2).f4).length : Int) > 376)) a0_0 a0_1 a0_2 a0_3 a0_4 l0_5 l0_6 l0_7 ((rd_T112 l0_7 x3_2).f0) ((rd_T112 l0_7 x3_2).f1) ((rd_T112 l0_7 x3_2).f2) ((rd_T112 l0_7 x3_2).f3) ((rd_T112 l0_7 x3_2).f4)) else (spec_ValidFetch.j2 k2 x3_2 true a0_0 a0_1 a0_2 a0_3 a0_4 l0_5 l0_6 l0_7 ((rd_T112 l0_7 x3_2).f0) ((rd_T112 l0_7 x3_2).f1) ((rd_T112 l0_7 x3_2).f2) ((rd_T112 l0_7 x3_2).f3) ((rd_T112 l0_7 x3_2).f4)))) else (spec_ValidFetch.j2 k2 x3_2 true a0_0 a0_1 a0_2 a0_3 a0_4 l0_5 l0_6 l0_7 ((rd_T112 l0_7 x3_2).f0) ((rd_T112 l0_7 x3_2).f1) ((rd_T112 l0_7 x3_2).f2) ((rd_T112 l0_7 x3_2).f3) ((rd_T112 l0_7 x3_2).f4)))) else (spec_ValidFetch.j2 k2 x3_2 true a0_0 a0_1 a0_2 a0_3 a0_4 l0_5 l0_6 l0_7 ((rd_T112 l0_7 x3_2).f0) ((rd_T112 l0_7 x3_2).f1) ((rd_T112 l0_7 x3_2).f2) ((rd_T112 l0_7 x3_2).f3) ((rd_T112 l0_7 x3_2).f4))) = some r := H
         have A30 := Aside0.mk A300
         clear A300
         by_cases c31 : t144 = true
         ·
          subst c31
          have H1 : ((spec_l1In.f ((rd_T112 l0_7 x3_2).f1) 0 5).bind fun t145 => (if t145 = true then ((spec_l1In.f ((rd_T112 l0_7 x3_2).f2) (-1) a0_1).bind fun t146 => (if t146 = true then (spec_ValidFetch.j2 k2 x3_2 (decide ((((rd_T112 l0_7 x3_2).f4).length : Int) > 376)) a0_0 a0_1 a0_2 a0_3 a0_4 l0_5 l0_6 l0_7 ((rd_T112 l0_7 x3_2).f0) ((rd_T112 l0_7 x3_2).f1) ((rd_T112 l0_7 x3_2).f2) ((rd_T112 l0_7 x3_2).f3) ((rd_T112 l0_7 x3_2).f4)) else (spec_ValidFetch.j2 k2 x3_2 true a0_0 a0_1 a0_2 a0_3 a0_4 l0_5 l0_6 l0_7 ((rd_T112 l0_7 x3_2).f0) ((rd_T112 l0_7 x3_2).f1) ((rd_T112 l0_7 x3_2).f2) ((rd_T112 l0_7 x3_2).f3) ((rd_T112 l0_7 x3_2).f4)))) else (spec_ValidFetch.j2 k2 x3_2 true a0_0 a0_1 a0_2 a0_3 a0_4 l0_5 l0_6 l0_7 ((rd_T112 l0_7 x3_2).f0) ((rd_T112 l0_7 x3_2).f1) ((rd_T112 l0_7 x3_2).f2) ((rd_T112 l0_7 x3_2).f3) ((rd_T112 l0_7 x3_2).f4)))) = some r := by rw [if_pos rfl] at H; exact H
          clear H
          have H := H1
          clear H1
          replace H := Option.bind_eq_some_iff.mp H
          obtain ⟨t145, A320, H⟩ := H
          replace H : (if t145 = true then ((spec_l1In.f ((rd_T112 l0_7 x3_2).f2) (-1) a0_1).bind fun t146 => (if t146 = true then (spec_ValidFetch.j2 k2 x3_2 (decide ((((rd_T112 l0_7 x3_2).f4).length : Int) > 376)) a0_0 a0_1 a0_2 a0_3 a0_4 l0_5 l0_6 l0_7 ((rd_T112 l0_7 x3_2).f0) ((rd_T112 l0_7 x3_2).f1) ((rd_T112 l0_7 x3_2).f2) ((rd_T112 l0_7 x3_2).f3) ((rd_T112 l0_7 x3_2).f4)) else (spec_ValidFetch.j2 k2 x3_2 true a0_0 a0_1 a0_2 a0_3 a0_4 l0_5 l0_6 l0_7 ((rd_T112 l0_7 x3_2).f0) ((rd_T112 l0_7 x3_2).f1) ((rd_T112 l0_7 x3_2).f2) ((rd_T112 l0_7 x3_2).f3) ((rd_T112 l0_7 x3_2).f4)))) else (spec_ValidFetch.j2 k2 x3_2 true a0_0 a0_1 a0_2 a0_3 a0_4 l0_5 l0_6 l0_7 ((rd_T112 l0_7 x3_2).f0) ((rd_T112 l0_7 x3_2).f1) ((rd_T112 l0_7 x3_2).f2) ((rd_T112 l0_7 x3_2).f3) ((rd_T112 l0_7 x3_2).f4))) = some r := H
          have A32 := Aside0.mk A320
          clear A320
          by_cases c33 : t145 = true
          ·
           subst c33
           have H1 : ((spec_l1In.f ((rd_T112 l0_7 x3_2).f2) (-1) a0_1).bind fun t146 => (if t146 = true then (spec_ValidFetch.j2 k2 x3_2 (decide ((((rd_T112 l0_7 x3_2).f4).length : Int) > 376)) a0_0 a0_1 a0_2 a0_3 a0_4 l0_5 l0_6 l0_7 ((rd_T112 l0_7 x3_2).f0) ((rd_T112 l0_7 x3_2).f1) ((rd_T112 l0_7 x3_2).f2) ((rd_T112 l0_7 x3_2).f3) ((rd_T112 l0_7 x3_2).f4)) else (spec_ValidFetch.j2 k2 x3_2 true a0_0 a0_1 a0_2 a0_3 a0_4 l0_5 l0_6 l0_7 ((rd_T112 l0_7 x3_2).f0) ((rd_T112 l0_7 x3_2).f1) ((rd_T112 l0_7 x3_2).f2) ((rd_T112 l0_7 x3_2).f3) ((rd_T112 l0_7 x3_2).f4)))) = some r := by rw [if_pos rfl] at H; exact H
           clear H
           have H := H1
           clear H1
           replace H := Option.bind_eq_some_iff.mp H
           obtain ⟨t146, A340, H⟩ := H
           replace H : (if t146 = true then (spec_ValidFetch.j2 k2 x3_2 (decide ((((rd_T112 l0_7 x3_2).f4).length : Int) > 376)) a0_0 a0_1 a0_2 a0_3 a0_4 l0_5 l0_6 l0_7 ((rd_T112 l0_7 x3_2).f0) ((rd_T112 l0_7 x3_2).f1) ((rd_T112 l0_7 x3_2).f2) ((rd_T112 l0_7 x3_2).f3) ((rd_T112 l0_7 x3_2).f4)) else (spec_ValidFetch.j2 k2 x3_2 true a0_0 a0_1 a0_2 a0_3 a0_4 l0_5 l0_6 l0_7 ((rd_T112 l0_7 x3_2).f0) ((rd_T112 l0_7 x3_2).f1) ((rd_T112 l0_7 x3_2).f2) ((rd_T112 l0_7 x3_2).f3) ((rd_T112 l0_7 x3_2).f4))) = some r := H
           have A34 := Aside0.mk A340
           clear A340
           by_cases c35 : t146 = true
           ·
            subst c35
            have H1 : (spec_ValidFetch.j2 k2 x3_2 (decide ((((rd_T112 l0_7 x3_2).f4).length : Int) > 376)) a0_0 a0_1 a0_2 a0_3 a0_4 l0_5 l0_6 l0_7 ((rd_T112 l0_7 x3_2).f0) ((rd_T112 l0_7 x3_2).f1) ((rd_T112 l0_7 x3_2).f2) ((rd_T112 l0_7 x3_2).f3) ((rd_T112 l0_7 x3_2).f4)) = some r := by rw [if_pos rfl] at H; exact H
            clear H
            have H := H1
            clear H1
            have H' := Aside0.mk H
            clear H
            have hnb36 := NB143_137.out
            have hnc36 := NB137_143.out
            have hcz37_0 : w27.cell? ⟨gb143, 0, none⟩ = some (.int .i64 0) := (blk_cell BK143.out 0).trans rfl
            have hcz37_1 : w27.cell? ⟨gb143, 1, none⟩ = some (.int .i64 0) := (blk_cell BK143.out 1).trans rfl
            have hcz37_2 : w27.cell? ⟨gb143, 2, none⟩ = some (.int .i64 0) := (blk_cell BK143.out 2).trans rfl
            have hcz37_3 : w27.cell? ⟨gb143, 3, none⟩ = some (.string (⟨#[]⟩ : ByteArray)) := (blk_cell BK143.out 3).trans rfl
            have hcz37_4 : w27.cell? ⟨gb143, 4, none⟩ = some (.slice none 0 0) := (blk_cell BK143.out 4).trans rfl
            have hfz37_0 := blk_frozen BK143.out 0
            have hfz37_1 := blk_frozen BK143.out 1
            have hfz37_2 := blk_frozen BK143.out 2
            have hfz37_3 := blk_frozen BK143.out 3
            have hfz37_4 := blk_frozen BK143.out 4
            go_wp2_with (first | (go_at_call 66; (with_reducible refine (spec_l1In.calls ((rd_T112 l0_7 x3_2).f0) 0 3 true _ A30.out).mono ?_); rintro e w' ⟨rfl, ⟨nd, rfl⟩⟩; (try first | exact ⟨rfl, _, World.drewN_drewN _ _ _⟩ | exact ⟨rfl, _, Eq.trans (World.drewN_drewN _ _ _) (congrArg (World.drewN _) (Nat.add_assoc _ _ _))⟩)) | (go_at_call 66; (with_reducible refine (spec_l1In.calls ((rd_T112 l0_7 x3_2).f1) 0 5 true _ A32.out).mono ?_); rintro e w' ⟨rfl, ⟨nd, rfl⟩⟩; (try first | exact ⟨rfl, _, World.drewN_drewN _ _ _⟩ | exact ⟨rfl, _, Eq.trans (World.drewN_drewN _ _ _) (congrArg (World.drewN _) (Nat.add_assoc _ _ _))⟩); have hcz38_0 : w27.cell? ⟨gb137, 0, none⟩ = some (.string a0_0) := (blk_cell BK137.out 0).trans rfl; have hcz38_1 : w27.cell? ⟨gb137, 1, none⟩ = some (.int .i64 a0_1) := (blk_cell BK137.out 1).trans rfl; have hcz38_2 : w27.cell? ⟨gb137, 2, none⟩ = some (.bool a0_2) := (blk_cell BK137.out 2).trans rfl; have hcz38_3 : w27.cell? ⟨gb137, 3, none⟩ = some (.int .i64 a0_3) := (blk_cell BK137.out 3).trans rfl; have hcz38_4 : w27.cell? ⟨gb137, 4, none⟩ = some (.int .i64 a0_4) := (blk_cell BK137.out 4).trans rfl; have hcz38_5 : w27.cell? ⟨gb137, 5, none⟩ = some (.slice A0_5 l0_5.length c0_5) := (blk_cell BK137.out 5).trans rfl; have hcz38_6 : w27.cell? ⟨gb137, 6, none⟩ = some (.slice A0_6 l0_6.length c0_6) := (blk_cell BK137.out 6).trans rfl; have hcz38_7 : w27.cell? ⟨gb137, 7, none⟩ = some (.slice (some ad142) l0_7.length c0_7) := (blk_cell BK137.out 7).trans rfl; have hfz38_0 := blk_frozen BK137.out 0; have hfz38_1 := blk_frozen BK137.out 1; have hfz38_2 := blk_frozen BK137.out 2; have hfz38_3 := blk_frozen BK137.out 3; have hfz38_4 := blk_frozen BK137.out 4; have hfz38_5 := blk_frozen BK137.out 5; have hfz38_6 := blk_frozen BK137.out 6; have hfz38_7 := blk_frozen BK137.out 7) | (go_at_call 66; (with_reducible refine (spec_l1In.calls ((rd_T112 l0_7 x3_2).f2) (-1) a0_1 true _ A34.out).mono ?_); rintro e w' ⟨rfl, ⟨nd, rfl⟩⟩; (try first | exact ⟨rfl, _, World.drewN_drewN _ _ _⟩ | exact ⟨rfl, _, Eq.trans (World.drewN_drewN _ _ _) (congrArg (World.drewN _) (Nat.add_assoc _ _ _))⟩)))
            repeat (go_quiet (first | (go_at_call 66; (with_reducible refine (spec_l1In.calls ((rd_T112 l0_7 x3_2).f0) 0 3 true _ A30.out).mono ?_); rintro e w' ⟨rfl, ⟨nd, rfl⟩⟩; (try first | exact ⟨rfl, _, World.drewN_drewN _ _ _⟩ | exact ⟨rfl, _, Eq.trans (World.drewN_drewN _ _ _) (congrArg (World.drewN _) (Nat.add_assoc _ _ _))⟩)) | (go_at_call 66; (with_reducible refine (spec_l1In.calls ((rd_T112 l0_7 x3_2).f1) 0 5 true _ A32.out).mono ?_); rintro e w' ⟨rfl, ⟨nd, rfl⟩⟩; (try first | exact ⟨rfl, _, World.drewN_drewN _ _ _⟩ | exact ⟨rfl, _, Eq.trans (World.drewN_drewN _ _ _) (congrArg (World.drewN _) (Nat.add_assoc _ _ _))⟩); have hcz38_0 : w27.cell? ⟨gb137, 0, none⟩ = some (.string a0_0) := (blk_cell BK137.out 0).trans rfl; have hcz38_1 : w27.cell? ⟨gb137, 1, none⟩ = some (.int .i64 a0_1) := (blk_cell BK137.out 1).trans rfl; have hcz38_2 : w27.cell? ⟨gb137, 2, none⟩ = some (.bool a0_2) := (blk_cell BK137.out 2).trans rfl; have hcz38_3 : w27.cell? ⟨gb137, 3, none⟩ = some (.int .i64 a0_3) := (blk_cell BK137.out 3).trans rfl; have hcz38_4 : w27.cell? ⟨gb137, 4, none⟩ = some (.int .i64 a0_4) := (blk_cell BK137.out 4).trans rfl; have hcz38_5 : w27.cell? ⟨gb137, 5, none⟩ = some (.slice A0_5 l0_5.length c0_5) := (blk_cell BK137.out 5).trans rfl; have hcz38_6 : w27.cell? ⟨gb137, 6, none⟩ = some (.slice A0_6 l0_6.length c0_6) := (blk_cell BK137.out 6).trans rfl; have hcz38_7 : w27.cell? ⟨gb137, 7, none⟩ = some (.slice (some ad142) l0_7.length c0_7) := (blk_cell BK137.out 7).trans rfl; have hfz38_0 := blk_frozen BK137.out 0; have hfz38_1 := blk_frozen BK137.out 1; have hfz38_2 := blk_frozen BK137.out 2; have hfz38_3 := blk_frozen BK137.out 3; have hfz38_4 := blk_frozen BK137.out 4; have hfz38_5 := blk_frozen BK137.out 5; have hfz38_6 := blk_frozen BK137.out 6; have hfz38_7 := blk_frozen BK137.out 7) | (go_at_call 66; (with_reducible refine (spec_l1In.calls ((rd_T112 l0_7 x3_2).f2) (-1) a0_1 true _ A34.out).mono ?_); rintro e w' ⟨rfl, ⟨nd, rfl⟩⟩; (try first | exact ⟨rfl, _, World.drewN_drewN _ _ _⟩ | exact ⟨rfl, _, Eq.trans (World.drewN_drewN _ _ _) (congrArg (World.drewN _) (Nat.add_assoc _ _ _))⟩))); try go_wp2_with (first | (go_at_call 66; (with_reducible refine (spec_l1In.calls ((rd_T112 l0_7 x3_2).f0) 0 3 true _ A30.out).mono ?_); rintro e w' ⟨rfl, ⟨nd, rfl⟩⟩; (try first | exact ⟨rfl, _, World.drewN_drewN _ _ _⟩ | exact ⟨rfl, _, Eq.trans (World.drewN_drewN _ _ _) (congrArg (World.drewN _) (Nat.add_assoc _ _ _))⟩)) | (go_at_call 66; (with_reducible refine (spec_l1In.calls ((rd_T112 l0_7 x3_2).f1) 0 5 true _ A32.out).mono ?_); rintro e w' ⟨rfl, ⟨nd, rfl⟩⟩; (try first | exact ⟨rfl, _, World.drewN_drewN _ _ _⟩ | exact ⟨rfl, _, Eq.trans (World.drewN_drewN _ _ _) (congrArg (World.drewN _) (Nat.add_assoc _ _ _))⟩); have hcz38_0 : w27.cell? ⟨gb137, 0, none⟩ = some (.string a0_0) := (blk_cell BK137.out 0).trans rfl; have hcz38_1 : w27.cell? ⟨gb137, 1, none⟩ = some (.int .i64 a0_1) := (blk_cell BK137.out 1).trans rfl; have hcz38_2 : w27.cell? ⟨gb137, 2, none⟩ = some (.bool a0_2) := (blk_cell BK137.out 2).trans rfl; have hcz38_3 : w27.cell? ⟨gb137, 3, none⟩ = some (.int .i64 a0_3) := (blk_cell BK137.out 3).trans rfl; have hcz38_4 : w27.cell? ⟨gb137, 4, none⟩ = some (.int .i64 a0_4) := (blk_cell BK137.out 4).trans rfl; have hcz38_5 : w27.cell? ⟨gb137, 5, none⟩ = some (.slice A0_5 l0_5.length c0_5) := (blk_cell BK137.out 5).trans rfl; have hcz38_6 : w27.cell? ⟨gb137, 6, none⟩ = some (.slice A0_6 l0_6.length c0_6) := (blk_cell BK137.out 6).trans rfl; have hcz38_7 : w27.cell? ⟨gb137, 7, none⟩ = some (.slice (some ad142) l0_7.length c0_7) := (blk_cell BK137.out 7).trans rfl; have hfz38_0 := blk_frozen BK137.out 0; have hfz38_1 := blk_frozen BK137.out 1; have hfz38_2 := blk_frozen BK137.out 2; have hfz38_3 := blk_frozen BK137.out 3; have hfz38_4 := blk_frozen BK137.out 4; have hfz38_5 := blk_frozen BK137.out 5; have hfz38_6 := blk_frozen BK137.out 6; have hfz38_7 := blk_frozen BK137.out 7) | (go_at_call 66; (with_reducible refine (spec_l1In.calls ((rd_T112 l0_7 x3_2).f2) (-1) a0_1 true _ A34.out).mono ?_); rintro e w' ⟨rfl, ⟨nd, rfl⟩⟩; (try first | exact ⟨rfl, _, World.drewN_drewN _ _ _⟩ | exact ⟨rfl, _, Eq.trans (World.drewN_drewN _ _ _) (congrArg (World.drewN _) (Nat.add_assoc _ _ _))⟩))))
            go_meet
            case rel => exact ⟨_, (decide ((((rd_T112 l0_7 x3_2).f4).length : Int) > 376)), (by first | rfl | (simp; done) | (simp [*]; done)), H', ⟨by have := HJ1.out; have := HK2.out; first | omega | exact Nat.le_refl _⟩, ⟨by (with_reducible repeat (first | refine blk_drewN ?_ _ | refine blk_drew ?_ | refine blk_alloc ?_ _)); refine blk_far ?_ NB137_143.out _; (with_reducible repeat (first | refine blk_drewN ?_ _ | refine blk_drew ?_ | refine blk_alloc ?_ _)); refine blk_far ?_ NB137_143.out _; (with_reducible repeat (first | refine blk_drewN ?_ _ | refine blk_drew ?_ | refine blk_alloc ?_ _)); refine blk_far ?_ NB137_143.out _; (with_reducible repeat (first | refine blk_drewN ?_ _ | refine blk_drew ?_ | refine blk_alloc ?_ _)); refine blk_far ?_ NB137_143.out _; (with_reducible repeat (first | refine blk_drewN ?_ _ | refine blk_drew ?_ | refine blk_alloc ?_ _)); refine blk_far ?_ NB137_143.out _; (with_reducible repeat (first | refine blk_drewN ?_ _ | refine blk_drew ?_ | refine blk_alloc ?_ _)); exact BK137.out⟩, ⟨by (with_reducible repeat (first | refine blk_drewN ?_ _ | refine blk_drew ?_ | refine blk_alloc ?_ _)); refine blk_put (cs := #[.int .i64 ((rd_T112 l0_7 x3_2).f0), .int .i64 ((rd_T112 l0_7 x3_2).f1), .int .i64 ((rd_T112 l0_7 x3_2).f2), .string ((rd_T112 l0_7 x3_2).f3), .slice none 0 0]) ?_ 4 _ rfl; (with_reducible repeat (first | refine blk_drewN ?_ _ | refine blk_drew ?_ | refine blk_alloc ?_ _)); refine blk_put (cs := #[.int .i64 ((rd_T112 l0_7 x3_2).f0), .int .i64 ((rd_T112 l0_7 x3_2).f1), .int .i64 ((rd_T112 l0_7 x3_2).f2), .string (⟨#[]⟩ : ByteArray), .slice none 0 0]) ?_ 3 _ rfl; (with_reducible repeat (first | refine blk_drewN ?_ _ | refine blk_drew ?_ | refine blk_alloc ?_ _)); refine blk_put (cs := #[.int .i64 ((rd_T112 l0_7 x3_2).f0), .int .i64 ((rd_T112 l0_7 x3_2).f1), .int .i64 0, .string (⟨#[]⟩ : ByteArray), .slice none 0 0]) ?_ 2 _ rfl; (with_reducible repeat (first | refine blk_drewN ?_ _ | refine blk_drew ?_ | refine blk_alloc ?_ _)); refine blk_put (cs := #[.int .i64 ((rd_T112 l0_7 x3_2).f0), .int .i64 0, .int .i64 0, .string (⟨#[]⟩ : ByteArray), .slice none 0 0]) ?_ 1 _ rfl; (with_reducible repeat (first | refine blk_drewN ?_ _ | refine blk_drew ?_ | refine blk_alloc ?_ _)); refine blk_put (cs := #[.int .i64 0, .int .i64 0, .int .i64 0, .string (⟨#[]⟩ : ByteArray), .slice none 0 0]) ?_ 0 _ rfl; (with_reducible repeat (first | refine blk_drewN ?_ _ | refine blk_drew ?_ | refine blk_alloc ?_ _)); exact BK143.out⟩, ⟨Zz.rB_ HB.out⟩⟩
           ·
            replace c35 := Bool.eq_false_iff.mpr c35
            subst c35
            have H1 : (spec_ValidFetch.j2 k2 x3_2 true a0_0 a0_1 a0_2 a0_3 a0_4 l0_5 l0_6 l0_7 ((rd_T112 l0_7 x3_2).f0) ((rd_T112 l0_7 x3_2).f1) ((rd_T112 l0_7 x3_2).f2) ((rd_T112 l0_7 x3_2).f3) ((rd_T112 l0_7 x3_2).f4)) = some r := by rw [if_neg (show ¬ (false = true) by decide)] at H; exact H
            clear H
            have H := H1
            clear H1
            have H' := Aside0.mk H
            clear H
            have hnb39 := NB143_137.out
            have hnc39 := NB137_143.out
            have hcz40_0 : w27.cell? ⟨gb143, 0, none⟩ = some (.int .i64 0) := (blk_cell BK143.out 0).trans rfl
            have hcz40_1 : w27.cell? ⟨gb143, 1, none⟩ = some (.int .i64 0) := (blk_cell BK143.out 1).trans rfl
            have hcz40_2 : w27.cell? ⟨gb143, 2, none⟩ = some (.int .i64 0) := (blk_cell BK143.out 2).trans rfl
            have hcz40_3 : w27.cell? ⟨gb143, 3, none⟩ = some (.string (⟨#[]⟩ : ByteArray)) := (blk_cell BK143.out 3).trans rfl
            have hcz40_4 : w27.cell? ⟨gb143, 4, none⟩ = some (.slice none 0 0) := (blk_cell BK143.out 4).trans rfl
            have hfz40_0 := blk_frozen BK143.out 0
            have hfz40_1 := blk_frozen BK143.out 1
            have hfz40_2 := blk_frozen BK143.out 2
            have hfz40_3 := blk_frozen BK143.out 3
            have hfz40_4 := blk_frozen BK143.out 4
            go_wp2_with (first | (go_at_call 66; (with_reducible refine (spec_l1In.calls ((rd_T112 l0_7 x3_2).f0) 0 3 true _ A30.out).mono ?_); rintro e w' ⟨rfl, ⟨nd, rfl⟩⟩; (try first | exact ⟨rfl, _, World.drewN_drewN _ _ _⟩ | exact ⟨rfl, _, Eq.trans (World.drewN_drewN _ _ _) (congrArg (World.drewN _) (Nat.add_assoc _ _ _))⟩)) | (go_at_call 66; (with_reducible refine (spec_l1In.calls ((rd_T112 l0_7 x3_2).f1) 0 5 true _ A32.out).mono ?_); rintro e w' ⟨rfl, ⟨nd, rfl⟩⟩; (try first | exact ⟨rfl, _, World.drewN_drewN _ _ _⟩ | exact ⟨rfl, _, Eq.trans (World.drewN_drewN _ _ _) (congrArg (World.drewN _) (Nat.add_assoc _ _ _))⟩); have hcz41_0 : w27.cell? ⟨gb137, 0, none⟩ = some (.string a0_0) := (blk_cell BK137.out 0).trans rfl; have hcz41_1 : w27.cell? ⟨gb137, 1, none⟩ = some (.int .i64 a0_1) := (blk_cell BK137.out 1).trans rfl; have hcz41_2 : w27.cell? ⟨gb137, 2, none⟩ = some (.bool a0_2) := (blk_cell BK137.out 2).trans rfl; have hcz41_3 : w27.cell? ⟨gb137, 3, none⟩ = some (.int .i64 a0_3) := (blk_cell BK137.out 3).trans rfl; have hcz41_4 : w27.cell? ⟨gb137, 4, none⟩ = some (.int .i64 a0_4) := (blk_cell BK137.out 4).trans rfl; have hcz41_5 : w27.cell? ⟨gb137, 5, none⟩ = some (.slice A0_5 l0_5.length c0_5) := (blk_cell BK137.out 5).trans rfl; have hcz41_6 : w27.cell? ⟨gb137, 6, none⟩ = some (.slice A0_6 l0_6.length c0_6) := (blk_cell BK137.out 6).trans rfl; have hcz41_7 : w27.cell? ⟨gb137, 7, none⟩ = some (.slice (some ad142) l0_7.length c0_7) := (blk_cell BK137.out 7).trans rfl; have hfz41_0 := blk_frozen BK137.out 0; have hfz41_1 := blk_frozen BK137.out 1; have hfz41_2 := blk_frozen BK137.out 2; have hfz41_3 := blk_frozen BK137.out 3; have hfz41_4 := blk_frozen BK137.out 4; have hfz41_5 := blk_frozen BK137.out 5; have hfz41_6 := blk_frozen BK137.out 6; have hfz41_7 := blk_frozen BK137.out 7) | (go_at_call 66; (with_reducible refine (spec_l1In.calls ((rd_T112 l0_7 x3_2).f2) (-1) a0_1 false _ A34.out).mono ?_); rintro e w' ⟨rfl, ⟨nd, rfl⟩⟩; (try first | exact ⟨rfl, _, World.drewN_drewN _ _ _⟩ | exact ⟨rfl, _, Eq.trans (World.drewN_drewN _ _ _) (congrArg (World.drewN _) (Nat.add_assoc _ _ _))⟩)))
            repeat (go_quiet (first | (go_at_call 66; (with_reducible refine (spec_l1In.calls ((rd_T112 l0_7 x3_2).f0) 0 3 true _ A30.out).mono ?_); rintro e w' ⟨rfl, ⟨nd, rfl⟩⟩; (try first | exact ⟨rfl, _, World.drewN_drewN _ _ _⟩ | exact ⟨rfl, _, Eq.trans (World.drewN_drewN _ _ _) (congrArg (World.drewN _) (Nat.add_assoc _ _ _))⟩)) | (go_at_call 66; (with_reducible refine (spec_l1In.calls ((rd_T112 l0_7 x3_2).f1) 0 5 true _ A32.out).mono ?_); rintro e w' ⟨rfl, ⟨nd, rfl⟩⟩; (try first | exact ⟨rfl, _, World.drewN_drewN _ _ _⟩ | exact ⟨rfl, _, Eq.trans (World.drewN_drewN _ _ _) (congrArg (World.drewN _) (Nat.add_assoc _ _ _))⟩); have hcz41_0 : w27.cell? ⟨gb137, 0, none⟩ = some (.string a0_0) := (blk_cell BK137.out 0).trans rfl; have hcz41_1 : w27.cell? ⟨gb137, 1, none⟩ = some (.int .i64 a0_1) := (blk_cell BK137.out 1).trans rfl; have hcz41_2 : w27.cell? ⟨gb137, 2, none⟩ = some (.bool a0_2) := (blk_cell BK137.out 2).trans rfl; have hcz41_3 : w27.cell? ⟨gb137, 3, none⟩ = some (.int .i64 a0_3) := (blk_cell BK137.out 3).trans rfl; have hcz41_4 : w27.cell? ⟨gb137, 4, none⟩ = some (.int .i64 a0_4) := (blk_cell BK137.out 4).trans rfl; have hcz41_5 : w27.cell? ⟨gb137, 5, none⟩ = some (.slice A0_5 l0_5.length c0_5) := (blk_cell BK137.out 5).trans rfl; have hcz41_6 : w27.cell? ⟨gb137, 6, none⟩ = some (.slice A0_6 l0_6.length c0_6) := (blk_cell BK137.out 6).trans rfl; have hcz41_7 : w27.cell? ⟨gb137, 7, none⟩ = some (.slice (some ad142) l0_7.length c0_7) := (blk_cell BK137.out 7).trans rfl; have hfz41_0 := blk_frozen BK137.out 0; have hfz41_1 := blk_frozen BK137.out 1; have hfz41_2 := blk_frozen BK137.out 2; have hfz41_3 := blk_frozen BK137.out 3; have hfz41_4 := blk_frozen BK137.out 4; have hfz41_5 := blk_frozen BK137.out 5; have hfz41_6 := blk_frozen BK137.out 6; have hfz41_7 := blk_frozen BK137.out 7) | (go_at_call 66; (with_reducible refine (spec_l1In.calls ((rd_T112 l0_7 x3_2).f2) (-1) a0_1 false _ A34.out).mono ?_); rintro e w' ⟨rfl, ⟨nd, rfl⟩⟩; (try first | exact ⟨rfl, _, World.drewN_drewN _ _ _⟩ | exact ⟨rfl, _, Eq.trans (World.drewN_drewN _ _ _) (congrArg (World.drewN _) (Nat.add_assoc _ _ _))⟩))); try go_wp2_with (first | (go_at_call 66; (with_reducible refine (spec_l1In.calls ((rd_T112 l0_7 x3_2).f0) 0 3 true _ A30.out).mono ?_); rintro e w' ⟨rfl, ⟨nd, rfl⟩⟩; (try first | exact ⟨rfl, _, World.drewN_drewN _ _ _⟩ | exact ⟨rfl, _, Eq.trans (World.drewN_drewN _ _ _) (congrArg (World.drewN _) (Nat.add_assoc _ _ _))⟩)) | (go_at_call 66; (with_reducible refine (spec_l1In.calls ((rd_T112 l0_7 x3_2).f1) 0 5 true _ A32.out).mono ?_); rintro e w' ⟨rfl, ⟨nd, rfl⟩⟩; (try first | exact ⟨rfl, _, World.drewN_drewN _ _ _⟩ | exact ⟨rfl, _, Eq.trans (World.drewN_drewN _ _ _) (congrArg (World.drewN _) (Nat.add_assoc _ _ _))⟩); have hcz41_0 : w27.cell? ⟨gb137, 0, none⟩ = some (.string a0_0) := (blk_cell BK137.out 0).trans rfl; have hcz41_1 : w27.cell? ⟨gb137, 1, none⟩ = some (.int .i64 a0_1) := (blk_cell BK137.out 1).trans rfl; have hcz41_2 : w27.cell? ⟨gb137, 2, none⟩ = some (.bool a0_2) := (blk_cell BK137.out 2).trans rfl; have hcz41_3 : w27.cell? ⟨gb137, 3, none⟩ = some (.int .i64 a0_3) := (blk_cell BK137.out 3).trans rfl; have hcz41_4 : w27.cell? ⟨gb137, 4, none⟩ = some (.int .i64 a0_4) := (blk_cell BK137.out 4).trans rfl; have hcz41_5 : w27.cell? ⟨gb137, 5, none⟩ = some (.slice A0_5 l0_5.length c0_5) := (blk_cell BK137.out 5).trans rfl; have hcz41_6 : w27.cell? ⟨gb137, 6, none⟩ = some (.slice A0_6 l0_6.length c0_6) := (blk_cell BK137.out 6).trans rfl; have hcz41_7 : w27.cell? ⟨gb137, 7, none⟩ = some (.slice (some ad142) l0_7.length c0_7) := (blk_cell BK137.out 7).trans rfl; have hfz41_0 := blk_frozen BK137.out 0; have hfz41_1 := blk_frozen BK137.out 1; have hfz41_2 := blk_frozen BK137.out 2; have hfz41_3 := blk_frozen BK137.out 3; have hfz41_4 := blk_frozen BK137.out 4; have hfz41_5 := blk_frozen BK137.out 5; have hfz41_6 := blk_frozen BK137.out 6; have hfz41_7 := blk_frozen BK137.out 7) | (go_at_call 66; (with_reducible refine (spec_l1In.calls ((rd_T112 l0_7 x3_2).f2) (-1) a0_1 false _ A34.out).mono ?_); rintro e w' ⟨rfl, ⟨nd, rfl⟩⟩; (try first | exact ⟨rfl, _, World.drewN_drewN _ _ _⟩ | exact ⟨rfl, _, Eq.trans (World.drewN_drewN _ _ _) (congrArg (World.drewN _) (Nat.add_assoc _ _ _))⟩))))
            go_meet
            case rel => exact ⟨_, (true), (by first | rfl | (simp; done) | (simp [*]; done)), H', ⟨by have := HJ1.out; have := HK2.out; first | omega | exact Nat.le_refl _⟩, ⟨by (with_reducible repeat (first | refine blk_drewN ?_ _ | refine blk_drew ?_ | refine blk_alloc ?_ _)); refine blk_far ?_ NB137_143.out _; (with_reducible repeat (first | refine blk_drewN ?_ _ | refine blk_drew ?_ | refine blk_alloc ?_ _)); refine blk_far ?_ NB137_143.out _; (with_reducible repeat (first | refine blk_drewN ?_ _ | refine blk_drew ?_ | refine blk_alloc ?_ _)); refine blk_far ?_ NB137_143.out _; (with_reducible repeat (first | refine blk_drewN ?_ _ | refine blk_drew ?_ | refine blk_alloc ?_ _)); refine blk_far ?_ NB137_143.out _; (with_reducible repeat (first | refine blk_drewN ?_ _ | refine blk_drew ?_ | refine blk_alloc ?_ _)); refine blk_far ?_ NB137_143.out _; (with_reducible repeat (first | refine blk_drewN ?_ _ | refine blk_drew ?_ | refine blk_alloc ?_ _)); exact BK137.out⟩, ⟨by (with_reducible repeat (first | refine blk_drewN ?_ _ | refine blk_drew ?_ | refine blk_alloc ?_ _)); refine blk_put (cs := #[.int .i64 ((rd_T112 l0_7 x3_2).f0), .int .i64 ((rd_T112 l0_7 x3_2).f1), .int .i64 ((rd_T112 l0_7 x3_2).f2), .string ((rd_T112 l0_7 x3_2).f3), .slice none 0 0]) ?_ 4 _ rfl; (with_reducible repeat (first | refine blk_drewN ?_ _ | refine blk_drew ?_ | refine blk_alloc ?_ _)); refine blk_put (cs := #[.int .i64 ((rd_T112 l0_7 x3_2).f0), .int .i64 ((rd_T112 l0_7 x3_2).f1), .int .i64 ((rd_T112 l0_7 x3_2).f2), .string (⟨#[]⟩ : ByteArray), .slice none 0 0]) ?_ 3 _ rfl; (with_reducible repeat (first | refine blk_drewN ?_ _ | refine blk_drew ?_ | refine blk_alloc ?_ _)); refine blk_put (cs := #[.int .i64 ((rd_T112 l0_7 x3_2).f0), .int .i64 ((rd_T112 l0_7 x3_2).f1), .int .i64 0, .string (⟨#[]⟩ : ByteArray), .slice none 0 0]) ?_ 2 _ rfl; (with_reducible repeat (first | refine blk_drewN ?_ _ | refine blk_drew ?_ | refine blk_alloc ?_ _)); refine blk_put (cs := #[.int .i64 ((rd_T112 l0_7 x3_2).f0), .int .i64 0, .int .i64 0, .string (⟨#[]⟩ : ByteArray), .slice none 0 0]) ?_ 1 _ rfl; (with_reducible repeat (first | refine blk_drewN ?_ _ | refine blk_drew ?_ | refine blk_alloc ?_ _)); refine blk_put (cs := #[.int .i64 0, .int .i64 0, .int .i64 0, .string (⟨#[]⟩ : ByteArray), .slice none 0 0]) ?_ 0 _ rfl; (with_reducible repeat (first | refine blk_drewN ?_ _ | refine blk_drew ?_ | refine blk_alloc ?_ _)); exact BK143.out⟩, ⟨Zz.rB_ HB.out⟩⟩
          ·
           replace c33 := Bool.eq_false_iff.mpr c33
           subst c33
           have H1 : (spec_ValidFetch.j2 k2 x3_2 true a0_0 a0_1 a0_2 a0_3 a0_4 l0_5 l0_6 l0_7 ((rd_T112 l0_7 x3_2).f0) ((rd_T112 l0_7 x3_2).f1) ((rd_T112 l0_7 x3_2).f2) ((rd_T112 l0_7 x3_2).f3) ((rd_T112 l0_7 x3_2).f4)) = some r := by rw [if_neg (show ¬ (false = true) by decide)] at H; exact H
           clear H
           have H := H1
           clear H1
           have H' := Aside0.mk H
           clear H
           have hnb42 := NB143_137.out
           have hnc42 := NB137_143.out
           have hcz43_0 : w27.cell? ⟨gb143, 0, none⟩ = some (.int .i64 0) := (blk_cell BK143.out 0).trans rfl
           have hcz43_1 : w27.cell? ⟨gb143, 1, none⟩ = some (.int .i64 0) := (blk_cell BK143.out 1).trans rfl
           have hcz43_2 : w27.cell? ⟨gb143, 2, none⟩ = some (.int .i64 0) := (blk_cell BK143.out 2).trans rfl
           have hcz43_3 : w27.cell? ⟨gb143, 3, none⟩ = some (.string (⟨#[]⟩ : ByteArray)) := (blk_cell BK143.out 3).trans rfl
           have hcz43_4 : w27.cell? ⟨gb143, 4, none⟩ = some (.slice none 0 0) := (blk_cell BK143.out 4).trans rfl
           have hfz43_0 := blk_frozen BK143.out 0
           have hfz43_1 := blk_frozen BK143.out 1
           have hfz43_2 := blk_frozen BK143.out 2
           have hfz43_3 := blk_frozen BK143.out 3
           have hfz43_4 := blk_frozen BK143.out 4
           go_wp2_with (first | (go_at_call 66; (with_reducible refine (spec_l1In.calls ((rd_T112 l0_7 x3_2).f0) 0 3 true _ A30.out).mono ?_); rintro e w' ⟨rfl, ⟨nd, rfl⟩⟩; (try first | exact ⟨rfl, _, World.drewN_drewN _ _ _⟩ | exact ⟨rfl, _, Eq.trans (World.drewN_drewN _ _ _) (congrArg (World.drewN _) (Nat.add_assoc _ _ _))⟩)) | (go_at_call 66; (with_reducible refine (spec_l1In.calls ((rd_T112 l0_7 x3_2).f1) 0 5 false _ A32.out).mono ?_); rintro e w' ⟨rfl, ⟨nd, rfl⟩⟩; (try first | exact ⟨rfl, _, World.drewN_drewN _ _ _⟩ | exact ⟨rfl, _, Eq.trans (World.drewN_drewN _ _ _) (congrArg (World.drewN _) (Nat.add_assoc _ _ _))⟩)))
           repeat (go_quiet (first | (go_at_call 66; (with_reducible refine (spec_l1In.calls ((rd_T112 l0_7 x3_2).f0) 0 3 true _ A30.out).mono ?_); rintro e w' ⟨rfl, ⟨nd, rfl⟩⟩; (try first | exact ⟨rfl, _, World.drewN_drewN _ _ _⟩ | exact ⟨rfl, _, Eq.trans (World.drewN_drewN _ _ _) (congrArg (World.drewN _) (Nat.add_assoc _ _ _))⟩)) | (go_at_call 66; (with_reducible refine (spec_l1In.calls ((rd_T112 l0_7 x3_2).f1) 0 5 false _ A32.out).mono ?_); rintro e w' ⟨rfl, ⟨nd, rfl⟩⟩; (try first | exact ⟨rfl, _, World.drewN_drewN _ _ _⟩ | exact ⟨rfl, _, Eq.trans (World.drewN_drewN _ _ _) (congrArg (World.drewN _) (Nat.add_assoc _ _ _))⟩))); try go_wp2_with (first | (go_at_call 66; (with_reducible refine (spec_l1In.calls ((rd_T112 l0_7 x3_2).f0) 0 3 true _ A30.out).mono ?_); rintro e w' ⟨rfl, ⟨nd, rfl⟩⟩; (try first | exact ⟨rfl, _, World.drewN_drewN _ _ _⟩ | exact ⟨rfl, _, Eq.trans (World.drewN_drewN _ _ _) (congrArg (World.drewN _) (Nat.add_assoc _ _ _))⟩)) | (go_at_call 66; (with_reducible refine (spec_l1In.calls ((rd_T112 l0_7 x3_2).f1) 0 5 false _ A32.out).mono ?_); rintro e w' ⟨rfl, ⟨nd, rfl⟩⟩; (try first | exact ⟨rfl, _, World.drewN_drewN _ _ _⟩ | exact ⟨rfl, _, Eq.trans (World.drewN_drewN _ _ _) (congrArg (World.drewN _) (Nat.add_assoc _ _ _))⟩))))
           go_meet
           case rel => exact ⟨_, (true), (by first | rfl | (simp; done) | (simp [*]; done)), H', ⟨by have := HJ1.out; have := HK2.out; first | omega | exact Nat.le_refl _⟩, ⟨by (with_reducible repeat (first | refine blk_drewN ?_ _ | refine blk_drew ?_ | refine blk_alloc ?_ _)); refine blk_far ?_ NB137_143.out _; (with_reducible repeat (first | refine blk_drewN ?_ _ | refine blk_drew ?_ | refine blk_alloc ?_ _)); refine blk_far ?_ NB137_143.out _; (with_reducible repeat (first | refine blk_drewN ?_ _ | refine blk_drew ?_ | refine blk_alloc ?_ _)); refine blk_far ?_ NB137_143.out _; (with_reducible repeat (first | refine blk_drewN ?_ _ | refine blk_drew ?_ | refine blk_alloc ?_ _)); refine blk_far ?_ NB137_143.out _; (with_reducible repeat (first | refine blk_drewN ?_ _ | refine blk_drew ?_ | refine blk_alloc ?_ _)); refine blk_far ?_ NB137_143.out _; (with_reducible repeat (first | refine blk_drewN ?_ _ | refine blk_drew ?_ | refine blk_alloc ?_ _)); exact BK137.out⟩, ⟨by (with_reducible repeat (first | refine blk_drewN ?_ _ | refine blk_drew ?_ | refine blk_alloc ?_ _)); refine blk_put (cs := #[.int .i64 ((rd_T112 l0_7 x3_2).f0), .int .i64 ((rd_T112 l0_7 x3_2).f1), .int .i64 ((rd_T112 l0_7 x3_2).f2), .string ((rd_T112 l0_7 x3_2).f3), .slice none 0 0]) ?_ 4 _ rfl; (with_reducible repeat (first | refine blk_drewN ?_ _ | refine blk_drew ?_ | refine blk_alloc ?_ _)); refine blk_put (cs := #[.int .i64 ((rd_T112 l0_7 x3_2).f0), .int .i64 ((rd_T112 l0_7 x3_2).f1), .int .i64 ((rd_T112 l0_7 x3_2).f2), .string (⟨#[]⟩ : ByteArray), .slice none 0 0]) ?_ 3 _ rfl; (with_reducible repeat (first | refine blk_drewN ?_ _ | refine blk_drew ?_ | refine blk_alloc ?_ _)); refine blk_put (cs := #[.int .i64 ((rd_T112 l0_7 x3_2).f0), .int .i64 ((rd_T112 l0_7 x3_2).f1), .int .i64 0, .string (⟨#[]⟩ : ByteArray), .slice none 0 0]) ?_ 2 _ rfl; (with_reducible repeat (first | refine blk_drewN ?_ _ | refine blk_drew ?_ | refine blk_alloc ?_ _)); refine blk_put (cs := #[.int .i64 ((rd_T112 l0_7 x3_2).f0), .int .i64 0, .int .i64 0, .string (⟨#[]⟩ : ByteArray), .slice none 0 0]) ?_ 1 _ rfl; (with_reducible repeat (first | refine blk_drewN ?_ _ | refine blk_drew ?_ | refine blk_alloc ?_ _)); refine blk_put (cs := #[.int .i64 0, .int .i64 0, .int .i64 0, .string (⟨#[]⟩ : ByteArray), .slice none 0 0]) ?_ 0 _ rfl; (with_reducible repeat (first | refine blk_drewN ?_ _ | refine blk_drew ?_ | refine blk_alloc ?_ _)); exact BK143.out⟩, ⟨Zz.rB_ HB.out⟩⟩
         ·
          replace c31 := Bool.eq_false_iff.mpr c31
          subst c31
          have H1 : (spec_ValidFetch.j2 k2 x3_2 true a0_0 a0_1 a0_2 a0_3 a0_4 l0_5 l0_6 l0_7 ((rd_T112 l0_7 x3_2).f0) ((rd_T112 l0_7 x3_2).f1) ((rd_T112 l0_7 x3_2).f2) ((rd_T112 l0_7 x3_2).f3) ((rd_T112 l0_7 x3_2).f4)) = some r := by rw [if_neg (show ¬ (false = true) by decide)] at H; exact H
          clear H
          have H := H1
          clear H1
          have H' := Aside0.mk H
          clear H
          have hnb44 := NB143_137.out
          have hnc44 := NB137_143.out
          have hcz45_0 : w27.cell? ⟨gb143, 0, none⟩ = some (.int .i64 0) := (blk_cell BK143.out 0).trans rfl
          have hcz45_1 : w27.cell? ⟨gb143, 1, none⟩ = some (.int .i64 0) := (blk_cell BK143.out 1).trans rfl
          have hcz45_2 : w27.cell? ⟨gb143, 2, none⟩ = some (.int .i64 0) := (blk_cell BK143.out 2).trans rfl
          have hcz45_3 : w27.cell? ⟨gb143, 3, none⟩ = some (.string (⟨#[]⟩ : ByteArray)) := (blk_cell BK143.out 3).trans rfl
          have hcz45_4 : w27.cell? ⟨gb143, 4, none⟩ = some (.slice none 0 0) := (blk_cell BK143.out 4).trans rfl
          have hfz45_0 := blk_frozen BK143.out 0
          have hfz45_1 := blk_frozen BK143.out 1
          have hfz45_2 := blk_frozen BK143.out 2
          have hfz45_3 := blk_frozen BK143.out 3
          have hfz45_4 := blk_frozen BK143.out 4
          go_wp2_with (first | (go_at_call 66; (with_reducible refine (spec_l1In.calls ((rd_T112 l0_7 x3_2).f0) 0 3 false _ A30.out).mono ?_); rintro e w' ⟨rfl, ⟨nd, rfl⟩⟩; (try first | exact ⟨rfl, _, World.drewN_drewN _ _ _⟩ | exact ⟨rfl, _, Eq.trans (World.drewN_drewN _ _ _) (congrArg (World.drewN _) (Nat.add_assoc _ _ _))⟩)))
          repeat (go_quiet (first | (go_at_call 66; (with_reducible refine (spec_l1In.calls ((rd_T112 l0_7 x3_2).f0) 0 3 false _ A30.out).mono ?_); rintro e w' ⟨rfl, ⟨nd, rfl⟩⟩; (try first | exact ⟨rfl, _, World.drewN_drewN _ _ _⟩ | exact ⟨rfl, _, Eq.trans (World.drewN_drewN _ _ _) (congrArg (World.drewN _) (Nat.add_assoc _ _ _))⟩))); try go_wp2_with (first | (go_at_call 66; (with_reducible refine (spec_l1In.calls ((rd_T112 l0_7 x3_2).f0) 0 3 false _ A30.out).mono ?_); rintro e w' ⟨rfl, ⟨nd, rfl⟩⟩; (try first | exact ⟨rfl, _, World.drewN_drewN _ _ _⟩ | exact ⟨rfl, _, Eq.trans (World.drewN_drewN _ _ _) (congrArg (World.drewN _) (Nat.add_assoc _ _ _))⟩))))
          go_meet
          case rel => exact ⟨_, (true), (by first | rfl | (simp; done) | (simp [*]; done)), H', ⟨by have := HJ1.out; have := HK2.out; first | omega | exact Nat.le_refl _⟩, ⟨by (with_reducible repeat (first | refine blk_drewN ?_ _ | refine blk_drew ?_ | refine blk_alloc ?_ _)); refine blk_far ?_ NB137_143.out _; (with_reducible repeat (first | refine blk_drewN ?_ _ | refine blk_drew ?_ | refine blk_alloc ?_ _)); refine blk_far ?_ NB137_143.out _; (with_reducible repeat (first | refine blk_drewN ?_ _ | refine blk_drew ?_ | refine blk_alloc ?_ _)); refine blk_far ?_ NB137_143.out _; (with_reducible repeat (first | refine blk_drewN ?_ _ | refine blk_drew ?_ | refine blk_alloc ?_ _)); refine blk_far ?_ NB137_143.out _; (with_reducible repeat (first | refine blk_drewN ?_ _ | refine blk_drew ?_ | refine blk_alloc ?_ _)); refine blk_far ?_ NB137_143.out _; (with_reducible repeat (first | refine blk_drewN ?_ _ | refine blk_drew ?_ | refine blk_alloc ?_ _)); exact BK137.out⟩, ⟨by (with_reducible repeat (first | refine blk_drewN ?_ _ | refine blk_drew ?_ | refine blk_alloc ?_ _)); refine blk_put (cs := #[.int .i64 ((rd_T112 l0_7 x3_2).f0), .int .i64 ((rd_T112 l0_7 x3_2).f1), .int .i64 ((rd_T112 l0_7 x3_2).f2), .string ((rd_T112 l0_7 x3_2).f3), .slice none 0 0]) ?_ 4 _ rfl; (with_reducible repeat (first | refine blk_drewN ?_ _ | refine blk_drew ?_ | refine blk_alloc ?_ _)); refine blk_put (cs := #[.int .i64 ((rd_T112 l0_7 x3_2).f0), .int .i64 ((rd_T112 l0_7 x3_2).f1), .int .i64 ((rd_T112 l0_7 x3_2).f2), .string (⟨#[]⟩ : ByteArray), .slice none 0 0]) ?_ 3 _ rfl; (with_reducible repeat (first | refine blk_drewN ?_ _ | refine blk_drew ?_ | refine blk_alloc ?_ _)); refine blk_put (cs := #[.int .i64 ((rd_T112 l0_7 x3_2).f0), .int .i64 ((rd_T112 l0_7 x3_2).f1), .int .i64 0, .string (⟨#[]⟩ : ByteArray), .slice none 0 0]) ?_ 2 _ rfl; (with_reducible repeat (first | refine blk_drewN ?_ _ | refine blk_drew ?_ | refine blk_alloc ?_ _)); refine blk_put (cs := #[.int .i64 ((rd_T112 l0_7 x3_2).f0), .int .i64 0, .int .i64 0, .string (⟨#[]⟩ : ByteArray), .slice none 0 0]) ?_ 1 _ rfl; (with_reducible repeat (first | refine blk_drewN ?_ _ | refine blk_drew ?_ | refine blk_alloc ?_ _)); refine blk_put (cs := #[.int .i64 0, .int .i64 0, .int .i64 0, .string (⟨#[]⟩ : ByteArray), .slice none 0 0]) ?_ 0 _ rfl; (with_reducible repeat (first | refine blk_drewN ?_ _ | refine blk_drew ?_ | refine blk_alloc ?_ _)); exact BK143.out⟩, ⟨Zz.rB_ HB.out⟩⟩
        case rest =>
         clear HC25
         try clear c1
         try clear p1
         try clear q1
         try clear hx1
         try clear c2
         try clear p2
         try clear c3
         try clear c4
         try clear c5
         try clear c7
         try clear c9
         try clear c14
         try clear p14
         try clear q14
         try clear hx14
         try clear c22
         try clear c23
         try clear c23b0
         try clear c24
         try clear c24b0
         try clear c28
         try clear c31
         try clear c33
         try clear c35
         try clear c36
         try clear c39
         try clear c42
         try clear c44
         try clear hcz11_0
         try clear hcz11_1
         try clear hcz11_2
         try clear hcz11_3
         try clear hcz11_4
         try clear hcz11_5
         try clear hcz11_6
         try clear hcz11_7
         try clear hcz13_0
         try clear hcz13_1
         try clear hcz13_2
         try clear hcz13_3
         try clear hcz13_4
         try clear hcz13_5
         try clear hcz13_6
         try clear hcz13_7
         try clear hcz14_0
         try clear hcz14_1
         try clear hcz14_2
         try clear hcz14_3
         try clear hcz14_4
         try clear hcz14_5
         try clear hcz14_6
         try clear hcz14_7
         try clear hcz16_0
         try clear hcz16_1
         try clear hcz16_2
         try clear hcz16_3
         try clear hcz16_4
         try clear hcz16_5
         try clear hcz16_6
         try clear hcz16_7
         try clear hcz17_0
         try clear hcz17_1
         try clear hcz17_2
         try clear hcz17_3
         try clear hcz17_4
         try clear hcz17_5
         try clear hcz17_6
         try clear hcz17_7
         try clear hcz19_0
         try clear hcz19_1
         try clear hcz19_2
         try clear hcz19_3
         try clear hcz19_4
         try clear hcz19_5
         try clear hcz19_6
         try clear hcz19_7
         try clear hcz20_0
         try clear hcz20_1
         try clear hcz20_2
         try clear hcz20_3
         try clear hcz20_4
         try clear hcz20_5
         try clear hcz20_6
         try clear hcz20_7
         try clear hcz26_0
         try clear hcz26_1
         try clear hcz26_2
         try clear hcz26_3
         try clear hcz26_4
         try clear hcz26_5
         try clear hcz26_6
         try clear hcz26_7
         try clear hcz29_0
         try clear hcz29_1
         try clear hcz29_2
         try clear hcz29_3
         try clear hcz29_4
         try clear hcz37_0
         try clear hcz37_1
         try clear hcz37_2
         try clear hcz37_3
         try clear hcz37_4
         try clear hcz38_0
         try clear hcz38_1
         try clear hcz38_2
         try clear hcz38_3
         try clear hcz38_4
         try clear hcz38_5
         try clear hcz38_6
         try clear hcz38_7
         try clear hcz40_0
         try clear hcz40_1
         try clear hcz40_2
         try clear hcz40_3
         try clear hcz40_4
         try clear hcz41_0
         try clear hcz41_1
         try clear hcz41_2
         try clear hcz41_3
         try clear hcz41_4
         try clear hcz41_5
         try clear hcz41_6
         try clear hcz41_7
         try clear hcz43_0
         try clear hcz43_1
         try clear hcz43_2
         try clear hcz43_3
         try clear hcz43_4
         try clear hcz45_0
         try clear hcz45_1
         try clear hcz45_2
         try clear hcz45_3
         try clear hcz45_4
         try clear hfz11_0
         try clear hfz11_1
         try clear hfz11_2
         try clear hfz11_3
         try clear hfz11_4
         try clear hfz11_5
         try clear hfz11_6
         try clear hfz11_7
         try clear hfz13_0
         try clear hfz13_1
         try clear hfz13_2
         try clear hfz13_3
         try clear hfz13_4
         try clear hfz13_5
         try clear hfz13_6
         try clear hfz13_7
         try clear hfz14_0
         try clear hfz14_1
         try clear hfz14_2
         try clear hfz14_3
         try clear hfz14_4
         try clear hfz14_5
         try clear hfz14_6
         try clear hfz14_7
         try clear hfz16_0
         try clear hfz16_1
         try clear hfz16_2
         try clear hfz16_3
         try clear hfz16_4
         try clear hfz16_5
         try clear hfz16_6
         try clear hfz16_7
         try clear hfz17_0
         try clear hfz17_1
         try clear hfz17_2
         try clear hfz17_3
         try clear hfz17_4
         try clear hfz17_5
         try clear hfz17_6
         try clear hfz17_7
         try clear hfz19_0
         try clear hfz19_1
         try clear hfz19_2
         try clear hfz19_3
         try clear hfz19_4
         try clear hfz19_5
         try clear hfz19_6
         try clear hfz19_7
         try clear hfz20_0
         try clear hfz20_1
         try clear hfz20_2
         try clear hfz20_3
         try clear hfz20_4
         try clear hfz20_5
         try clear hfz20_6
         try clear hfz20_7
         try clear hfz26_0
         try clear hfz26_1
         try clear hfz26_2
         try clear hfz26_3
         try clear hfz26_4
         try clear hfz26_5
         try clear hfz26_6
         try clear hfz26_7
         try clear hfz29_0
         try clear hfz29_1
         try clear hfz29_2
         try clear hfz29_3
         try clear hfz29_4
         try clear hfz37_0
         try clear hfz37_1
         try clear hfz37_2
         try clear hfz37_3
         try clear hfz37_4
         try clear hfz38_0
         try clear hfz38_1
         try clear hfz38_2
         try clear hfz38_3
         try clear hfz38_4
         try clear hfz38_5
         try clear hfz38_6
         try clear hfz38_7
         try clear hfz40_0
         try clear hfz40_1
         try clear hfz40_2
         try clear hfz40_3
         try clear hfz40_4
         try clear hfz41_0
         try clear hfz41_1
         try clear hfz41_2
         try clear hfz41_3
         try clear hfz41_4
         try clear hfz41_5
         try clear hfz41_6
         try clear hfz41_7
         try clear hfz43_0
         try clear hfz43_1
         try clear hfz43_2
         try clear hfz43_3
         try clear hfz43_4
         try clear hfz45_0
         try clear hfz45_1
         try clear hfz45_2
         try clear hfz45_3
         try clear hfz45_4
         try clear hx142_0
         try clear hx142_1
         try clear hx142_2
         try clear hx142_3
         try clear hx142_4
         try clear p142
         try clear p2
         try clear q142
         obtain ⟨kq, x67_24, rfl, HA, HJ24, BK137, BK143, HB⟩ := hcut
         cases kq with
         | zero => exact absurd HA.out (by simp [spec_ValidFetch.j2])
         | succ kj24 =>
          have H := HA.out
          clear HA
          simp only [spec_ValidFetch.j2] at H
          by_cases c46 : x67_24 = true
          ·
           subst c46
           have H1 : (some false) = some r := by rw [if_pos rfl] at H; exact H
           clear H
           have H := H1
           clear H1
           obtain rfl := Option.some.inj H
           go_wp2
           repeat (go_quiet (fail); try go_wp2)
           go_ret
           exact ⟨by first | rfl | (simp [errW_none, errW_some] <;> rfl) | (simp [*, errW_none, errW_some] <;> rfl), by repeat (first | (with_reducible first | exact HB.out | apply below_alloc | apply pw_below_drewN | apply below_drew1 | refine below_set ?_ GE137.out | refine below_set ?_ GE143.out) | exact HB.out)⟩
          ·
           replace c46 := Bool.eq_false_iff.mpr c46
           subst c46
           have H1 : (if ((rd_T112 l0_7 x3_2).f1) > 0 then (if (((rd_T112 l0_7 x3_2).f3).size : Int) = a0_3 then (if ((rd_T112 l0_7 x3_2).f1) = 0 then (spec_ValidFetch.j3 kj24 x3_2 (((rd_T112 l0_7 x3_2).f3).toList != ([] : List UInt8)) a0_0 a0_1 a0_2 a0_3 a0_4 l0_5 l0_6 l0_7 ((rd_T112 l0_7 x3_2).f0) ((rd_T112 l0_7 x3_2).f1) ((rd_T112 l0_7 x3_2).f2) ((rd_T112 l0_7 x3_2).f3) ((rd_T112 l0_7 x3_2).f4)) else (spec_ValidFetch.j3 kj24 x3_2 false a0_0 a0_1 a0_2 a0_3 a0_4 l0_5 l0_6 l0_7 ((rd_T112 l0_7 x3_2).f0) ((rd_T112 l0_7 x3_2).f1) ((rd_T112 l0_7 x3_2).f2) ((rd_T112 l0_7 x3_2).f3) ((rd_T112 l0_7 x3_2).f4))) else (spec_ValidFetch.j3 kj24 x3_2 true a0_0 a0_1 a0_2 a0_3 a0_4 l0_5 l0_6 l0_7 ((rd_T112 l0_7 x3_2).f0) ((rd_T112 l0_7 x3_2).f1) ((rd_T112 l0_7 x3_2).f2) ((rd_T112 l0_7 x3_2).f3) ((rd_T112 l0_7 x3_2).f4))) else (if ((rd_T112 l0_7 x3_2).f1) = 0 then (spec_ValidFetch.j3 kj24 x3_2 (((rd_T112 l0_7 x3_2).f3).toList != ([] : List UInt8)) a0_0 a0_1 a0_2 a0_3 a0_4 l0_5 l0_6 l0_7 ((rd_T112 l0_7 x3_2).f0) ((rd_T112 l0_7 x3_2).f1) ((rd_T112 l0_7 x3_2).f2) ((rd_T112 l0_7 x3_2).f3) ((rd_T112 l0_7 x3_2).f4)) else (spec_ValidFetch.j3 kj24 x3_2 false a0_0 a0_1 a0_2 a0_3 a0_4 l0_5 l0_6 l0_7 ((rd_T112 l0_7 x3_2).f0) ((rd_T112 l0_7 x3_2).f1) ((rd_T112 l0_7 x3_2).f2) ((rd_T112 l0_7 x3_2).f3) ((rd_T112 l0_7 x3_2).f4)))) = some r := by rw [if_neg (show ¬ (false = true) by decide)] at H; exact H
           clear H
           have H := H1
           clear H1
           have HC47 := Aside0.mk H
           clear H
           go_upto_region 9 with (fail)
           repeat (go_quiet (fail); go_upto_region 9 with (fail))
           go_cut [89] (fun v89 wc => ∃ (kq : Nat) (x89_46 : Bool), v89 = .bool x89_46 ∧ Aside0 (spec_ValidFetch.j3 kq x3_2 x89_46 a0_0 a0_1 a0_2 a0_3 a0_4 l0_5 l0_6 l0_7 ((rd_T112 l0_7 x3_2).f0) ((rd_T112 l0_7 x3_2).f1) ((rd_T112 l0_7 x3_2).f2) ((rd_T112 l0_7 x3_2).f3) ((rd_T112 l0_7 x3_2).f4) = some r) ∧ Aside0 (kq ≤ kj24) ∧ Aside0 (wc.heap[gb137]? = some (.cells #[.string a0_0, .int .i64 a0_1, .bool a0_2, .int .i64 a0_3, .int .i64 a0_4, (.slice A0_5 l0_5.length c0_5), (.slice A0_6 l0_6.length c0_6), (.slice (some ad142) l0_7.length c0_7)] 69 (0, 0))) ∧ Aside0 (wc.heap[gb143]? = some (.cells #[.int .i64 ((rd_T112 l0_7 x3_2).f0), .int .i64 ((rd_T112 l0_7 x3_2).f1), .int .i64 ((rd_T112 l0_7 x3_2).f2), .string ((rd_T112 l0_7 x3_2).f3), (.slice A142_4 ((rd_T112 l0_7 x3_2).f4).length c142_4)] 112 (0, 0))) ∧ Aside0 (Below w.heap.size w wc))
           case first =>
            have H := HC47.out
            clear HC47
            by_cases c48 : ((rd_T112 l0_7 x3_2).f1) > 0
            ·
             rw [if_pos c48] at H
             have c48b0 : decide (0 < ((rd_T112 l0_7 x3_2).f1)) = true := decide_eq_true c48
             clear c48
             (first | rw [c48b0] | (simp only [i64_w, i32_w]; rw [c48b0]) | skip)
             by_cases c49 : (((rd_T112 l0_7 x3_2).f3).size : Int) = a0_3
             ·
              rw [if_pos c49] at H
              have c49b0 : ((((rd_T112 l0_7 x3_2).f3).size : Int) == a0_3) = true := beq_iff_eq.mpr c49
              have c49b1 : ((((rd_T112 l0_7 x3_2).f3).size : Int) != a0_3) = false := bne_eq_false_iff_eq.mpr c49
              clear c49
              by_cases c50 : ((rd_T112 l0_7 x3_2).f1) = 0
              ·
               rw [if_pos c50] at H
               have c50b0 : (((rd_T112 l0_7 x3_2).f1) == 0) = true := beq_iff_eq.mpr c50
               have c50b1 : (((rd_T112 l0_7 x3_2).f1) != 0) = false := bne_eq_false_iff_eq.mpr c50
               clear c50
               have H' := Aside0.mk H
               clear H
               have hnb51 := NB143_137.out
               have hnc51 := NB137_143.out
               have hcz52_0 : wc.cell? ⟨gb143, 0, none⟩ = some (.int .i64 ((rd_T112 l0_7 x3_2).f0)) := (blk_cell BK143.out 0).trans rfl
               have hcz52_1 : wc.cell? ⟨gb143, 1, none⟩ = some (.int .i64 ((rd_T112 l0_7 x3_2).f1)) := (blk_cell BK143.out 1).trans rfl
               have hcz52_2 : wc.cell? ⟨gb143, 2, none⟩ = some (.int .i64 ((rd_T112 l0_7 x3_2).f2)) := (blk_cell BK143.out 2).trans rfl
               have hcz52_3 : wc.cell? ⟨gb143, 3, none⟩ = some (.string ((rd_T112 l0_7 x3_2).f3)) := (blk_cell BK143.out 3).trans rfl
               have hcz52_4 : wc.cell? ⟨gb143, 4, none⟩ = some (.slice A142_4 ((rd_T112 l0_7 x3_2).f4).length c142_4) := (blk_cell BK143.out 4).trans rfl
               have hfz52_0 := blk_frozen BK143.out 0
               have hfz52_1 := blk_frozen BK143.out 1
               have hfz52_2 := blk_frozen BK143.out 2
               have hfz52_3 := blk_frozen BK143.out 3
               have hfz52_4 := blk_frozen BK143.out 4
               have hcz53_0 : wc.cell? ⟨gb137, 0, none⟩ = some (.string a0_0) := (blk_cell BK137.out 0).trans rfl
               have hcz53_1 : wc.cell? ⟨gb137, 1, none⟩ = some (.int .i64 a0_1) := (blk_cell BK137.out 1).trans rfl
               have hcz53_2 : wc.cell? ⟨gb137, 2, none⟩ = some (.bool a0_2) := (blk_cell BK137.out 2).trans rfl
               have hcz53_3 : wc.cell? ⟨gb137, 3, none⟩ = some (.int .i64 a0_3) := (blk_cell BK137.out 3).trans rfl
               have hcz53_4 : wc.cell? ⟨gb137, 4, none⟩ = some (.int .i64 a0_4) := (blk_cell BK137.out 4).trans rfl
               have hcz53_5 : wc.cell? ⟨gb137, 5, none⟩ = some (.slice A0_5 l0_5.length c0_5) := (blk_cell BK137.out 5).trans rfl
               have hcz53_6 : wc.cell? ⟨gb137, 6, none⟩ = some (.slice A0_6 l0_6.length c0_6) := (blk_cell BK137.out 6).trans rfl
               have hcz53_7 : wc.cell? ⟨gb137, 7, none⟩ = some (.slice (some ad142) l0_7.length c0_7) := (blk_cell BK137.out 7).trans rfl
               have hfz53_0 := blk_frozen BK137.out 0
               have hfz53_1 := blk_frozen BK137.out 1
               have hfz53_2 := blk_frozen BK137.out 2
               have hfz53_3 := blk_frozen BK137.out 3
               have hfz53_4 := blk_frozen BK137.out 4
               have hfz53_5 := blk_frozen BK137.out 5
               have hfz53_6 := blk_frozen BK137.out 6
               have hfz53_7 := blk_frozen BK137.out 7
               go_wp2
               repeat (go_quiet (fail); try go_wp2)
               go_meet
               case rel => exact ⟨_, ((((rd_T112 l0_7 x3_2).f3).toList != ([] : List UInt8))), (by first | rfl | (simp; done) | (simp [*]; done) | (simp; generalize ByteArray.toList _ = z_; cases z_ <;> first | rfl | simp)), H', ⟨by have := HJ1.out; have := HK2.out; have := HJ24.out; first | omega | exact Nat.le_refl _⟩, ⟨Zz.rb_ BK137.out⟩, ⟨Zz.rb_ BK143.out⟩, ⟨Zz.rB_ HB.out⟩⟩
              ·
               rw [if_neg c50] at H
               have c50b0 : (((rd_T112 l0_7 x3_2).f1) == 0) = false := beq_eq_false_iff_ne.mpr c50
               have c50b1 : (((rd_T112 l0_7 x3_2).f1) != 0) = true := bne_iff_ne.mpr c50
               have H' := Aside0.mk H
               clear H
               have hnb54 := NB143_137.out
               have hnc54 := NB137_143.out
               have hcz55_0 : wc.cell? ⟨gb143, 0, none⟩ = some (.int .i64 ((rd_T112 l0_7 x3_2).f0)) := (blk_cell BK143.out 0).trans rfl
               have hcz55_1 : wc.cell? ⟨gb143, 1, none⟩ = some (.int .i64 ((rd_T112 l0_7 x3_2).f1)) := (blk_cell BK143.out 1).trans rfl
               have hcz55_2 : wc.cell? ⟨gb143, 2, none⟩ = some (.int .i64 ((rd_T112 l0_7 x3_2).f2)) := (blk_cell BK143.out 2).trans rfl
               have hcz55_3 : wc.cell? ⟨gb143, 3, none⟩ = some (.string ((rd_T112 l0_7 x3_2).f3)) := (blk_cell BK143.out 3).trans rfl
               have hcz55_4 : wc.cell? ⟨gb143, 4, none⟩ = some (.slice A142_4 ((rd_T112 l0_7 x3_2).f4).length c142_4) := (blk_cell BK143.out 4).trans rfl
               have hfz55_0 := blk_frozen BK143.out 0
               have hfz55_1 := blk_frozen BK143.out 1
               have hfz55_2 := blk_frozen BK143.out 2
               have hfz55_3 := blk_frozen BK143.out 3
               have hfz55_4 := blk_frozen BK143.out 4
               have hcz56_0 : wc.cell? ⟨gb137, 0, none⟩ = some (.string a0_0) := (blk_cell BK137.out 0).trans rfl
               have hcz56_1 : wc.cell? ⟨gb137, 1, none⟩ = some (.int .i64 a0_1) := (blk_cell BK137.out 1).trans rfl
               have hcz56_2 : wc.cell? ⟨gb137, 2, none⟩ = some (.bool a0_2) := (blk_cell BK137.out 2).trans rfl
               have hcz56_3 : wc.cell? ⟨gb137, 3, none⟩ = some (.int .i64 a0_3) := (blk_cell BK137.out 3).trans rfl
               have hcz56_4 : wc.cell? ⟨gb137, 4, none⟩ = some (.int .i64 a0_4) := (blk_cell BK137.out 4).trans rfl
               have hcz56_5 : wc.cell? ⟨gb137, 5, none⟩ = some (.slice A0_5 l0_5.length c0_5) := (blk_cell BK137.out 5).trans rfl
               have hcz56_6 : wc.cell? ⟨gb137, 6, none⟩ = some (.slice A0_6 l0_6.length c0_6) := (blk_cell BK137.out 6).trans rfl
               have hcz56_7 : wc.cell? ⟨gb137, 7, none⟩ = some (.slice (some ad142) l0_7.length c0_7) := (blk_cell BK137.out 7).trans rfl
               have hfz56_0 := blk_frozen BK137.out 0
               have hfz56_1 := blk_frozen BK137.out 1
               have hfz56_2 := blk_frozen BK137.out 2
               have hfz56_3 := blk_frozen BK137.out 3
               have hfz56_4 := blk_frozen BK137.out 4
               have hfz56_5 := blk_frozen BK137.out 5
               have hfz56_6 := blk_frozen BK137.out 6
               have hfz56_7 := blk_frozen BK137.out 7
               go_wp2
               repeat (go_quiet (fail); try go_wp2)
               go_meet
               case rel => exact ⟨_, (false), (by first | rfl | (simp; done) | (simp [*]; done)), H', ⟨by have := HJ1.out; have := HK2.out; have := HJ24.out; first | omega | exact Nat.le_refl _⟩, ⟨Zz.rb_ BK137.out⟩, ⟨Zz.rb_ BK143.out⟩, ⟨Zz.rB_ HB.out⟩⟩
             ·
              rw [if_neg c49] at H
              have c49b0 : ((((rd_T112 l0_7 x3_2).f3).size : Int) == a0_3) = false := beq_eq_false_iff_ne.mpr c49
              have c49b1 : ((((rd_T112 l0_7 x3_2).f3).size : Int) != a0_3) = true := bne_iff_ne.mpr c49
              have H' := Aside0.mk H
              clear H
              have hnb57 := NB143_137.out
              have hnc57 := NB137_143.out
              have hcz58_0 : wc.cell? ⟨gb143, 0, none⟩ = some (.int .i64 ((rd_T112 l0_7 x3_2).f0)) := (blk_cell BK143.out 0).trans rfl
              have hcz58_1 : wc.cell? ⟨gb143, 1, none⟩ = some (.int .i64 ((rd_T112 l0_7 x3_2).f1)) := (blk_cell BK143.out 1).trans rfl
              have hcz58_2 : wc.cell? ⟨gb143, 2, none⟩ = some (.int .i64 ((rd_T112 l0_7 x3_2).f2)) := (blk_cell BK143.out 2).trans rfl
              have hcz58_3 : wc.cell? ⟨gb143, 3, none⟩ = some (.string ((rd_T112 l0_7 x3_2).f3)) := (blk_cell BK143.out 3).trans rfl
              have hcz58_4 : wc.cell? ⟨gb143, 4, none⟩ = some (.slice A142_4 ((rd_T112 l0_7 x3_2).f4).length c142_4) := (blk_cell BK143.out 4).trans rfl
              have hfz58_0 := blk_frozen BK143.out 0
              have hfz58_1 := blk_frozen BK143.out 1
              have hfz58_2 := blk_frozen BK143.out 2
              have hfz58_3 := blk_frozen BK143.out 3
              have hfz58_4 := blk_frozen BK143.out 4
              have hcz59_0 : wc.cell? ⟨gb137, 0, none⟩ = some (.string a0_0) := (blk_cell BK137.out 0).trans rfl
              have hcz59_1 : wc.cell? ⟨gb137, 1, none⟩ = some (.int .i64 a0_1) := (blk_cell BK137.out 1).trans rfl
              have hcz59_2 : wc.cell? ⟨gb137, 2, none⟩ = some (.bool a0_2) := (blk_cell BK137.out 2).trans rfl
              have hcz59_3 : wc.cell? ⟨gb137, 3, none⟩ = some (.int .i64 a0_3) := (blk_cell BK137.out 3).trans rfl
              have hcz59_4 : wc.cell? ⟨gb137, 4, none⟩ = some (.int .i64 a0_4) := (blk_cell BK137.out 4).trans rfl
              have hcz59_5 : wc.cell? ⟨gb137, 5, none⟩ = some (.slice A0_5 l0_5.length c0_5) := (blk_cell BK137.out 5).trans rfl
              have hcz59_6 : wc.cell? ⟨gb137, 6, none⟩ = some (.slice A0_6 l0_6.length c0_6) := (blk_cell BK137.out 6).trans rfl
              have hcz59_7 : wc.cell? ⟨gb137, 7, none⟩ = some (.slice (some ad142) l0_7.length c0_7) := (blk_cell BK137.out 7).trans rfl
              have hfz59_0 := blk_frozen BK137.out 0
              have hfz59_1 := blk_frozen BK137.out 1
              have hfz59_2 := blk_frozen BK137.out 2
              have hfz59_3 := blk_frozen BK137.out 3
              have hfz59_4 := blk_frozen BK137.out 4
              have hfz59_5 := blk_frozen BK137.out 5
              have hfz59_6 := blk_frozen BK137.out 6
              have hfz59_7 := blk_frozen BK137.out 7
              go_wp2
              repeat (go_quiet (fail); try go_wp2)
              go_meet
              case rel => exact ⟨_, (true), (by first | rfl | (simp; done) | (simp [*]; done)), H', ⟨by have := HJ1.out; have := HK2.out; have := HJ24.out; first | omega | exact Nat.le_refl _⟩, ⟨Zz.rb_ BK137.out⟩, ⟨Zz.rb_ BK143.out⟩, ⟨Zz.rB_ HB.out⟩⟩
            ·
             rw [if_neg c48] at H
             have c48b0 : decide (0 < ((rd_T112 l0_7 x3_2).f1)) = false := decide_eq_false c48
             clear c48
             (first | rw [c48b0] | (simp only [i64_w, i32_w]; rw [c48b0]) | skip)
             by_cases c60 : ((rd_T112 l0_7 x3_2).f1) = 0
             ·
              rw [if_pos c60] at H
              have c60b0 : (((rd_T112 l0_7 x3_2).f1) == 0) = true := beq_iff_eq.mpr c60
              have c60b1 : (((rd_T112 l0_7 x3_2).f1) != 0) = false := bne_eq_false_iff_eq.mpr c60
              clear c60
              have H' := Aside0.mk H
              clear H
              have hnb61 := NB143_137.out
              have hnc61 := NB137_143.out
              have hcz62_0 : wc.cell? ⟨gb143, 0, none⟩ = some (.int .i64 ((rd_T112 l0_7 x3_2).f0)) := (blk_cell BK143.out 0).trans rfl
              have hcz62_1 : wc.cell? ⟨gb143, 1, none⟩ = some (.int .i64 ((rd_T112 l0_7 x3_2).f1)) := (blk_cell BK143.out 1).trans rfl
              have hcz62_2 : wc.cell? ⟨gb143, 2, none⟩ = some (.int .i64 ((rd_T112 l0_7 x3_2).f2)) := (blk_cell BK143.out 2).trans rfl
              have hcz62_3 : wc.cell? ⟨gb143, 3, none⟩ = some (.string ((rd_T112 l0_7 x3_2).f3)) := (blk_cell BK143.out 3).trans rfl
              have hcz62_4 : wc.cell? ⟨gb143, 4, none⟩ = some (.slice A142_4 ((rd_T112 l0_7 x3_2).f4).length c142_4) := (blk_cell BK143.out 4).trans rfl
              have hfz62_0 := blk_frozen BK143.out 0
              have hfz62_1 := blk_frozen BK143.out 1
              have hfz62_2 := blk_frozen BK143.out 2
              have hfz62_3 := blk_frozen BK143.out 3
              have hfz62_4 := blk_frozen BK143.out 4
              go_wp2
              repeat (go_quiet (fail); try go_wp2)
              go_meet
              case rel => exact ⟨_, ((((rd_T112 l0_7 x3_2).f3).toList != ([] : List UInt8))), (by first | rfl | (simp; done) | (simp [*]; done) | (simp; generalize ByteArray.toList _ = z_; cases z_ <;> first | rfl | simp)), H', ⟨by have := HJ1.out; have := HK2.out; have := HJ24.out; first | omega | exact Nat.le_refl _⟩, ⟨Zz.rb_ BK137.out⟩, ⟨Zz.rb_ BK143.out⟩, ⟨Zz.rB_ HB.out⟩⟩
             ·
              rw [if_neg c60] at H
              have c60b0 : (((rd_T112 l0_7 x3_2).f1) == 0) = false := beq_eq_false_iff_ne.mpr c60
              have c60b1 : (((rd_T112 l0_7 x3_2).f1) != 0) = true := bne_iff_ne.mpr c60
              have H' := Aside0.mk H
              clear H
              have hnb63 := NB143_137.out
              have hnc63 := NB137_143.out
              have hcz64_0 : wc.cell? ⟨gb143, 0, none⟩ = some (.int .i64 ((rd_T112 l0_7 x3_2).f0)) := (blk_cell BK143.out 0).trans rfl
              have hcz64_1 : wc.cell? ⟨gb143, 1, none⟩ = some (.int .i64 ((rd_T112 l0_7 x3_2).f1)) := (blk_cell BK143.out 1).trans rfl
              have hcz64_2 : wc.cell? ⟨gb143, 2, none⟩ = some (.int .i64 ((rd_T112 l0_7 x3_2).f2)) := (blk_cell BK143.out 2).trans rfl
              have hcz64_3 : wc.cell? ⟨gb143, 3, none⟩ = some (.string ((rd_T112 l0_7 x3_2).f3)) := (blk_cell BK143.out 3).trans rfl
              have hcz64_4 : wc.cell? ⟨gb143, 4, none⟩ = some (.slice A142_4 ((rd_T112 l0_7 x3_2).f4).length c142_4) := (blk_cell BK143.out 4).trans rfl
              have hfz64_0 := blk_frozen BK143.out 0
              have hfz64_1 := blk_frozen BK143.out 1
              have hfz64_2 := blk_frozen BK143.out 2
              have hfz64_3 := blk_frozen BK143.out 3
              have hfz64_4 := blk_frozen BK143.out 4
              go_wp2
              repeat (go_quiet (fail); try go_wp2)
              go_meet
              case rel => exact ⟨_, (false), (by first | rfl | (simp; done) | (simp [*]; done)), H', ⟨by have := HJ1.out; have := HK2.out; have := HJ24.out; first | omega | exact Nat.le_refl _⟩, ⟨Zz.rb_ BK137.out⟩, ⟨Zz.rb_ BK143.out⟩, ⟨Zz.rB_ HB.out⟩⟩
           case rest =>
            clear HC47
            try clear c1
            try clear p1
            try clear q1
            try clear hx1
            try clear c2
            try clear p2
            try clear c3
            try clear c4
            try clear c5
            try clear c6
            try clear c7
            try clear c9
            try clear c14
            try clear p14
            try clear q14
            try clear hx14
            try clear c22
            try clear c23
            try clear c23b0
            try clear c24
            try clear c24b0
            try clear c28
            try clear c31
            try clear c33
            try clear c35
            try clear c36
            try clear c39
            try clear c42
            try clear c44
            try clear c46
            try clear c48
            try clear c48b0
            try clear c49
            try clear c49b0
            try clear c49b1
            try clear c50
            try clear c50b0
            try clear c50b1
            try clear c51
            try clear c54
            try clear c57
            try clear c60
            try clear c60b0
            try clear c60b1
            try clear c61
            try clear c63
            try clear hcz11_0
            try clear hcz11_1
            try clear hcz11_2
            try clear hcz11_3
            try clear hcz11_4
            try clear hcz11_5
            try clear hcz11_6
            try clear hcz11_7
            try clear hcz13_0
            try clear hcz13_1
            try clear hcz13_2
            try clear hcz13_3
            try clear hcz13_4
            try clear hcz13_5
            try clear hcz13_6
            try clear hcz13_7
            try clear hcz14_0
            try clear hcz14_1
            try clear hcz14_2
            try clear hcz14_3
            try clear hcz14_4
            try clear hcz14_5
            try clear hcz14_6
            try clear hcz14_7
            try clear hcz16_0
            try clear hcz16_1
            try clear hcz16_2
            try clear hcz16_3
            try clear hcz16_4
            try clear hcz16_5
            try clear hcz16_6
            try clear hcz16_7
            try clear hcz17_0
            try clear hcz17_1
            try clear hcz17_2
            try clear hcz17_3
            try clear hcz17_4
            try clear hcz17_5
            try clear hcz17_6
            try clear hcz17_7
            try clear hcz19_0
            try clear hcz19_1
            try clear hcz19_2
            try clear hcz19_3
            try clear hcz19_4
            try clear hcz19_5
            try clear hcz19_6
            try clear hcz19_7
            try clear hcz20_0
            try clear hcz20_1
            try clear hcz20_2
            try clear hcz20_3
            try clear hcz20_4
            try clear hcz20_5
            try clear hcz20_6
            try clear hcz20_7
            try clear hcz26_0
            try clear hcz26_1
            try clear hcz26_2
            try clear hcz26_3
            try clear hcz26_4
            try clear hcz26_5
            try clear hcz26_6
            try clear hcz26_7
            try clear hcz29_0
            try clear hcz29_1
            try clear hcz29_2
            try clear hcz29_3
            try clear hcz29_4
            try clear hcz37_0
            try clear hcz37_1
            try clear hcz37_2
            try clear hcz37_3
            try clear hcz37_4
            try clear hcz38_0
            try clear hcz38_1
            try clear hcz38_2
            try clear hcz38_3
            try clear hcz38_4
            try clear hcz38_5
            try clear hcz38_6
            try clear hcz38_7
            try clear hcz40_0
            try clear hcz40_1
            try clear hcz40_2
            try clear hcz40_3
            try clear hcz40_4
            try clear hcz41_0
            try clear hcz41_1
            try clear hcz41_2
            try clear hcz41_3
            try clear hcz41_4
            try clear hcz41_5
            try clear hcz41_6
            try clear hcz41_7
            try clear hcz43_0
            try clear hcz43_1
            try clear hcz43_2
            try clear hcz43_3
            try clear hcz43_4
            try clear hcz45_0
            try clear hcz45_1
            try clear hcz45_2
            try clear hcz45_3
            try clear hcz45_4
            try clear hcz52_0
            try clear hcz52_1
            try clear hcz52_2
            try clear hcz52_3
            try clear hcz52_4
            try clear hcz53_0
            try clear hcz53_1
            try clear hcz53_2
            try clear hcz53_3
            try clear hcz53_4
            try clear hcz53_5
            try clear hcz53_6
            try clear hcz53_7
            try clear hcz55_0
            try clear hcz55_1
            try clear hcz55_2
            try clear hcz55_3
            try clear hcz55_4
            try clear hcz56_0
            try clear hcz56_1
            try clear hcz56_2
            try clear hcz56_3
            try clear hcz56_4
            try clear hcz56_5
            try clear hcz56_6
            try clear hcz56_7
            try clear hcz58_0
            try clear hcz58_1
            try clear hcz58_2
            try clear hcz58_3
            try clear hcz58_4
            try clear hcz59_0
            try clear hcz59_1
            try clear hcz59_2
            try clear hcz59_3
            try clear hcz59_4
            try clear hcz59_5
            try clear hcz59_6
            try clear hcz59_7
            try clear hcz62_0
            try clear hcz62_1
            try clear hcz62_2
            try clear hcz62_3
            try clear hcz62_4
            try clear hcz64_0
            try clear hcz64_1
            try clear hcz64_2
            try clear hcz64_3
            try clear hcz64_4
            try clear hfz11_0
            try clear hfz11_1
            try clear hfz11_2
            try clear hfz11_3
            try clear hfz11_4
            try clear hfz11_5
            try clear hfz11_6
            try clear hfz11_7
            try clear hfz13_0
            try clear hfz13_1
            try clear hfz13_2
            try clear hfz13_3
            try clear hfz13_4
            try clear hfz13_5
            try clear hfz13_6
            try clear hfz13_7
            try clear hfz14_0
            try clear hfz14_1
            try clear hfz14_2
            try clear hfz14_3
            try clear hfz14_4
            try clear hfz14_5
            try clear hfz14_6
            try clear hfz14_7
            try clear hfz16_0
            try clear hfz16_1
            try clear hfz16_2
            try clear hfz16_3
            try clear hfz16_4
            try clear hfz16_5
            try clear hfz16_6
            try clear hfz16_7
            try clear hfz17_0
            try clear hfz17_1
            try clear hfz17_2
            try clear hfz17_3
            try clear hfz17_4
            try clear hfz17_5
            try clear hfz17_6
            try clear hfz17_7
            try clear hfz19_0
            try clear hfz19_1
            try clear hfz19_2
            try clear hfz19_3
            try clear hfz19_4
            try clear hfz19_5
            try clear hfz19_6
            try clear hfz19_7
            try clear hfz20_0
            try clear hfz20_1
            try clear hfz20_2
            try clear hfz20_3
            try clear hfz20_4
            try clear hfz20_5
            try clear hfz20_6
            try clear hfz20_7
            try clear hfz26_0
            try clear hfz26_1
            try clear hfz26_2
            try clear hfz26_3
            try clear hfz26_4
            try clear hfz26_5
            try clear hfz26_6
            try clear hfz26_7
            try clear hfz29_0
            try clear hfz29_1
            try clear hfz29_2
            try clear hfz29_3
            try clear hfz29_4
            try clear hfz37_0
            try clear hfz37_1
            try clear hfz37_2
            try clear hfz37_3
            try clear hfz37_4
            try clear hfz38_0
            try clear hfz38_1
            try clear hfz38_2
            try clear hfz38_3
            try clear hfz38_4
            try clear hfz38_5
            try clear hfz38_6
            try clear hfz38_7
            try clear hfz40_0
            try clear hfz40_1
            try clear hfz40_2
            try clear hfz40_3
            try clear hfz40_4
            try clear hfz41_0
            try clear hfz41_1
            try clear hfz41_2
            try clear hfz41_3
            try clear hfz41_4
            try clear hfz41_5
            try clear hfz41_6
            try clear hfz41_7
            try clear hfz43_0
            try clear hfz43_1
            try clear hfz43_2
            try clear hfz43_3
            try clear hfz43_4
            try clear hfz45_0
            try clear hfz45_1
            try clear hfz45_2
            try clear hfz45_3
            try clear hfz45_4
            try clear hfz52_0
            try clear hfz52_1
            try clear hfz52_2
            try clear hfz52_3
            try clear hfz52_4
            try clear hfz53_0
            try clear hfz53_1
            try clear hfz53_2
            try clear hfz53_3
            try clear hfz53_4
            try clear hfz53_5
            try clear hfz53_6
            try clear hfz53_7
            try clear hfz55_0
            try clear hfz55_1
            try clear hfz55_2
            try clear hfz55_3
            try clear hfz55_4
            try clear hfz56_0
            try clear hfz56_1
            try clear hfz56_2
            try clear hfz56_3
            try clear hfz56_4
            try clear hfz56_5
            try clear hfz56_6
            try clear hfz56_7
            try clear hfz58_0
            try clear hfz58_1
            try clear hfz58_2
            try clear hfz58_3
            try clear hfz58_4
            try clear hfz59_0
            try clear hfz59_1
            try clear hfz59_2
            try clear hfz59_3
            try clear hfz59_4
            try clear hfz59_5
            try clear hfz59_6
            try clear hfz59_7
            try clear hfz62_0
            try clear hfz62_1
            try clear hfz62_2
            try clear hfz62_3
            try clear hfz62_4
            try clear hfz64_0
            try clear hfz64_1
            try clear hfz64_2
            try clear hfz64_3
            try clear hfz64_4
            try clear hx142_0
            try clear hx142_1
            try clear hx142_2
            try clear hx142_3
            try clear hx142_4
            try clear p1
            try clear p14
            try clear p142
            try clear p2
            try clear q1
            try clear q14
            try clear q142
            obtain ⟨kq, x89_46, rfl, HA, HJ46, BK137, BK143, HB⟩ := hcut
            cases kq with
            | zero => exact absurd HA.out (by simp [spec_ValidFetch.j3])
            | succ kj46 =>
             have H := HA.out
             clear HA
             simp only [spec_ValidFetch.j3] at H
             by_cases c65 : x89_46 = true
             ·
              subst c65
              have H1 : (some false) = some r := by rw [if_pos rfl] at H; exact H
              clear H
              have H := H1
              clear H1
              obtain rfl := Option.some.inj H
              go_wp2
              repeat (go_quiet (fail); try go_wp2)
              go_ret
              exact ⟨by first | rfl | (simp [errW_none, errW_some] <;> rfl) | (simp [*, errW_none, errW_some] <;> rfl), by repeat (first | (with_reducible first | exact HB.out | apply below_alloc | apply pw_below_drewN | apply below_drew1 | refine below_set ?_ GE137.out | refine below_set ?_ GE143.out) | exact HB.out)⟩
             ·
              replace c65 := Bool.eq_false_iff.mpr c65
              subst c65
              have H1 : (spec_ValidFetch.l1 kj46 x3_2 0 a0_0 a0_1 a0_2 a0_3 a0_4 l0_5 l0_6 l0_7 ((rd_T112 l0_7 x3_2).f0) ((rd_T112 l0_7 x3_2).f1) ((rd_T112 l0_7 x3_2).f2) ((rd_T112 l0_7 x3_2).f3) ((rd_T112 l0_7 x3_2).f4)) = some r := by rw [if_neg (show ¬ (false = true) by decide)] at H; exact H
              clear H
              have H := H1
              clear H1
              have H' := Aside0.mk H
              clear H
              go_wp2
              repeat (go_quiet (fail); try go_wp2)
              go_loopg [5] kj46 (fun kq v5 w' => ∃ (x5_5 : Int), v5 = .int .i64 x5_5 ∧ Aside0 (spec_ValidFetch.l1 kq x3_2 x5_5 a0_0 a0_1 a0_2 a0_3 a0_4 l0_5 l0_6 l0_7 ((rd_T112 l0_7 x3_2).f0) ((rd_T112 l0_7 x3_2).f1) ((rd_T112 l0_7 x3_2).f2) ((rd_T112 l0_7 x3_2).f3) ((rd_T112 l0_7 x3_2).f4) = some r) ∧ Aside0 (kq ≤ kj46) ∧ Aside0 (w'.heap[gb137]? = some (.cells #[.string a0_0, .int .i64 a0_1, .bool a0_2, .int .i64 a0_3, .int .i64 a0_4, (.slice A0_5 l0_5.length c0_5), (.slice A0_6 l0_6.length c0_6), (.slice (some ad142) l0_7.length c0_7)] 69 (0, 0))) ∧ Aside0 (w'.heap[gb143]? = some (.cells #[.int .i64 ((rd_T112 l0_7 x3_2).f0), .int .i64 ((rd_T112 l0_7 x3_2).f1), .int .i64 ((rd_T112 l0_7 x3_2).f2), .string ((rd_T112 l0_7 x3_2).f3), (.slice A142_4 ((rd_T112 l0_7 x3_2).f4).length c142_4)] 112 (0, 0))) ∧ Aside0 (Below w.heap.size w w'))
              case atStart => exact ⟨(0), (by first | rfl | (simp; done) | (simp [*]; done)), H', ⟨Nat.le_refl _⟩, ⟨Zz.rb_ BK137.out⟩, ⟨Zz.rb_ BK143.out⟩, ⟨Zz.rB_ HB.out⟩⟩
              case round =>
               clear H'
               try clear c1
               try clear p1
               try clear q1
               try clear hx1
               try clear c2
               try clear p2
               try clear c3
               try clear c4
               try clear c5
               try clear c6
               try clear c7
               try clear c9
               try clear c14
               try clear p14
               try clear q14
               try clear hx14
               try clear c22
               try clear c23
               try clear c23b0
               try clear c24
               try clear c24b0
               try clear c28
               try clear c31
               try clear c33
               try clear c35
               try clear c36
               try clear c39
               try clear c42
               try clear c44
               try clear c46
               try clear c48
               try clear c48b0
               try clear c49
               try clear c49b0
               try clear c49b1
               try clear c50
               try clear c50b0
               try clear c50b1
               try clear c51
               try clear c54
               try clear c57
               try clear c60
               try clear c60b0
               try clear c60b1
               try clear c61
               try clear c63
               try clear c65
               try clear hcz11_0
               try clear hcz11_1
               try clear hcz11_2
               try clear hcz11_3
               try clear hcz11_4
               try clear hcz11_5
               try clear hcz11_6
               try clear hcz11_7
               try clear hcz13_0
               try clear hcz13_1
               try clear hcz13_2
               try clear hcz13_3
               try clear hcz13_4
               try clear hcz13_5
               try clear hcz13_6
               try clear hcz13_7
               try clear hcz14_0
               try clear hcz14_1
               try clear hcz14_2
               try clear hcz14_3
               try clear hcz14_4
               try clear hcz14_5
               try clear hcz14_6
               try clear hcz14_7
               try clear hcz16_0
               try clear hcz16_1
               try clear hcz16_2
               try clear hcz16_3
               try clear hcz16_4
               try clear hcz16_5
               try clear hcz16_6
               try clear hcz16_7
               try clear hcz17_0
               try clear hcz17_1
               try clear hcz17_2
               try clear hcz17_3
               try clear hcz17_4
               try clear hcz17_5
               try clear hcz17_6
               try clear hcz17_7
               try clear hcz19_0
               try clear hcz19_1
               try clear hcz19_2
               try clear hcz19_3
               try clear hcz19_4
               try clear hcz19_5
               try clear hcz19_6
               try clear hcz19_7
               try clear hcz20_0
               try clear hcz20_1
               try clear hcz20_2
               try clear hcz20_3
               try clear hcz20_4
               try clear hcz20_5
               try clear hcz20_6
               try clear hcz20_7
               try clear hcz26_0
               try clear hcz26_1
               try clear hcz26_2
               try clear hcz26_3
               try clear hcz26_4
               try clear hcz26_5
               try clear hcz26_6
               try clear hcz26_7
               try clear hcz29_0
               try clear hcz29_1
               try clear hcz29_2
               try clear hcz29_3
               try clear hcz29_4
               try clear hcz37_0
               try clear hcz37_1
               try clear hcz37_2
               try clear hcz37_3
               try clear hcz37_4
               try clear hcz38_0
               try clear hcz38_1
               try clear hcz38_2
               try clear hcz38_3
               try clear hcz38_4
               try clear hcz38_5
               try clear hcz38_6
               try clear hcz38_7
               try clear hcz40_0
               try clear hcz40_1
               try clear hcz40_2
               try clear hcz40_3
               try clear hcz40_4
               try clear hcz41_0
               try clear hcz41_1
               try clear hcz41_2
               try clear hcz41_3
               try clear hcz41_4
               try clear hcz41_5
               try clear hcz41_6
               try clear hcz41_7
               try clear hcz43_0
               try clear hcz43_1
               try clear hcz43_2
               try clear hcz43_3
               try clear hcz43_4
               try clear hcz45_0
               try clear hcz45_1
               try clear hcz45_2
               try clear hcz45_3
               try clear hcz45_4
               try clear hcz52_0
               try clear hcz52_1
               try clear hcz52_2
               try clear hcz52_3
               try clear hcz52_4
               try clear hcz53_0
               try clear hcz53_1
               try clear hcz53_2
               try clear hcz53_3
               try clear hcz53_4
               try clear hcz53_5
               try clear hcz53_6
               try clear hcz53_7
               try clear hcz55_0
               try clear hcz55_1
               try clear hcz55_2
               try clear hcz55_3
               try clear hcz55_4
               try clear hcz56_0
               try clear hcz56_1
               try clear hcz56_2
               try clear hcz56_3
               try clear hcz56_4
               try clear hcz56_5
               try clear hcz56_6
               try clear hcz56_7
               try clear hcz58_0
               try clear hcz58_1
               try clear hcz58_2
               try clear hcz58_3
               try clear hcz58_4
               try clear hcz59_0
               try clear hcz59_1
               try clear hcz59_2
               try clear hcz59_3
               try clear hcz59_4
               try clear hcz59_5
               try clear hcz59_6
               try clear hcz59_7
               try clear hcz62_0
               try clear hcz62_1
               try clear hcz62_2
               try clear hcz62_3
               try clear hcz62_4
               try clear hcz64_0
               try clear hcz64_1
               try clear hcz64_2
               try clear hcz64_3
               try clear hcz64_4
               try clear hfz11_0
               try clear hfz11_1
               try clear hfz11_2
               try clear hfz11_3
               try clear hfz11_4
               try clear hfz11_5
               try clear hfz11_6
               try clear hfz11_7
               try clear hfz13_0
               try clear hfz13_1
               try clear hfz13_2
               try clear hfz13_3
               try clear hfz13_4
               try clear hfz13_5
               try clear hfz13_6
               try clear hfz13_7
               try clear hfz14_0
               try clear hfz14_1
               try clear hfz14_2
               try clear hfz14_3
               try clear hfz14_4
               try clear hfz14_5
               try clear hfz14_6
               try clear hfz14_7
               try clear hfz16_0
               try clear hfz16_1
               try clear hfz16_2
               try clear hfz16_3
               try clear hfz16_4
               try clear hfz16_5
               try clear hfz16_6
               try clear hfz16_7
               try clear hfz17_0
               try clear hfz17_1
               try clear hfz17_2
               try clear hfz17_3
               try clear hfz17_4
               try clear hfz17_5
               try clear hfz17_6
               try clear hfz17_7
               try clear hfz19_0
               try clear hfz19_1
               try clear hfz19_2
               try clear hfz19_3
               try clear hfz19_4
               try clear hfz19_5
               try clear hfz19_6
               try clear hfz19_7
               try clear hfz20_0
               try clear hfz20_1
               try clear hfz20_2
               try clear hfz20_3
               try clear hfz20_4
               try clear hfz20_5
               try clear hfz20_6
               try clear hfz20_7
               try clear hfz26_0
               try clear hfz26_1
               try clear hfz26_2
               try clear hfz26_3
               try clear hfz26_4
               try clear hfz26_5
               try clear hfz26_6
               try clear hfz26_7
               try clear hfz29_0
               try clear hfz29_1
               try clear hfz29_2
               try clear hfz29_3
               try clear hfz29_4
               try clear hfz37_0
               try clear hfz37_1
               try clear hfz37_2
               try clear hfz37_3
               try clear hfz37_4
               try clear hfz38_0
               try clear hfz38_1
               try clear hfz38_2
               try clear hfz38_3
               try clear hfz38_4
               try clear hfz38_5
               try clear hfz38_6
               try clear hfz38_7
               try clear hfz40_0
               try clear hfz40_1
               try clear hfz40_2
               try clear hfz40_3
               try clear hfz40_4
               try clear hfz41_0
               try clear hfz41_1
               try clear hfz41_2
               try clear hfz41_3
               try clear hfz41_4
               try clear hfz41_5
               try clear hfz41_6
               try clear hfz41_7
               try clear hfz43_0
               try clear hfz43_1
               try clear hfz43_2
               try clear hfz43_3
               try clear hfz43_4
               try clear hfz45_0
               try clear hfz45_1
               try clear hfz45_2
               try clear hfz45_3
               try clear hfz45_4
               try clear hfz52_0
               try clear hfz52_1
               try clear hfz52_2
               try clear hfz52_3
               try clear hfz52_4
               try clear hfz53_0
               try clear hfz53_1
               try clear hfz53_2
               try clear hfz53_3
               try clear hfz53_4
               try clear hfz53_5
               try clear hfz53_6
               try clear hfz53_7
               try clear hfz55_0
               try clear hfz55_1
               try clear hfz55_2
               try clear hfz55_3
               try clear hfz55_4
               try clear hfz56_0
               try clear hfz56_1
               try clear hfz56_2
               try clear hfz56_3
               try clear hfz56_4
               try clear hfz56_5
               try clear hfz56_6
               try clear hfz56_7
               try clear hfz58_0
               try clear hfz58_1
               try clear hfz58_2
               try clear hfz58_3
               try clear hfz58_4
               try clear hfz59_0
               try clear hfz59_1
               try clear hfz59_2
               try clear hfz59_3
               try clear hfz59_4
               try clear hfz59_5
               try clear hfz59_6
               try clear hfz59_7
               try clear hfz62_0
               try clear hfz62_1
               try clear hfz62_2
               try clear hfz62_3
               try clear hfz62_4
               try clear hfz64_0
               try clear hfz64_1
               try clear hfz64_2
               try clear hfz64_3
               try clear hfz64_4
               try clear hx142_0
               try clear hx142_1
               try clear hx142_2
               try clear hx142_3
               try clear hx142_4
               try clear p1
               try clear p14
               try clear p142
               try clear p2
               try clear q1
               try clear q14
               try clear q142
               obtain ⟨x5_5, rfl, HA, HK5, BK137, BK143, HB⟩ := hrel
               cases gk with
               | zero => exact absurd HA.out (by simp [spec_ValidFetch.l1])
               | succ k5 =>
                have H := HA.out
                clear HA
                simp only [spec_ValidFetch.l1] at H
                by_cases c66 : x5_5 < (((rd_T112 l0_7 x3_2).f4).length : Int)
                ·
                 rw [if_pos c66] at H
                 have c66b0 : decide (x5_5 < (((rd_T112 l0_7 x3_2).f4).length : Int)) = true := decide_eq_true c66
                 clear c66
                 by_cases c67 : 0 ≤ x5_5
                 ·
                  rw [if_pos c67] at H
                  have c67b0 : decide (0 ≤ x5_5) = true := decide_eq_true c67
                  clear c67
                  by_cases c68 : ((rdOf ByteArray.empty ((rd_T112 l0_7 x3_2).f4) x5_5).size : Int) = a0_3
                  ·
                   rw [if_pos c68] at H
                   have c68b0 : (((rdOf ByteArray.empty ((rd_T112 l0_7 x3_2).f4) x5_5).size : Int) == a0_3) = true := beq_iff_eq.mpr c68
                   have c68b1 : (((rdOf ByteArray.empty ((rd_T112 l0_7 x3_2).f4) x5_5).size : Int) != a0_3) = false := bne_eq_false_iff_eq.mpr c68
                   clear c68
                   by_cases c69 : x5_5 > 0
                   ·
                    rw [if_pos c69] at H
                    have c69b0 : decide (0 < x5_5) = true := decide_eq_true c69
                    clear c69
                    obtain ⟨ji70, hji70⟩ : ∃ j_ : Int, (wrap64 (x5_5 - 1)) = j_ := ⟨_, rfl⟩
                    replace H : (if 0 ≤ (ji70) then (if (ji70) < (((rd_T112 l0_7 x3_2).f4).length : Int) then (if ((Op.bytesLess ((rdOf ByteArray.empty ((rd_T112 l0_7 x3_2).f4) (ji70)).toList) ((rdOf ByteArray.empty ((rd_T112 l0_7 x3_2).f4) x5_5).toList)) = true) then (spec_ValidFetch.l1 k5 x3_2 (wrap64 (x5_5 + 1)) a0_0 a0_1 a0_2 a0_3 a0_4 l0_5 l0_6 l0_7 ((rd_T112 l0_7 x3_2).f0) ((rd_T112 l0_7 x3_2).f1) ((rd_T112 l0_7 x3_2).f2) ((rd_T112 l0_7 x3_2).f3) ((rd_T112 l0_7 x3_2).f4)) else (some false)) else (none)) else (none)) = some r := by first | (rw [hji70] at H; exact H) | (simp only [hji70] at H ⊢; exact H)
                    (try rw [hji70] at c23b0)
                    (try rw [hji70] at c24b0)
                    (try rw [hji70] at c66b0)
                    (try rw [hji70] at c67b0)
                    (try rw [hji70] at c69b0)
                    have hji70w : (IntKind.i64.wrap (x5_5 - 1)) = ji70 := (i64_w _).trans hji70
                    by_cases c71 : 0 ≤ (ji70)
                    ·
                     rw [if_pos c71] at H
                     have c71b0 : decide (0 ≤ (ji70)) = true := decide_eq_true c71
                     clear c71
                     by_cases c72 : (ji70) < (((rd_T112 l0_7 x3_2).f4).length : Int)
                     ·
                      rw [if_pos c72] at H
                      have c72b0 : decide ((ji70) < (((rd_T112 l0_7 x3_2).f4).length : Int)) = true := decide_eq_true c72
                      clear c72
                      by_cases c73 : ((Op.bytesLess ((rdOf ByteArray.empty ((rd_T112 l0_7 x3_2).f4) (ji70)).toList) ((rdOf ByteArray.empty ((rd_T112 l0_7 x3_2).f4) x5_5).toList)) = true)
                      ·
                       rw [if_pos c73] at H
                       have c73b0 : (Op.bytesLess ((rdOf ByteArray.empty ((rd_T112 l0_7 x3_2).f4) (ji70)).toList) ((rdOf ByteArray.empty ((rd_T112 l0_7 x3_2).f4) x5_5).toList)) = true := c73
                       clear c73
                       have H' := Aside0.mk H
                       clear H
                       have hnb74 := NB143_137.out
                       have hnc74 := NB137_143.out
                       have hcz75_0 : wr.cell? ⟨gb143, 0, none⟩ = some (.int .i64 ((rd_T112 l0_7 x3_2).f0)) := (blk_cell BK143.out 0).trans rfl
                       have hcz75_1 : wr.cell? ⟨gb143, 1, none⟩ = some (.int .i64 ((rd_T112 l0_7 x3_2).f1)) := (blk_cell BK143.out 1).trans rfl
                       have hcz75_2 : wr.cell? ⟨gb143, 2, none⟩ = some (.int .i64 ((rd_T112 l0_7 x3_2).f2)) := (blk_cell BK143.out 2).trans rfl
                       have hcz75_3 : wr.cell? ⟨gb143, 3, none⟩ = some (.string ((rd_T112 l0_7 x3_2).f3)) := (blk_cell BK143.out 3).trans rfl
                       have hcz75_4 : wr.cell? ⟨gb143, 4, none⟩ = some (.slice A142_4 ((rd_T112 l0_7 x3_2).f4).length c142_4) := (blk_cell BK143.out 4).trans rfl
                       have hfz75_0 := blk_frozen BK143.out 0
                       have hfz75_1 := blk_frozen BK143.out 1
                       have hfz75_2 := blk_frozen BK143.out 2
                       have hfz75_3 := blk_frozen BK143.out 3
                       have hfz75_4 := blk_frozen BK143.out 4
                       have p147 : 0 ≤ (x5_5 : Int) := Zz.od_
                       have q147 : x5_5 < (((rd_T112 l0_7 x3_2).f4).length : Int) := Zz.od_
                       obtain ⟨ad147, e147, hx147_0⟩ := Kd.at_string HR142_4.out x5_5 p147 q147
                       cases e147
                       replace hx147_0 := (HB.out.cell (World.block_lt_of_cell? w _ hx147_0)).trans hx147_0
                       replace p147 := eq_true p147
                       replace q147 := eq_true q147
                       have hcz76_0 : wr.cell? ⟨gb137, 0, none⟩ = some (.string a0_0) := (blk_cell BK137.out 0).trans rfl
                       have hcz76_1 : wr.cell? ⟨gb137, 1, none⟩ = some (.int .i64 a0_1) := (blk_cell BK137.out 1).trans rfl
                       have hcz76_2 : wr.cell? ⟨gb137, 2, none⟩ = some (.bool a0_2) := (blk_cell BK137.out 2).trans rfl
                       have hcz76_3 : wr.cell? ⟨gb137, 3, none⟩ = some (.int .i64 a0_3) := (blk_cell BK137.out 3).trans rfl
                       have hcz76_4 : wr.cell? ⟨gb137, 4, none⟩ = some (.int .i64 a0_4) := (blk_cell BK137.out 4).trans rfl
                       have hcz76_5 : wr.cell? ⟨gb137, 5, none⟩ = some (.slice A0_5 l0_5.length c0_5) := (blk_cell BK137.out 5).trans rfl
                       have hcz76_6 : wr.cell? ⟨gb137, 6, none⟩ = some (.slice A0_6 l0_6.length c0_6) := (blk_cell BK137.out 6).trans rfl
                       have hcz76_7 : wr.cell? ⟨gb137, 7, none⟩ = some (.slice (some ad142) l0_7.length c0_7) := (blk_cell BK137.out 7).trans rfl
                       have hfz76_0 := blk_frozen BK137.out 0
                       have hfz76_1 := blk_frozen BK137.out 1
                       have hfz76_2 := blk_frozen BK137.out 2
                       have hfz76_3 := blk_frozen BK137.out 3
                       have hfz76_4 := blk_frozen BK137.out 4
                       have hfz76_5 := blk_frozen BK137.out 5
                       have hfz76_6 := blk_frozen BK137.out 6
                       have hfz76_7 := blk_frozen BK137.out 7
                       have p148 : 0 ≤ ((ji70) : Int) := Zz.od_
                       have q148 : (ji70) < (((rd_T112 l0_7 x3_2).f4).length : Int) := Zz.od_
                       obtain ⟨ad148, e148, hx148_0⟩ := Kd.at_string HR142_4.out (ji70) p148 q148
                       obtain rfl : ad147 = ad148 := (by injection e148)
                       replace hx148_0 := (HB.out.cell (World.block_lt_of_cell? w _ hx148_0)).trans hx148_0
                       replace p148 := eq_true p148
                       replace q148 := eq_true q148
                       have p149 : 0 ≤ (x5_5 : Int) := Zz.od_
                       have q149 : x5_5 < (((rd_T112 l0_7 x3_2).f4).length : Int) := Zz.od_
                       obtain ⟨ad149, e149, hx149_0⟩ := Kd.at_string HR142_4.out x5_5 p149 q149
                       obtain rfl : ad147 = ad149 := (by injection e149)
                       replace hx149_0 := (HB.out.cell (World.block_lt_of_cell? w _ hx149_0)).trans hx149_0
                       replace p149 := eq_true p149
                       replace q149 := eq_true q149
                       go_wp2
                       repeat (go_quiet (fail); try go_wp2)
                       go_roundg k5
                       case measure => have := HJ1.out; have := HK2.out; have := HJ24.out; have := HJ46.out; have := HK5.out; omega
                       case rel => exact ⟨(wrap64 (x5_5 + 1)), (by first | rfl | (simp; done) | (simp [*]; done)), H', ⟨by have := HJ1.out; have := HK2.out; have := HJ24.out; have := HJ46.out; have := HK5.out; omega⟩, ⟨Zz.rb_ BK137.out⟩, ⟨Zz.rb_ BK143.out⟩, ⟨Zz.rB_ HB.out⟩⟩
                      ·
                       rw [if_neg c73] at H
                       have c73b0 : (Op.bytesLess ((rdOf ByteArray.empty ((rd_T112 l0_7 x3_2).f4) (ji70)).toList) ((rdOf ByteArray.empty ((rd_T112 l0_7 x3_2).f4) x5_5).toList)) = false := by simpa using c73
                       clear c73
                       obtain rfl := Option.some.inj H
                       have hnb77 := NB143_137.out
                       have hnc77 := NB137_143.out
                       have hcz78_0 : wr.cell? ⟨gb143, 0, none⟩ = some (.int .i64 ((rd_T112 l0_7 x3_2).f0)) := (blk_cell BK143.out 0).trans rfl
                       have hcz78_1 : wr.cell? ⟨gb143, 1, none⟩ = some (.int .i64 ((rd_T112 l0_7 x3_2).f1)) := (blk_cell BK143.out 1).trans rfl
                       have hcz78_2 : wr.cell? ⟨gb143, 2, none⟩ = some (.int .i64 ((rd_T112 l0_7 x3_2).f2)) := (blk_cell BK143.out 2).trans rfl
                       have hcz78_3 : wr.cell? ⟨gb143, 3, none⟩ = some (.string ((rd_T112 l0_7 x3_2).f3)) := (blk_cell BK143.out 3).trans rfl
                       have hcz78_4 : wr.cell? ⟨gb143, 4, none⟩ = some (.slice A142_4 ((rd_T112 l0_7 x3_2).f4).length c142_4) := (blk_cell BK143.out 4).trans rfl
                       have hfz78_0 := blk_frozen BK143.out 0
                       have hfz78_1 := blk_frozen BK143.out 1
                       have hfz78_2 := blk_frozen BK143.out 2
                       have hfz78_3 := blk_frozen BK143.out 3
                       have hfz78_4 := blk_frozen BK143.out 4
                       have p147 : 0 ≤ (x5_5 : Int) := Zz.od_
                       have q147 : x5_5 < (((rd_T112 l0_7 x3_2).f4).length : Int) := Zz.od_
                       obtain ⟨ad147, e147, hx147_0⟩ := Kd.at_string HR142_4.out x5_5 p147 q147
                       cases e147
                       replace hx147_0 := (HB.out.cell (World.block_lt_of_cell? w _ hx147_0)).trans hx147_0
                       replace p147 := eq_true p147
                       replace q147 := eq_true q147
                       have hcz79_0 : wr.cell? ⟨gb137, 0, none⟩ = some (.string a0_0) := (blk_cell BK137.out 0).trans rfl
                       have hcz79_1 : wr.cell? ⟨gb137, 1, none⟩ = some (.int .i64 a0_1) := (blk_cell BK137.out 1).trans rfl
                       have hcz79_2 : wr.cell? ⟨gb137, 2, none⟩ = some (.bool a0_2) := (blk_cell BK137.out 2).trans rfl
                       have hcz79_3 : wr.cell? ⟨gb137, 3, none⟩ = some (.int .i64 a0_3) := (blk_cell BK137.out 3).trans rfl
                       have hcz79_4 : wr.cell? ⟨gb137, 4, none⟩ = some (.int .i64 a0_4) := (blk_cell BK137.out 4).trans rfl
                       have hcz79_5 : wr.cell? ⟨gb137, 5, none⟩ = some (.slice A0_5 l0_5.length c0_5) := (blk_cell BK137.out 5).trans rfl
                       have hcz79_6 : wr.cell? ⟨gb137, 6, none⟩ = some (.slice A0_6 l0_6.length c0_6) := (blk_cell BK137.out 6).trans rfl
                       have hcz79_7 : wr.cell? ⟨gb137, 7, none⟩ = some (.slice (some ad142) l0_7.length c0_7) := (blk_cell BK137.out 7).trans rfl
                       have hfz79_0 := blk_frozen BK137.out 0
                       have hfz79_1 := blk_frozen BK137.out 1
                       have hfz79_2 := blk_frozen BK137.out 2
                       have hfz79_3 := blk_frozen BK137.out 3
                       have hfz79_4 := blk_frozen BK137.out 4
                       have hfz79_5 := blk_frozen BK137.out 5
                       have hfz79_6 := blk_frozen BK137.out 6
                       have hfz79_7 := blk_frozen BK137.out 7
                       have p148 : 0 ≤ ((ji70) : Int) := Zz.od_
                       have q148 : (ji70) < (((rd_T112 l0_7 x3_2).f4).length : Int) := Zz.od_
                       obtain ⟨ad148, e148, hx148_0⟩ := Kd.at_string HR142_4.out (ji70) p148 q148
                       obtain rfl : ad147 = ad148 := (by injection e148)
                       replace hx148_0 := (HB.out.cell (World.block_lt_of_cell? w _ hx148_0)).trans hx148_0
                       replace p148 := eq_true p148
                       replace q148 := eq_true q148
                       have p149 : 0 ≤ (x5_5 : Int) := Zz.od_
                       have q149 : x5_5 < (((rd_T112 l0_7 x3_2).f4).length : Int) := Zz.od_
                       obtain ⟨ad149, e149, hx149_0⟩ := Kd.at_string HR142_4.out x5_5 p149 q149
                       obtain rfl : ad147 = ad149 := (by injection e149)
                       replace hx149_0 := (HB.out.cell (World.block_lt_of_cell? w _ hx149_0)).trans hx149_0
                       replace p149 := eq_true p149
                       replace q149 := eq_true q149
                       go_wp2
                       repeat (go_quiet (fail); try go_wp2)
                       go_ret
                       exact ⟨by first | rfl | (simp [errW_none, errW_some] <;> rfl) | (simp only [← hji70]; first | rfl | (simp [errW_none, errW_some] <;> rfl)) | (simp [*, errW_none, errW_some] <;> rfl), by repeat (first | (with_reducible first | exact HB.out | apply below_alloc | apply pw_below_drewN | apply below_drew1 | refine below_set ?_ GE137.out | refine below_set ?_ GE143.out) | exact HB.out)⟩
                     ·
                      rw [if_neg c72] at H
                      exact absurd H (by simp)
                    ·
                     rw [if_neg c71] at H
                     exact absurd H (by simp)
                   ·
                    rw [if_neg c69] at H
                    have c69b0 : decide (0 < x5_5) = false := decide_eq_false c69
                    clear c69
                    have H' := Aside0.mk H
                    clear H
                    have hnb80 := NB143_137.out
                    have hnc80 := NB137_143.out
                    have hcz81_0 : wr.cell? ⟨gb143, 0, none⟩ = some (.int .i64 ((rd_T112 l0_7 x3_2).f0)) := (blk_cell BK143.out 0).trans rfl
                    have hcz81_1 : wr.cell? ⟨gb143, 1, none⟩ = some (.int .i64 ((rd_T112 l0_7 x3_2).f1)) := (blk_cell BK143.out 1).trans rfl
                    have hcz81_2 : wr.cell? ⟨gb143, 2, none⟩ = some (.int .i64 ((rd_T112 l0_7 x3_2).f2)) := (blk_cell BK143.out 2).trans rfl
                    have hcz81_3 : wr.cell? ⟨gb143, 3, none⟩ = some (.string ((rd_T112 l0_7 x3_2).f3)) := (blk_cell BK143.out 3).trans rfl
                    have hcz81_4 : wr.cell? ⟨gb143, 4, none⟩ = some (.slice A142_4 ((rd_T112 l0_7 x3_2).f4).length c142_4) := (blk_cell BK143.out 4).trans rfl
                    have hfz81_0 := blk_frozen BK143.out 0
                    have hfz81_1 := blk_frozen BK143.out 1
                    have hfz81_2 := blk_frozen BK143.out 2
                    have hfz81_3 := blk_frozen BK143.out 3
                    have hfz81_4 := blk_frozen BK143.out 4
                    have p147 : 0 ≤ (x5_5 : Int) := Zz.od_
                    have q147 : x5_5 < (((rd_T112 l0_7 x3_2).f4).length : Int) := Zz.od_
                    obtain ⟨ad147, e147, hx147_0⟩ := Kd.at_string HR142_4.out x5_5 p147 q147
                    cases e147
                    replace hx147_0 := (HB.out.cell (World.block_lt_of_cell? w _ hx147_0)).trans hx147_0
                    replace p147 := eq_true p147
                    replace q147 := eq_true q147
                    have hcz82_0 : wr.cell? ⟨gb137, 0, none⟩ = some (.string a0_0) := (blk_cell BK137.out 0).trans rfl
                    have hcz82_1 : wr.cell? ⟨gb137, 1, none⟩ = some (.int .i64 a0_1) := (blk_cell BK137.out 1).trans rfl
                    have hcz82_2 : wr.cell? ⟨gb137, 2, none⟩ = some (.bool a0_2) := (blk_cell BK137.out 2).trans rfl
                    have hcz82_3 : wr.cell? ⟨gb137, 3, none⟩ = some (.int .i64 a0_3) := (blk_cell BK137.out 3).trans rfl
                    have hcz82_4 : wr.cell? ⟨gb137, 4, none⟩ = some (.int .i64 a0_4) := (blk_cell BK137.out 4).trans rfl
                    have hcz82_5 : wr.cell? ⟨gb137, 5, none⟩ = some (.slice A0_5 l0_5.length c0_5) := (blk_cell BK137.out 5).trans rfl
                    have hcz82_6 : wr.cell? ⟨gb137, 6, none⟩ = some (.slice A0_6 l0_6.length c0_6) := (blk_cell BK137.out 6).trans rfl
                    have hcz82_7 : wr.cell? ⟨gb137, 7, none⟩ = some (.slice (some ad142) l0_7.length c0_7) := (blk_cell BK137.out 7).trans rfl
                    have hfz82_0 := blk_frozen BK137.out 0
                    have hfz82_1 := blk_frozen BK137.out 1
                    have hfz82_2 := blk_frozen BK137.out 2
                    have hfz82_3 := blk_frozen BK137.out 3
                    have hfz82_4 := blk_frozen BK137.out 4
                    have hfz82_5 := blk_frozen BK137.out 5
                    have hfz82_6 := blk_frozen BK137.out 6
                    have hfz82_7 := blk_frozen BK137.out 7
                    go_wp2
                    repeat (go_quiet (fail); try go_wp2)
                    go_roundg k5
                    case measure => have := HJ1.out; have := HK2.out; have := HJ24.out; have := HJ46.out; have := HK5.out; omega
                    case rel => exact ⟨(wrap64 (x5_5 + 1)), (by first | rfl | (simp; done) | (simp [*]; done)), H', ⟨by have := HJ1.out; have := HK2.out; have := HJ24.out; have := HJ46.out; have := HK5.out; omega⟩, ⟨Zz.rb_ BK137.out⟩, ⟨Zz.rb_ BK143.out⟩, ⟨Zz.rB_ HB.out⟩⟩
                  ·
                   rw [if_neg c68] at H
                   have c68b0 : (((rdOf ByteArray.empty ((rd_T112 l0_7 x3_2).f4) x5_5).size : Int) == a0_3) = false := beq_eq_false_iff_ne.mpr c68
                   have c68b1 : (((rdOf ByteArray.empty ((rd_T112 l0_7 x3_2).f4) x5_5).size : Int) != a0_3) = true := bne_iff_ne.mpr c68
                   obtain rfl := Option.some.inj H
                   have hnb83 := NB143_137.out
                   have hnc83 := NB137_143.out
                   have hcz84_0 : wr.cell? ⟨gb143, 0, none⟩ = some (.int .i64 ((rd_T112 l0_7 x3_2).f0)) := (blk_cell BK143.out 0).trans rfl
                   have hcz84_1 : wr.cell? ⟨gb143, 1, none⟩ = some (.int .i64 ((rd_T112 l0_7 x3_2).f1)) := (blk_cell BK143.out 1).trans rfl
                   have hcz84_2 : wr.cell? ⟨gb143, 2, none⟩ = some (.int .i64 ((rd_T112 l0_7 x3_2).f2)) := (blk_cell BK143.out 2).trans rfl
                   have hcz84_3 : wr.cell? ⟨gb143, 3, none⟩ = some (.string ((rd_T112 l0_7 x3_2).f3)) := (blk_cell BK143.out 3).trans rfl
                   have hcz84_4 : wr.cell? ⟨gb143, 4, none⟩ = some (.slice A142_4 ((rd_T112 l0_7 x3_2).f4).length c142_4) := (blk_cell BK143.out 4).trans rfl
                   have hfz84_0 := blk_frozen BK143.out 0
                   have hfz84_1 := blk_frozen BK143.out 1
                   have hfz84_2 := blk_frozen BK143.out 2
                   have hfz84_3 := blk_frozen BK143.out 3
                   have hfz84_4 := blk_frozen BK143.out 4
                   have p147 : 0 ≤ (x5_5 : Int) := Zz.od_
                   have q147 : x5_5 < (((rd_T112 l0_7 x3_2).f4).length : Int) := Zz.od_
                   obtain ⟨ad147, e147, hx147_0⟩ := Kd.at_string HR142_4.out x5_5 p147 q147
                   cases e147
                   replace hx147_0 := (HB.out.cell (World.block_lt_of_cell? w _ hx147_0)).trans hx147_0
                   replace p147 := eq_true p147
                   replace q147 := eq_true q147
                   have hcz85_0 : wr.cell? ⟨gb137, 0, none⟩ = some (.string a0_0) := (blk_cell BK137.out 0).trans rfl
                   have hcz85_1 : wr.cell? ⟨gb137, 1, none⟩ = some (.int .i64 a0_1) := (blk_cell BK137.out 1).trans rfl
                   have hcz85_2 : wr.cell? ⟨gb137, 2, none⟩ = some (.bool a0_2) := (blk_cell BK137.out 2).trans rfl
                   have hcz85_3 : wr.cell? ⟨gb137, 3, none⟩ = some (.int .i64 a0_3) := (blk_cell BK137.out 3).trans rfl
                   have hcz85_4 : wr.cell? ⟨gb137, 4, none⟩ = some (.int .i64 a0_4) := (blk_cell BK137.out 4).trans rfl
                   have hcz85_5 : wr.cell? ⟨gb137, 5, none⟩ = some (.slice A0_5 l0_5.length c0_5) := (blk_cell BK137.out 5).trans rfl
                   have hcz85_6 : wr.cell? ⟨gb137, 6, none⟩ = some (.slice A0_6 l0_6.length c0_6) := (blk_cell BK137.out 6).trans rfl
                   have hcz85_7 : wr.cell? ⟨gb137, 7, none⟩ = some (.slice (some ad142) l0_7.length c0_7) := (blk_cell BK137.out 7).trans rfl
                   have hfz85_0 := blk_frozen BK137.out 0
                   have hfz85_1 := blk_frozen BK137.out 1
                   have hfz85_2 := blk_frozen BK137.out 2
                   have hfz85_3 := blk_frozen BK137.out 3
                   have hfz85_4 := blk_frozen BK137.out 4
                   have hfz85_5 := blk_frozen BK137.out 5
                   have hfz85_6 := blk_frozen BK137.out 6
                   have hfz85_7 := blk_frozen BK137.out 7
                   go_wp2
                   repeat (go_quiet (fail); try go_wp2)
                   go_ret
                   exact ⟨by first | rfl | (simp [errW_none, errW_some] <;> rfl) | (simp [*, errW_none, errW_some] <;> rfl), by repeat (first | (with_reducible first | exact HB.out | apply below_alloc | apply pw_below_drewN | apply below_drew1 | refine below_set ?_ GE137.out | refine below_set ?_ GE143.out) | exact HB.out)⟩
                 ·
                  rw [if_neg c67] at H
                  exact absurd H (by simp)
                ·
                 rw [if_neg c66] at H
                 have c66b0 : decide (x5_5 < (((rd_T112 l0_7 x3_2).f4).length : Int)) = false := decide_eq_false c66
                 clear c66
                 have H' := Aside0.mk H
                 clear H
                 have hnb86 := NB143_137.out
                 have hnc86 := NB137_143.out
                 have hcz87_0 : wr.cell? ⟨gb143, 0, none⟩ = some (.int .i64 ((rd_T112 l0_7 x3_2).f0)) := (blk_cell BK143.out 0).trans rfl
                 have hcz87_1 : wr.cell? ⟨gb143, 1, none⟩ = some (.int .i64 ((rd_T112 l0_7 x3_2).f1)) := (blk_cell BK143.out 1).trans rfl
                 have hcz87_2 : wr.cell? ⟨gb143, 2, none⟩ = some (.int .i64 ((rd_T112 l0_7 x3_2).f2)) := (blk_cell BK143.out 2).trans rfl
                 have hcz87_3 : wr.cell? ⟨gb143, 3, none⟩ = some (.string ((rd_T112 l0_7 x3_2).f3)) := (blk_cell BK143.out 3).trans rfl
                 have hcz87_4 : wr.cell? ⟨gb143, 4, none⟩ = some (.slice A142_4 ((rd_T112 l0_7 x3_2).f4).length c142_4) := (blk_cell BK143.out 4).trans rfl
                 have hfz87_0 := blk_frozen BK143.out 0
                 have hfz87_1 := blk_frozen BK143.out 1
                 have hfz87_2 := blk_frozen BK143.out 2
                 have hfz87_3 := blk_frozen BK143.out 3
                 have hfz87_4 := blk_frozen BK143.out 4
                 go_wp2
                 repeat (go_quiet (fail); try go_wp2)
                 go_roundg k5
                 case measure => have := HJ1.out; have := HK2.out; have := HJ24.out; have := HJ46.out; have := HK5.out; omega
                 case rel => exact ⟨(wrap64 (x3_2 + 1)), (by first | rfl | (simp; done) | (simp [*]; done)), H', ⟨by have := HJ1.out; have := HK2.out; have := HJ24.out; have := HJ46.out; have := HK5.out; omega⟩, ⟨Zz.rb_ BK137.out⟩, ⟨Zz.rB_ HB.out⟩⟩
       ·
        rw [if_neg c24] at H
        exact absurd H (by simp)
      ·
       rw [if_neg c23] at H
       have c23b0 : decide (x3_2 < (l0_7.length : Int)) = false := decide_eq_false c23
       clear c23
       obtain rfl := Option.some.inj H
       have hcz88_0 : wr.cell? ⟨gb137, 0, none⟩ = some (.string a0_0) := (blk_cell BK137.out 0).trans rfl
       have hcz88_1 : wr.cell? ⟨gb137, 1, none⟩ = some (.int .i64 a0_1) := (blk_cell BK137.out 1).trans rfl
       have hcz88_2 : wr.cell? ⟨gb137, 2, none⟩ = some (.bool a0_2) := (blk_cell BK137.out 2).trans rfl
       have hcz88_3 : wr.cell? ⟨gb137, 3, none⟩ = some (.int .i64 a0_3) := (blk_cell BK137.out 3).trans rfl
       have hcz88_4 : wr.cell? ⟨gb137, 4, none⟩ = some (.int .i64 a0_4) := (blk_cell BK137.out 4).trans rfl
       have hcz88_5 : wr.cell? ⟨gb137, 5, none⟩ = some (.slice A0_5 l0_5.length c0_5) := (blk_cell BK137.out 5).trans rfl
       have hcz88_6 : wr.cell? ⟨gb137, 6, none⟩ = some (.slice A0_6 l0_6.length c0_6) := (blk_cell BK137.out 6).trans rfl
       have hcz88_7 : wr.cell? ⟨gb137, 7, none⟩ = some (.slice A0_7 l0_7.length c0_7) := (blk_cell BK137.out 7).trans rfl
       have hfz88_0 := blk_frozen BK137.out 0
       have hfz88_1 := blk_frozen BK137.out 1
       have hfz88_2 := blk_frozen BK137.out 2
       have hfz88_3 := blk_frozen BK137.out 3
       have hfz88_4 := blk_frozen BK137.out 4
       have hfz88_5 := blk_frozen BK137.out 5
       have hfz88_6 := blk_frozen BK137.out 6
       have hfz88_7 := blk_frozen BK137.out 7
       go_wp2
       repeat (go_quiet (fail); try go_wp2)
       go_ret
       exact ⟨by first | rfl | (simp [errW_none, errW_some] <;> rfl) | (simp [*, errW_none, errW_some] <;> rfl), by repeat (first | (with_reducible first | exact HB.out | apply below_alloc | apply pw_below_drewN | apply below_drew1 | refine below_set ?_ GE137.out) | exact HB.out)⟩

end Go.Proofs.Ytbhkinfdilngiaa.PFnExactValidFetch

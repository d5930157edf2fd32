-- Walks of printed functions (by wip/gen.py of this session, with the kit's program).
import Derived.Test.YtbhkinfdilngiaaGFnExactValidFetchx0
import Derived.Test.YtbhkinfdilngiaaGFnExactValidFetchx6
import Derived.Test.YtbhkinfdilngiaaGFnExactValidFetchx7
import Derived.Test.YtbhkinfdilngiaaGFnExactValidFetchx8
namespace Go.Proofs.Ytbhkinfdilngiaa.PFnExactValidFetch
open Go.RowKit Go.Proofs.YtbhkinfdilngiaaW.PrintWords Go.Proofs.YtbhkinfdilngiaaW.PrintLast Go.Proofs.YtbhkinfdilngiaaW.PrintMore
attribute [local go_sem] max2_int min2_int max_two min_two max_three min_three max_four min_four   -- for this text's walks alone
attribute [local go_sem] Go.Proofs.Ytbhkinfdilngiaa.L.str_geq
set_option linter.unusedVariables false
set_option linter.unusedSimpArgs false

/-! ### impl_ValidFetch: function 47 -/
mutual
def impl_ValidFetch.j0 : Nat → Bool → ByteArray → Int → Bool → Int → Int → List (S92) → List ByteArray → List (S112) → Option (Bool)
 | 0, _, _, _, _, _, _, _, _, _ => none
 | k + 1, x29, x224000, x224001, x224002, x224003, x224004, x224005, x224006, x224007 => if x29 = true then (some false) else ((impl_pinned.f x224003 x224004 x224005 x224006 x224000).bind fun bt226 => (if bt226.2 = true then (impl_ValidFetch.l0 k x224003 x224007 (x224007.length : Int) 0 x224000 x224001 x224002 x224003 x224004 x224005 x224006 x224007) else (some false)))
def impl_ValidFetch.l0 : Nat → Int → List (S112) → Int → Int → ByteArray → Int → Bool → Int → Int → List (S92) → List ByteArray → List (S112) → Option (Bool)
 | 0, _, _, _, _, _, _, _, _, _, _, _, _ => none
 | k + 1, x5, x44, x45, x46, x224000, x224001, x224002, x224003, x224004, x224005, x224006, x224007 => if x46 < x45 then (if 0 ≤ x46 then (if x46 < (x44.length : Int) then (if ((rd_T112 x44 x46).f0) < 0 then (impl_ValidFetch.j2 k x5 x44 x45 x46 true x224000 x224001 x224002 x224003 x224004 x224005 x224006 x224007 ((rd_T112 x44 x46).f0) ((rd_T112 x44 x46).f1) ((rd_T112 x44 x46).f2) ((rd_T112 x44 x46).f3) ((rd_T112 x44 x46).f4)) else (if ((rd_T112 x44 x46).f0) > 3 then (impl_ValidFetch.j2 k x5 x44 x45 x46 true x224000 x224001 x224002 x224003 x224004 x224005 x224006 x224007 ((rd_T112 x44 x46).f0) ((rd_T112 x44 x46).f1) ((rd_T112 x44 x46).f2) ((rd_T112 x44 x46).f3) ((rd_T112 x44 x46).f4)) else (if ((rd_T112 x44 x46).f1) < 0 then (impl_ValidFetch.j2 k x5 x44 x45 x46 true x224000 x224001 x224002 x224003 x224004 x224005 x224006 x224007 ((rd_T112 x44 x46).f0) ((rd_T112 x44 x46).f1) ((rd_T112 x44 x46).f2) ((rd_T112 x44 x46).f3) ((rd_T112 x44 x46).f4)) else (if ((rd_T112 x44 x46).f1) > 5 then (impl_ValidFetch.j2 k x5 x44 x45 x46 true x224000 x224001 x224002 x224003 x224004 x224005 x224006 x224007 ((rd_T112 x44 x46).f0) ((rd_T112 x44 x46).f1) ((rd_T112 x44 x46).f2) ((rd_T112 x44 x46).f3) ((rd_T112 x44 x46).f4)) else (if ((rd_T112 x44 x46).f2) < (-1) then (impl_ValidFetch.j2 k x5 x44 x45 x46 true x224000 x224001 x224002 x224003 x224004 x224005 x224006 x224007 ((rd_T112 x44 x46).f0) ((rd_T112 x44 x46).f1) ((rd_T112 x44 x46).f2) ((rd_T112 x44 x46).f3) ((rd_T112 x44 x46).f4)) else (if ((rd_T112 x44 x46).f2) > x224001 then (impl_ValidFetch.j2 k x5 x44 x45 x46 true x224000 x224001 x224002 x224003 x224004 x224005 x224006 x224007 ((rd_T112 x44 x46).f0) ((rd_T112 x44 x46).f1) ((rd_T112 x44 x46).f2) ((rd_T112 x44 x46).f3) ((rd_T112 x44 x46).f4)) else (if (((rd_T112 x44 x46).f4).length : Int) > 376 then (impl_ValidFetch.j2 k x5 x44 x45 x46 true x224000 x224001 x224002 x224003 x224004 x224005 x224006 x224007 ((rd_T112 x44 x46).f0) ((rd_T112 x44 x46).f1) ((rd_T112 x44 x46).f2) ((rd_T112 x44 x46).f3) ((rd_T112 x44 x46).f4)) else ((impl_ascending.f k ((rd_T112 x44 x46).f4) x5).bind fun t230 => (impl_ValidFetch.j2 k x5 x44 x45 x46 (!t230) x224000 x224001 x224002 x224003 x224004 x224005 x224006 x224007 ((rd_T112 x44 x46).f0) ((rd_T112 x44 x46).f1) ((rd_T112 x44 x46).f2) ((rd_T112 x44 x46).f3) ((rd_T112 x44 x46).f4)))))))))) else (none)) else (none)) else (some true)
def impl_ValidFetch.j2 : Nat → Int → List (S112) → Int → Int → Bool → ByteArray → Int → Bool → Int → Int → List (S92) → List ByteArray → List (S112) → Int → Int → Int → ByteArray → List ByteArray → Option (Bool)
 | 0, _, _, _, _, _, _, _, _, _, _, _, _, _, _, _, _, _, _ => none
 | k + 1, x5, x44, x45, x46, x92, x224000, x224001, x224002, x224003, x224004, x224005, x224006, x224007, x230000, x230001, x230002, x230003, x230004 => if x92 = true then (some false) else (if x230001 = 0 then (if x230003.toList = ([] : List UInt8) then (impl_ValidFetch.l0 k x5 x44 x45 (wrap64 (x46 + 1)) x224000 x224001 x224002 x224003 x224004 x224005 x224006 x224007) else (some false)) else (if (x230003.size : Int) = x5 then (impl_ValidFetch.l0 k x5 x44 x45 (wrap64 (x46 + 1)) x224000 x224001 x224002 x224003 x224004 x224005 x224006 x224007) else (some false)))
end
def impl_ValidFetch.f (k : Nat) (a0_0 : ByteArray) (a0_1 : Int) (a0_2 : Bool) (a0_3 : Int) (a0_4 : Int) (l0_5 : List (S92)) (l0_6 : List ByteArray) (l0_7 : List (S112)) : Option (Bool) := (impl_ValidStore.f k a0_3 a0_4 l0_5 l0_6).bind fun t224 => (if t224 = true then ((impl_timeOk.f a0_1).bind fun t225 => (if t225 = true then (if (l0_7.length : Int) < 1 then (impl_ValidFetch.j0 k true a0_0 a0_1 a0_2 a0_3 a0_4 l0_5 l0_6 l0_7) else (impl_ValidFetch.j0 k (decide ((l0_7.length : Int) > 5)) a0_0 a0_1 a0_2 a0_3 a0_4 l0_5 l0_6 l0_7)) else (impl_ValidFetch.j0 k true a0_0 a0_1 a0_2 a0_3 a0_4 l0_5 l0_6 l0_7))) else (impl_ValidFetch.j0 k true a0_0 a0_1 a0_2 a0_3 a0_4 l0_5 l0_6 l0_7))
theorem impl_ValidFetch.mono_l : ∀ k, (∀ y0 y1 y2 y3 y4 y5 y6 y7 y8, LeO (impl_ValidFetch.j0 k y0 y1 y2 y3 y4 y5 y6 y7 y8) (impl_ValidFetch.j0 (k + 1) y0 y1 y2 y3 y4 y5 y6 y7 y8)) ∧ (∀ y0 y1 y2 y3 y4 y5 y6 y7 y8 y9 y10 y11, LeO (impl_ValidFetch.l0 k y0 y1 y2 y3 y4 y5 y6 y7 y8 y9 y10 y11) (impl_ValidFetch.l0 (k + 1) y0 y1 y2 y3 y4 y5 y6 y7 y8 y9 y10 y11)) ∧ (∀ y0 y1 y2 y3 y4 y5 y6 y7 y8 y9 y10 y11 y12 y13 y14 y15 y16 y17, LeO (impl_ValidFetch.j2 k y0 y1 y2 y3 y4 y5 y6 y7 y8 y9 y10 y11 y12 y13 y14 y15 y16 y17) (impl_ValidFetch.j2 (k + 1) y0 y1 y2 y3 y4 y5 y6 y7 y8 y9 y10 y11 y12 y13 y14 y15 y16 y17))
 | 0 => ⟨fun _ _ _ _ _ _ _ _ _ r h => by simp [impl_ValidFetch.j0] at h, fun _ _ _ _ _ _ _ _ _ _ _ _ r h => by simp [impl_ValidFetch.l0] at h, fun _ _ _ _ _ _ _ _ _ _ _ _ _ _ _ _ _ _ r h => by simp [impl_ValidFetch.j2] at h⟩
 | k + 1 => by
  obtain ⟨ih0, ih1, ih2⟩ := impl_ValidFetch.mono_l k
  refine ⟨?_, ?_, ?_⟩
  ·
   intro y0 y1 y2 y3 y4 y5 y6 y7 y8
   unfold impl_ValidFetch.j0
   repeat' first
   | (with_reducible exact ih0 _ _ _ _ _ _ _ _ _)
   | (with_reducible exact ih1 _ _ _ _ _ _ _ _ _ _ _ _)
   | (with_reducible exact ih2 _ _ _ _ _ _ _ _ _ _ _ _ _ _ _ _ _ _)
   | (with_reducible exact impl_ValidStore.mono _ _ _ _ _)
   | (with_reducible exact impl_ascending.mono _ _ _)
   | (with_reducible exact LeO.refl _)
   | (with_reducible exact LeO.none _)
   | (with_reducible refine LeO.ite ?_ ?_)
   | (with_reducible refine LeO.bind ?_ (fun _ => ?_))
   | exact ih0 _ _ _ _ _ _ _ _ _
   | exact ih1 _ _ _ _ _ _ _ _ _ _ _ _
   | exact ih2 _ _ _ _ _ _ _ _ _ _ _ _ _ _ _ _ _ _
   | exact impl_ValidStore.mono _ _ _ _ _
   | exact impl_ascending.mono _ _ _
   | exact LeO.none _
   | refine LeO.ite ?_ ?_
   | refine LeO.bind ?_ (fun _ => ?_)
  ·
   intro y0 y1 y2 y3 y4 y5 y6 y7 y8 y9 y10 y11
   unfold impl_ValidFetch.l0
   repeat' first
   | (with_reducible exact ih0 _ _ _ _ _ _ _ _ _)
   | (with_reducible exact ih1 _ _ _ _ _ _ _ _ _ _ _ _)
   | (with_reducible exact ih2 _ _ _ _ _ _ _ _ _ _ _ _ _ _ _ _ _ _)
   | (with_reducible exact impl_ValidStore.mono _ _ _ _ _)
   | (with_reducible exact impl_ascending.mono _ _ _)
   | (with_reducible exact LeO.refl _)
   | (with_reducible exact LeO.none _)
   | (with_reducible refine LeO.ite ?_ ?_)
   | (with_reducible refine LeO.bind ?_ (fun _ => ?_))
   | exact ih0 _ _ _ _ _ _ _ _ _
   | exact ih1 _ _ _ _ _ _ _ _ _ _ _ _
   | exact ih2 _ _ _ _ _ _ _ _ _ _ _ _ _ _ _ _ _ _
   | exact impl_ValidStore.mono _ _ _ _ _
   | exact impl_ascending.mono _ _ _
   | exact LeO.none _
   | refine LeO.ite ?_ ?_
   | refine LeO.bind ?_ (fun _ => ?_)
  ·
   intro y0 y1 y2 y3 y4 y5 y6 y7 y8 y9 y10 y11 y12 y13 y14 y15 y16 y17
   unfold impl_ValidFetch.j2
   repeat' first
   | (with_reducible exact ih0 _ _ _ _ _ _ _ _ _)
   | (with_reducible exact ih1 _ _ _ _ _ _ _ _ _ _ _ _)
   | (with_reducible exact ih2 _ _ _ _ _ _ _ _ _ _ _ _ _ _ _ _ _ _)
   | (with_reducible exact impl_ValidStore.mono _ _ _ _ _)
   | (with_reducible exact impl_ascending.mono _ _ _)
   | (with_reducible exact LeO.refl _)
   | (with_reducible exact LeO.none _)
   | (with_reducible refine LeO.ite ?_ ?_)
   | (with_reducible refine LeO.bind ?_ (fun _ => ?_))
   | exact ih0 _ _ _ _ _ _ _ _ _
   | exact ih1 _ _ _ _ _ _ _ _ _ _ _ _
   | exact ih2 _ _ _ _ _ _ _ _ _ _ _ _ _ _ _ _ _ _
   | exact impl_ValidStore.mono _ _ _ _ _
   | exact impl_ascending.mono _ _ _
   | exact LeO.none _
   | refine LeO.ite ?_ ?_
   | refine LeO.bind ?_ (fun _ => ?_)
theorem impl_ValidFetch.mono : ∀ a0 a1 a2 a3 a4 a5 a6 a7 k, LeO (impl_ValidFetch.f k a0 a1 a2 a3 a4 a5 a6 a7) (impl_ValidFetch.f (k + 1) a0 a1 a2 a3 a4 a5 a6 a7) := by
 intro a0 a1 a2 a3 a4 a5 a6 a7 k
 obtain ⟨ih0, ih1, ih2⟩ := impl_ValidFetch.mono_l k
 unfold impl_ValidFetch.f
 repeat' first
   | (with_reducible exact ih0 _ _ _ _ _ _ _ _ _)
   | (with_reducible exact ih1 _ _ _ _ _ _ _ _ _ _ _ _)
   | (with_reducible exact ih2 _ _ _ _ _ _ _ _ _ _ _ _ _ _ _ _ _ _)
   | (with_reducible exact impl_ValidStore.mono _ _ _ _ _)
   | (with_reducible exact impl_ascending.mono _ _ _)
   | (with_reducible exact LeO.refl _)
   | (with_reducible exact LeO.none _)
   | (with_reducible refine LeO.ite ?_ ?_)
   | (with_reducible refine LeO.bind ?_ (fun _ => ?_))
   | exact ih0 _ _ _ _ _ _ _ _ _
   | exact ih1 _ _ _ _ _ _ _ _ _ _ _ _
   | exact ih2 _ _ _ _ _ _ _ _ _ _ _ _ _ _ _ _ _ _
   | exact impl_ValidStore.mono _ _ _ _ _
   | exact impl_ascending.mono _ _ _
   | exact LeO.none _
   | refine LeO.ite ?_ ?_
   | refine LeO.bind ?_ (fun _ => ?_)
set_option maxHeartbeats 8000000 in
set_option maxRecDepth 100000 in
theorem impl_ValidFetch.calls (k : Nat) (a0_0 : ByteArray) (a0_1 : Int) (a0_2 : Bool) (a0_3 : Int) (a0_4 : Int) (A0_5 : Option Addr) (c0_5 : Nat) (l0_5 : List (S92)) (A0_6 : Option Addr) (c0_6 : Nat) (l0_6 : List ByteArray) (A0_7 : Option Addr) (c0_7 : Nat) (l0_7 : List (S112)) (r : Bool) (w : World) (hr0_5 : Kd.C k92 w A0_5 l0_5.length l0_5) (hc0_5 : l0_5.length ≤ c0_5) (hr0_6 : Kd.C Kd.string w A0_6 l0_6.length l0_6) (hc0_6 : l0_6.length ≤ c0_6) (hr0_7 : Kd.C k112 w A0_7 l0_7.length l0_7) (hc0_7 : l0_7.length ≤ c0_7) (h : impl_ValidFetch.f k a0_0 a0_1 a0_2 a0_3 a0_4 l0_5 l0_6 l0_7 = some r) :
  Calls Try.prog 47 #[.agg #[.string a0_0, .int .i64 a0_1, .bool a0_2, .int .i64 a0_3, .int .i64 a0_4, .slice A0_5 l0_5.length c0_5, .slice A0_6 l0_6.length c0_6, .slice A0_7 l0_7.length c0_7]] w fun e w' => e = .returned (.bool r) ∧ Below w.heap.size w w' := by
 have hu69 := Try.underlying69
 have hu36 := Try.underlying36
 have hu112 := Try.underlying112
 have HR0_5 := Aside0.mk hr0_5
 have HC0_5 := Aside0.mk hc0_5
 clear hr0_5 hc0_5
 have HR0_6 := Aside0.mk hr0_6
 have HC0_6 := Aside0.mk hc0_6
 clear hr0_6 hc0_6
 have HR0_7 := Aside0.mk hr0_7
 have HC0_7 := Aside0.mk hc0_7
 clear hr0_7 hc0_7
 have HB := Aside0.mk (Below.refl w.heap.size w)
 have H : ((impl_ValidStore.f k a0_3 a0_4 l0_5 l0_6).bind fun t224 => (if t224 = true then ((impl_timeOk.f a0_1).bind fun t225 => (if t225 = true then (if (l0_7.length : Int) < 1 then (impl_ValidFetch.j0 k true a0_0 a0_1 a0_2 a0_3 a0_4 l0_5 l0_6 l0_7) else (impl_ValidFetch.j0 k (decide ((l0_7.length : Int) > 5)) a0_0 a0_1 a0_2 a0_3 a0_4 l0_5 l0_6 l0_7)) else (impl_ValidFetch.j0 k true a0_0 a0_1 a0_2 a0_3 a0_4 l0_5 l0_6 l0_7))) else (impl_ValidFetch.j0 k true a0_0 a0_1 a0_2 a0_3 a0_4 l0_5 l0_6 l0_7))) = some r := h
 clear h
 have HC2 := Aside0.mk H
 clear H
 go_enter Try.func47, Try.ntmps47
 go_upto_region 1 with (first | ((with_reducible refine gate_dst (N := 1) rfl ?_); (try (refine gate_guard (by rfl) ?_; dsimp only)); refine box_event ?hg (N := 1) ?hd (cs := #[.string a0_0, .int .i64 a0_1, .bool a0_2, .int .i64 a0_3, .int .i64 a0_4, .slice A0_5 l0_5.length c0_5, .slice A0_6 l0_6.length c0_6, .slice A0_7 l0_7.length c0_7]) (t := 69) ?hr ?_; (case hd => rfl); (case hg => rfl); (case hr => first | (go_simp; done) | (go_simp; rfl)); intro gb223 hg w3 hbox hb; have n0_ := Aside0.mk (below_step (Zz.rB_ HB.out) hb); have n1_ := Aside0.mk (hbox); have n2_ := Aside0.mk ((by rw [hg]; exact (below_size (Zz.rB_ HB.out)) : w.heap.size ≤ gb223)); have n3_ := Aside0.mk ((by rw [hg]; exact (below_size (Zz.rB_ HB.out)) : w.heap.size ≤ gb223)); clear HB; have HB := n0_; have BK223 := n1_; have GW223 := n2_; have GE223 := n3_; clear n0_ n1_ n2_ n3_; clear hb hbox hg))
 (try simp only [Act.put, List.setIfInBounds_toArray, List.set_cons_zero, List.set_cons_succ])
 go_cut [29] (fun v29 wc => ∃ (kq : Nat) (x29_1 : Bool), v29 = .bool x29_1 ∧ Aside0 (impl_ValidFetch.j0 kq x29_1 a0_0 a0_1 a0_2 a0_3 a0_4 l0_5 l0_6 l0_7 = some r) ∧ Aside0 (kq ≤ k) ∧ Aside0 (wc.heap[gb223]? = some (.cells #[.string a0_0, .int .i64 a0_1, .bool a0_2, .int .i64 a0_3, .int .i64 a0_4, (.slice A0_5 l0_5.length c0_5), (.slice A0_6 l0_6.length c0_6), (.slice A0_7 l0_7.length c0_7)] 69 (0, 0))) ∧ Aside0 (Below w.heap.size w wc))
 case first =>
  have H := HC2.out
  clear HC2
  replace H := Option.bind_eq_some_iff.mp H
  obtain ⟨t224, A40, H⟩ := H
  replace H : (if t224 = true then ((impl_timeOk.f a0_1).bind fun t225 => (if t225 = true then (if (l0_7.length : Int) < 1 then (impl_ValidFetch.j0 k true a0_0 a0_1 a0_2 a0_3 a0_4 l0_5 l0_6 l0_7) else (impl_ValidFetch.j0 k (decide ((l0_7.length : Int) > 5)) a0_0 a0_1 a0_2 a0_3 a0_4 l0_5 l0_6 l0_7)) else (impl_ValidFetch.j0 k true a0_0 a0_1 a0_2 a0_3 a0_4 l0_5 l0_6 l0_7))) else (impl_ValidFetch.j0 k true a0_0 a0_1 a0_2 a0_3 a0_4 l0_5 l0_6 l0_7)) = some r := H
  have A4 := Aside0.mk A40
  clear A40
  by_cases c5 : t224 = true
  ·
   subst c5
   have H1 : ((impl_timeOk.f a0_1).bind fun t225 => (if t225 = true then (if (l0_7.length : Int) < 1 then (impl_ValidFetch.j0 k true a0_0 a0_1 a0_2 a0_3 a0_4 l0_5 l0_6 l0_7) else (impl_ValidFetch.j0 k (decide ((l0_7.length : Int) > 5)) a0_0 a0_1 a0_2 a0_3 a0_4 l0_5 l0_6 l0_7)) else (impl_ValidFetch.j0 k true a0_0 a0_1 a0_2 a0_3 a0_4 l0_5 l0_6 l0_7))) = some r := by rw [if_pos rfl] at H; exact H
   clear H
   have H := H1
   clear H1
   replace H := Option.bind_eq_some_iff.mp H
   obtain ⟨t225, A60, H⟩ := H
   replace H : (if t225 = true then (if (l0_7.length : Int) < 1 then (impl_ValidFetch.j0 k true a0_0 a0_1 a0_2 a0_3 a0_4 l0_5 l0_6 l0_7) else (impl_ValidFetch.j0 k (decide ((l0_7.length : Int) > 5)) a0_0 a0_1 a0_2 a0_3 a0_4 l0_5 l0_6 l0_7)) else (impl_ValidFetch.j0 k true a0_0 a0_1 a0_2 a0_3 a0_4 l0_5 l0_6 l0_7)) = some r := H
   have A6 := Aside0.mk A60
   clear A60
   by_cases c7 : t225 = true
   ·
    subst c7
    have H1 : (if (l0_7.length : Int) < 1 then (impl_ValidFetch.j0 k true a0_0 a0_1 a0_2 a0_3 a0_4 l0_5 l0_6 l0_7) else (impl_ValidFetch.j0 k (decide ((l0_7.length : Int) > 5)) a0_0 a0_1 a0_2 a0_3 a0_4 l0_5 l0_6 l0_7)) = some r := by rw [if_pos rfl] at H; exact H
    clear H
    have H := H1
    clear H1
    by_cases c8 : (l0_7.length : Int) < 1
    ·
     rw [if_pos c8] at H
     have c8b0 : decide ((l0_7.length : Int) < 1) = true := decide_eq_true c8
     have c8b1 : decide (l0_7.length < 1) = true := decide_eq_true (by omega)
     clear c8
     (first | rw [c8b0] | (simp only [i64_w, i32_w]; rw [c8b0]) | skip)
     have H' := Aside0.mk H
     clear H
     have hcz9_0 : w3.cell? ⟨gb223, 0, none⟩ = some (.string a0_0) := (blk_cell BK223.out 0).trans rfl
     have hcz9_1 : w3.cell? ⟨gb223, 1, none⟩ = some (.int .i64 a0_1) := (blk_cell BK223.out 1).trans rfl
     have hcz9_2 : w3.cell? ⟨gb223, 2, none⟩ = some (.bool a0_2) := (blk_cell BK223.out 2).trans rfl
     have hcz9_3 : w3.cell? ⟨gb223, 3, none⟩ = some (.int .i64 a0_3) := (blk_cell BK223.out 3).trans rfl
     have hcz9_4 : w3.cell? ⟨gb223, 4, none⟩ = some (.int .i64 a0_4) := (blk_cell BK223.out 4).trans rfl
     have hcz9_5 : w3.cell? ⟨gb223, 5, none⟩ = some (.slice A0_5 l0_5.length c0_5) := (blk_cell BK223.out 5).trans rfl
     have hcz9_6 : w3.cell? ⟨gb223, 6, none⟩ = some (.slice A0_6 l0_6.length c0_6) := (blk_cell BK223.out 6).trans rfl
     have hcz9_7 : w3.cell? ⟨gb223, 7, none⟩ = some (.slice A0_7 l0_7.length c0_7) := (blk_cell BK223.out 7).trans rfl
     have hfz9_0 := blk_frozen BK223.out 0
     have hfz9_1 := blk_frozen BK223.out 1
     have hfz9_2 := blk_frozen BK223.out 2
     have hfz9_3 := blk_frozen BK223.out 3
     have hfz9_4 := blk_frozen BK223.out 4
     have hfz9_5 := blk_frozen BK223.out 5
     have hfz9_6 := blk_frozen BK223.out 6
     have hfz9_7 := blk_frozen BK223.out 7
     go_wp2_with (first | ((with_reducible refine gate_callee (f := 21) rfl ?_); refine goesL_ (some 10) rfl rfl Try.func21 (by kernel_rfl) rfl #[.agg #[.int .i64 a0_3, .int .i64 a0_4, .slice A0_5 l0_5.length c0_5, .slice A0_6 l0_6.length c0_6]] rfl (by (try simp only [List.map_toArray, List.map_cons, List.map_nil]); first | done | rfl | (simp only [List.length_drop, List.length_take]; rfl)) ?_; (with_reducible refine (impl_ValidStore.calls k a0_3 a0_4 _ _ l0_5 _ _ l0_6 true _ ?side1 ?side2 ?side3 ?side4 A4.out).mono ?_); (case side1 => repeat (first | exact (Kd.C_below HR0_5.out HB.out) | (with_reducible refine Kd.C_alloc ?_ _) | (with_reducible refine Kd.C_drewN ?_ _) | (with_reducible refine Kd.C_drew ?_))); (case side2 => exact HC0_5.out); (case side3 => repeat (first | exact (Kd.C_below HR0_6.out HB.out) | (with_reducible refine Kd.C_alloc ?_ _) | (with_reducible refine Kd.C_drewN ?_ _) | (with_reducible refine Kd.C_drew ?_))); (case side4 => exact HC0_6.out); rintro e w10 ⟨rfl, hb⟩; refine ⟨_, rfl, ?_⟩; have n0_ := Aside0.mk (blk_below (g := gb223) (o := .cells #[.string a0_0, .int .i64 a0_1, .bool a0_2, .int .i64 a0_3, .int .i64 a0_4, .slice A0_5 l0_5.length c0_5, .slice A0_6 l0_6.length c0_6, .slice A0_7 l0_7.length c0_7] 69 (0, 0)) (Zz.rb_ BK223.out) hb); have n1_ := Aside0.mk (below_step (Zz.rB_ HB.out) hb); clear BK223; clear HB; have BK223 := n0_; have HB := n1_; clear n0_ n1_; (try clear hb); (try clear hb2); (try clear hk); (try clear hi); have hcz11_0 : w10.cell? ⟨gb223, 0, none⟩ = some (.string a0_0) := (blk_cell BK223.out 0).trans rfl; have hcz11_1 : w10.cell? ⟨gb223, 1, none⟩ = some (.int .i64 a0_1) := (blk_cell BK223.out 1).trans rfl; have hcz11_2 : w10.cell? ⟨gb223, 2, none⟩ = some (.bool a0_2) := (blk_cell BK223.out 2).trans rfl; have hcz11_3 : w10.cell? ⟨gb223, 3, none⟩ = some (.int .i64 a0_3) := (blk_cell BK223.out 3).trans rfl; have hcz11_4 : w10.cell? ⟨gb223, 4, none⟩ = some (.int .i64 a0_4) := (blk_cell BK223.out 4).trans rfl; have hcz11_5 : w10.cell? ⟨gb223, 5, none⟩ = some (.slice A0_5 l0_5.length c0_5) := (blk_cell BK223.out 5).trans rfl; have hcz11_6 : w10.cell? ⟨gb223, 6, none⟩ = some (.slice A0_6 l0_6.length c0_6) := (blk_cell BK223.out 6).trans rfl; have hcz11_7 : w10.cell? ⟨gb223, 7, none⟩ = some (.slice A0_7 l0_7.length c0_7) := (blk_cell BK223.out 7).trans rfl; have hfz11_0 := blk_frozen BK223.out 0; have hfz11_1 := blk_frozen BK223.out 1; have hfz11_2 := blk_frozen BK223.out 2; have hfz11_3 := blk_frozen BK223.out 3; have hfz11_4 := blk_frozen BK223.out 4; have hfz11_5 := blk_frozen BK223.out 5; have hfz11_6 := blk_frozen BK223.out 6; have hfz11_7 := blk_frozen BK223.out 7) | (go_at_call 86; (with_reducible refine (impl_timeOk.calls a0_1 true _ A6.out).mono ?_); rintro e w' ⟨rfl, ⟨nd, rfl⟩⟩))
     go_meet
     case rel => exact ⟨_, (true), (by first | rfl | (simp; done) | (simp [*]; done)), H', ⟨by first | omega | exact Nat.le_refl _⟩, ⟨Zz.rb_ BK223.out⟩, ⟨Zz.rB_ HB.out⟩⟩
    ·
     rw [if_neg c8] at H
     have c8b0 : decide ((l0_7.length : Int) < 1) = false := decide_eq_false c8
     have c8b1 : decide (l0_7.length < 1) = false := decide_eq_false (by omega)
     clear c8
     (first | rw [c8b0] | (simp only [i64_w, i32_w]; rw [c8b0]) | skip)
     have H' := Aside0.mk H
     clear H
     have hcz12_0 : w3.cell? ⟨gb223, 0, none⟩ = some (.string a0_0) := (blk_cell BK223.out 0).trans rfl
     have hcz12_1 : w3.cell? ⟨gb223, 1, none⟩ = some (.int .i64 a0_1) := (blk_cell BK223.out 1).trans rfl
     have hcz12_2 : w3.cell? ⟨gb223, 2, none⟩ = some (.bool a0_2) := (blk_cell BK223.out 2).trans rfl
     have hcz12_3 : w3.cell? ⟨gb223, 3, none⟩ = some (.int .i64 a0_3) := (blk_cell BK223.out 3).trans rfl
     have hcz12_4 : w3.cell? ⟨gb223, 4, none⟩ = some (.int .i64 a0_4) := (blk_cell BK223.out 4).trans rfl
     have hcz12_5 : w3.cell? ⟨gb223, 5, none⟩ = some (.slice A0_5 l0_5.length c0_5) := (blk_cell BK223.out 5).trans rfl
     have hcz12_6 : w3.cell? ⟨gb223, 6, none⟩ = some (.slice A0_6 l0_6.length c0_6) := (blk_cell BK223.out 6).trans rfl
     have hcz12_7 : w3.cell? ⟨gb223, 7, none⟩ = some (.slice A0_7 l0_7.length c0_7) := (blk_cell BK223.out 7).trans rfl
     have hfz12_0 := blk_frozen BK223.out 0
     have hfz12_1 := blk_frozen BK223.out 1
     have hfz12_2 := blk_frozen BK223.out 2
     have hfz12_3 := blk_frozen BK223.out 3
     have hfz12_4 := blk_frozen BK223.out 4
     have hfz12_5 := blk_frozen BK223.out 5
     have hfz12_6 := blk_frozen BK223.out 6
     have hfz12_7 := blk_frozen BK223.out 7
     go_wp2_with (first | ((with_reducible refine gate_callee (f := 21) rfl ?_); refine goesL_ (some 10) rfl rfl Try.func21 (by kernel_rfl) rfl #[.agg #[.int .i64 a0_3, .int .i64 a0_4, .slice A0_5 l0_5.length c0_5, .slice A0_6 l0_6.length c0_6]] rfl (by (try simp only [List.map_toArray, List.map_cons, List.map_nil]); first | done | rfl | (simp only [List.length_drop, List.length_take]; rfl)) ?_; (with_reducible refine (impl_ValidStore.calls k a0_3 a0_4 _ _ l0_5 _ _ l0_6 true _ ?side1 ?side2 ?side3 ?side4 A4.out).mono ?_); (case side1 => repeat (first | exact (Kd.C_below HR0_5.out HB.out) | (with_reducible refine Kd.C_alloc ?_ _) | (with_reducible refine Kd.C_drewN ?_ _) | (with_reducible refine Kd.C_drew ?_))); (case side2 => exact HC0_5.out); (case side3 => repeat (first | exact (Kd.C_below HR0_6.out HB.out) | (with_reducible refine Kd.C_alloc ?_ _) | (with_reducible refine Kd.C_drewN ?_ _) | (with_reducible refine Kd.C_drew ?_))); (case side4 => exact HC0_6.out); rintro e w13 ⟨rfl, hb⟩; refine ⟨_, rfl, ?_⟩; have n0_ := Aside0.mk (blk_below (g := gb223) (o := .cells #[.string a0_0, .int .i64 a0_1, .bool a0_2, .int .i64 a0_3, .int .i64 a0_4, .slice A0_5 l0_5.length c0_5, .slice A0_6 l0_6.length c0_6, .slice A0_7 l0_7.length c0_7] 69 (0, 0)) (Zz.rb_ BK223.out) hb); have n1_ := Aside0.mk (below_step (Zz.rB_ HB.out) hb); clear BK223; clear HB; have BK223 := n0_; have HB := n1_; clear n0_ n1_; (try clear hb); (try clear hb2); (try clear hk); (try clear hi); have hcz14_0 : w13.cell? ⟨gb223, 0, none⟩ = some (.string a0_0) := (blk_cell BK223.out 0).trans rfl; have hcz14_1 : w13.cell? ⟨gb223, 1, none⟩ = some (.int .i64 a0_1) := (blk_cell BK223.out 1).trans rfl; have hcz14_2 : w13.cell? ⟨gb223, 2, none⟩ = some (.bool a0_2) := (blk_cell BK223.out 2).trans rfl; have hcz14_3 : w13.cell? ⟨gb223, 3, none⟩ = some (.int .i64 a0_3) := (blk_cell BK223.out 3).trans rfl; have hcz14_4 : w13.cell? ⟨gb223, 4, none⟩ = some (.int .i64 a0_4) := (blk_cell BK223.out 4).trans rfl; have hcz14_5 : w13.cell? ⟨gb223, 5, none⟩ = some (.slice A0_5 l0_5.length c0_5) := (blk_cell BK223.out 5).trans rfl; have hcz14_6 : w13.cell? ⟨gb223, 6, none⟩ = some (.slice A0_6 l0_6.length c0_6) := (blk_cell BK223.out 6).trans rfl; have hcz14_7 : w13.cell? ⟨gb223, 7, none⟩ = some (.slice A0_7 l0_7.length c0_7) := (blk_cell BK223.out 7).trans rfl; have hfz14_0 := blk_frozen BK223.out 0; have hfz14_1 := blk_frozen BK223.out 1; have hfz14_2 := blk_frozen BK223.out 2; have hfz14_3 := blk_frozen BK223.out 3; have hfz14_4 := blk_frozen BK223.out 4; have hfz14_5 := blk_frozen BK223.out 5; have hfz14_6 := blk_frozen BK223.out 6; have hfz14_7 := blk_frozen BK223.out 7) | (go_at_call 86; (with_reducible refine (impl_timeOk.calls a0_1 true _ A6.out).mono ?_); rintro e w' ⟨rfl, ⟨nd, rfl⟩⟩))
     go_meet
     case rel => exact ⟨_, (decide ((l0_7.length : Int) > 5)), (by first | rfl | (simp; done) | (simp [*]; done)), H', ⟨by first | omega | exact Nat.le_refl _⟩, ⟨Zz.rb_ BK223.out⟩, ⟨Zz.rB_ HB.out⟩⟩
   ·
    replace c7 := Bool.eq_false_iff.mpr c7
    subst c7
    have H1 : (impl_ValidFetch.j0 k true a0_0 a0_1 a0_2 a0_3 a0_4 l0_5 l0_6 l0_7) = some r := by rw [if_neg (show ¬ (false = true) by decide)] at H; exact H
    clear H
    have H := H1
    clear H1
    have H' := Aside0.mk H
    clear H
    have hcz15_0 : w3.cell? ⟨gb223, 0, none⟩ = some (.string a0_0) := (blk_cell BK223.out 0).trans rfl
    have hcz15_1 : w3.cell? ⟨gb223, 1, none⟩ = some (.int .i64 a0_1) := (blk_cell BK223.out 1).trans rfl
    have hcz15_2 : w3.cell? ⟨gb223, 2, none⟩ = some (.bool a0_2) := (blk_cell BK223.out 2).trans rfl
    have hcz15_3 : w3.cell? ⟨gb223, 3, none⟩ = some (.int .i64 a0_3) := (blk_cell BK223.out 3).trans rfl
    have hcz15_4 : w3.cell? ⟨gb223, 4, none⟩ = some (.int .i64 a0_4) := (blk_cell BK223.out 4).trans rfl
    have hcz15_5 : w3.cell? ⟨gb223, 5, none⟩ = some (.slice A0_5 l0_5.length c0_5) := (blk_cell BK223.out 5).trans rfl
    have hcz15_6 : w3.cell? ⟨gb223, 6, none⟩ = some (.slice A0_6 l0_6.length c0_6) := (blk_cell BK223.out 6).trans rfl
    have hcz15_7 : w3.cell? ⟨gb223, 7, none⟩ = some (.slice A0_7 l0_7.length c0_7) := (blk_cell BK223.out 7).trans rfl
    have hfz15_0 := blk_frozen BK223.out 0
    have hfz15_1 := blk_frozen BK223.out 1
    have hfz15_2 := blk_frozen BK223.out 2
    have hfz15_3 := blk_frozen BK223.out 3
    have hfz15_4 := blk_frozen BK223.out 4
    have hfz15_5 := blk_frozen BK223.out 5
    have hfz15_6 := blk_frozen BK223.out 6
    have hfz15_7 := blk_frozen BK223.out 7
    go_wp2_with (first | ((with_reducible refine gate_callee (f := 21) rfl ?_); refine goesL_ (some 10) rfl rfl Try.func21 (by kernel_rfl) rfl #[.agg #[.int .i64 a0_3, .int .i64 a0_4, .slice A0_5 l0_5.length c0_5, .slice A0_6 l0_6.length c0_6]] rfl (by (try simp only [List.map_toArray, List.map_cons, List.map_nil]); first | done | rfl | (simp only [List.length_drop, List.length_take]; rfl)) ?_; (with_reducible refine (impl_ValidStore.calls k a0_3 a0_4 _ _ l0_5 _ _ l0_6 true _ ?side1 ?side2 ?side3 ?side4 A4.out).mono ?_); (case side1 => repeat (first | exact (Kd.C_below HR0_5.out HB.out) | (with_reducible refine Kd.C_alloc ?_ _) | (with_reducible refine Kd.C_drewN ?_ _) | (with_reducible refine Kd.C_drew ?_))); (case side2 => exact HC0_5.out); (case side3 => repeat (first | exact (Kd.C_below HR0_6.out HB.out) | (with_reducible refine Kd.C_alloc ?_ _) | (with_reducible refine Kd.C_drewN ?_ _) | (with_reducible refine Kd.C_drew ?_))); (case side4 => exact HC0_6.out); rintro e w16 ⟨rfl, hb⟩; refine ⟨_, rfl, ?_⟩; have n0_ := Aside0.mk (blk_below (g := gb223) (o := .cells #[.string a0_0, .int .i64 a0_1, .bool a0_2, .int .i64 a0_3, .int .i64 a0_4, .slice A0_5 l0_5.length c0_5, .slice A0_6 l0_6.length c0_6, .slice A0_7 l0_7.length c0_7] 69 (0, 0)) (Zz.rb_ BK223.out) hb); have n1_ := Aside0.mk (below_step (Zz.rB_ HB.out) hb); clear BK223; clear HB; have BK223 := n0_; have HB := n1_; clear n0_ n1_; (try clear hb); (try clear hb2); (try clear hk); (try clear hi); have hcz17_0 : w16.cell? ⟨gb223, 0, none⟩ = some (.string a0_0) := (blk_cell BK223.out 0).trans rfl; have hcz17_1 : w16.cell? ⟨gb223, 1, none⟩ = some (.int .i64 a0_1) := (blk_cell BK223.out 1).trans rfl; have hcz17_2 : w16.cell? ⟨gb223, 2, none⟩ = some (.bool a0_2) := (blk_cell BK223.out 2).trans rfl; have hcz17_3 : w16.cell? ⟨gb223, 3, none⟩ = some (.int .i64 a0_3) := (blk_cell BK223.out 3).trans rfl; have hcz17_4 : w16.cell? ⟨gb223, 4, none⟩ = some (.int .i64 a0_4) := (blk_cell BK223.out 4).trans rfl; have hcz17_5 : w16.cell? ⟨gb223, 5, none⟩ = some (.slice A0_5 l0_5.length c0_5) := (blk_cell BK223.out 5).trans rfl; have hcz17_6 : w16.cell? ⟨gb223, 6, none⟩ = some (.slice A0_6 l0_6.length c0_6) := (blk_cell BK223.out 6).trans rfl; have hcz17_7 : w16.cell? ⟨gb223, 7, none⟩ = some (.slice A0_7 l0_7.length c0_7) := (blk_cell BK223.out 7).trans rfl; have hfz17_0 := blk_frozen BK223.out 0; have hfz17_1 := blk_frozen BK223.out 1; have hfz17_2 := blk_frozen BK223.out 2; have hfz17_3 := blk_frozen BK223.out 3; have hfz17_4 := blk_frozen BK223.out 4; have hfz17_5 := blk_frozen BK223.out 5; have hfz17_6 := blk_frozen BK223.out 6; have hfz17_7 := blk_frozen BK223.out 7) | (go_at_call 86; (with_reducible refine (impl_timeOk.calls a0_1 false _ A6.out).mono ?_); rintro e w' ⟨rfl, ⟨nd, rfl⟩⟩))
    go_meet
    case rel => exact ⟨_, (true), (by first | rfl | (simp; done) | (simp [*]; done)), H', ⟨by first | omega | exact Nat.le_refl _⟩, ⟨Zz.rb_ BK223.out⟩, ⟨Zz.rB_ HB.out⟩⟩
  ·
   replace c5 := Bool.eq_false_iff.mpr c5
   subst c5
   have H1 : (impl_ValidFetch.j0 k true a0_0 a0_1 a0_2 a0_3 a0_4 l0_5 l0_6 l0_7) = some r := by rw [if_neg (show ¬ (false = true) by decide)] at H; exact H
   clear H
   have H := H1
   clear H1
   have H' := Aside0.mk H
   clear H
   have hcz18_0 : w3.cell? ⟨gb223, 0, none⟩ = some (.string a0_0) := (blk_cell BK223.out 0).trans rfl
   have hcz18_1 : w3.cell? ⟨gb223, 1, none⟩ = some (.int .i64 a0_1) := (blk_cell BK223.out 1).trans rfl
   have hcz18_2 : w3.cell? ⟨gb223, 2, none⟩ = some (.bool a0_2) := (blk_cell BK223.out 2).trans rfl
   have hcz18_3 : w3.cell? ⟨gb223, 3, none⟩ = some (.int .i64 a0_3) := (blk_cell BK223.out 3).trans rfl
   have hcz18_4 : w3.cell? ⟨gb223, 4, none⟩ = some (.int .i64 a0_4) := (blk_cell BK223.out 4).trans rfl
   have hcz18_5 : w3.cell? ⟨gb223, 5, none⟩ = some (.slice A0_5 l0_5.length c0_5) := (blk_cell BK223.out 5).trans rfl
   have hcz18_6 : w3.cell? ⟨gb223, 6, none⟩ = some (.slice A0_6 l0_6.length c0_6) := (blk_cell BK223.out 6).trans rfl
   have hcz18_7 : w3.cell? ⟨gb223, 7, none⟩ = some (.slice A0_7 l0_7.length c0_7) := (blk_cell BK223.out 7).trans rfl
   have hfz18_0 := blk_frozen BK223.out 0
   have hfz18_1 := blk_frozen BK223.out 1
   have hfz18_2 := blk_frozen BK223.out 2
   have hfz18_3 := blk_frozen BK223.out 3
   have hfz18_4 := blk_frozen BK223.out 4
   have hfz18_5 := blk_frozen BK223.out 5
   have hfz18_6 := blk_frozen BK223.out 6
   have hfz18_7 := blk_frozen BK223.out 7
   go_wp2_with (first | ((with_reducible refine gate_callee (f := 21) rfl ?_); refine goesL_ (some 10) rfl rfl Try.func21 (by kernel_rfl) rfl #[.agg #[.int .i64 a0_3, .int .i64 a0_4, .slice A0_5 l0_5.length c0_5, .slice A0_6 l0_6.length c0_6]] rfl (by (try simp only [List.map_toArray, List.map_cons, List.map_nil]); first | done | rfl | (simp only [List.length_drop, List.length_take]; rfl)) ?_; (with_reducible refine (impl_ValidStore.calls k a0_3 a0_4 _ _ l0_5 _ _ l0_6 false _ ?side1 ?side2 ?side3 ?side4 A4.out).mono ?_); (case side1 => repeat (first | exact (Kd.C_below HR0_5.out HB.out) | (with_reducible refine Kd.C_alloc ?_ _) | (with_reducible refine Kd.C_drewN ?_ _) | (with_reducible refine Kd.C_drew ?_))); (case side2 => exact HC0_5.out); (case side3 => repeat (first | exact (Kd.C_below HR0_6.out HB.out) | (with_reducible refine Kd.C_alloc ?_ _) | (with_reducible refine Kd.C_drewN ?_ _) | (with_reducible refine Kd.C_drew ?_))); (case side4 => exact HC0_6.out); rintro e w19 ⟨rfl, hb⟩; refine ⟨_, rfl, ?_⟩; have n0_ := Aside0.mk (blk_below (g := gb223) (o := .cells #[.string a0_0, .int .i64 a0_1, .bool a0_2, .int .i64 a0_3, .int .i64 a0_4, .slice A0_5 l0_5.length c0_5, .slice A0_6 l0_6.length c0_6, .slice A0_7 l0_7.length c0_7] 69 (0, 0)) (Zz.rb_ BK223.out) hb); have n1_ := Aside0.mk (below_step (Zz.rB_ HB.out) hb); clear BK223; clear HB; have BK223 := n0_; have HB := n1_; clear n0_ n1_; (try clear hb); (try clear hb2); (try clear hk); (try clear hi)))
   go_meet
   case rel => exact ⟨_, (true), (by first | rfl | (simp; done) | (simp [*]; done)), H', ⟨by first | omega | exact Nat.le_refl _⟩, ⟨Zz.rb_ BK223.out⟩, ⟨Zz.rB_ HB.out⟩⟩
 case rest =>
  clear HC2
  try clear c2
  try clear p2
  try clear c4
  try clear c5
  try clear c7
  try clear c8
  try clear c8b0
  try clear c8b1
  try clear hcz11_0
  try clear hcz11_1
  try clear hcz11_2
  try clear hcz11_3
  try clear hcz11_4
  try clear hcz11_5
  try clear hcz11_6
  try clear hcz11_7
  try clear hcz12_0
  try clear hcz12_1
  try clear hcz12_2
  try clear hcz12_3
  try clear hcz12_4
  try clear hcz12_5
  try clear hcz12_6
  try clear hcz12_7
  try clear hcz14_0
  try clear hcz14_1
  try clear hcz14_2
  try clear hcz14_3
  try clear hcz14_4
  try clear hcz14_5
  try clear hcz14_6
  try clear hcz14_7
  try clear hcz15_0
  try clear hcz15_1
  try clear hcz15_2
  try clear hcz15_3
  try clear hcz15_4
  try clear hcz15_5
  try clear hcz15_6
  try clear hcz15_7
  try clear hcz17_0
  try clear hcz17_1
  try clear hcz17_2
  try clear hcz17_3
  try clear hcz17_4
  try clear hcz17_5
  try clear hcz17_6
  try clear hcz17_7
  try clear hcz18_0
  try clear hcz18_1
  try clear hcz18_2
  try clear hcz18_3
  try clear hcz18_4
  try clear hcz18_5
  try clear hcz18_6
  try clear hcz18_7
  try clear hcz9_0
  try clear hcz9_1
  try clear hcz9_2
  try clear hcz9_3
  try clear hcz9_4
  try clear hcz9_5
  try clear hcz9_6
  try clear hcz9_7
  try clear hfz11_0
  try clear hfz11_1
  try clear hfz11_2
  try clear hfz11_3
  try clear hfz11_4
  try clear hfz11_5
  try clear hfz11_6
  try clear hfz11_7
  try clear hfz12_0
  try clear hfz12_1
  try clear hfz12_2
  try clear hfz12_3
  try clear hfz12_4
  try clear hfz12_5
  try clear hfz12_6
  try clear hfz12_7
  try clear hfz14_0
  try clear hfz14_1
  try clear hfz14_2
  try clear hfz14_3
  try clear hfz14_4
  try clear hfz14_5
  try clear hfz14_6
  try clear hfz14_7
  try clear hfz15_0
  try clear hfz15_1
  try clear hfz15_2
  try clear hfz15_3
  try clear hfz15_4
  try clear hfz15_5
  try clear hfz15_6
  try clear hfz15_7
  try clear hfz17_0
  try clear hfz17_1
  try clear hfz17_2
  try clear hfz17_3
  try clear hfz17_4
  try clear hfz17_5
  try clear hfz17_6
  try clear hfz17_7
  try clear hfz18_0
  try clear hfz18_1
  try clear hfz18_2
  try clear hfz18_3
  try clear hfz18_4
  try clear hfz18_5
  try clear hfz18_6
  try clear hfz18_7
  try clear hfz9_0
  try clear hfz9_1
  try clear hfz9_2
  try clear hfz9_3
  try clear hfz9_4
  try clear hfz9_5
  try clear hfz9_6
  try clear hfz9_7
  obtain ⟨kq, x29_1, rfl, HA, HJ1, BK223, HB⟩ := hcut
  cases kq with
  | zero => exact absurd HA.out (by simp [impl_ValidFetch.j0])
  | succ kj1 =>
   have H := HA.out
   clear HA
   simp only [impl_ValidFetch.j0] at H
   by_cases c20 : x29_1 = true
   ·
    subst c20
    have H1 : (some false) = some r := by rw [if_pos rfl] at H; exact H
    clear H
    have H := H1
    clear H1
    obtain rfl := Option.some.inj H
    go_wp2
    go_ret
    exact ⟨by first | rfl | (simp [errW_none, errW_some] <;> rfl) | (simp [*, errW_none, errW_some] <;> rfl), by repeat (first | (with_reducible first | exact HB.out | apply below_alloc | apply pw_below_drewN | apply below_drew1 | refine below_set ?_ GE223.out) | exact HB.out)⟩
   ·
    replace c20 := Bool.eq_false_iff.mpr c20
    subst c20
    have H1 : ((impl_pinned.f a0_3 a0_4 l0_5 l0_6 a0_0).bind fun bt226 => (if bt226.2 = true then (impl_ValidFetch.l0 kj1 a0_3 l0_7 (l0_7.length : Int) 0 a0_0 a0_1 a0_2 a0_3 a0_4 l0_5 l0_6 l0_7) else (some false))) = some r := by rw [if_neg (show ¬ (false = true) by decide)] at H; exact H
    clear H
    have H := H1
    clear H1
    replace H := Option.bind_eq_some_iff.mp H
    obtain ⟨⟨t226, t227⟩, A210, H⟩ := H
    replace H : (if t227 = true then (impl_ValidFetch.l0 kj1 a0_3 l0_7 (l0_7.length : Int) 0 a0_0 a0_1 a0_2 a0_3 a0_4 l0_5 l0_6 l0_7) else (some false)) = some r := H
    have A21 := Aside0.mk A210
    clear A210
    by_cases c22 : t227 = true
    ·
     subst c22
     have H1 : (impl_ValidFetch.l0 kj1 a0_3 l0_7 (l0_7.length : Int) 0 a0_0 a0_1 a0_2 a0_3 a0_4 l0_5 l0_6 l0_7) = some r := by rw [if_pos rfl] at H; exact H
     clear H
     have H := H1
     clear H1
     have H' := Aside0.mk H
     clear H
     have hcz23_0 : wc.cell? ⟨gb223, 0, none⟩ = some (.string a0_0) := (blk_cell BK223.out 0).trans rfl
     have hcz23_1 : wc.cell? ⟨gb223, 1, none⟩ = some (.int .i64 a0_1) := (blk_cell BK223.out 1).trans rfl
     have hcz23_2 : wc.cell? ⟨gb223, 2, none⟩ = some (.bool a0_2) := (blk_cell BK223.out 2).trans rfl
     have hcz23_3 : wc.cell? ⟨gb223, 3, none⟩ = some (.int .i64 a0_3) := (blk_cell BK223.out 3).trans rfl
     have hcz23_4 : wc.cell? ⟨gb223, 4, none⟩ = some (.int .i64 a0_4) := (blk_cell BK223.out 4).trans rfl
     have hcz23_5 : wc.cell? ⟨gb223, 5, none⟩ = some (.slice A0_5 l0_5.length c0_5) := (blk_cell BK223.out 5).trans rfl
     have hcz23_6 : wc.cell? ⟨gb223, 6, none⟩ = some (.slice A0_6 l0_6.length c0_6) := (blk_cell BK223.out 6).trans rfl
     have hcz23_7 : wc.cell? ⟨gb223, 7, none⟩ = some (.slice A0_7 l0_7.length c0_7) := (blk_cell BK223.out 7).trans rfl
     have hfz23_0 := blk_frozen BK223.out 0
     have hfz23_1 := blk_frozen BK223.out 1
     have hfz23_2 := blk_frozen BK223.out 2
     have hfz23_3 := blk_frozen BK223.out 3
     have hfz23_4 := blk_frozen BK223.out 4
     have hfz23_5 := blk_frozen BK223.out 5
     have hfz23_6 := blk_frozen BK223.out 6
     have hfz23_7 := blk_frozen BK223.out 7
     go_wp2_with (first | ((with_reducible refine gate_callee (f := 91) rfl ?_); refine goesL_ (some 35) rfl rfl Try.func91 (by kernel_rfl) rfl #[.agg #[.int .i64 a0_3, .int .i64 a0_4, .slice A0_5 l0_5.length c0_5, .slice A0_6 l0_6.length c0_6], .string a0_0] rfl (by (try simp only [List.map_toArray, List.map_cons, List.map_nil]); first | done | rfl | (simp only [List.length_drop, List.length_take]; rfl)) ?_; (with_reducible refine (impl_pinned.calls a0_3 a0_4 _ _ l0_5 _ _ l0_6 a0_0 t226 true _ ?side1 ?side2 ?side3 ?side4 A21.out).mono ?_); (case side1 => repeat (first | exact (Kd.C_below HR0_5.out HB.out) | (with_reducible refine Kd.C_alloc ?_ _) | (with_reducible refine Kd.C_drewN ?_ _) | (with_reducible refine Kd.C_drew ?_))); (case side2 => exact HC0_5.out); (case side3 => repeat (first | exact (Kd.C_below HR0_6.out HB.out) | (with_reducible refine Kd.C_alloc ?_ _) | (with_reducible refine Kd.C_drewN ?_ _) | (with_reducible refine Kd.C_drew ?_))); (case side4 => exact HC0_6.out); rintro e w24 ⟨rfl, hb⟩; refine ⟨_, rfl, ?_⟩; have n0_ := Aside0.mk (blk_below (g := gb223) (o := .cells #[.string a0_0, .int .i64 a0_1, .bool a0_2, .int .i64 a0_3, .int .i64 a0_4, .slice A0_5 l0_5.length c0_5, .slice A0_6 l0_6.length c0_6, .slice A0_7 l0_7.length c0_7] 69 (0, 0)) (Zz.rb_ BK223.out) hb); have n1_ := Aside0.mk (below_step (Zz.rB_ HB.out) hb); clear BK223; clear HB; have BK223 := n0_; have HB := n1_; clear n0_ n1_; (try clear hb); (try clear hb2); (try clear hk); (try clear hi); have hcz25_0 : w24.cell? ⟨gb223, 0, none⟩ = some (.string a0_0) := (blk_cell BK223.out 0).trans rfl; have hcz25_1 : w24.cell? ⟨gb223, 1, none⟩ = some (.int .i64 a0_1) := (blk_cell BK223.out 1).trans rfl; have hcz25_2 : w24.cell? ⟨gb223, 2, none⟩ = some (.bool a0_2) := (blk_cell BK223.out 2).trans rfl; have hcz25_3 : w24.cell? ⟨gb223, 3, none⟩ = some (.int .i64 a0_3) := (blk_cell BK223.out 3).trans rfl; have hcz25_4 : w24.cell? ⟨gb223, 4, none⟩ = some (.int .i64 a0_4) := (blk_cell BK223.out 4).trans rfl; have hcz25_5 : w24.cell? ⟨gb223, 5, none⟩ = some (.slice A0_5 l0_5.length c0_5) := (blk_cell BK223.out 5).trans rfl; have hcz25_6 : w24.cell? ⟨gb223, 6, none⟩ = some (.slice A0_6 l0_6.length c0_6) := (blk_cell BK223.out 6).trans rfl; have hcz25_7 : w24.cell? ⟨gb223, 7, none⟩ = some (.slice A0_7 l0_7.length c0_7) := (blk_cell BK223.out 7).trans rfl; have hfz25_0 := blk_frozen BK223.out 0; have hfz25_1 := blk_frozen BK223.out 1; have hfz25_2 := blk_frozen BK223.out 2; have hfz25_3 := blk_frozen BK223.out 3; have hfz25_4 := blk_frozen BK223.out 4; have hfz25_5 := blk_frozen BK223.out 5; have hfz25_6 := blk_frozen BK223.out 6; have hfz25_7 := blk_frozen BK223.out 7))
     go_loopg [46] kj1 (fun kq v46 w' => ∃ (x46_2 : Int), v46 = .int .i64 x46_2 ∧ Aside0 (impl_ValidFetch.l0 kq a0_3 l0_7 (l0_7.length : Int) x46_2 a0_0 a0_1 a0_2 a0_3 a0_4 l0_5 l0_6 l0_7 = some r) ∧ Aside0 (kq ≤ kj1) ∧ Aside0 (w'.heap[gb223]? = some (.cells #[.string a0_0, .int .i64 a0_1, .bool a0_2, .int .i64 a0_3, .int .i64 a0_4, (.slice A0_5 l0_5.length c0_5), (.slice A0_6 l0_6.length c0_6), (.slice A0_7 l0_7.length c0_7)] 69 (0, 0))) ∧ Aside0 (Below w.heap.size w w'))
     case atStart => exact ⟨(0), (by first | rfl | (simp; done) | (simp [*]; done)), H', ⟨Nat.le_refl _⟩, ⟨Zz.rb_ BK223.out⟩, ⟨Zz.rB_ HB.out⟩⟩
     case round =>
      clear H'
      try clear c2
      try clear p2
      try clear c4
      try clear c5
      try clear c7
      try clear c8
      try clear c8b0
      try clear c8b1
      try clear c9
      try clear c20
      try clear c21
      try clear c22
      try clear hcz11_0
      try clear hcz11_1
      try clear hcz11_2
      try clear hcz11_3
      try clear hcz11_4
      try clear hcz11_5
      try clear hcz11_6
      try clear hcz11_7
      try clear hcz12_0
      try clear hcz12_1
      try clear hcz12_2
      try clear hcz12_3
      try clear hcz12_4
      try clear hcz12_5
      try clear hcz12_6
      try clear hcz12_7
      try clear hcz14_0
      try clear hcz14_1
      try clear hcz14_2
      try clear hcz14_3
      try clear hcz14_4
      try clear hcz14_5
      try clear hcz14_6
      try clear hcz14_7
      try clear hcz15_0
      try clear hcz15_1
      try clear hcz15_2
      try clear hcz15_3
      try clear hcz15_4
      try clear hcz15_5
      try clear hcz15_6
      try clear hcz15_7
      try clear hcz17_0
      try clear hcz17_1
      try clear hcz17_2
      try clear hcz17_3
      try clear hcz17_4
      try clear hcz17_5
      try clear hcz17_6
      try clear hcz17_7
      try clear hcz18_0
      try clear hcz18_1
      try clear hcz18_2
      try clear hcz18_3
      try clear hcz18_4
      try clear hcz18_5
      try clear hcz18_6
      try clear hcz18_7
      try clear hcz23_0
      try clear hcz23_1
      try clear hcz23_2
      try clear hcz23_3
      try clear hcz23_4
      try clear hcz23_5
      try clear hcz23_6
      try clear hcz23_7
      try clear hcz25_0
      try clear hcz25_1
      try clear hcz25_2
      try clear hcz25_3
      try clear hcz25_4
      try clear hcz25_5
      try clear hcz25_6
      try clear hcz25_7
      try clear hcz9_0
      try clear hcz9_1
      try clear hcz9_2
      try clear hcz9_3
      try clear hcz9_4
      try clear hcz9_5
      try clear hcz9_6
      try clear hcz9_7
      try clear hfz11_0
      try clear hfz11_1
      try clear hfz11_2
      try clear hfz11_3
      try clear hfz11_4
      try clear hfz11_5
      try clear hfz11_6
      try clear hfz11_7
      try clear hfz12_0
      try clear hfz12_1
      try clear hfz12_2
      try clear hfz12_3
      try clear hfz12_4
      try clear hfz12_5
      try clear hfz12_6
      try clear hfz12_7
      try clear hfz14_0
      try clear hfz14_1
      try clear hfz14_2
      try clear hfz14_3
      try clear hfz14_4
      try clear hfz14_5
      try clear hfz14_6
      try clear hfz14_7
      try clear hfz15_0
      try clear hfz15_1
      try clear hfz15_2
      try clear hfz15_3
      try clear hfz15_4
      try clear hfz15_5
      try clear hfz15_6
      try clear hfz15_7
      try clear hfz17_0
      try clear hfz17_1
      try clear hfz17_2
      try clear hfz17_3
      try clear hfz17_4
      try clear hfz17_5
      try clear hfz17_6
      try clear hfz17_7
      try clear hfz18_0
      try clear hfz18_1
      try clear hfz18_2
      try clear hfz18_3
      try clear hfz18_4
      try clear hfz18_5
      try clear hfz18_6
      try clear hfz18_7
      try clear hfz23_0
      try clear hfz23_1
      try clear hfz23_2
      try clear hfz23_3
      try clear hfz23_4
      try clear hfz23_5
      try clear hfz23_6
      try clear hfz23_7
      try clear hfz25_0
      try clear hfz25_1
      try clear hfz25_2
      try clear hfz25_3
      try clear hfz25_4
      try clear hfz25_5
      try clear hfz25_6
      try clear hfz25_7
      try clear hfz9_0
      try clear hfz9_1
      try clear hfz9_2
      try clear hfz9_3
      try clear hfz9_4
      try clear hfz9_5
      try clear hfz9_6
      try clear hfz9_7
      try clear p2
      obtain ⟨x46_2, rfl, HA, HK2, BK223, HB⟩ := hrel
      cases gk with
      | zero => exact absurd HA.out (by simp [impl_ValidFetch.l0])
      | succ k2 =>
       have H := HA.out
       clear HA
       simp only [impl_ValidFetch.l0] at H
       by_cases c26 : x46_2 < (l0_7.length : Int)
       ·
        rw [if_pos c26] at H
        have c26b0 : decide (x46_2 < (l0_7.length : Int)) = true := decide_eq_true c26
        clear c26
        by_cases c27 : 0 ≤ x46_2
        ·
         rw [if_pos c27] at H
         have c27b0 : decide (0 ≤ x46_2) = true := decide_eq_true c27
         clear c27
         by_cases c28 : x46_2 < (l0_7.length : Int)
         ·
          rw [if_pos c28] at H
          have c28b0 : decide (x46_2 < (l0_7.length : Int)) = true := decide_eq_true c28
          clear c28
          have HC29 := Aside0.mk H
          clear H
          have p228 : 0 ≤ (x46_2 : Int) := Zz.od_
          have q228 : x46_2 < (l0_7.length : Int) := Zz.od_
          obtain ⟨ad228, A228_4, c228_4, e228, hx228_0, hx228_1, hx228_2, hx228_3, hx228_4, hl228_4, hi228_4⟩ := at_T112 HR0_7.out x46_2 p228 q228
          cases e228
          replace hx228_0 := (HB.out.cell (World.block_lt_of_cell? w _ hx228_0)).trans hx228_0
          replace hx228_1 := (HB.out.cell (World.block_lt_of_cell? w _ hx228_1)).trans hx228_1
          replace hx228_2 := (HB.out.cell (World.block_lt_of_cell? w _ hx228_2)).trans hx228_2
          replace hx228_3 := (HB.out.cell (World.block_lt_of_cell? w _ hx228_3)).trans hx228_3
          replace hx228_4 := (HB.out.cell (World.block_lt_of_cell? w _ hx228_4)).trans hx228_4
          have HR228_4 := Aside0.mk hi228_4
          have HC228_4 := Aside0.mk hl228_4
          clear hi228_4 hl228_4
          replace p228 := eq_true p228
          replace q228 := eq_true q228
          go_upto_region 10 with (first | ((with_reducible refine gate_dst (N := 7) rfl ?_); (try (refine gate_guard (by rfl) ?_; dsimp only)); refine box_event ?hg (N := 7) ?hd (cs := #[.int .i64 0, .int .i64 0, .int .i64 0, .string (⟨#[]⟩ : ByteArray), .slice none 0 0]) (t := 112) ?hr ?_; (case hd => rfl); (case hg => rfl); (case hr => first | (go_simp; done) | (go_simp; rfl)); intro gb229 hg w30 hbox hb; have n0_ := Aside0.mk (blk_below (g := gb223) (o := .cells #[.string a0_0, .int .i64 a0_1, .bool a0_2, .int .i64 a0_3, .int .i64 a0_4, .slice A0_5 l0_5.length c0_5, .slice A0_6 l0_6.length c0_6, .slice (some ad228) l0_7.length c0_7] 69 (0, 0)) (Zz.rb_ BK223.out) hb); have n1_ := Aside0.mk (below_step (Zz.rB_ HB.out) hb); have n2_ := Aside0.mk (hbox); have n3_ := Aside0.mk ((by rw [hg]; exact (below_size (Zz.rB_ HB.out)) : w.heap.size ≤ gb229)); have n4_ := Aside0.mk ((by rw [hg]; exact (below_size (Zz.rB_ HB.out)) : w.heap.size ≤ gb229)); have n5_ := Aside0.mk ((by rw [hg]; exact Nat.ne_of_lt (blk_lt (g := gb223) (o := .cells #[.string a0_0, .int .i64 a0_1, .bool a0_2, .int .i64 a0_3, .int .i64 a0_4, .slice A0_5 l0_5.length c0_5, .slice A0_6 l0_6.length c0_6, .slice (some ad228) l0_7.length c0_7] 69 (0, 0)) (Zz.rb_ BK223.out)) : gb223 ≠ gb229)); have n6_ := Aside0.mk ((by rw [hg]; exact Nat.ne_of_gt (blk_lt (g := gb223) (o := .cells #[.string a0_0, .int .i64 a0_1, .bool a0_2, .int .i64 a0_3, .int .i64 a0_4, .slice A0_5 l0_5.length c0_5, .slice A0_6 l0_6.length c0_6, .slice (some ad228) l0_7.length c0_7] 69 (0, 0)) (Zz.rb_ BK223.out)) : gb229 ≠ gb223)); clear BK223; clear HB; have BK223 := n0_; have HB := n1_; have BK229 := n2_; have GW229 := n3_; have GE229 := n4_; have NB223_229 := n5_; have NB229_223 := n6_; clear n0_ n1_ n2_ n3_ n4_ n5_ n6_; clear hb hbox hg; have hnb31 := NB229_223.out; have hnc31 := NB223_229.out; have hcz32_0 : w30.cell? ⟨gb229, 0, none⟩ = some (.int .i64 0) := (blk_cell BK229.out 0).trans rfl; have hcz32_1 : w30.cell? ⟨gb229, 1, none⟩ = some (.int .i64 0) := (blk_cell BK229.out 1).trans rfl; have hcz32_2 : w30.cell? ⟨gb229, 2, none⟩ = some (.int .i64 0) := (blk_cell BK229.out 2).trans rfl; have hcz32_3 : w30.cell? ⟨gb229, 3, none⟩ = some (.string (⟨#[]⟩ : ByteArray)) := (blk_cell BK229.out 3).trans rfl; have hcz32_4 : w30.cell? ⟨gb229, 4, none⟩ = some (.slice none 0 0) := (blk_cell BK229.out 4).trans rfl; have hfz32_0 := blk_frozen BK229.out 0; have hfz32_1 := blk_frozen BK229.out 1; have hfz32_2 := blk_frozen BK229.out 2; have hfz32_3 := blk_frozen BK229.out 3; have hfz32_4 := blk_frozen BK229.out 4))
          (try simp only [Act.put, List.setIfInBounds_toArray, List.set_cons_zero, List.set_cons_succ])
          go_cut [92] (fun v92 wc => ∃ (kq : Nat) (x92_28 : Bool), v92 = .bool x92_28 ∧ Aside0 (impl_ValidFetch.j2 kq a0_3 l0_7 (l0_7.length : Int) x46_2 x92_28 a0_0 a0_1 a0_2 a0_3 a0_4 l0_5 l0_6 l0_7 ((rd_T112 l0_7 x46_2).f0) ((rd_T112 l0_7 x46_2).f1) ((rd_T112 l0_7 x46_2).f2) ((rd_T112 l0_7 x46_2).f3) ((rd_T112 l0_7 x46_2).f4) = some r) ∧ Aside0 (kq ≤ k2) ∧ Aside0 (wc.heap[gb223]? = some (.cells #[.string a0_0, .int .i64 a0_1, .bool a0_2, .int .i64 a0_3, .int .i64 a0_4, (.slice A0_5 l0_5.length c0_5), (.slice A0_6 l0_6.length c0_6), (.slice (some ad228) l0_7.length c0_7)] 69 (0, 0))) ∧ Aside0 (wc.heap[gb229]? = some (.cells #[.int .i64 ((rd_T112 l0_7 x46_2).f0), .int .i64 ((rd_T112 l0_7 x46_2).f1), .int .i64 ((rd_T112 l0_7 x46_2).f2), .string ((rd_T112 l0_7 x46_2).f3), (.slice A228_4 ((rd_T112 l0_7 x46_2).f4).length c228_4)] 112 (0, 0))) ∧ Aside0 (Below w.heap.size w wc))
          case first =>
           have H := HC29.out
           clear HC29
           by_cases c33 : ((rd_T112 l0_7 x46_2).f0) < 0
           ·
            rw [if_pos c33] at H
            have c33b0 : decide (((rd_T112 l0_7 x46_2).f0) < 0) = true := decide_eq_true c33
            clear c33
            (first | rw [c33b0] | (simp only [i64_w, i32_w]; rw [c33b0]) | skip)
            have H' := Aside0.mk H
            clear H
            have hnb34 := NB229_223.out
            have hnc34 := NB223_229.out
            have hcz35_0 : w30.cell? ⟨gb229, 0, none⟩ = some (.int .i64 0) := (blk_cell BK229.out 0).trans rfl
            have hcz35_1 : w30.cell? ⟨gb229, 1, none⟩ = some (.int .i64 0) := (blk_cell BK229.out 1).trans rfl
            have hcz35_2 : w30.cell? ⟨gb229, 2, none⟩ = some (.int .i64 0) := (blk_cell BK229.out 2).trans rfl
            have hcz35_3 : w30.cell? ⟨gb229, 3, none⟩ = some (.string (⟨#[]⟩ : ByteArray)) := (blk_cell BK229.out 3).trans rfl
            have hcz35_4 : w30.cell? ⟨gb229, 4, none⟩ = some (.slice none 0 0) := (blk_cell BK229.out 4).trans rfl
            have hfz35_0 := blk_frozen BK229.out 0
            have hfz35_1 := blk_frozen BK229.out 1
            have hfz35_2 := blk_frozen BK229.out 2
            have hfz35_3 := blk_frozen BK229.out 3
            have hfz35_4 := blk_frozen BK229.out 4
            go_wp2
            go_meet
            case rel => exact ⟨_, (true), (by first | rfl | (simp; done) | (simp [*]; done)), H', ⟨by have := HJ1.out; have := HK2.out; first | omega | exact Nat.le_refl _⟩, ⟨by (with_reducible repeat (first | refine blk_drewN ?_ _ | refine blk_drew ?_ | refine blk_alloc ?_ _)); refine blk_far ?_ NB223_229.out _; (with_reducible repeat (first | refine blk_drewN ?_ _ | refine blk_drew ?_ | refine blk_alloc ?_ _)); refine blk_far ?_ NB223_229.out _; (with_reducible repeat (first | refine blk_drewN ?_ _ | refine blk_drew ?_ | refine blk_alloc ?_ _)); refine blk_far ?_ NB223_229.out _; (with_reducible repeat (first | refine blk_drewN ?_ _ | refine blk_drew ?_ | refine blk_alloc ?_ _)); refine blk_far ?_ NB223_229.out _; (with_reducible repeat (first | refine blk_drewN ?_ _ | refine blk_drew ?_ | refine blk_alloc ?_ _)); refine blk_far ?_ NB223_229.out _; (with_reducible repeat (first | refine blk_drewN ?_ _ | refine blk_drew ?_ | refine blk_alloc ?_ _)); exact BK223.out⟩, ⟨by (with_reducible repeat (first | refine blk_drewN ?_ _ | refine blk_drew ?_ | refine blk_alloc ?_ _)); refine blk_put (cs := #[.int .i64 ((rd_T112 l0_7 x46_2).f0), .int .i64 ((rd_T112 l0_7 x46_2).f1), .int .i64 ((rd_T112 l0_7 x46_2).f2), .string ((rd_T112 l0_7 x46_2).f3), .slice none 0 0]) ?_ 4 _ rfl; (with_reducible repeat (first | refine blk_drewN ?_ _ | refine blk_drew ?_ | refine blk_alloc ?_ _)); refine blk_put (cs := #[.int .i64 ((rd_T112 l0_7 x46_2).f0), .int .i64 ((rd_T112 l0_7 x46_2).f1), .int .i64 ((rd_T112 l0_7 x46_2).f2), .string (⟨#[]⟩ : ByteArray), .slice none 0 0]) ?_ 3 _ rfl; (with_reducible repeat (first | refine blk_drewN ?_ _ | refine blk_drew ?_ | refine blk_alloc ?_ _)); refine blk_put (cs := #[.int .i64 ((rd_T112 l0_7 x46_2).f0), .int .i64 ((rd_T112 l0_7 x46_2).f1), .int .i64 0, .string (⟨#[]⟩ : ByteArray), .slice none 0 0]) ?_ 2 _ rfl; (with_reducible repeat (first | refine blk_drewN ?_ _ | refine blk_drew ?_ | refine blk_alloc ?_ _)); refine blk_put (cs := #[.int .i64 ((rd_T112 l0_7 x46_2).f0), .int .i64 0, .int .i64 0, .string (⟨#[]⟩ : ByteArray), .slice none 0 0]) ?_ 1 _ rfl; (with_reducible repeat (first | refine blk_drewN ?_ _ | refine blk_drew ?_ | refine blk_alloc ?_ _)); refine blk_put (cs := #[.int .i64 0, .int .i64 0, .int .i64 0, .string (⟨#[]⟩ : ByteArray), .slice none 0 0]) ?_ 0 _ rfl; (with_reducible repeat (first | refine blk_drewN ?_ _ | refine blk_drew ?_ | refine blk_alloc ?_ _)); exact BK229.out⟩, ⟨Zz.rB_ HB.out⟩⟩
           ·
            rw [if_neg c33] at H
            have c33b0 : decide (((rd_T112 l0_7 x46_2).f0) < 0) = false := decide_eq_false c33
            clear c33
            (first | rw [c33b0] | (simp only [i64_w, i32_w]; rw [c33b0]) | skip)
            by_cases c36 : ((rd_T112 l0_7 x46_2).f0) > 3
            ·
             rw [if_pos c36] at H
             have c36b0 : decide (3 < ((rd_T112 l0_7 x46_2).f0)) = true := decide_eq_true c36
             clear c36
             have H' := Aside0.mk H
             clear H
             have hnb37 := NB229_223.out
             have hnc37 := NB223_229.out
             have hcz38_0 : w30.cell? ⟨gb229, 0, none⟩ = some (.int .i64 0) := (blk_cell BK229.out 0).trans rfl
             have hcz38_1 : w30.cell? ⟨gb229, 1, none⟩ = some (.int .i64 0) := (blk_cell BK229.out 1).trans rfl
             have hcz38_2 : w30.cell? ⟨gb229, 2, none⟩ = some (.int .i64 0) := (blk_cell BK229.out 2).trans rfl
             have hcz38_3 : w30.cell? ⟨gb229, 3, none⟩ = some (.string (⟨#[]⟩ : ByteArray)) := (blk_cell BK229.out 3).trans rfl
             have hcz38_4 : w30.cell? ⟨gb229, 4, none⟩ = some (.slice none 0 0) := (blk_cell BK229.out 4).trans rfl
             have hfz38_0 := blk_frozen BK229.out 0
             have hfz38_1 := blk_frozen BK229.out 1
             have hfz38_2 := blk_frozen BK229.out 2
             have hfz38_3 := blk_frozen BK229.out 3
             have hfz38_4 := blk_frozen BK229.out 4
             go_wp2
             go_meet
             case rel => exact ⟨_, (true), (by first | rfl | (simp; done) | (simp [*]; done)), H', ⟨by have := HJ1.out; have := HK2.out; first | omega | exact Nat.le_refl _⟩, ⟨by (with_reducible repeat (first | refine blk_drewN ?_ _ | refine blk_drew ?_ | refine blk_alloc ?_ _)); refine blk_far ?_ NB223_229.out _; (with_reducible repeat (first | refine blk_drewN ?_ _ | refine blk_drew ?_ | refine blk_alloc ?_ _)); refine blk_far ?_ NB223_229.out _; (with_reducible repeat (first | refine blk_drewN ?_ _ | refine blk_drew ?_ | refine blk_alloc ?_ _)); refine blk_far ?_ NB223_229.out _; (with_reducible repeat (first | refine blk_drewN ?_ _ | refine blk_drew ?_ | refine blk_alloc ?_ _)); refine blk_far ?_ NB223_229.out _; (with_reducible repeat (first | refine blk_drewN ?_ _ | refine blk_drew ?_ | refine blk_alloc ?_ _)); refine blk_far ?_ NB223_229.out _; (with_reducible repeat (first | refine blk_drewN ?_ _ | refine blk_drew ?_ | refine blk_alloc ?_ _)); exact BK223.out⟩, ⟨by (with_reducible repeat (first | refine blk_drewN ?_ _ | refine blk_drew ?_ | refine blk_alloc ?_ _)); refine blk_put (cs := #[.int .i64 ((rd_T112 l0_7 x46_2).f0), .int .i64 ((rd_T112 l0_7 x46_2).f1), .int .i64 ((rd_T112 l0_7 x46_2).f2), .string ((rd_T112 l0_7 x46_2).f3), .slice none 0 0]) ?_ 4 _ rfl; (with_reducible repeat (first | refine blk_drewN ?_ _ | refine blk_drew ?_ | refine blk_alloc ?_ _)); refine blk_put (cs := #[.int .i64 ((rd_T112 l0_7 x46_2).f0), .int .i64 ((rd_T112 l0_7 x46_2).f1), .int .i64 ((rd_T112 l0_7 x46_2).f2), .string (⟨#[]⟩ : ByteArray), .slice none 0 0]) ?_ 3 _ rfl; (with_reducible repeat (first | refine blk_drewN ?_ _ | refine blk_drew ?_ | refine blk_alloc ?_ _)); refine blk_put (cs := #[.int .i64 ((rd_T112 l0_7 x46_2).f0), .int .i64 ((rd_T112 l0_7 x46_2).f1), .int .i64 0, .string (⟨#[]⟩ : ByteArray), .slice none 0 0]) ?_ 2 _ rfl; (with_reducible repeat (first | refine blk_drewN ?_ _ | refine blk_drew ?_ | refine blk_alloc ?_ _)); refine blk_put (cs := #[.int .i64 ((rd_T112 l0_7 x46_2).f0), .int .i64 0, .int .i64 0, .string (⟨#[]⟩ : ByteArray), .slice none 0 0]) ?_ 1 _ rfl; (with_reducible repeat (first | refine blk_drewN ?_ _ | refine blk_drew ?_ | refine blk_alloc ?_ _)); refine blk_put (cs := #[.int .i64 0, .int .i64 0, .int .i64 0, .string (⟨#[]⟩ : ByteArray), .slice none 0 0]) ?_ 0 _ rfl; (with_reducible repeat (first | refine blk_drewN ?_ _ | refine blk_drew ?_ | refine blk_alloc ?_ _)); exact BK229.out⟩, ⟨Zz.rB_ HB.out⟩⟩
            ·
             rw [if_neg c36] at H
             have c36b0 : decide (3 < ((rd_T112 l0_7 x46_2).f0)) = false := decide_eq_false c36
             clear c36
             by_cases c39 : ((rd_T112 l0_7 x46_2).f1) < 0
             ·
              rw [if_pos c39] at H
              have c39b0 : decide (((rd_T112 l0_7 x46_2).f1) < 0) = true := decide_eq_true c39
              clear c39
              have H' := Aside0.mk H
              clear H
              have hnb40 := NB229_223.out
              have hnc40 := NB223_229.out
              have hcz41_0 : w30.cell? ⟨gb229, 0, none⟩ = some (.int .i64 0) := (blk_cell BK229.out 0).trans rfl
              have hcz41_1 : w30.cell? ⟨gb229, 1, none⟩ = some (.int .i64 0) := (blk_cell BK229.out 1).trans rfl
              have hcz41_2 : w30.cell? ⟨gb229, 2, none⟩ = some (.int .i64 0) := (blk_cell BK229.out 2).trans rfl
              have hcz41_3 : w30.cell? ⟨gb229, 3, none⟩ = some (.string (⟨#[]⟩ : ByteArray)) := (blk_cell BK229.out 3).trans rfl
              have hcz41_4 : w30.cell? ⟨gb229, 4, none⟩ = some (.slice none 0 0) := (blk_cell BK229.out 4).trans rfl
              have hfz41_0 := blk_frozen BK229.out 0
              have hfz41_1 := blk_frozen BK229.out 1
              have hfz41_2 := blk_frozen BK229.out 2
              have hfz41_3 := blk_frozen BK229.out 3
              have hfz41_4 := blk_frozen BK229.out 4
              go_wp2
              go_meet
              case rel => exact ⟨_, (true), (by first | rfl | (simp; done) | (simp [*]; done)), H', ⟨by have := HJ1.out; have := HK2.out; first | omega | exact Nat.le_refl _⟩, ⟨by (with_reducible repeat (first | refine blk_drewN ?_ _ | refine blk_drew ?_ | refine blk_alloc ?_ _)); refine blk_far ?_ NB223_229.out _; (with_reducible repeat (first | refine blk_drewN ?_ _ | refine blk_drew ?_ | refine blk_alloc ?_ _)); refine blk_far ?_ NB223_229.out _; (with_reducible repeat (first | refine blk_drewN ?_ _ | refine blk_drew ?_ | refine blk_alloc ?_ _)); refine blk_far ?_ NB223_229.out _; (with_reducible repeat (first | refine blk_drewN ?_ _ | refine blk_drew ?_ | refine blk_alloc ?_ _)); refine blk_far ?_ NB223_229.out _; (with_reducible repeat (first | refine blk_drewN ?_ _ | refine blk_drew ?_ | refine blk_alloc ?_ _)); refine blk_far ?_ NB223_229.out _; (with_reducible repeat (first | refine blk_drewN ?_ _ | refine blk_drew ?_ | refine blk_alloc ?_ _)); exact BK223.out⟩, ⟨by (with_reducible repeat (first | refine blk_drewN ?_ _ | refine blk_drew ?_ | refine blk_alloc ?_ _)); refine blk_put (cs := #[.int .i64 ((rd_T112 l0_7 x46_2).f0), .int .i64 ((rd_T112 l0_7 x46_2).f1), .int .i64 ((rd_T112 l0_7 x46_2).f2), .string ((rd_T112 l0_7 x46_2).f3), .slice none 0 0]) ?_ 4 _ rfl; (with_reducible repeat (first | refine blk_drewN ?_ _ | refine blk_drew ?_ | refine blk_alloc ?_ _)); refine blk_put (cs := #[.int .i64 ((rd_T112 l0_7 x46_2).f0), .int .i64 ((rd_T112 l0_7 x46_2).f1), .int .i64 ((rd_T112 l0_7 x46_2).f2), .string (⟨#[]⟩ : ByteArray), .slice none 0 0]) ?_ 3 _ rfl; (with_reducible repeat (first | refine blk_drewN ?_ _ | refine blk_drew ?_ | refine blk_alloc ?_ _)); refine blk_put (cs := #[.int .i64 ((rd_T112 l0_7 x46_2).f0), .int .i64 ((rd_T112 l0_7 x46_2).f1), .int .i64 0, .string (⟨#[]⟩ : ByteArray), .slice none 0 0]) ?_ 2 _ rfl; (with_reducible repeat (first | refine blk_drewN ?_ _ | refine blk_drew ?_ | refine blk_alloc ?_ _)); refine blk_put (cs := #[.int .i64 ((rd_T112 l0_7 x46_2).f0), .int .i64 0, .int .i64 0, .string (⟨#[]⟩ : ByteArray), .slice none 0 0]) ?_ 1 _ rfl; (with_reducible repeat (first | refine blk_drewN ?_ _ | refine blk_drew ?_ | refine blk_alloc ?_ _)); refine blk_put (cs := #[.int .i64 0, .int .i64 0, .int .i64 0, .string (⟨#[]⟩ : ByteArray), .slice none 0 0]) ?_ 0 _ rfl; (with_reducible repeat (first | refine blk_drewN ?_ _ | refine blk_drew ?_ | refine blk_alloc ?_ _)); exact BK229.out⟩, ⟨Zz.rB_ HB.out⟩⟩
             ·
              rw [if_neg c39] at H
              have c39b0 : decide (((rd_T112 l0_7 x46_2).f1) < 0) = false := decide_eq_false c39
              clear c39
              by_cases c42 : ((rd_T112 l0_7 x46_2).f1) > 5
              ·
               rw [if_pos c42] at H
               have c42b0 : decide (5 < ((rd_T112 l0_7 x46_2).f1)) = true := decide_eq_true c42
               clear c42
               have H' := Aside0.mk H
               clear H
               have hnb43 := NB229_223.out
               have hnc43 := NB223_229.out
               have hcz44_0 : w30.cell? ⟨gb229, 0, none⟩ = some (.int .i64 0) := (blk_cell BK229.out 0).trans rfl
               have hcz44_1 : w30.cell? ⟨gb229, 1, none⟩ = some (.int .i64 0) := (blk_cell BK229.out 1).trans rfl
               have hcz44_2 : w30.cell? ⟨gb229, 2, none⟩ = some (.int .i64 0) := (blk_cell BK229.out 2).trans rfl
               have hcz44_3 : w30.cell? ⟨gb229, 3, none⟩ = some (.string (⟨#[]⟩ : ByteArray)) := (blk_cell BK229.out 3).trans rfl
               have hcz44_4 : w30.cell? ⟨gb229, 4, none⟩ = some (.slice none 0 0) := (blk_cell BK229.out 4).trans rfl
               have hfz44_0 := blk_frozen BK229.out 0
               have hfz44_1 := blk_frozen BK229.out 1
               have hfz44_2 := blk_frozen BK229.out 2
               have hfz44_3 := blk_frozen BK229.out 3
               have hfz44_4 := blk_frozen BK229.out 4
               go_wp2
               go_meet
               case rel => exact ⟨_, (true), (by first | rfl | (simp; done) | (simp [*]; done)), H', ⟨by have := HJ1.out; have := HK2.out; first | omega | exact Nat.le_refl _⟩, ⟨by (with_reducible repeat (first | refine blk_drewN ?_ _ | refine blk_drew ?_ | refine blk_alloc ?_ _)); refine blk_far ?_ NB223_229.out _; (with_reducible repeat (first | refine blk_drewN ?_ _ | refine blk_drew ?_ | refine blk_alloc ?_ _)); refine blk_far ?_ NB223_229.out _; (with_reducible repeat (first | refine blk_drewN ?_ _ | refine blk_drew ?_ | refine blk_alloc ?_ _)); refine blk_far ?_ NB223_229.out _; (with_reducible repeat (first | refine blk_drewN ?_ _ | refine blk_drew ?_ | refine blk_alloc ?_ _)); refine blk_far ?_ NB223_229.out _; (with_reducible repeat (first | refine blk_drewN ?_ _ | refine blk_drew ?_ | refine blk_alloc ?_ _)); refine blk_far ?_ NB223_229.out _; (with_reducible repeat (first | refine blk_drewN ?_ _ | refine blk_drew ?_ | refine blk_alloc ?_ _)); exact BK223.out⟩, ⟨by (with_reducible repeat (first | refine blk_drewN ?_ _ | refine blk_drew ?_ | refine blk_alloc ?_ _)); refine blk_put (cs := #[.int .i64 ((rd_T112 l0_7 x46_2).f0), .int .i64 ((rd_T112 l0_7 x46_2).f1), .int .i64 ((rd_T112 l0_7 x46_2).f2), .string ((rd_T112 l0_7 x46_2).f3), .slice none 0 0]) ?_ 4 _ rfl; (with_reducible repeat (first | refine blk_drewN ?_ _ | refine blk_drew ?_ | refine blk_alloc ?_ _)); refine blk_put (cs := #[.int .i64 ((rd_T112 l0_7 x46_2).f0), .int .i64 ((rd_T112 l0_7 x46_2).f1), .int .i64 ((rd_T112 l0_7 x46_2).f2), .string (⟨#[]⟩ : ByteArray), .slice none 0 0]) ?_ 3 _ rfl; (with_reducible repeat (first | refine blk_drewN ?_ _ | refine blk_drew ?_ | refine blk_alloc ?_ _)); refine blk_put (cs := #[.int .i64 ((rd_T112 l0_7 x46_2).f0), .int .i64 ((rd_T112 l0_7 x46_2).f1), .int .i64 0, .string (⟨#[]⟩ : ByteArray), .slice none 0 0]) ?_ 2 _ rfl; (with_reducible repeat (first | refine blk_drewN ?_ _ | refine blk_drew ?_ | refine blk_alloc ?_ _)); refine blk_put (cs := #[.int .i64 ((rd_T112 l0_7 x46_2).f0), .int .i64 0, .int .i64 0, .string (⟨#[]⟩ : ByteArray), .slice none 0 0]) ?_ 1 _ rfl; (with_reducible repeat (first | refine blk_drewN ?_ _ | refine blk_drew ?_ | refine blk_alloc ?_ _)); refine blk_put (cs := #[.int .i64 0, .int .i64 0, .int .i64 0, .string (⟨#[]⟩ : ByteArray), .slice none 0 0]) ?_ 0 _ rfl; (with_reducible repeat (first | refine blk_drewN ?_ _ | refine blk_drew ?_ | refine blk_alloc ?_ _)); exact BK229.out⟩, ⟨Zz.rB_ HB.out⟩⟩
              ·
               rw [if_neg c42] at H
               have c42b0 : decide (5 < ((rd_T112 l0_7 x46_2).f1)) = false := decide_eq_false c42
               clear c42
               by_cases c45 : ((rd_T112 l0_7 x46_2).f2) < (-1)
               ·
                rw [if_pos c45] at H
                have c45b0 : decide (((rd_T112 l0_7 x46_2).f2) < (-1)) = true := decide_eq_true c45
                clear c45
                have H' := Aside0.mk H
                clear H
                have hnb46 := NB229_223.out
                have hnc46 := NB223_229.out
                have hcz47_0 : w30.cell? ⟨gb229, 0, none⟩ = some (.int .i64 0) := (blk_cell BK229.out 0).trans rfl
                have hcz47_1 : w30.cell? ⟨gb229, 1, none⟩ = some (.int .i64 0) := (blk_cell BK229.out 1).trans rfl
                have hcz47_2 : w30.cell? ⟨gb229, 2, none⟩ = some (.int .i64 0) := (blk_cell BK229.out 2).trans rfl
                have hcz47_3 : w30.cell? ⟨gb229, 3, none⟩ = some (.string (⟨#[]⟩ : ByteArray)) := (blk_cell BK229.out 3).trans rfl
                have hcz47_4 : w30.cell? ⟨gb229, 4, none⟩ = some (.slice none 0 0) := (blk_cell BK229.out 4).trans rfl
                have hfz47_0 := blk_frozen BK229.out 0
                have hfz47_1 := blk_frozen BK229.out 1
                have hfz47_2 := blk_frozen BK229.out 2
                have hfz47_3 := blk_frozen BK229.out 3
                have hfz47_4 := blk_frozen BK229.out 4
                go_wp2
                go_meet
                case rel => exact ⟨_, (true), (by first | rfl | (simp; done) | (simp [*]; done)), H', ⟨by have := HJ1.out; have := HK2.out; first | omega | exact Nat.le_refl _⟩, ⟨by (with_reducible repeat (first | refine blk_drewN ?_ _ | refine blk_drew ?_ | refine blk_alloc ?_ _)); refine blk_far ?_ NB223_229.out _; (with_reducible repeat (first | refine blk_drewN ?_ _ | refine blk_drew ?_ | refine blk_alloc ?_ _)); refine blk_far ?_ NB223_229.out _; (with_reducible repeat (first | refine blk_drewN ?_ _ | refine blk_drew ?_ | refine blk_alloc ?_ _)); refine blk_far ?_ NB223_229.out _; (with_reducible repeat (first | refine blk_drewN ?_ _ | refine blk_drew ?_ | refine blk_alloc ?_ _)); refine blk_far ?_ NB223_229.out _; (with_reducible repeat (first | refine blk_drewN ?_ _ | refine blk_drew ?_ | refine blk_alloc ?_ _)); refine blk_far ?_ NB223_229.out _; (with_reducible repeat (first | refine blk_drewN ?_ _ | refine blk_drew ?_ | refine blk_alloc ?_ _)); exact BK223.out⟩, ⟨by (with_reducible repeat (first | refine blk_drewN ?_ _ | refine blk_drew ?_ | refine blk_alloc ?_ _)); refine blk_put (cs := #[.int .i64 ((rd_T112 l0_7 x46_2).f0), .int .i64 ((rd_T112 l0_7 x46_2).f1), .int .i64 ((rd_T112 l0_7 x46_2).f2), .string ((rd_T112 l0_7 x46_2).f3), .slice none 0 0]) ?_ 4 _ rfl; (with_reducible repeat (first | refine blk_drewN ?_ _ | refine blk_drew ?_ | refine blk_alloc ?_ _)); refine blk_put (cs := #[.int .i64 ((rd_T112 l0_7 x46_2).f0), .int .i64 ((rd_T112 l0_7 x46_2).f1), .int .i64 ((rd_T112 l0_7 x46_2).f2), .string (⟨#[]⟩ : ByteArray), .slice none 0 0]) ?_ 3 _ rfl; (with_reducible repeat (first | refine blk_drewN ?_ _ | refine blk_drew ?_ | refine blk_alloc ?_ _)); refine blk_put (cs := #[.int .i64 ((rd_T112 l0_7 x46_2).f0), .int .i64 ((rd_T112 l0_7 x46_2).f1), .int .i64 0, .string (⟨#[]⟩ : ByteArray), .slice none 0 0]) ?_ 2 _ rfl; (with_reducible repeat (first | refine blk_drewN ?_ _ | refine blk_drew ?_ | refine blk_alloc ?_ _)); refine blk_put (cs := #[.int .i64 ((rd_T112 l0_7 x46_2).f0), .int .i64 0, .int .i64 0, .string (⟨#[]⟩ : ByteArray), .slice none 0 0]) ?_ 1 _ rfl; (with_reducible repeat (first | refine blk_drewN ?_ _ | refine blk_drew ?_ | refine blk_alloc ?_ _)); refine blk_put (cs := #[.int .i64 0, .int .i64 0, .int .i64 0, .string (⟨#[]⟩ : ByteArray), .slice none 0 0]) ?_ 0 _ rfl; (with_reducible repeat (first | refine blk_drewN ?_ _ | refine blk_drew ?_ | refine blk_alloc ?_ _)); exact BK229.out⟩, ⟨Zz.rB_ HB.out⟩⟩
               ·
                rw [if_neg c45] at H
                have c45b0 : decide (((rd_T112 l0_7 x46_2).f2) < (-1)) = false := decide_eq_false c45
                clear c45
                by_cases c48 : ((rd_T112 l0_7 x46_2).f2) > a0_1
                ·
                 rw [if_pos c48] at H
                 have c48b0 : decide (a0_1 < ((rd_T112 l0_7 x46_2).f2)) = true := decide_eq_true c48
                 clear c48
                 have H' := Aside0.mk H
                 clear H
                 have hnb49 := NB229_223.out
                 have hnc49 := NB223_229.out
                 have hcz50_0 : w30.cell? ⟨gb229, 0, none⟩ = some (.int .i64 0) := (blk_cell BK229.out 0).trans rfl
                 have hcz50_1 : w30.cell? ⟨gb229, 1, none⟩ = some (.int .i64 0) := (blk_cell BK229.out 1).trans rfl
                 have hcz50_2 : w30.cell? ⟨gb229, 2, none⟩ = some (.int .i64 0) := (blk_cell BK229.out 2).trans rfl
                 have hcz50_3 : w30.cell? ⟨gb229, 3, none⟩ = some (.string (⟨#[]⟩ : ByteArray)) := (blk_cell BK229.out 3).trans rfl
                 have hcz50_4 : w30.cell? ⟨gb229, 4, none⟩ = some (.slice none 0 0) := (blk_cell BK229.out 4).trans rfl
                 have hfz50_0 := blk_frozen BK229.out 0
                 have hfz50_1 := blk_frozen BK229.out 1
                 have hfz50_2 := blk_frozen BK229.out 2
                 have hfz50_3 := blk_frozen BK229.out 3
                 have hfz50_4 := blk_frozen BK229.out 4
                 have hcz51_0 : w30.cell? ⟨gb223, 0, none⟩ = some (.string a0_0) := (blk_cell BK223.out 0).trans rfl
                 have hcz51_1 : w30.cell? ⟨gb223, 1, none⟩ = some (.int .i64 a0_1) := (blk_cell BK223.out 1).trans rfl
                 have hcz51_2 : w30.cell? ⟨gb223, 2, none⟩ = some (.bool a0_2) := (blk_cell BK223.out 2).trans rfl
                 have hcz51_3 : w30.cell? ⟨gb223, 3, none⟩ = some (.int .i64 a0_3) := (blk_cell BK223.out 3).trans rfl
                 have hcz51_4 : w30.cell? ⟨gb223, 4, none⟩ = some (.int .i64 a0_4) := (blk_cell BK223.out 4).trans rfl
                 have hcz51_5 : w30.cell? ⟨gb223, 5, none⟩ = some (.slice A0_5 l0_5.length c0_5) := (blk_cell BK223.out 5).trans rfl
                 have hcz51_6 : w30.cell? ⟨gb223, 6, none⟩ = some (.slice A0_6 l0_6.length c0_6) := (blk_cell BK223.out 6).trans rfl
                 have hcz51_7 : w30.cell? ⟨gb223, 7, none⟩ = some (.slice (some ad228) l0_7.length c0_7) := (blk_cell BK223.out 7).trans rfl
                 have hfz51_0 := blk_frozen BK223.out 0
                 have hfz51_1 := blk_frozen BK223.out 1
                 have hfz51_2 := blk_frozen BK223.out 2
                 have hfz51_3 := blk_frozen BK223.out 3
                 have hfz51_4 := blk_frozen BK223.out 4
                 have hfz51_5 := blk_frozen BK223.out 5
                 have hfz51_6 := blk_frozen BK223.out 6
                 have hfz51_7 := blk_frozen BK223.out 7
                 go_wp2
                 go_meet
                 case rel => exact ⟨_, (true), (by first | rfl | (simp; done) | (simp [*]; done)), H', ⟨by have := HJ1.out; have := HK2.out; first | omega | exact Nat.le_refl _⟩, ⟨by (with_reducible repeat (first | refine blk_drewN ?_ _ | refine blk_drew ?_ | refine blk_alloc ?_ _)); refine blk_far ?_ NB223_229.out _; (with_reducible repeat (first | refine blk_drewN ?_ _ | refine blk_drew ?_ | refine blk_alloc ?_ _)); refine blk_far ?_ NB223_229.out _; (with_reducible repeat (first | refine blk_drewN ?_ _ | refine blk_drew ?_ | refine blk_alloc ?_ _)); refine blk_far ?_ NB223_229.out _; (with_reducible repeat (first | refine blk_drewN ?_ _ | refine blk_drew ?_ | refine blk_alloc ?_ _)); refine blk_far ?_ NB223_229.out _; (with_reducible repeat (first | refine blk_drewN ?_ _ | refine blk_drew ?_ | refine blk_alloc ?_ _)); refine blk_far ?_ NB223_229.out _; (with_reducible repeat (first | refine blk_drewN ?_ _ | refine blk_drew ?_ | refine blk_alloc ?_ _)); exact BK223.out⟩, ⟨by (with_reducible repeat (first | refine blk_drewN ?_ _ | refine blk_drew ?_ | refine blk_alloc ?_ _)); refine blk_put (cs := #[.int .i64 ((rd_T112 l0_7 x46_2).f0), .int .i64 ((rd_T112 l0_7 x46_2).f1), .int .i64 ((rd_T112 l0_7 x46_2).f2), .string ((rd_T112 l0_7 x46_2).f3), .slice none 0 0]) ?_ 4 _ rfl; (with_reducible repeat (first | refine blk_drewN ?_ _ | refine blk_drew ?_ | refine blk_alloc ?_ _)); refine blk_put (cs := #[.int .i64 ((rd_T112 l0_7 x46_2).f0), .int .i64 ((rd_T112 l0_7 x46_2).f1), .int .i64 ((rd_T112 l0_7 x46_2).f2), .string (⟨#[]⟩ : ByteArray), .slice none 0 0]) ?_ 3 _ rfl; (with_reducible repeat (first | refine blk_drewN ?_ _ | refine blk_drew ?_ | refine blk_alloc ?_ _)); refine blk_put (cs := #[.int .i64 ((rd_T112 l0_7 x46_2).f0), .int .i64 ((rd_T112 l0_7 x46_2).f1), .int .i64 0, .string (⟨#[]⟩ : ByteArray), .slice none 0 0]) ?_ 2 _ rfl; (with_reducible repeat (first | refine blk_drewN ?_ _ | refine blk_drew ?_ | refine blk_alloc ?_ _)); refine blk_put (cs := #[.int .i64 ((rd_T112 l0_7 x46_2).f0), .int .i64 0, .int .i64 0, .string (⟨#[]⟩ : ByteArray), .slice none 0 0]) ?_ 1 _ rfl; (with_reducible repeat (first | refine blk_drewN ?_ _ | refine blk_drew ?_ | refine blk_alloc ?_ _)); refine blk_put (cs := #[.int .i64 0, .int .i64 0, .int .i64 0, .string (⟨#[]⟩ : ByteArray), .slice none 0 0]) ?_ 0 _ rfl; (with_reducible repeat (first | refine blk_drewN ?_ _ | refine blk_drew ?_ | refine blk_alloc ?_ _)); exact BK229.out⟩, ⟨Zz.rB_ HB.out⟩⟩
                ·
                 rw [if_neg c48] at H
                 have c48b0 : decide (a0_1 < ((rd_T112 l0_7 x46_2).f2)) = false := decide_eq_false c48
                 clear c48
                 by_cases c52 : (((rd_T112 l0_7 x46_2).f4).length : Int) > 376
                 ·
                  rw [if_pos c52] at H
                  have c52b0 : decide (376 < (((rd_T112 l0_7 x46_2).f4).length : Int)) = true := decide_eq_true c52
                  have c52b1 : decide (376 < ((rd_T112 l0_7 x46_2).f4).length) = true := decide_eq_true (by omega)
                  clear c52
                  have H' := Aside0.mk H
                  clear H
                  have hnb53 := NB229_223.out
                  have hnc53 := NB223_229.out
                  have hcz54_0 : w30.cell? ⟨gb229, 0, none⟩ = some (.int .i64 0) := (blk_cell BK229.out 0).trans rfl
                  have hcz54_1 : w30.cell? ⟨gb229, 1, none⟩ = some (.int .i64 0) := (blk_cell BK229.out 1).trans rfl
                  have hcz54_2 : w30.cell? ⟨gb229, 2, none⟩ = some (.int .i64 0) := (blk_cell BK229.out 2).trans rfl
                  have hcz54_3 : w30.cell? ⟨gb229, 3, none⟩ = some (.string (⟨#[]⟩ : ByteArray)) := (blk_cell BK229.out 3).trans rfl
                  have hcz54_4 : w30.cell? ⟨gb229, 4, none⟩ = some (.slice none 0 0) := (blk_cell BK229.out 4).trans rfl
                  have hfz54_0 := blk_frozen BK229.out 0
                  have hfz54_1 := blk_frozen BK229.out 1
                  have hfz54_2 := blk_frozen BK229.out 2
                  have hfz54_3 := blk_frozen BK229.out 3
                  have hfz54_4 := blk_frozen BK229.out 4
                  have hcz55_0 : w30.cell? ⟨gb223, 0, none⟩ = some (.string a0_0) := (blk_cell BK223.out 0).trans rfl
                  have hcz55_1 : w30.cell? ⟨gb223, 1, none⟩ = some (.int .i64 a0_1) := (blk_cell BK223.out 1).trans rfl
                  have hcz55_2 : w30.cell? ⟨gb223, 2, none⟩ = some (.bool a0_2) := (blk_cell BK223.out 2).trans rfl
                  have hcz55_3 : w30.cell? ⟨gb223, 3, none⟩ = some (.int .i64 a0_3) := (blk_cell BK223.out 3).trans rfl
                  have hcz55_4 : w30.cell? ⟨gb223, 4, none⟩ = some (.int .i64 a0_4) := (blk_cell BK223.out 4).trans rfl
                  have hcz55_5 : w30.cell? ⟨gb223, 5, none⟩ = some (.slice A0_5 l0_5.length c0_5) := (blk_cell BK223.out 5).trans rfl
                  have hcz55_6 : w30.cell? ⟨gb223, 6, none⟩ = some (.slice A0_6 l0_6.length c0_6) := (blk_cell BK223.out 6).trans rfl
                  have hcz55_7 : w30.cell? ⟨gb223, 7, none⟩ = some (.slice (some ad228) l0_7.length c0_7) := (blk_cell BK223.out 7).trans rfl
                  have hfz55_0 := blk_frozen BK223.out 0
                  have hfz55_1 := blk_frozen BK223.out 1
                  have hfz55_2 := blk_frozen BK223.out 2
                  have hfz55_3 := blk_frozen BK223.out 3
                  have hfz55_4 := blk_frozen BK223.out 4
                  have hfz55_5 := blk_frozen BK223.out 5
                  have hfz55_6 := blk_frozen BK223.out 6
                  have hfz55_7 := blk_frozen BK223.out 7
                  go_wp2
                  go_meet
                  case rel => exact ⟨_, (true), (by first | rfl | (simp; done) | (simp [*]; done)), H', ⟨by have := HJ1.out; have := HK2.out; first | omega | exact Nat.le_refl _⟩, ⟨by (with_reducible repeat (first | refine blk_drewN ?_ _ | refine blk_drew ?_ | refine blk_alloc ?_ _)); refine blk_far ?_ NB223_229.out _; (with_reducible repeat (first | refine blk_drewN ?_ _ | refine blk_drew ?_ | refine blk_alloc ?_ _)); refine blk_far ?_ NB223_229.out _; (with_reducible repeat (first | refine blk_drewN ?_ _ | refine blk_drew ?_ | refine blk_alloc ?_ _)); refine blk_far ?_ NB223_229.out _; (with_reducible repeat (first | refine blk_drewN ?_ _ | refine blk_drew ?_ | refine blk_alloc ?_ _)); refine blk_far ?_ NB223_229.out _; (with_reducible repeat (first | refine blk_drewN ?_ _ | refine blk_drew ?_ | refine blk_alloc ?_ _)); refine blk_far ?_ NB223_229.out _; (with_reducible repeat (first | refine blk_drewN ?_ _ | refine blk_drew ?_ | refine blk_alloc ?_ _)); exact BK223.out⟩, ⟨by (with_reducible repeat (first | refine blk_drewN ?_ _ | refine blk_drew ?_ | refine blk_alloc ?_ _)); refine blk_put (cs := #[.int .i64 ((rd_T112 l0_7 x46_2).f0), .int .i64 ((rd_T112 l0_7 x46_2).f1), .int .i64 ((rd_T112 l0_7 x46_2).f2), .string ((rd_T112 l0_7 x46_2).f3), .slice none 0 0]) ?_ 4 _ rfl; (with_reducible repeat (first | refine blk_drewN ?_ _ | refine blk_drew ?_ | refine blk_alloc ?_ _)); refine blk_put (cs := #[.int .i64 ((rd_T112 l0_7 x46_2).f0), .int .i64 ((rd_T112 l0_7 x46_2).f1), .int .i64 ((rd_T112 l0_7 x46_2).f2), .string (⟨#[]⟩ : ByteArray), .slice none 0 0]) ?_ 3 _ rfl; (with_reducible repeat (first | refine blk_drewN ?_ _ | refine blk_drew ?_ | refine blk_alloc ?_ _)); refine blk_put (cs := #[.int .i64 ((rd_T112 l0_7 x46_2).f0), .int .i64 ((rd_T112 l0_7 x46_2).f1), .int .i64 0, .string (⟨#[]⟩ : ByteArray), .slice none 0 0]) ?_ 2 _ rfl; (with_reducible repeat (first | refine blk_drewN ?_ _ | refine blk_drew ?_ | refine blk_alloc ?_ _)); refine blk_put (cs := #[.int .i64 ((rd_T112 l0_7 x46_2).f0), .int .i64 0, .int .i64 0, .string (⟨#[]⟩ : ByteArray), .slice none 0 0]) ?_ 1 _ rfl; (with_reducible repeat (first | refine blk_drewN ?_ _ | refine blk_drew ?_ | refine blk_alloc ?_ _)); refine blk_put (cs := #[.int .i64 0, .int .i64 0, .int .i64 0, .string (⟨#[]⟩ : ByteArray), .slice none 0 0]) ?_ 0 _ rfl; (with_reducible repeat (first | refine blk_drewN ?_ _ | refine blk_drew ?_ | refine blk_alloc ?_ _)); exact BK229.out⟩, ⟨Zz.rB_ HB.out⟩⟩
                 ·
                  rw [if_neg c52] at H
                  have c52b0 : decide (376 < (((rd_T112 l0_7 x46_2).f4).length : Int)) = false := decide_eq_false c52
                  have c52b1 : decide (376 < ((rd_T112 l0_7 x46_2).f4).length) = false := decide_eq_false (by omega)
                  clear c52
                  replace H := Option.bind_eq_some_iff.mp H
                  obtain ⟨t230, A560, H⟩ := H
                  replace H : (impl_ValidFetch.j2 k2 a0_3 l0_7 (l0_7.length : Int) x46_2 (!t230) a0_0 a0_1 a0_2 a0_3 a0_4 l0_5 l0_6 l0_7 ((rd_T112 l0_7 x46_2).f0) ((rd_T112 l0_7 x46_2).f1) ((rd_T112 l0_7 x46_2).f2) ((rd_T112 l0_7 x46_2).f3) ((rd_T112 l0_7 x46_2).f4)) = some r := H
                  have A56 := Aside0.mk A560
                  clear A560
                  have H' := Aside0.mk H
                  clear H
                  have hnb57 := NB229_223.out
                  have hnc57 := NB223_229.out
                  have hcz58_0 : w30.cell? ⟨gb229, 0, none⟩ = some (.int .i64 0) := (blk_cell BK229.out 0).trans rfl
                  have hcz58_1 : w30.cell? ⟨gb229, 1, none⟩ = some (.int .i64 0) := (blk_cell BK229.out 1).trans rfl
                  have hcz58_2 : w30.cell? ⟨gb229, 2, none⟩ = some (.int .i64 0) := (blk_cell BK229.out 2).trans rfl
                  have hcz58_3 : w30.cell? ⟨gb229, 3, none⟩ = some (.string (⟨#[]⟩ : ByteArray)) := (blk_cell BK229.out 3).trans rfl
                  have hcz58_4 : w30.cell? ⟨gb229, 4, none⟩ = some (.slice none 0 0) := (blk_cell BK229.out 4).trans rfl
                  have hfz58_0 := blk_frozen BK229.out 0
                  have hfz58_1 := blk_frozen BK229.out 1
                  have hfz58_2 := blk_frozen BK229.out 2
                  have hfz58_3 := blk_frozen BK229.out 3
                  have hfz58_4 := blk_frozen BK229.out 4
                  have hcz59_0 : w30.cell? ⟨gb223, 0, none⟩ = some (.string a0_0) := (blk_cell BK223.out 0).trans rfl
                  have hcz59_1 : w30.cell? ⟨gb223, 1, none⟩ = some (.int .i64 a0_1) := (blk_cell BK223.out 1).trans rfl
                  have hcz59_2 : w30.cell? ⟨gb223, 2, none⟩ = some (.bool a0_2) := (blk_cell BK223.out 2).trans rfl
                  have hcz59_3 : w30.cell? ⟨gb223, 3, none⟩ = some (.int .i64 a0_3) := (blk_cell BK223.out 3).trans rfl
                  have hcz59_4 : w30.cell? ⟨gb223, 4, none⟩ = some (.int .i64 a0_4) := (blk_cell BK223.out 4).trans rfl
                  have hcz59_5 : w30.cell? ⟨gb223, 5, none⟩ = some (.slice A0_5 l0_5.length c0_5) := (blk_cell BK223.out 5).trans rfl
                  have hcz59_6 : w30.cell? ⟨gb223, 6, none⟩ = some (.slice A0_6 l0_6.length c0_6) := (blk_cell BK223.out 6).trans rfl
                  have hcz59_7 : w30.cell? ⟨gb223, 7, none⟩ = some (.slice (some ad228) l0_7.length c0_7) := (blk_cell BK223.out 7).trans rfl
                  have hfz59_0 := blk_frozen BK223.out 0
                  have hfz59_1 := blk_frozen BK223.out 1
                  have hfz59_2 := blk_frozen BK223.out 2
                  have hfz59_3 := blk_frozen BK223.out 3
                  have hfz59_4 := blk_frozen BK223.out 4
                  have hfz59_5 := blk_frozen BK223.out 5
                  have hfz59_6 := blk_frozen BK223.out 6
                  have hfz59_7 := blk_frozen BK223.out 7
                  go_wp2_with (first | (go_at_call 70; (with_reducible refine (impl_ascending.calls k2 _ _ ((rd_T112 l0_7 x46_2).f4) a0_3 t230 _ ?side1 ?side2 A56.out).mono ?_); (case side1 => exact Kd.C_below HR228_4.out (Zz.rB_ HB.out)); (case side2 => exact HC228_4.out); rintro e w' ⟨rfl, ⟨nd, rfl⟩⟩))
                  go_meet
                  case rel => exact ⟨_, (!t230), (by first | rfl | (simp; done) | (simp [*]; done)), H', ⟨by have := HJ1.out; have := HK2.out; first | omega | exact Nat.le_refl _⟩, ⟨by (with_reducible repeat (first | refine blk_drewN ?_ _ | refine blk_drew ?_ | refine blk_alloc ?_ _)); refine blk_far ?_ NB223_229.out _; (with_reducible repeat (first | refine blk_drewN ?_ _ | refine blk_drew ?_ | refine blk_alloc ?_ _)); refine blk_far ?_ NB223_229.out _; (with_reducible repeat (first | refine blk_drewN ?_ _ | refine blk_drew ?_ | refine blk_alloc ?_ _)); refine blk_far ?_ NB223_229.out _; (with_reducible repeat (first | refine blk_drewN ?_ _ | refine blk_drew ?_ | refine blk_alloc ?_ _)); refine blk_far ?_ NB223_229.out _; (with_reducible repeat (first | refine blk_drewN ?_ _ | refine blk_drew ?_ | refine blk_alloc ?_ _)); refine blk_far ?_ NB223_229.out _; (with_reducible repeat (first | refine blk_drewN ?_ _ | refine blk_drew ?_ | refine blk_alloc ?_ _)); exact BK223.out⟩, ⟨by (with_reducible repeat (first | refine blk_drewN ?_ _ | refine blk_drew ?_ | refine blk_alloc ?_ _)); refine blk_put (cs := #[.int .i64 ((rd_T112 l0_7 x46_2).f0), .int .i64 ((rd_T112 l0_7 x46_2).f1), .int .i64 ((rd_T112 l0_7 x46_2).f2), .string ((rd_T112 l0_7 x46_2).f3), .slice none 0 0]) ?_ 4 _ rfl; (with_reducible repeat (first | refine blk_drewN ?_ _ | refine blk_drew ?_ | refine blk_alloc ?_ _)); refine blk_put (cs := #[.int .i64 ((rd_T112 l0_7 x46_2).f0), .int .i64 ((rd_T112 l0_7 x46_2).f1), .int .i64 ((rd_T112 l0_7 x46_2).f2), .string (⟨#[]⟩ : ByteArray), .slice none 0 0]) ?_ 3 _ rfl; (with_reducible repeat (first | refine blk_drewN ?_ _ | refine blk_drew ?_ | refine blk_alloc ?_ _)); refine blk_put (cs := #[.int .i64 ((rd_T112 l0_7 x46_2).f0), .int .i64 ((rd_T112 l0_7 x46_2).f1), .int .i64 0, .string (⟨#[]⟩ : ByteArray), .slice none 0 0]) ?_ 2 _ rfl; (with_reducible repeat (first | refine blk_drewN ?_ _ | refine blk_drew ?_ | refine blk_alloc ?_ _)); refine blk_put (cs := #[.int .i64 ((rd_T112 l0_7 x46_2).f0), .int .i64 0, .int .i64 0, .string (⟨#[]⟩ : ByteArray), .slice none 0 0]) ?_ 1 _ rfl; (with_reducible repeat (first | refine blk_drewN ?_ _ | refine blk_drew ?_ | refine blk_alloc ?_ _)); refine blk_put (cs := #[.int .i64 0, .int .i64 0, .int .i64 0, .string (⟨#[]⟩ : ByteArray), .slice none 0 0]) ?_ 0 _ rfl; (with_reducible repeat (first | refine blk_drewN ?_ _ | refine blk_drew ?_ | refine blk_alloc ?_ _)); exact BK229.out⟩, ⟨Zz.rB_ HB.out⟩⟩
          case rest =>
           clear HC29
           try clear c2
           try clear p2
           try clear q2
           try clear hx2
           try clear c3
           try clear c4
           try clear c5
           try clear c7
           try clear c8
           try clear c8b0
           try clear c8b1
           try clear c9
           try clear c20
           try clear c21
           try clear c22
           try clear p22
           try clear q22
           try clear hx22
           try clear c26
           try clear c26b0
           try clear c27
           try clear c27b0
           try clear c28
           try clear c28b0
           try clear c31
           try clear c33
           try clear c33b0
           try clear c34
           try clear c36
           try clear c36b0
           try clear c37
           try clear c39
           try clear c39b0
           try clear c40
           try clear c42
           try clear c42b0
           try clear c43
           try clear c45
           try clear c45b0
           try clear c46
           try clear c48
           try clear c48b0
           try clear c49
           try clear c52
           try clear c52b0
           try clear c52b1
           try clear c53
           try clear c57
           try clear hcz11_0
           try clear hcz11_1
           try clear hcz11_2
           try clear hcz11_3
           try clear hcz11_4
           try clear hcz11_5
           try clear hcz11_6
           try clear hcz11_7
           try clear hcz12_0
           try clear hcz12_1
           try clear hcz12_2
           try clear hcz12_3
           try clear hcz12_4
           try clear hcz12_5
           try clear hcz12_6
           try clear hcz12_7
           try clear hcz14_0
           try clear hcz14_1
           try clear hcz14_2
           try clear hcz14_3
           try clear hcz14_4
           try clear hcz14_5
           try clear hcz14_6
           try clear hcz14_7
           try clear hcz15_0
           try clear hcz15_1
           try clear hcz15_2
           try clear hcz15_3
           try clear hcz15_4
           try clear hcz15_5
           try clear hcz15_6
           try clear hcz15_7
           try clear hcz17_0
           try clear hcz17_1
           try clear hcz17_2
           try clear hcz17_3
           try clear hcz17_4
           try clear hcz17_5
           try clear hcz17_6
           try clear hcz17_7
           try clear hcz18_0
           try clear hcz18_1
           try clear hcz18_2
           try clear hcz18_3
           try clear hcz18_4
           try clear hcz18_5
           try clear hcz18_6
           try clear hcz18_7
           try clear hcz23_0
           try clear hcz23_1
           try clear hcz23_2
           try clear hcz23_3
           try clear hcz23_4
           try clear hcz23_5
           try clear hcz23_6
           try clear hcz23_7
           try clear hcz25_0
           try clear hcz25_1
           try clear hcz25_2
           try clear hcz25_3
           try clear hcz25_4
           try clear hcz25_5
           try clear hcz25_6
           try clear hcz25_7
           try clear hcz32_0
           try clear hcz32_1
           try clear hcz32_2
           try clear hcz32_3
           try clear hcz32_4
           try clear hcz35_0
           try clear hcz35_1
           try clear hcz35_2
           try clear hcz35_3
           try clear hcz35_4
           try clear hcz38_0
           try clear hcz38_1
           try clear hcz38_2
           try clear hcz38_3
           try clear hcz38_4
           try clear hcz41_0
           try clear hcz41_1
           try clear hcz41_2
           try clear hcz41_3
           try clear hcz41_4
           try clear hcz44_0
           try clear hcz44_1
           try clear hcz44_2
           try clear hcz44_3
           try clear hcz44_4
           try clear hcz47_0
           try clear hcz47_1
           try clear hcz47_2
           try clear hcz47_3
           try clear hcz47_4
           try clear hcz50_0
           try clear hcz50_1
           try clear hcz50_2
           try clear hcz50_3
           try clear hcz50_4
           try clear hcz51_0
           try clear hcz51_1
           try clear hcz51_2
           try clear hcz51_3
           try clear hcz51_4
           try clear hcz51_5
           try clear hcz51_6
           try clear hcz51_7
           try clear hcz54_0
           try clear hcz54_1
           try clear hcz54_2
           try clear hcz54_3
           try clear hcz54_4
           try clear hcz55_0
           try clear hcz55_1
           try clear hcz55_2
           try clear hcz55_3
           try clear hcz55_4
           try clear hcz55_5
           try clear hcz55_6
           try clear hcz55_7
           try clear hcz58_0
           try clear hcz58_1
           try clear hcz58_2
           try clear hcz58_3
           try clear hcz58_4
           try clear hcz59_0
           try clear hcz59_1
           try clear hcz59_2
           try clear hcz59_3
           try clear hcz59_4
           try clear hcz59_5
           try clear hcz59_6
           try clear hcz59_7
           try clear hcz9_0
           try clear hcz9_1
           try clear hcz9_2
           try clear hcz9_3
           try clear hcz9_4
           try clear hcz9_5
           try clear hcz9_6
           try clear hcz9_7
           try clear hfz11_0
           try clear hfz11_1
           try clear hfz11_2
           try clear hfz11_3
           try clear hfz11_4
           try clear hfz11_5
           try clear hfz11_6
           try clear hfz11_7
           try clear hfz12_0
           try clear hfz12_1
           try clear hfz12_2
           try clear hfz12_3
           try clear hfz12_4
           try clear hfz12_5
           try clear hfz12_6
           try clear hfz12_7
           try clear hfz14_0
           try clear hfz14_1
           try clear hfz14_2
           try clear hfz14_3
           try clear hfz14_4
           try clear hfz14_5
           try clear hfz14_6
           try clear hfz14_7
           try clear hfz15_0
           try clear hfz15_1
           try clear hfz15_2
           try clear hfz15_3
           try clear hfz15_4
           try clear hfz15_5
           try clear hfz15_6
           try clear hfz15_7
           try clear hfz17_0
           try clear hfz17_1
           try clear hfz17_2
           try clear hfz17_3
           try clear hfz17_4
           try clear hfz17_5
           try clear hfz17_6
           try clear hfz17_7
           try clear hfz18_0
           try clear hfz18_1
           try clear hfz18_2
           try clear hfz18_3
           try clear hfz18_4
           try clear hfz18_5
           try clear hfz18_6
           try clear hfz18_7
           try clear hfz23_0
           try clear hfz23_1
           try clear hfz23_2
           try clear hfz23_3
           try clear hfz23_4
           try clear hfz23_5
           try clear hfz23_6
           try clear hfz23_7
           try clear hfz25_0
           try clear hfz25_1
           try clear hfz25_2
           try clear hfz25_3
           try clear hfz25_4
           try clear hfz25_5
           try clear hfz25_6
           try clear hfz25_7
           try clear hfz32_0
           try clear hfz32_1
           try clear hfz32_2
           try clear hfz32_3
           try clear hfz32_4
           try clear hfz35_0
           try clear hfz35_1
           try clear hfz35_2
           try clear hfz35_3
           try clear hfz35_4
           try clear hfz38_0
           try clear hfz38_1
           try clear hfz38_2
           try clear hfz38_3
           try clear hfz38_4
           try clear hfz41_0
           try clear hfz41_1
           try clear hfz41_2
           try clear hfz41_3
           try clear hfz41_4
           try clear hfz44_0
           try clear hfz44_1
           try clear hfz44_2
           try clear hfz44_3
           try clear hfz44_4
           try clear hfz47_0
           try clear hfz47_1
           try clear hfz47_2
           try clear hfz47_3
           try clear hfz47_4
           try clear hfz50_0
           try clear hfz50_1
           try clear hfz50_2
           try clear hfz50_3
           try clear hfz50_4
           try clear hfz51_0
           try clear hfz51_1
           try clear hfz51_2
           try clear hfz51_3
           try clear hfz51_4
           try clear hfz51_5
           try clear hfz51_6
           try clear hfz51_7
           try clear hfz54_0
           try clear hfz54_1
           try clear hfz54_2
           try clear hfz54_3
           try clear hfz54_4
           try clear hfz55_0
           try clear hfz55_1
           try clear hfz55_2
           try clear hfz55_3
           try clear hfz55_4
           try clear hfz55_5
           try clear hfz55_6
           try clear hfz55_7
           try clear hfz58_0
           try clear hfz58_1
           try clear hfz58_2
           try clear hfz58_3
           try clear hfz58_4
           try clear hfz59_0
           try clear hfz59_1
           try clear hfz59_2
           try clear hfz59_3
           try clear hfz59_4
           try clear hfz59_5
           try clear hfz59_6
           try clear hfz59_7
           try clear hfz9_0
           try clear hfz9_1
           try clear hfz9_2
           try clear hfz9_3
           try clear hfz9_4
           try clear hfz9_5
           try clear hfz9_6
           try clear hfz9_7
           try clear hx228_0
           try clear hx228_1
           try clear hx228_2
           try clear hx228_3
           try clear hx228_4
           try clear p2
           try clear p228
           try clear q228
           obtain ⟨kq, x92_28, rfl, HA, HJ28, BK223, BK229, HB⟩ := hcut
           cases kq with
           | zero => exact absurd HA.out (by simp [impl_ValidFetch.j2])
           | succ kj28 =>
            have H := HA.out
            clear HA
            simp only [impl_ValidFetch.j2] at H
            by_cases c60 : x92_28 = true
            ·
             subst c60
             have H1 : (some false) = some r := by rw [if_pos rfl] at H; exact H
             clear H
             have H := H1
             clear H1
             obtain rfl := Option.some.inj H
             go_wp2
             go_ret
             exact ⟨by first | rfl | (simp [errW_none, errW_some] <;> rfl) | (simp [*, errW_none, errW_some] <;> rfl), by repeat (first | (with_reducible first | exact HB.out | apply below_alloc | apply pw_below_drewN | apply below_drew1 | refine below_set ?_ GE223.out | refine below_set ?_ GE229.out) | exact HB.out)⟩
            ·
             replace c60 := Bool.eq_false_iff.mpr c60
             subst c60
             have H1 : (if ((rd_T112 l0_7 x46_2).f1) = 0 then (if ((rd_T112 l0_7 x46_2).f3).toList = ([] : List UInt8) then (impl_ValidFetch.l0 kj28 a0_3 l0_7 (l0_7.length : Int) (wrap64 (x46_2 + 1)) a0_0 a0_1 a0_2 a0_3 a0_4 l0_5 l0_6 l0_7) else (some false)) else (if (((rd_T112 l0_7 x46_2).f3).size : Int) = a0_3 then (impl_ValidFetch.l0 kj28 a0_3 l0_7 (l0_7.length : Int) (wrap64 (x46_2 + 1)) a0_0 a0_1 a0_2 a0_3 a0_4 l0_5 l0_6 l0_7) else (some false))) = some r := by rw [if_neg (show ¬ (false = true) by decide)] at H; exact H
             clear H
             have H := H1
             clear H1
             by_cases c61 : ((rd_T112 l0_7 x46_2).f1) = 0
             ·
              rw [if_pos c61] at H
              have c61b0 : (((rd_T112 l0_7 x46_2).f1) == 0) = true := beq_iff_eq.mpr c61
              have c61b1 : (((rd_T112 l0_7 x46_2).f1) != 0) = false := bne_eq_false_iff_eq.mpr c61
              clear c61
              by_cases c62 : ((rd_T112 l0_7 x46_2).f3).toList = ([] : List UInt8)
              ·
               rw [if_pos c62] at H
               have c62b0 : (((rd_T112 l0_7 x46_2).f3).toList == ([] : List UInt8)) = true := beq_iff_eq.mpr c62
               have c62b1 : (((rd_T112 l0_7 x46_2).f3).toList != ([] : List UInt8)) = false := bne_eq_false_iff_eq.mpr c62
               clear c62
               have H' := Aside0.mk H
               clear H
               have hnb63 := NB229_223.out
               have hnc63 := NB223_229.out
               have hcz64_0 : wc.cell? ⟨gb229, 0, none⟩ = some (.int .i64 ((rd_T112 l0_7 x46_2).f0)) := (blk_cell BK229.out 0).trans rfl
               have hcz64_1 : wc.cell? ⟨gb229, 1, none⟩ = some (.int .i64 ((rd_T112 l0_7 x46_2).f1)) := (blk_cell BK229.out 1).trans rfl
               have hcz64_2 : wc.cell? ⟨gb229, 2, none⟩ = some (.int .i64 ((rd_T112 l0_7 x46_2).f2)) := (blk_cell BK229.out 2).trans rfl
               have hcz64_3 : wc.cell? ⟨gb229, 3, none⟩ = some (.string ((rd_T112 l0_7 x46_2).f3)) := (blk_cell BK229.out 3).trans rfl
               have hcz64_4 : wc.cell? ⟨gb229, 4, none⟩ = some (.slice A228_4 ((rd_T112 l0_7 x46_2).f4).length c228_4) := (blk_cell BK229.out 4).trans rfl
               have hfz64_0 := blk_frozen BK229.out 0
               have hfz64_1 := blk_frozen BK229.out 1
               have hfz64_2 := blk_frozen BK229.out 2
               have hfz64_3 := blk_frozen BK229.out 3
               have hfz64_4 := blk_frozen BK229.out 4
               go_wp2
               go_roundg kj28
               case measure => have := HJ1.out; have := HK2.out; have := HJ28.out; omega
               case rel => exact ⟨(wrap64 (x46_2 + 1)), (by first | rfl | (simp; done) | (simp [*]; done)), H', ⟨by have := HJ1.out; have := HK2.out; have := HJ28.out; omega⟩, ⟨Zz.rb_ BK223.out⟩, ⟨Zz.rB_ HB.out⟩⟩
              ·
               rw [if_neg c62] at H
               have c62b0 : (((rd_T112 l0_7 x46_2).f3).toList == ([] : List UInt8)) = false := beq_eq_false_iff_ne.mpr c62
               have c62b1 : (((rd_T112 l0_7 x46_2).f3).toList != ([] : List UInt8)) = true := bne_iff_ne.mpr c62
               obtain rfl := Option.some.inj H
               have hnb65 := NB229_223.out
               have hnc65 := NB223_229.out
               have hcz66_0 : wc.cell? ⟨gb229, 0, none⟩ = some (.int .i64 ((rd_T112 l0_7 x46_2).f0)) := (blk_cell BK229.out 0).trans rfl
               have hcz66_1 : wc.cell? ⟨gb229, 1, none⟩ = some (.int .i64 ((rd_T112 l0_7 x46_2).f1)) := (blk_cell BK229.out 1).trans rfl
               have hcz66_2 : wc.cell? ⟨gb229, 2, none⟩ = some (.int .i64 ((rd_T112 l0_7 x46_2).f2)) := (blk_cell BK229.out 2).trans rfl
               have hcz66_3 : wc.cell? ⟨gb229, 3, none⟩ = some (.string ((rd_T112 l0_7 x46_2).f3)) := (blk_cell BK229.out 3).trans rfl
               have hcz66_4 : wc.cell? ⟨gb229, 4, none⟩ = some (.slice A228_4 ((rd_T112 l0_7 x46_2).f4).length c228_4) := (blk_cell BK229.out 4).trans rfl
               have hfz66_0 := blk_frozen BK229.out 0
               have hfz66_1 := blk_frozen BK229.out 1
               have hfz66_2 := blk_frozen BK229.out 2
               have hfz66_3 := blk_frozen BK229.out 3
               have hfz66_4 := blk_frozen BK229.out 4
               go_wp2
               go_ret
               exact ⟨by first | rfl | (simp [errW_none, errW_some] <;> rfl) | (simp [*, errW_none, errW_some] <;> rfl), by repeat (first | (with_reducible first | exact HB.out | apply below_alloc | apply pw_below_drewN | apply below_drew1 | refine below_set ?_ GE223.out | refine below_set ?_ GE229.out) | exact HB.out)⟩
             ·
              rw [if_neg c61] at H
              have c61b0 : (((rd_T112 l0_7 x46_2).f1) == 0) = false := beq_eq_false_iff_ne.mpr c61
              have c61b1 : (((rd_T112 l0_7 x46_2).f1) != 0) = true := bne_iff_ne.mpr c61
              by_cases c67 : (((rd_T112 l0_7 x46_2).f3).size : Int) = a0_3
              ·
               rw [if_pos c67] at H
               have c67b0 : ((((rd_T112 l0_7 x46_2).f3).size : Int) == a0_3) = true := beq_iff_eq.mpr c67
               have c67b1 : ((((rd_T112 l0_7 x46_2).f3).size : Int) != a0_3) = false := bne_eq_false_iff_eq.mpr c67
               clear c67
               have H' := Aside0.mk H
               clear H
               have hnb68 := NB229_223.out
               have hnc68 := NB223_229.out
               have hcz69_0 : wc.cell? ⟨gb229, 0, none⟩ = some (.int .i64 ((rd_T112 l0_7 x46_2).f0)) := (blk_cell BK229.out 0).trans rfl
               have hcz69_1 : wc.cell? ⟨gb229, 1, none⟩ = some (.int .i64 ((rd_T112 l0_7 x46_2).f1)) := (blk_cell BK229.out 1).trans rfl
               have hcz69_2 : wc.cell? ⟨gb229, 2, none⟩ = some (.int .i64 ((rd_T112 l0_7 x46_2).f2)) := (blk_cell BK229.out 2).trans rfl
               have hcz69_3 : wc.cell? ⟨gb229, 3, none⟩ = some (.string ((rd_T112 l0_7 x46_2).f3)) := (blk_cell BK229.out 3).trans rfl
               have hcz69_4 : wc.cell? ⟨gb229, 4, none⟩ = some (.slice A228_4 ((rd_T112 l0_7 x46_2).f4).length c228_4) := (blk_cell BK229.out 4).trans rfl
               have hfz69_0 := blk_frozen BK229.out 0
               have hfz69_1 := blk_frozen BK229.out 1
               have hfz69_2 := blk_frozen BK229.out 2
               have hfz69_3 := blk_frozen BK229.out 3
               have hfz69_4 := blk_frozen BK229.out 4
               go_wp2
               go_roundg kj28
               case measure => have := HJ1.out; have := HK2.out; have := HJ28.out; omega
               case rel => exact ⟨(wrap64 (x46_2 + 1)), (by first | rfl | (simp; done) | (simp [*]; done)), H', ⟨by have := HJ1.out; have := HK2.out; have := HJ28.out; omega⟩, ⟨Zz.rb_ BK223.out⟩, ⟨Zz.rB_ HB.out⟩⟩
              ·
               rw [if_neg c67] at H
               have c67b0 : ((((rd_T112 l0_7 x46_2).f3).size : Int) == a0_3) = false := beq_eq_false_iff_ne.mpr c67
               have c67b1 : ((((rd_T112 l0_7 x46_2).f3).size : Int) != a0_3) = true := bne_iff_ne.mpr c67
               obtain rfl := Option.some.inj H
               have hnb70 := NB229_223.out
               have hnc70 := NB223_229.out
               have hcz71_0 : wc.cell? ⟨gb229, 0, none⟩ = some (.int .i64 ((rd_T112 l0_7 x46_2).f0)) := (blk_cell BK229.out 0).trans rfl
               have hcz71_1 : wc.cell? ⟨gb229, 1, none⟩ = some (.int .i64 ((rd_T112 l0_7 x46_2).f1)) := (blk_cell BK229.out 1).trans rfl
               have hcz71_2 : wc.cell? ⟨gb229, 2, none⟩ = some (.int .i64 ((rd_T112 l0_7 x46_2).f2)) := (blk_cell BK229.out 2).trans rfl
               have hcz71_3 : wc.cell? ⟨gb229, 3, none⟩ = some (.string ((rd_T112 l0_7 x46_2).f3)) := (blk_cell BK229.out 3).trans rfl
               have hcz71_4 : wc.cell? ⟨gb229, 4, none⟩ = some (.slice A228_4 ((rd_T112 l0_7 x46_2).f4).length c228_4) := (blk_cell BK229.out 4).trans rfl
               have hfz71_0 := blk_frozen BK229.out 0
               have hfz71_1 := blk_frozen BK229.out 1
               have hfz71_2 := blk_frozen BK229.out 2
               have hfz71_3 := blk_frozen BK229.out 3
               have hfz71_4 := blk_frozen BK229.out 4
               go_wp2
               go_ret
               exact ⟨by first | rfl | (simp [errW_none, errW_some] <;> rfl) | (simp [*, errW_none, errW_some] <;> rfl), by repeat (first | (with_reducible first | exact HB.out | apply below_alloc | apply pw_below_drewN | apply below_drew1 | refine below_set ?_ GE223.out | refine below_set ?_ GE229.out) | exact HB.out)⟩
         ·
          rw [if_neg c28] at H
          exact absurd H (by simp)
        ·
         rw [if_neg c27] at H
         exact absurd H (by simp)
       ·
        rw [if_neg c26] at H
        have c26b0 : decide (x46_2 < (l0_7.length : Int)) = false := decide_eq_false c26
        clear c26
        obtain rfl := Option.some.inj H
        go_wp2
        go_ret
        exact ⟨by first | rfl | (simp [errW_none, errW_some] <;> rfl) | (simp [*, errW_none, errW_some] <;> rfl), by repeat (first | (with_reducible first | exact HB.out | apply below_alloc | apply pw_below_drewN | apply below_drew1 | refine below_set ?_ GE223.out) | exact HB.out)⟩
    ·
     replace c22 := Bool.eq_false_iff.mpr c22
     subst c22
     have H1 : (some false) = some r := by rw [if_neg (show ¬ (false = true) by decide)] at H; exact H
     clear H
     have H := H1
     clear H1
     obtain rfl := Option.some.inj H
     have hcz72_0 : wc.cell? ⟨gb223, 0, none⟩ = some (.string a0_0) := (blk_cell BK223.out 0).trans rfl
     have hcz72_1 : wc.cell? ⟨gb223, 1, none⟩ = some (.int .i64 a0_1) := (blk_cell BK223.out 1).trans rfl
     have hcz72_2 : wc.cell? ⟨gb223, 2, none⟩ = some (.bool a0_2) := (blk_cell BK223.out 2).trans rfl
     have hcz72_3 : wc.cell? ⟨gb223, 3, none⟩ = some (.int .i64 a0_3) := (blk_cell BK223.out 3).trans rfl
     have hcz72_4 : wc.cell? ⟨gb223, 4, none⟩ = some (.int .i64 a0_4) := (blk_cell BK223.out 4).trans rfl
     have hcz72_5 : wc.cell? ⟨gb223, 5, none⟩ = some (.slice A0_5 l0_5.length c0_5) := (blk_cell BK223.out 5).trans rfl
     have hcz72_6 : wc.cell? ⟨gb223, 6, none⟩ = some (.slice A0_6 l0_6.length c0_6) := (blk_cell BK223.out 6).trans rfl
     have hcz72_7 : wc.cell? ⟨gb223, 7, none⟩ = some (.slice A0_7 l0_7.length c0_7) := (blk_cell BK223.out 7).trans rfl
     have hfz72_0 := blk_frozen BK223.out 0
     have hfz72_1 := blk_frozen BK223.out 1
     have hfz72_2 := blk_frozen BK223.out 2
     have hfz72_3 := blk_frozen BK223.out 3
     have hfz72_4 := blk_frozen BK223.out 4
     have hfz72_5 := blk_frozen BK223.out 5
     have hfz72_6 := blk_frozen BK223.out 6
     have hfz72_7 := blk_frozen BK223.out 7
     go_wp2_with (first | ((with_reducible refine gate_callee (f := 91) rfl ?_); refine goesL_ (some 35) rfl rfl Try.func91 (by kernel_rfl) rfl #[.agg #[.int .i64 a0_3, .int .i64 a0_4, .slice A0_5 l0_5.length c0_5, .slice A0_6 l0_6.length c0_6], .string a0_0] rfl (by (try simp only [List.map_toArray, List.map_cons, List.map_nil]); first | done | rfl | (simp only [List.length_drop, List.length_take]; rfl)) ?_; (with_reducible refine (impl_pinned.calls a0_3 a0_4 _ _ l0_5 _ _ l0_6 a0_0 t226 false _ ?side1 ?side2 ?side3 ?side4 A21.out).mono ?_); (case side1 => repeat (first | exact (Kd.C_below HR0_5.out HB.out) | (with_reducible refine Kd.C_alloc ?_ _) | (with_reducible refine Kd.C_drewN ?_ _) | (with_reducible refine Kd.C_drew ?_))); (case side2 => exact HC0_5.out); (case side3 => repeat (first | exact (Kd.C_below HR0_6.out HB.out) | (with_reducible refine Kd.C_alloc ?_ _) | (with_reducible refine Kd.C_drewN ?_ _) | (with_reducible refine Kd.C_drew ?_))); (case side4 => exact HC0_6.out); rintro e w73 ⟨rfl, hb⟩; refine ⟨_, rfl, ?_⟩; have n0_ := Aside0.mk (blk_below (g := gb223) (o := .cells #[.string a0_0, .int .i64 a0_1, .bool a0_2, .int .i64 a0_3, .int .i64 a0_4, .slice A0_5 l0_5.length c0_5, .slice A0_6 l0_6.length c0_6, .slice A0_7 l0_7.length c0_7] 69 (0, 0)) (Zz.rb_ BK223.out) hb); have n1_ := Aside0.mk (below_step (Zz.rB_ HB.out) hb); clear BK223; clear HB; have BK223 := n0_; have HB := n1_; clear n0_ n1_; (try clear hb); (try clear hb2); (try clear hk); (try clear hi)))
     go_ret
     exact ⟨by first | rfl | (simp [errW_none, errW_some] <;> rfl) | (simp [*, errW_none, errW_some] <;> rfl), by repeat (first | (with_reducible first | exact HB.out | apply below_alloc | apply pw_below_drewN | apply below_drew1 | refine below_set ?_ GE223.out) | exact HB.out)⟩

end Go.Proofs.Ytbhkinfdilngiaa.PFnExactValidFetch

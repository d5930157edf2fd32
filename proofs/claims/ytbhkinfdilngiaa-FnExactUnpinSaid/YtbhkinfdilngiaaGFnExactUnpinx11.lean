-- Walks of printed functions (by wip/gen.py of this session, with the kit's program).
import Derived.Test.YtbhkinfdilngiaaGFnExactUnpinx0
import Derived.Test.YtbhkinfdilngiaaGFnExactUnpinx1
import Derived.Test.YtbhkinfdilngiaaGFnExactUnpinx2
import Derived.Test.YtbhkinfdilngiaaGFnExactUnpinx3
import Derived.Test.YtbhkinfdilngiaaGFnExactUnpinx4
import Derived.Test.YtbhkinfdilngiaaGFnExactUnpinx7
import Derived.Test.YtbhkinfdilngiaaGFnExactUnpinx10
namespace Go.Proofs.Ytbhkinfdilngiaa.PFnExactUnpin
open Go.RowKit Go.Proofs.YtbhkinfdilngiaaW.PrintWords Go.Proofs.YtbhkinfdilngiaaW.PrintLast Go.Proofs.YtbhkinfdilngiaaW.PrintMore
attribute [local go_sem] max2_int min2_int max_two min_two max_three min_three max_four min_four   -- for this text's walks alone
attribute [local go_sem] Go.Proofs.Ytbhkinfdilngiaa.L.str_geq
set_option linter.unusedVariables false
set_option linter.unusedSimpArgs false

/-! ### laws_FnExactUnpin: function 8 -/
mutual
def laws_FnExactUnpin.j0 : Nat → ByteArray → Int → Int → Bool → Int → Int → List (S123) → List ByteArray → Int → Int → List (S92) → List ByteArray → Int → Int → List (S92) → List ByteArray → Int → Int → List (S92) → List ByteArray → Option (Bool)
 | 0, _, _, _, _, _, _, _, _, _, _, _, _, _, _, _, _, _, _, _, _ => none
 | k + 1, x1, x7, x10, x47, x270000, x270001, x270002, x270003, x289000, x289001, x289002, x289003, x298000, x298001, x298002, x298003, x308000, x308001, x308002, x308003 => if x47 = true then (some false) else ((laws_toStore.f k x270000 x270001 x270002 x270003).bind fun bt309 => ((laws_eqStore.f k x298000 x298001 x298002 x298003 bt309.1 bt309.2.1 bt309.2.2.1 bt309.2.2.2).bind fun t317 => (if t317 = true then ((laws_markStore.f k x298000 x298001 x298002 x298003 1).bind fun bt318 => (if bt318.1 < 0 then (laws_FnExactUnpin.j1 k x1 x7 true x270000 x270001 x270002 x270003 x289000 x289001 x289002 x289003 x308000 x308001 x308002 x308003) else ((laws_eqStore.f k x308000 x308001 x308002 x308003 x289000 x289001 x289002 x289003).bind fun t321 => (if t321 = true then (laws_FnExactUnpin.j1 k x1 x7 (x10 != x7) x270000 x270001 x270002 x270003 x289000 x289001 x289002 x289003 x308000 x308001 x308002 x308003) else (laws_FnExactUnpin.j1 k x1 x7 true x270000 x270001 x270002 x270003 x289000 x289001 x289002 x289003 x308000 x308001 x308002 x308003))))) else (some false))))
def laws_FnExactUnpin.j1 : Nat → ByteArray → Int → Bool → Int → Int → List (S123) → List ByteArray → Int → Int → List (S92) → List ByteArray → Int → Int → List (S92) → List ByteArray → Option (Bool)
 | 0, _, _, _, _, _, _, _, _, _, _, _, _, _, _, _ => none
 | k + 1, x1, x7, x68, x270000, x270001, x270002, x270003, x289000, x289001, x289002, x289003, x308000, x308001, x308002, x308003 => if x68 = true then (some false) else ((laws_markStore.f k x308000 x308001 x308002 x308003 1).bind fun bt322 => ((laws_heldStore.f k x308000 x308001 bt322.2.1 bt322.2.2 1).bind fun t325 => (if t325 < 0 then (some false) else (if t325 = bt322.1 then ((laws_toStore.f k x270000 x270001 x270002 x270003).bind fun bt326 => ((impl_Unpin.f k bt326.1 bt326.2.1 bt326.2.2.1 bt326.2.2.2 x1).bind fun bt334 => ((laws_eqStore.f k bt334.1 bt334.2.1 bt334.2.2.1 bt334.2.2.2.1 x289000 x289001 x289002 x289003).bind fun t344 => (if t344 = true then (laws_FnExactUnpin.j2 k bt322.1 (bt334.2.2.2.2 != x7) x308000 x308001 bt322.2.1 bt322.2.2) else (laws_FnExactUnpin.j2 k bt322.1 true x308000 x308001 bt322.2.1 bt322.2.2))))) else (some false)))))
def laws_FnExactUnpin.j2 : Nat → Int → Bool → Int → Int → List (S92) → List ByteArray → Option (Bool)
 | 0, _, _, _, _, _, _ => none
 | k + 1, x12, x95, x308000, x308001, x308002, x308003 => if x95 = true then (some false) else ((laws_heldStore.f k x308000 x308001 x308002 x308003 1).bind fun t345 => (if t345 < 0 then (some false) else (if t345 = x12 then (some true) else (some false))))
end
def laws_FnExactUnpin.f (k : Nat) (a0_0 : Int) (a0_1 : Int) (l0_2 : List (S123)) (l0_3 : List ByteArray) (a1 : ByteArray) : Option (Bool) := if (a1.size : Int) > 1048576 then (some true) else ((laws_szStore.f k a0_0 a0_1 l0_2 l0_3 1048576).bind fun t270 => (if t270 < 0 then (some true) else ((laws_toStore.f k a0_0 a0_1 l0_2 l0_3).bind fun bt271 => ((spec_Unpin.f k bt271.1 bt271.2.1 bt271.2.2.1 bt271.2.2.2 a1).bind fun bt279 => ((laws_toStore.f k a0_0 a0_1 l0_2 l0_3).bind fun bt289 => ((impl_Unpin.f k bt289.1 bt289.2.1 bt289.2.2.1 bt289.2.2.2 a1).bind fun bt298 => ((laws_eqStore.f k bt298.1 bt298.2.1 bt298.2.2.1 bt298.2.2.2.1 bt279.1 bt279.2.1 bt279.2.2.1 bt279.2.2.2.1).bind fun t308 => (if t308 = true then (laws_FnExactUnpin.j0 k a1 bt279.2.2.2.2 bt298.2.2.2.2 (bt298.2.2.2.2 != bt279.2.2.2.2) a0_0 a0_1 l0_2 l0_3 bt279.1 bt279.2.1 bt279.2.2.1 bt279.2.2.2.1 bt289.1 bt289.2.1 bt289.2.2.1 bt289.2.2.2 bt298.1 bt298.2.1 bt298.2.2.1 bt298.2.2.2.1) else (laws_FnExactUnpin.j0 k a1 bt279.2.2.2.2 bt298.2.2.2.2 true a0_0 a0_1 l0_2 l0_3 bt279.1 bt279.2.1 bt279.2.2.1 bt279.2.2.2.1 bt289.1 bt289.2.1 bt289.2.2.1 bt289.2.2.2 bt298.1 bt298.2.1 bt298.2.2.1 bt298.2.2.2.1)))))))))
theorem laws_FnExactUnpin.mono_l : ∀ k, (∀ y0 y1 y2 y3 y4 y5 y6 y7 y8 y9 y10 y11 y12 y13 y14 y15 y16 y17 y18 y19, LeO (laws_FnExactUnpin.j0 k y0 y1 y2 y3 y4 y5 y6 y7 y8 y9 y10 y11 y12 y13 y14 y15 y16 y17 y18 y19) (laws_FnExactUnpin.j0 (k + 1) y0 y1 y2 y3 y4 y5 y6 y7 y8 y9 y10 y11 y12 y13 y14 y15 y16 y17 y18 y19)) ∧ (∀ y0 y1 y2 y3 y4 y5 y6 y7 y8 y9 y10 y11 y12 y13 y14, LeO (laws_FnExactUnpin.j1 k y0 y1 y2 y3 y4 y5 y6 y7 y8 y9 y10 y11 y12 y13 y14) (laws_FnExactUnpin.j1 (k + 1) y0 y1 y2 y3 y4 y5 y6 y7 y8 y9 y10 y11 y12 y13 y14)) ∧ (∀ y0 y1 y2 y3 y4 y5, LeO (laws_FnExactUnpin.j2 k y0 y1 y2 y3 y4 y5) (laws_FnExactUnpin.j2 (k + 1) y0 y1 y2 y3 y4 y5))
 | 0 => ⟨fun _ _ _ _ _ _ _ _ _ _ _ _ _ _ _ _ _ _ _ _ r h => by simp [laws_FnExactUnpin.j0] at h, fun _ _ _ _ _ _ _ _ _ _ _ _ _ _ _ r h => by simp [laws_FnExactUnpin.j1] at h, fun _ _ _ _ _ _ r h => by simp [laws_FnExactUnpin.j2] at h⟩
 | k + 1 => by
  obtain ⟨ih0, ih1, ih2⟩ := laws_FnExactUnpin.mono_l k
  refine ⟨?_, ?_, ?_⟩
  ·
   intro y0 y1 y2 y3 y4 y5 y6 y7 y8 y9 y10 y11 y12 y13 y14 y15 y16 y17 y18 y19
   unfold laws_FnExactUnpin.j0
   repeat' first
   | (with_reducible exact ih0 _ _ _ _ _ _ _ _ _ _ _ _ _ _ _ _ _ _ _ _)
   | (with_reducible exact ih1 _ _ _ _ _ _ _ _ _ _ _ _ _ _ _)
   | (with_reducible exact ih2 _ _ _ _ _ _)
   | (with_reducible exact impl_Unpin.mono _ _ _ _ _ _)
   | (with_reducible exact laws_eqStore.mono _ _ _ _ _ _ _ _ _)
   | (with_reducible exact laws_heldStore.mono _ _ _ _ _ _)
   | (with_reducible exact laws_markStore.mono _ _ _ _ _ _)
   | (with_reducible exact laws_szStore.mono _ _ _ _ _ _)
   | (with_reducible exact laws_toStore.mono _ _ _ _ _)
   | (with_reducible exact spec_Unpin.mono _ _ _ _ _ _)
   | (with_reducible exact LeO.refl _)
   | (with_reducible exact LeO.none _)
   | (with_reducible refine LeO.ite ?_ ?_)
   | (with_reducible refine LeO.bind ?_ (fun _ => ?_))
   | exact ih0 _ _ _ _ _ _ _ _ _ _ _ _ _ _ _ _ _ _ _ _
   | exact ih1 _ _ _ _ _ _ _ _ _ _ _ _ _ _ _
   | exact ih2 _ _ _ _ _ _
   | exact impl_Unpin.mono _ _ _ _ _ _
   | exact laws_eqStore.mono _ _ _ _ _ _ _ _ _
   | exact laws_heldStore.mono _ _ _ _ _ _
   | exact laws_markStore.mono _ _ _ _ _ _
   | exact laws_szStore.mono _ _ _ _ _ _
   | exact laws_toStore.mono _ _ _ _ _
   | exact spec_Unpin.mono _ _ _ _ _ _
   | exact LeO.none _
   | refine LeO.ite ?_ ?_
   | refine LeO.bind ?_ (fun _ => ?_)
  ·
   intro y0 y1 y2 y3 y4 y5 y6 y7 y8 y9 y10 y11 y12 y13 y14
   unfold laws_FnExactUnpin.j1
   repeat' first
   | (with_reducible exact ih0 _ _ _ _ _ _ _ _ _ _ _ _ _ _ _ _ _ _ _ _)
   | (with_reducible exact ih1 _ _ _ _ _ _ _ _ _ _ _ _ _ _ _)
   | (with_reducible exact ih2 _ _ _ _ _ _)
   | (with_reducible exact impl_Unpin.mono _ _ _ _ _ _)
   | (with_reducible exact laws_eqStore.mono _ _ _ _ _ _ _ _ _)
   | (with_reducible exact laws_heldStore.mono _ _ _ _ _ _)
   | (with_reducible exact laws_markStore.mono _ _ _ _ _ _)
   | (with_reducible exact laws_szStore.mono _ _ _ _ _ _)
   | (with_reducible exact laws_toStore.mono _ _ _ _ _)
   | (with_reducible exact spec_Unpin.mono _ _ _ _ _ _)
   | (with_reducible exact LeO.refl _)
   | (with_reducible exact LeO.none _)
   | (with_reducible refine LeO.ite ?_ ?_)
   | (with_reducible refine LeO.bind ?_ (fun _ => ?_))
   | exact ih0 _ _ _ _ _ _ _ _ _ _ _ _ _ _ _ _ _ _ _ _
   | exact ih1 _ _ _ _ _ _ _ _ _ _ _ _ _ _ _
   | exact ih2 _ _ _ _ _ _
   | exact impl_Unpin.mono _ _ _ _ _ _
   | exact laws_eqStore.mono _ _ _ _ _ _ _ _ _
   | exact laws_heldStore.mono _ _ _ _ _ _
   | exact laws_markStore.mono _ _ _ _ _ _
   | exact laws_szStore.mono _ _ _ _ _ _
   | exact laws_toStore.mono _ _ _ _ _
   | exact spec_Unpin.mono _ _ _ _ _ _
   | exact LeO.none _
   | refine LeO.ite ?_ ?_
   | refine LeO.bind ?_ (fun _ => ?_)
  ·
   intro y0 y1 y2 y3 y4 y5
   unfold laws_FnExactUnpin.j2
   repeat' first
   | (with_reducible exact ih0 _ _ _ _ _ _ _ _ _ _ _ _ _ _ _ _ _ _ _ _)
   | (with_reducible exact ih1 _ _ _ _ _ _ _ _ _ _ _ _ _ _ _)
   | (with_reducible exact ih2 _ _ _ _ _ _)
   | (with_reducible exact impl_Unpin.mono _ _ _ _ _ _)
   | (with_reducible exact laws_eqStore.mono _ _ _ _ _ _ _ _ _)
   | (with_reducible exact laws_heldStore.mono _ _ _ _ _ _)
   | (with_reducible exact laws_markStore.mono _ _ _ _ _ _)
   | (with_reducible exact laws_szStore.mono _ _ _ _ _ _)
   | (with_reducible exact laws_toStore.mono _ _ _ _ _)
   | (with_reducible exact spec_Unpin.mono _ _ _ _ _ _)
   | (with_reducible exact LeO.refl _)
   | (with_reducible exact LeO.none _)
   | (with_reducible refine LeO.ite ?_ ?_)
   | (with_reducible refine LeO.bind ?_ (fun _ => ?_))
   | exact ih0 _ _ _ _ _ _ _ _ _ _ _ _ _ _ _ _ _ _ _ _
   | exact ih1 _ _ _ _ _ _ _ _ _ _ _ _ _ _ _
   | exact ih2 _ _ _ _ _ _
   | exact impl_Unpin.mono _ _ _ _ _ _
   | exact laws_eqStore.mono _ _ _ _ _ _ _ _ _
   | exact laws_heldStore.mono _ _ _ _ _ _
   | exact laws_markStore.mono _ _ _ _ _ _
   | exact laws_szStore.mono _ _ _ _ _ _
   | exact laws_toStore.mono _ _ _ _ _
   | exact spec_Unpin.mono _ _ _ _ _ _
   | exact LeO.none _
   | refine LeO.ite ?_ ?_
   | refine LeO.bind ?_ (fun _ => ?_)
theorem laws_FnExactUnpin.mono : ∀ a0 a1 a2 a3 a4 k, LeO (laws_FnExactUnpin.f k a0 a1 a2 a3 a4) (laws_FnExactUnpin.f (k + 1) a0 a1 a2 a3 a4) := by
 intro a0 a1 a2 a3 a4 k
 obtain ⟨ih0, ih1, ih2⟩ := laws_FnExactUnpin.mono_l k
 unfold laws_FnExactUnpin.f
 repeat' first
   | (with_reducible exact ih0 _ _ _ _ _ _ _ _ _ _ _ _ _ _ _ _ _ _ _ _)
   | (with_reducible exact ih1 _ _ _ _ _ _ _ _ _ _ _ _ _ _ _)
   | (with_reducible exact ih2 _ _ _ _ _ _)
   | (with_reducible exact impl_Unpin.mono _ _ _ _ _ _)
   | (with_reducible exact laws_eqStore.mono _ _ _ _ _ _ _ _ _)
   | (with_reducible exact laws_heldStore.mono _ _ _ _ _ _)
   | (with_reducible exact laws_markStore.mono _ _ _ _ _ _)
   | (with_reducible exact laws_szStore.mono _ _ _ _ _ _)
   | (with_reducible exact laws_toStore.mono _ _ _ _ _)
   | (with_reducible exact spec_Unpin.mono _ _ _ _ _ _)
   | (with_reducible exact LeO.refl _)
   | (with_reducible exact LeO.none _)
   | (with_reducible refine LeO.ite ?_ ?_)
   | (with_reducible refine LeO.bind ?_ (fun _ => ?_))
   | exact ih0 _ _ _ _ _ _ _ _ _ _ _ _ _ _ _ _ _ _ _ _
   | exact ih1 _ _ _ _ _ _ _ _ _ _ _ _ _ _ _
   | exact ih2 _ _ _ _ _ _
   | exact impl_Unpin.mono _ _ _ _ _ _
   | exact laws_eqStore.mono _ _ _ _ _ _ _ _ _
   | exact laws_heldStore.mono _ _ _ _ _ _
   | exact laws_markStore.mono _ _ _ _ _ _
   | exact laws_szStore.mono _ _ _ _ _ _
   | exact laws_toStore.mono _ _ _ _ _
   | exact spec_Unpin.mono _ _ _ _ _ _
   | exact LeO.none _
   | refine LeO.ite ?_ ?_
   | refine LeO.bind ?_ (fun _ => ?_)
set_option maxHeartbeats 8000000 in
set_option maxRecDepth 100000 in
theorem laws_FnExactUnpin.calls (k : Nat) (a0_0 : Int) (a0_1 : Int) (A0_2 : Option Addr) (c0_2 : Nat) (l0_2 : List (S123)) (A0_3 : Option Addr) (c0_3 : Nat) (l0_3 : List ByteArray) (a1 : ByteArray) (r : Bool) (w : World) (hr0_2 : Kd.C k123 w A0_2 l0_2.length l0_2) (hc0_2 : l0_2.length ≤ c0_2) (hr0_3 : Kd.C Kd.string w A0_3 l0_3.length l0_3) (hc0_3 : l0_3.length ≤ c0_3) (h : laws_FnExactUnpin.f k a0_0 a0_1 l0_2 l0_3 a1 = some r) :
  Calls Try.prog 8 #[.agg #[.int .i64 a0_0, .int .i64 a0_1, .slice A0_2 l0_2.length c0_2, .slice A0_3 l0_3.length c0_3], .string a1] w fun e w' => e = .returned (.bool r) ∧ Below w.heap.size w w' := by
 have hu31 := Try.underlying31
 have hu36 := Try.underlying36
 have HR0_2 := Aside0.mk hr0_2
 have HC0_2 := Aside0.mk hc0_2
 clear hr0_2 hc0_2
 have HR0_3 := Aside0.mk hr0_3
 have HC0_3 := Aside0.mk hc0_3
 clear hr0_3 hc0_3
 have HB := Aside0.mk (Below.refl w.heap.size w)
 have H : (if (a1.size : Int) > 1048576 then (some true) else ((laws_szStore.f k a0_0 a0_1 l0_2 l0_3 1048576).bind fun t270 => (if t270 < 0 then (some true) else ((laws_toStore.f k a0_0 a0_1 l0_2 l0_3).bind fun bt271 => ((spec_Unpin.f k bt271.1 bt271.2.1 bt271.2.2.1 bt271.2.2.2 a1).bind fun bt279 => ((laws_toStore.f k a0_0 a0_1 l0_2 l0_3).bind fun bt289 => ((impl_Unpin.f k bt289.1 bt289.2.1 bt289.2.2.1 bt289.2.2.2 a1).bind fun bt298 => ((laws_eqStore.f k bt298.1 bt298.2.1 bt298.2.2.1 bt298.2.2.2.1 bt279.1 bt279.2.1 bt279.2.2.1 bt279.2.2.2.1).bind fun t308 => (if t308 = true then (laws_FnExactUnpin.j0 k a1 bt279.2.2.2.2 bt298.2.2.2.2 (bt298.2.2.2.2 != bt279.2.2.2.2) a0_0 a0_1 l0_2 l0_3 bt279.1 bt279.2.1 bt279.2.2.1 bt279.2.2.2.1 bt289.1 bt289.2.1 bt289.2.2.1 bt289.2.2.2 bt298.1 bt298.2.1 bt298.2.2.1 bt298.2.2.2.1) else (laws_FnExactUnpin.j0 k a1 bt279.2.2.2.2 bt298.2.2.2.2 true a0_0 a0_1 l0_2 l0_3 bt279.1 bt279.2.1 bt279.2.2.1 bt279.2.2.2.1 bt289.1 bt289.2.1 bt289.2.2.1 bt289.2.2.2 bt298.1 bt298.2.1 bt298.2.2.1 bt298.2.2.2.1)))))))))) = some r := h
 clear h
 by_cases c3 : (a1.size : Int) > 1048576
 ·
  rw [if_pos c3] at H
  have c3b0 : decide (1048576 < (a1.size : Int)) = true := decide_eq_true c3
  have c3b1 : decide (1048576 < a1.size) = true := decide_eq_true (by omega)
  clear c3
  obtain rfl := Option.some.inj H
  go_enter Try.func8, Try.ntmps8
  go_wp2_with (first | ((with_reducible refine gate_dst (N := 2) rfl ?_); refine box_event ?hg (N := 2) ?hd (cs := #[.int .i64 a0_0, .int .i64 a0_1, .slice A0_2 l0_2.length c0_2, .slice A0_3 l0_3.length c0_3]) (t := 31) ?hr ?_; (case hd => rfl); (case hg => rfl); (case hr => first | (go_simp; done) | (go_simp; rfl)); intro gb269 hg w4 hbox hb; have n0_ := Aside0.mk (below_step (Zz.rB_ HB.out) hb); have n1_ := Aside0.mk (hbox); have n2_ := Aside0.mk ((by rw [hg]; exact (below_size (Zz.rB_ HB.out)) : w.heap.size ≤ gb269)); have n3_ := Aside0.mk ((by rw [hg]; exact (below_size (Zz.rB_ HB.out)) : w.heap.size ≤ gb269)); clear HB; have HB := n0_; have BK269 := n1_; have GW269 := n2_; have GE269 := n3_; clear n0_ n1_ n2_ n3_; clear hb hbox hg))
  go_ret
  exact ⟨by first | rfl | (simp [errW_none, errW_some] <;> rfl) | (simp [*, errW_none, errW_some] <;> rfl), by repeat (first | (with_reducible first | exact HB.out | apply below_alloc | apply pw_below_drewN | apply below_drew1 | refine below_set ?_ GE269.out) | exact HB.out)⟩
 ·
  rw [if_neg c3] at H
  have c3b0 : decide (1048576 < (a1.size : Int)) = false := decide_eq_false c3
  have c3b1 : decide (1048576 < a1.size) = false := decide_eq_false (by omega)
  clear c3
  replace H := Option.bind_eq_some_iff.mp H
  obtain ⟨t270, A50, H⟩ := H
  replace H : (if t270 < 0 then (some true) else ((laws_toStore.f k a0_0 a0_1 l0_2 l0_3).bind fun bt271 => ((spec_Unpin.f k bt271.1 bt271.2.1 bt271.2.2.1 bt271.2.2.2 a1).bind fun bt279 => ((laws_toStore.f k a0_0 a0_1 l0_2 l0_3).bind fun bt289 => ((impl_Unpin.f k bt289.1 bt289.2.1 bt289.2.2.1 bt289.2.2.2 a1).bind fun bt298 => ((laws_eqStore.f k bt298.1 bt298.2.1 bt298.2.2.1 bt298.2.2.2.1 bt279.1 bt279.2.1 bt279.2.2.1 bt279.2.2.2.1).bind fun t308 => (if t308 = true then (laws_FnExactUnpin.j0 k a1 bt279.2.2.2.2 bt298.2.2.2.2 (bt298.2.2.2.2 != bt279.2.2.2.2) a0_0 a0_1 l0_2 l0_3 bt279.1 bt279.2.1 bt279.2.2.1 bt279.2.2.2.1 bt289.1 bt289.2.1 bt289.2.2.1 bt289.2.2.2 bt298.1 bt298.2.1 bt298.2.2.1 bt298.2.2.2.1) else (laws_FnExactUnpin.j0 k a1 bt279.2.2.2.2 bt298.2.2.2.2 true a0_0 a0_1 l0_2 l0_3 bt279.1 bt279.2.1 bt279.2.2.1 bt279.2.2.2.1 bt289.1 bt289.2.1 bt289.2.2.1 bt289.2.2.2 bt298.1 bt298.2.1 bt298.2.2.1 bt298.2.2.2.1)))))))) = some r := H
  have A5 := Aside0.mk A50
  clear A50
  by_cases c6 : t270 < 0
  ·
   rw [if_pos c6] at H
   have c6b0 : decide (t270 < 0) = true := decide_eq_true c6
   clear c6
   obtain rfl := Option.some.inj H
   go_enter Try.func8, Try.ntmps8
   go_wp2_with (first | ((with_reducible refine gate_dst (N := 2) rfl ?_); refine box_event ?hg (N := 2) ?hd (cs := #[.int .i64 a0_0, .int .i64 a0_1, .slice A0_2 l0_2.length c0_2, .slice A0_3 l0_3.length c0_3]) (t := 31) ?hr ?_; (case hd => rfl); (case hg => rfl); (case hr => first | (go_simp; done) | (go_simp; rfl)); intro gb269 hg w7 hbox hb; have n0_ := Aside0.mk (below_step (Zz.rB_ HB.out) hb); have n1_ := Aside0.mk (hbox); have n2_ := Aside0.mk ((by rw [hg]; exact (below_size (Zz.rB_ HB.out)) : w.heap.size ≤ gb269)); have n3_ := Aside0.mk ((by rw [hg]; exact (below_size (Zz.rB_ HB.out)) : w.heap.size ≤ gb269)); clear HB; have HB := n0_; have BK269 := n1_; have GW269 := n2_; have GE269 := n3_; clear n0_ n1_ n2_ n3_; clear hb hbox hg; have hcz8_0 : w7.cell? ⟨gb269, 0, none⟩ = some (.int .i64 a0_0) := (blk_cell BK269.out 0).trans rfl; have hcz8_1 : w7.cell? ⟨gb269, 1, none⟩ = some (.int .i64 a0_1) := (blk_cell BK269.out 1).trans rfl; have hcz8_2 : w7.cell? ⟨gb269, 2, none⟩ = some (.slice A0_2 l0_2.length c0_2) := (blk_cell BK269.out 2).trans rfl; have hcz8_3 : w7.cell? ⟨gb269, 3, none⟩ = some (.slice A0_3 l0_3.length c0_3) := (blk_cell BK269.out 3).trans rfl; have hfz8_0 := blk_frozen BK269.out 0; have hfz8_1 := blk_frozen BK269.out 1; have hfz8_2 := blk_frozen BK269.out 2; have hfz8_3 := blk_frozen BK269.out 3) | ((with_reducible refine gate_callee (f := 18) rfl ?_); refine goesL_ (some 21) rfl rfl Try.func18 (by kernel_rfl) rfl #[.agg #[.int .i64 a0_0, .int .i64 a0_1, .slice A0_2 l0_2.length c0_2, .slice A0_3 l0_3.length c0_3], .int .i64 1048576] rfl (by (try simp only [List.map_toArray, List.map_cons, List.map_nil]); first | done | rfl | (simp only [List.length_drop, List.length_take]; rfl)) ?_; (with_reducible refine (laws_szStore.calls k a0_0 a0_1 _ _ l0_2 _ _ l0_3 1048576 t270 _ ?side1 ?side2 ?side3 ?side4 A5.out).mono ?_); (case side1 => repeat (first | exact (Kd.C_below HR0_2.out HB.out) | (with_reducible refine Kd.C_alloc ?_ _) | (with_reducible refine Kd.C_drewN ?_ _) | (with_reducible refine Kd.C_drew ?_))); (case side2 => exact HC0_2.out); (case side3 => repeat (first | exact (Kd.C_below HR0_3.out HB.out) | (with_reducible refine Kd.C_alloc ?_ _) | (with_reducible refine Kd.C_drewN ?_ _) | (with_reducible refine Kd.C_drew ?_))); (case side4 => exact HC0_3.out); rintro e w9 ⟨rfl, hb⟩; refine ⟨_, rfl, ?_⟩; have n0_ := Aside0.mk (blk_below (g := gb269) (o := .cells #[.int .i64 a0_0, .int .i64 a0_1, .slice A0_2 l0_2.length c0_2, .slice A0_3 l0_3.length c0_3] 31 (0, 0)) (Zz.rb_ BK269.out) hb); have n1_ := Aside0.mk (below_step (Zz.rB_ HB.out) hb); clear BK269; clear HB; have BK269 := n0_; have HB := n1_; clear n0_ n1_; (try clear hb); (try clear hb2); (try clear hk); (try clear hi)))
   go_ret
   exact ⟨by first | rfl | (simp [errW_none, errW_some] <;> rfl) | (simp [*, errW_none, errW_some] <;> rfl), by repeat (first | (with_reducible first | exact HB.out | apply below_alloc | apply pw_below_drewN | apply below_drew1 | refine below_set ?_ GE269.out) | exact HB.out)⟩
  ·
   rw [if_neg c6] at H
   have c6b0 : decide (t270 < 0) = false := decide_eq_false c6
   clear c6
   replace H := Option.bind_eq_some_iff.mp H
   obtain ⟨⟨t271, t272, t273, t276⟩, A100, H⟩ := H
   replace H : ((spec_Unpin.f k t271 t272 t273 t276 a1).bind fun bt279 => ((laws_toStore.f k a0_0 a0_1 l0_2 l0_3).bind fun bt289 => ((impl_Unpin.f k bt289.1 bt289.2.1 bt289.2.2.1 bt289.2.2.2 a1).bind fun bt298 => ((laws_eqStore.f k bt298.1 bt298.2.1 bt298.2.2.1 bt298.2.2.2.1 bt279.1 bt279.2.1 bt279.2.2.1 bt279.2.2.2.1).bind fun t308 => (if t308 = true then (laws_FnExactUnpin.j0 k a1 bt279.2.2.2.2 bt298.2.2.2.2 (bt298.2.2.2.2 != bt279.2.2.2.2) a0_0 a0_1 l0_2 l0_3 bt279.1 bt279.2.1 bt279.2.2.1 bt279.2.2.2.1 bt289.1 bt289.2.1 bt289.2.2.1 bt289.2.2.2 bt298.1 bt298.2.1 bt298.2.2.1 bt298.2.2.2.1) else (laws_FnExactUnpin.j0 k a1 bt279.2.2.2.2 bt298.2.2.2.2 true a0_0 a0_1 l0_2 l0_3 bt279.1 bt279.2.1 bt279.2.2.1 bt279.2.2.2.1 bt289.1 bt289.2.1 bt289.2.2.1 bt289.2.2.2 bt298.1 bt298.2.1 bt298.2.2.1 bt298.2.2.2.1)))))) = some r := H
   have A10 := Aside0.mk A100
   clear A100
   replace H := Option.bind_eq_some_iff.mp H
   obtain ⟨⟨t279, t280, t281, t284, t287⟩, A110, H⟩ := H
   replace H : ((laws_toStore.f k a0_0 a0_1 l0_2 l0_3).bind fun bt289 => ((impl_Unpin.f k bt289.1 bt289.2.1 bt289.2.2.1 bt289.2.2.2 a1).bind fun bt298 => ((laws_eqStore.f k bt298.1 bt298.2.1 bt298.2.2.1 bt298.2.2.2.1 t279 t280 t281 t284).bind fun t308 => (if t308 = true then (laws_FnExactUnpin.j0 k a1 t287 bt298.2.2.2.2 (bt298.2.2.2.2 != t287) a0_0 a0_1 l0_2 l0_3 t279 t280 t281 t284 bt289.1 bt289.2.1 bt289.2.2.1 bt289.2.2.2 bt298.1 bt298.2.1 bt298.2.2.1 bt298.2.2.2.1) else (laws_FnExactUnpin.j0 k a1 t287 bt298.2.2.2.2 true a0_0 a0_1 l0_2 l0_3 t279 t280 t281 t284 bt289.1 bt289.2.1 bt289.2.2.1 bt289.2.2.2 bt298.1 bt298.2.1 bt298.2.2.1 bt298.2.2.2.1))))) = some r := H
   have A11 := Aside0.mk A110
   clear A110
   replace H := Option.bind_eq_some_iff.mp H
   obtain ⟨⟨t289, t290, t291, t294⟩, A120, H⟩ := H
   replace H : ((impl_Unpin.f k t289 t290 t291 t294 a1).bind fun bt298 => ((laws_eqStore.f k bt298.1 bt298.2.1 bt298.2.2.1 bt298.2.2.2.1 t279 t280 t281 t284).bind fun t308 => (if t308 = true then (laws_FnExactUnpin.j0 k a1 t287 bt298.2.2.2.2 (bt298.2.2.2.2 != t287) a0_0 a0_1 l0_2 l0_3 t279 t280 t281 t284 t289 t290 t291 t294 bt298.1 bt298.2.1 bt298.2.2.1 bt298.2.2.2.1) else (laws_FnExactUnpin.j0 k a1 t287 bt298.2.2.2.2 true a0_0 a0_1 l0_2 l0_3 t279 t280 t281 t284 t289 t290 t291 t294 bt298.1 bt298.2.1 bt298.2.2.1 bt298.2.2.2.1)))) = some r := H
   have A12 := Aside0.mk A120
   clear A120
   replace H := Option.bind_eq_some_iff.mp H
   obtain ⟨⟨t298, t299, t300, t303, t306⟩, A130, H⟩ := H
   replace H : ((laws_eqStore.f k t298 t299 t300 t303 t279 t280 t281 t284).bind fun t308 => (if t308 = true then (laws_FnExactUnpin.j0 k a1 t287 t306 (t306 != t287) a0_0 a0_1 l0_2 l0_3 t279 t280 t281 t284 t289 t290 t291 t294 t298 t299 t300 t303) else (laws_FnExactUnpin.j0 k a1 t287 t306 true a0_0 a0_1 l0_2 l0_3 t279 t280 t281 t284 t289 t290 t291 t294 t298 t299 t300 t303))) = some r := H
   have A13 := Aside0.mk A130
   clear A130
   have HC14 := Aside0.mk H
   clear H
   go_enter Try.func8, Try.ntmps8
   go_upto_region 10 with (first | ((with_reducible refine gate_dst (N := 2) rfl ?_); refine box_event ?hg (N := 2) ?hd (cs := #[.int .i64 a0_0, .int .i64 a0_1, .slice A0_2 l0_2.length c0_2, .slice A0_3 l0_3.length c0_3]) (t := 31) ?hr ?_; (case hd => rfl); (case hg => rfl); (case hr => first | (go_simp; done) | (go_simp; rfl)); intro gb269 hg w15 hbox hb; have n0_ := Aside0.mk (below_step (Zz.rB_ HB.out) hb); have n1_ := Aside0.mk (hbox); have n2_ := Aside0.mk ((by rw [hg]; exact (below_size (Zz.rB_ HB.out)) : w.heap.size ≤ gb269)); have n3_ := Aside0.mk ((by rw [hg]; exact (below_size (Zz.rB_ HB.out)) : w.heap.size ≤ gb269)); clear HB; have HB := n0_; have BK269 := n1_; have GW269 := n2_; have GE269 := n3_; clear n0_ n1_ n2_ n3_; clear hb hbox hg; have hcz16_0 : w15.cell? ⟨gb269, 0, none⟩ = some (.int .i64 a0_0) := (blk_cell BK269.out 0).trans rfl; have hcz16_1 : w15.cell? ⟨gb269, 1, none⟩ = some (.int .i64 a0_1) := (blk_cell BK269.out 1).trans rfl; have hcz16_2 : w15.cell? ⟨gb269, 2, none⟩ = some (.slice A0_2 l0_2.length c0_2) := (blk_cell BK269.out 2).trans rfl; have hcz16_3 : w15.cell? ⟨gb269, 3, none⟩ = some (.slice A0_3 l0_3.length c0_3) := (blk_cell BK269.out 3).trans rfl; have hfz16_0 := blk_frozen BK269.out 0; have hfz16_1 := blk_frozen BK269.out 1; have hfz16_2 := blk_frozen BK269.out 2; have hfz16_3 := blk_frozen BK269.out 3) | ((with_reducible refine gate_callee (f := 18) rfl ?_); refine goesL_ (some 21) rfl rfl Try.func18 (by kernel_rfl) rfl #[.agg #[.int .i64 a0_0, .int .i64 a0_1, .slice A0_2 l0_2.length c0_2, .slice A0_3 l0_3.length c0_3], .int .i64 1048576] rfl (by (try simp only [List.map_toArray, List.map_cons, List.map_nil]); first | done | rfl | (simp only [List.length_drop, List.length_take]; rfl)) ?_; (with_reducible refine (laws_szStore.calls k a0_0 a0_1 _ _ l0_2 _ _ l0_3 1048576 t270 _ ?side1 ?side2 ?side3 ?side4 A5.out).mono ?_); (case side1 => repeat (first | exact (Kd.C_below HR0_2.out HB.out) | (with_reducible refine Kd.C_alloc ?_ _) | (with_reducible refine Kd.C_drewN ?_ _) | (with_reducible refine Kd.C_drew ?_))); (case side2 => exact HC0_2.out); (case side3 => repeat (first | exact (Kd.C_below HR0_3.out HB.out) | (with_reducible refine Kd.C_alloc ?_ _) | (with_reducible refine Kd.C_drewN ?_ _) | (with_reducible refine Kd.C_drew ?_))); (case side4 => exact HC0_3.out); rintro e w17 ⟨rfl, hb⟩; refine ⟨_, rfl, ?_⟩; have n0_ := Aside0.mk (blk_below (g := gb269) (o := .cells #[.int .i64 a0_0, .int .i64 a0_1, .slice A0_2 l0_2.length c0_2, .slice A0_3 l0_3.length c0_3] 31 (0, 0)) (Zz.rb_ BK269.out) hb); have n1_ := Aside0.mk (below_step (Zz.rB_ HB.out) hb); clear BK269; clear HB; have BK269 := n0_; have HB := n1_; clear n0_ n1_; (try clear hb); (try clear hb2); (try clear hk); (try clear hi); have hcz18_0 : w17.cell? ⟨gb269, 0, none⟩ = some (.int .i64 a0_0) := (blk_cell BK269.out 0).trans rfl; have hcz18_1 : w17.cell? ⟨gb269, 1, none⟩ = some (.int .i64 a0_1) := (blk_cell BK269.out 1).trans rfl; have hcz18_2 : w17.cell? ⟨gb269, 2, none⟩ = some (.slice A0_2 l0_2.length c0_2) := (blk_cell BK269.out 2).trans rfl; have hcz18_3 : w17.cell? ⟨gb269, 3, none⟩ = some (.slice A0_3 l0_3.length c0_3) := (blk_cell BK269.out 3).trans rfl; have hfz18_0 := blk_frozen BK269.out 0; have hfz18_1 := blk_frozen BK269.out 1; have hfz18_2 := blk_frozen BK269.out 2; have hfz18_3 := blk_frozen BK269.out 3) | ((with_reducible refine gate_callee (f := 20) rfl ?_); refine goesL_ (some 26) rfl rfl Try.func20 (by kernel_rfl) rfl #[.agg #[.int .i64 a0_0, .int .i64 a0_1, .slice A0_2 l0_2.length c0_2, .slice A0_3 l0_3.length c0_3]] rfl (by (try simp only [List.map_toArray, List.map_cons, List.map_nil]); first | done | rfl | (simp only [List.length_drop, List.length_take]; rfl)) ?_; (with_reducible refine (laws_toStore.calls k a0_0 a0_1 _ _ l0_2 _ _ l0_3 t271 t272 t273 t276 _ ?side1 ?side2 ?side3 ?side4 A10.out).mono ?_); (case side1 => repeat (first | exact (Kd.C_below HR0_2.out HB.out) | (with_reducible refine Kd.C_alloc ?_ _) | (with_reducible refine Kd.C_drewN ?_ _) | (with_reducible refine Kd.C_drew ?_))); (case side2 => exact HC0_2.out); (case side3 => repeat (first | exact (Kd.C_below HR0_3.out HB.out) | (with_reducible refine Kd.C_alloc ?_ _) | (with_reducible refine Kd.C_drewN ?_ _) | (with_reducible refine Kd.C_drew ?_))); (case side4 => exact HC0_3.out); rintro e w19 ⟨v274, v277, rfl, ho0, ho1, hb⟩; refine ⟨_, rfl, ?_⟩; have n0_ := Aside0.mk (Kd.R_lower ho0 (below_size (Zz.rB_ HB.out))); have n1_ := Aside0.mk (Kd.R_lower ho1 (below_size (Zz.rB_ HB.out))); have n2_ := Aside0.mk (blk_below (g := gb269) (o := .cells #[.int .i64 a0_0, .int .i64 a0_1, .slice A0_2 l0_2.length c0_2, .slice A0_3 l0_3.length c0_3] 31 (0, 0)) (Zz.rb_ BK269.out) hb); have n3_ := Aside0.mk (below_step (Zz.rB_ HB.out) hb); clear BK269; clear HB; have HO275 := n0_; have HO278 := n1_; have BK269 := n2_; have HB := n3_; clear n0_ n1_ n2_ n3_; (try clear hb); (try clear hb2); (try clear hk); (try clear hi); (try clear ho0); (try clear ho1); obtain ⟨Ao20, co20, eo20⟩ := Kd.R_slice HO275.out; subst eo20; obtain ⟨Ao21, co21, eo21⟩ := Kd.R_slice HO278.out; subst eo21) | ((with_reducible refine gate_callee (f := 40) rfl ?_); refine goesL_ (some 28) rfl rfl Try.func40 (by kernel_rfl) rfl #[.agg #[.int .i64 t271, .int .i64 t272, .slice Ao20 t273.length co20, .slice Ao21 t276.length co21], .string a1] rfl (by (try simp only [List.map_toArray, List.map_cons, List.map_nil]); first | done | rfl | (simp only [List.length_drop, List.length_take]; rfl)) ?_; (with_reducible refine (spec_Unpin.calls k t271 t272 _ _ t273 _ _ t276 a1 t279 t280 t281 t284 t287 _ ?side1 ?side2 ?side3 ?side4 A11.out).mono ?_); (case side1 => repeat (first | exact (Kd.R_reads' HO275.out).2.2 | (with_reducible refine Kd.C_alloc ?_ _) | (with_reducible refine Kd.C_drewN ?_ _) | (with_reducible refine Kd.C_drew ?_))); (case side2 => exact (Kd.R_reads' HO275.out).2.1); (case side3 => repeat (first | exact (Kd.R_reads' HO278.out).2.2 | (with_reducible refine Kd.C_alloc ?_ _) | (with_reducible refine Kd.C_drewN ?_ _) | (with_reducible refine Kd.C_drew ?_))); (case side4 => exact (Kd.R_reads' HO278.out).2.1); rintro e w22 ⟨v282, v285, rfl, ho0, ho1, hb⟩; refine ⟨_, rfl, ?_⟩; have n0_ := Aside0.mk (Kd.R_elder' (Zz.rR_ HO275.out) (Kd.R_base ho0) hb); have n1_ := Aside0.mk (Kd.R_elder' (Zz.rR_ HO278.out) (Kd.R_base ho1) hb); have n2_ := Aside0.mk (Kd.R_lower (Kd.R_new' ho0 (Kd.R_lt (Zz.rR_ HO275.out))) (below_size (Zz.rB_ HB.out))); have n3_ := Aside0.mk (Kd.R_lower (Kd.R_new' ho1 (Kd.R_lt (Zz.rR_ HO278.out))) (below_size (Zz.rB_ HB.out))); have n4_ := Aside0.mk (blk_below (g := gb269) (o := .cells #[.int .i64 a0_0, .int .i64 a0_1, .slice A0_2 l0_2.length c0_2, .slice A0_3 l0_3.length c0_3] 31 (0, 0)) (Zz.rb_ BK269.out) hb); have n5_ := Aside0.mk (below_step (Zz.rB_ HB.out) hb); clear HO275; clear HO278; clear BK269; clear HB; have HO275 := n0_; have HO278 := n1_; have HO283 := n2_; have HO286 := n3_; have BK269 := n4_; have HB := n5_; clear n0_ n1_ n2_ n3_ n4_ n5_; (try clear hb); (try clear hb2); (try clear hk); (try clear hi); (try clear ho0); (try clear ho1)) | ((with_reducible refine gate_dst (N := 6) rfl ?_); refine box_event ?hg (N := 6) ?hd (cs := #[.int .i64 0, .int .i64 0, .slice none 0 0, .slice none 0 0]) (t := 36) ?hr ?_; (case hd => rfl); (case hg => rfl); (case hr => first | (go_simp; done) | (go_simp; rfl)); intro gb288 hg w23 hbox hb; have n0_ := Aside0.mk (Kd.R_below (Zz.rR_ HO275.out) hb); have n1_ := Aside0.mk (Kd.R_below (Zz.rR_ HO278.out) hb); have n2_ := Aside0.mk (Kd.R_below (Zz.rR_ HO283.out) hb); have n3_ := Aside0.mk (Kd.R_below (Zz.rR_ HO286.out) hb); have n4_ := Aside0.mk (blk_below (g := gb269) (o := .cells #[.int .i64 a0_0, .int .i64 a0_1, .slice A0_2 l0_2.length c0_2, .slice A0_3 l0_3.length c0_3] 31 (0, 0)) (Zz.rb_ BK269.out) hb); have n5_ := Aside0.mk (below_step (Zz.rB_ HB.out) hb); have n6_ := Aside0.mk (hbox); have n7_ := Aside0.mk ((by rw [hg]; exact (below_size (Zz.rB_ HB.out)) : w.heap.size ≤ gb288)); have n8_ := Aside0.mk ((by rw [hg]; exact (below_size (Zz.rB_ HB.out)) : w.heap.size ≤ gb288)); have n9_ := Aside0.mk ((by rw [hg]; exact Nat.ne_of_lt (blk_lt (g := gb269) (o := .cells #[.int .i64 a0_0, .int .i64 a0_1, .slice A0_2 l0_2.length c0_2, .slice A0_3 l0_3.length c0_3] 31 (0, 0)) (Zz.rb_ BK269.out)) : gb269 ≠ gb288)); have n10_ := Aside0.mk ((by rw [hg]; exact Nat.ne_of_gt (blk_lt (g := gb269) (o := .cells #[.int .i64 a0_0, .int .i64 a0_1, .slice A0_2 l0_2.length c0_2, .slice A0_3 l0_3.length c0_3] 31 (0, 0)) (Zz.rb_ BK269.out)) : gb288 ≠ gb269)); clear HO275; clear HO278; clear HO283; clear HO286; clear BK269; clear HB; have HO275 := n0_; have HO278 := n1_; have HO283 := n2_; have HO286 := n3_; have BK269 := n4_; have HB := n5_; have BK288 := n6_; have GW288 := n7_; have GE288 := n8_; have NB269_288 := n9_; have NB288_269 := n10_; clear n0_ n1_ n2_ n3_ n4_ n5_ n6_ n7_ n8_ n9_ n10_; clear hb hbox hg; have hnb24 := NB288_269.out; have hnc24 := NB269_288.out; have hcz25_0 : w23.cell? ⟨gb288, 0, none⟩ = some (.int .i64 0) := (blk_cell BK288.out 0).trans rfl; have hcz25_1 : w23.cell? ⟨gb288, 1, none⟩ = some (.int .i64 0) := (blk_cell BK288.out 1).trans rfl; have hcz25_2 : w23.cell? ⟨gb288, 2, none⟩ = some (.slice none 0 0) := (blk_cell BK288.out 2).trans rfl; have hcz25_3 : w23.cell? ⟨gb288, 3, none⟩ = some (.slice none 0 0) := (blk_cell BK288.out 3).trans rfl; have hfz25_0 := blk_frozen BK288.out 0; have hfz25_1 := blk_frozen BK288.out 1; have hfz25_2 := blk_frozen BK288.out 2; have hfz25_3 := blk_frozen BK288.out 3; obtain ⟨Ao26, co26, eo26⟩ := Kd.R_slice HO283.out; subst eo26; obtain ⟨Ao27, co27, eo27⟩ := Kd.R_slice HO286.out; subst eo27; have hcz28_0 : w23.cell? ⟨gb269, 0, none⟩ = some (.int .i64 a0_0) := (blk_cell BK269.out 0).trans rfl; have hcz28_1 : w23.cell? ⟨gb269, 1, none⟩ = some (.int .i64 a0_1) := (blk_cell BK269.out 1).trans rfl; have hcz28_2 : w23.cell? ⟨gb269, 2, none⟩ = some (.slice A0_2 l0_2.length c0_2) := (blk_cell BK269.out 2).trans rfl; have hcz28_3 : w23.cell? ⟨gb269, 3, none⟩ = some (.slice A0_3 l0_3.length c0_3) := (blk_cell BK269.out 3).trans rfl; have hfz28_0 := blk_frozen BK269.out 0; have hfz28_1 := blk_frozen BK269.out 1; have hfz28_2 := blk_frozen BK269.out 2; have hfz28_3 := blk_frozen BK269.out 3) | ((with_reducible refine gate_callee (f := 20) rfl ?_); refine goesL_ (some 32) rfl rfl Try.func20 (by kernel_rfl) rfl #[.agg #[.int .i64 a0_0, .int .i64 a0_1, .slice A0_2 l0_2.length c0_2, .slice A0_3 l0_3.length c0_3]] rfl (by (try simp only [List.map_toArray, List.map_cons, List.map_nil]); first | done | rfl | (simp only [List.length_drop, List.length_take]; rfl)) ?_; (with_reducible refine (laws_toStore.calls k a0_0 a0_1 _ _ l0_2 _ _ l0_3 t289 t290 t291 t294 _ ?side1 ?side2 ?side3 ?side4 A12.out).mono ?_); (case side1 => exact Kd.C_below HR0_2.out (Zz.rB_ HB.out)); (case side2 => exact HC0_2.out); (case side3 => exact Kd.C_below HR0_3.out (Zz.rB_ HB.out)); (case side4 => exact HC0_3.out); rintro e w29 ⟨v292, v295, rfl, ho0, ho1, hb⟩; refine ⟨_, rfl, ?_⟩; have n0_ := Aside0.mk (Kd.R_elder' (by (with_reducible repeat (first | apply Kd.R_alloc | apply Kd.R_drewN | apply Kd.R_drew)); exact (Kd.R_mono (Zz.rF_ gb288 (Kd.R_types HO275.out BK288.out (by decide)) (fun _ hk => hk.2) _ _ _ _) (fun _ h_ => h_.1))) (Kd.R_base ho0) hb); have n1_ := Aside0.mk (Kd.R_elder' (by (with_reducible repeat (first | apply Kd.R_alloc | apply Kd.R_drewN | apply Kd.R_drew)); exact (Kd.R_mono (Zz.rF_ gb288 (Kd.R_types HO278.out BK288.out (by decide)) (fun _ hk => hk.2) _ _ _ _) (fun _ h_ => h_.1))) (Kd.R_base ho1) hb); have n2_ := Aside0.mk (Kd.R_elder' (by (with_reducible repeat (first | apply Kd.R_alloc | apply Kd.R_drewN | apply Kd.R_drew)); exact (Kd.R_mono (Zz.rF_ gb288 (Kd.R_types HO283.out BK288.out (by decide)) (fun _ hk => hk.2) _ _ _ _) (fun _ h_ => h_.1))) (Kd.R_base ho0) hb); have n3_ := Aside0.mk (Kd.R_elder' (by (with_reducible repeat (first | apply Kd.R_alloc | apply Kd.R_drewN | apply Kd.R_drew)); exact (Kd.R_mono (Zz.rF_ gb288 (Kd.R_types HO286.out BK288.out (by decide)) (fun _ hk => hk.2) _ _ _ _) (fun _ h_ => h_.1))) (Kd.R_base ho1) hb); have n4_ := Aside0.mk (Kd.R_lower (Kd.R_new' (Kd.R_new' ho0 (Kd.R_lt (by (with_reducible repeat (first | apply Kd.R_alloc | apply Kd.R_drewN | apply Kd.R_drew)); exact (Kd.R_mono (Zz.rF_ gb288 (Kd.R_types HO275.out BK288.out (by decide)) (fun _ hk => hk.2) _ _ _ _) (fun _ h_ => h_.1))))) (Kd.R_lt (by (with_reducible repeat (first | apply Kd.R_alloc | apply Kd.R_drewN | apply Kd.R_drew)); exact (Kd.R_mono (Zz.rF_ gb288 (Kd.R_types HO283.out BK288.out (by decide)) (fun _ hk => hk.2) _ _ _ _) (fun _ h_ => h_.1))))) (below_size (Zz.rB_ HB.out))); have n5_ := Aside0.mk (Kd.R_lower (Kd.R_new' (Kd.R_new' ho1 (Kd.R_lt (by (with_reducible repeat (first | apply Kd.R_alloc | apply Kd.R_drewN | apply Kd.R_drew)); exact (Kd.R_mono (Zz.rF_ gb288 (Kd.R_types HO278.out BK288.out (by decide)) (fun _ hk => hk.2) _ _ _ _) (fun _ h_ => h_.1))))) (Kd.R_lt (by (with_reducible repeat (first | apply Kd.R_alloc | apply Kd.R_drewN | apply Kd.R_drew)); exact (Kd.R_mono (Zz.rF_ gb288 (Kd.R_types HO286.out BK288.out (by decide)) (fun _ hk => hk.2) _ _ _ _) (fun _ h_ => h_.1))))) (below_size (Zz.rB_ HB.out))); have n6_ := Aside0.mk (blk_below (g := gb269) (o := .cells #[.int .i64 a0_0, .int .i64 a0_1, .slice A0_2 l0_2.length c0_2, .slice A0_3 l0_3.length c0_3] 31 (0, 0)) (Zz.rb4_ NB269_288.out BK269.out) hb); have n7_ := Aside0.mk (blk_below (g := gb288) (o := .cells #[.int .i64 t279, .int .i64 t280, .slice Ao26 t281.length co26, .slice Ao27 t284.length co27] 36 (0, 0)) (by (with_reducible repeat (first | refine blk_drewN ?_ _ | refine blk_drew ?_ | refine blk_alloc ?_ _)); refine blk_put (cs := #[.int .i64 t279, .int .i64 t280, .slice Ao26 t281.length co26, .slice none 0 0]) ?_ 3 _ rfl; (with_reducible repeat (first | refine blk_drewN ?_ _ | refine blk_drew ?_ | refine blk_alloc ?_ _)); refine blk_put (cs := #[.int .i64 t279, .int .i64 t280, .slice none 0 0, .slice none 0 0]) ?_ 2 _ rfl; (with_reducible repeat (first | refine blk_drewN ?_ _ | refine blk_drew ?_ | refine blk_alloc ?_ _)); refine blk_put (cs := #[.int .i64 t279, .int .i64 0, .slice none 0 0, .slice none 0 0]) ?_ 1 _ rfl; (with_reducible repeat (first | refine blk_drewN ?_ _ | refine blk_drew ?_ | refine blk_alloc ?_ _)); refine blk_put (cs := #[.int .i64 0, .int .i64 0, .slice none 0 0, .slice none 0 0]) ?_ 0 _ rfl; (with_reducible repeat (first | refine blk_drewN ?_ _ | refine blk_drew ?_ | refine blk_alloc ?_ _)); exact BK288.out) hb); have n8_ := Aside0.mk (below_step (Zz.rB_ HB.out) hb); clear HO275; clear HO278; clear HO283; clear HO286; clear BK269; clear BK288; clear HB; have HO275 := n0_; have HO278 := n1_; have HO283 := n2_; have HO286 := n3_; have HO293 := n4_; have HO296 := n5_; have BK269 := n6_; have BK288 := n7_; have HB := n8_; clear n0_ n1_ n2_ n3_ n4_ n5_ n6_ n7_ n8_; (try clear hb); (try clear hb2); (try clear hk); (try clear hi); (try clear ho0); (try clear ho1)) | ((with_reducible refine gate_dst (N := 8) rfl ?_); refine box_event ?hg (N := 8) ?hd (cs := #[.int .i64 0, .int .i64 0, .slice none 0 0, .slice none 0 0]) (t := 36) ?hr ?_; (case hd => rfl); (case hg => rfl); (case hr => first | (go_simp; done) | (go_simp; rfl)); intro gb297 hg w30 hbox hb; have n0_ := Aside0.mk (Kd.R_below (Zz.rR_ HO275.out) hb); have n1_ := Aside0.mk (Kd.R_below (Zz.rR_ HO278.out) hb); have n2_ := Aside0.mk (Kd.R_below (Zz.rR_ HO283.out) hb); have n3_ := Aside0.mk (Kd.R_below (Zz.rR_ HO286.out) hb); have n4_ := Aside0.mk (Kd.R_below (Zz.rR_ HO293.out) hb); have n5_ := Aside0.mk (Kd.R_below (Zz.rR_ HO296.out) hb); have n6_ := Aside0.mk (blk_below (g := gb269) (o := .cells #[.int .i64 a0_0, .int .i64 a0_1, .slice A0_2 l0_2.length c0_2, .slice A0_3 l0_3.length c0_3] 31 (0, 0)) (Zz.rb_ BK269.out) hb); have n7_ := Aside0.mk (blk_below (g := gb288) (o := .cells #[.int .i64 t279, .int .i64 t280, .slice Ao26 t281.length co26, .slice Ao27 t284.length co27] 36 (0, 0)) (Zz.rb_ BK288.out) hb); have n8_ := Aside0.mk (below_step (Zz.rB_ HB.out) hb); have n9_ := Aside0.mk (hbox); have n10_ := Aside0.mk ((by rw [hg]; exact (below_size (Zz.rB_ HB.out)) : w.heap.size ≤ gb297)); have n11_ := Aside0.mk ((by rw [hg]; exact (below_size (Zz.rB_ HB.out)) : w.heap.size ≤ gb297)); have n12_ := Aside0.mk ((by rw [hg]; exact Nat.ne_of_lt (blk_lt (g := gb269) (o := .cells #[.int .i64 a0_0, .int .i64 a0_1, .slice A0_2 l0_2.length c0_2, .slice A0_3 l0_3.length c0_3] 31 (0, 0)) (Zz.rb_ BK269.out)) : gb269 ≠ gb297)); have n13_ := Aside0.mk ((by rw [hg]; exact Nat.ne_of_gt (blk_lt (g := gb269) (o := .cells #[.int .i64 a0_0, .int .i64 a0_1, .slice A0_2 l0_2.length c0_2, .slice A0_3 l0_3.length c0_3] 31 (0, 0)) (Zz.rb_ BK269.out)) : gb297 ≠ gb269)); have n14_ := Aside0.mk ((by rw [hg]; exact Nat.ne_of_lt (blk_lt (g := gb288) (o := .cells #[.int .i64 t279, .int .i64 t280, .slice Ao26 t281.length co26, .slice Ao27 t284.length co27] 36 (0, 0)) (Zz.rb_ BK288.out)) : gb288 ≠ gb297)); have n15_ := Aside0.mk ((by rw [hg]; exact Nat.ne_of_gt (blk_lt (g := gb288) (o := .cells #[.int .i64 t279, .int .i64 t280, .slice Ao26 t281.length co26, .slice Ao27 t284.length co27] 36 (0, 0)) (Zz.rb_ BK288.out)) : gb297 ≠ gb288)); clear HO275; clear HO278; clear HO283; clear HO286; clear HO293; clear HO296; clear BK269; clear BK288; clear HB; have HO275 := n0_; have HO278 := n1_; have HO283 := n2_; have HO286 := n3_; have HO293 := n4_; have HO296 := n5_; have BK269 := n6_; have BK288 := n7_; have HB := n8_; have BK297 := n9_; have GW297 := n10_; have GE297 := n11_; have NB269_297 := n12_; have NB297_269 := n13_; have NB288_297 := n14_; have NB297_288 := n15_; clear n0_ n1_ n2_ n3_ n4_ n5_ n6_ n7_ n8_ n9_ n10_ n11_ n12_ n13_ n14_ n15_; clear hb hbox hg; have hnb31 := NB297_269.out; have hnc31 := NB269_297.out; have hnb32 := NB297_288.out; have hnc32 := NB288_297.out; have hcz33_0 : w30.cell? ⟨gb297, 0, none⟩ = some (.int .i64 0) := (blk_cell BK297.out 0).trans rfl; have hcz33_1 : w30.cell? ⟨gb297, 1, none⟩ = some (.int .i64 0) := (blk_cell BK297.out 1).trans rfl; have hcz33_2 : w30.cell? ⟨gb297, 2, none⟩ = some (.slice none 0 0) := (blk_cell BK297.out 2).trans rfl; have hcz33_3 : w30.cell? ⟨gb297, 3, none⟩ = some (.slice none 0 0) := (blk_cell BK297.out 3).trans rfl; have hfz33_0 := blk_frozen BK297.out 0; have hfz33_1 := blk_frozen BK297.out 1; have hfz33_2 := blk_frozen BK297.out 2; have hfz33_3 := blk_frozen BK297.out 3; obtain ⟨Ao34, co34, eo34⟩ := Kd.R_slice HO293.out; subst eo34; obtain ⟨Ao35, co35, eo35⟩ := Kd.R_slice HO296.out; subst eo35) | ((with_reducible refine gate_callee (f := 41) rfl ?_); refine goesL_ (some 36) rfl rfl Try.func41 (by kernel_rfl) rfl #[.agg #[.int .i64 t289, .int .i64 t290, .slice Ao34 t291.length co34, .slice Ao35 t294.length co35], .string a1] rfl (by (try simp only [List.map_toArray, List.map_cons, List.map_nil]); first | done | rfl | (simp only [List.length_drop, List.length_take]; rfl)) ?_; (with_reducible refine (impl_Unpin.calls k t289 t290 _ _ t291 _ _ t294 a1 t298 t299 t300 t303 t306 _ ?side1 ?side2 ?side3 ?side4 A13.out).mono ?_); (case side1 => refine (Kd.R_reads' (e := 92) (base := w.heap.size) (ok := fun k_ => ((True ∧ some k_ ≠ (.slice Ao20 t273.length co20 : Value).ownBlock) ∧ some k_ ≠ (.slice Ao26 t281.length co26 : Value).ownBlock)) (n := t291.length) (c := co34) ?_).2.2; exact (by (with_reducible repeat (first | apply Kd.R_alloc | apply Kd.R_drewN | apply Kd.R_drew)); exact (Kd.R_mono (Zz.rF_ gb297 (Kd.R_types HO293.out BK297.out (by decide)) (fun _ hk => hk.2) _ _ _ _) (fun _ h_ => h_.1)))); (case side2 => exact (Kd.R_reads' HO293.out).2.1); (case side3 => refine (Kd.R_reads' (e := 9) (base := w.heap.size) (ok := fun k_ => ((True ∧ some k_ ≠ (.slice Ao21 t276.length co21 : Value).ownBlock) ∧ some k_ ≠ (.slice Ao27 t284.length co27 : Value).ownBlock)) (n := t294.length) (c := co35) ?_).2.2; exact (by (with_reducible repeat (first | apply Kd.R_alloc | apply Kd.R_drewN | apply Kd.R_drew)); exact (Kd.R_mono (Zz.rF_ gb297 (Kd.R_types HO296.out BK297.out (by decide)) (fun _ hk => hk.2) _ _ _ _) (fun _ h_ => h_.1)))); (case side4 => exact (Kd.R_reads' HO296.out).2.1); rintro e w36 ⟨v301, v304, rfl, ho0, ho1, hb⟩; refine ⟨_, rfl, ?_⟩; have n0_ := Aside0.mk (Kd.R_elder' (by (with_reducible repeat (first | apply Kd.R_alloc | apply Kd.R_drewN | apply Kd.R_drew)); exact (Kd.R_mono (Zz.rF_ gb297 (Kd.R_types HO275.out BK297.out (by decide)) (fun _ hk => hk.2) _ _ _ _) (fun _ h_ => h_.1))) (Kd.R_base ho0) hb); have n1_ := Aside0.mk (Kd.R_elder' (by (with_reducible repeat (first | apply Kd.R_alloc | apply Kd.R_drewN | apply Kd.R_drew)); exact (Kd.R_mono (Zz.rF_ gb297 (Kd.R_types HO278.out BK297.out (by decide)) (fun _ hk => hk.2) _ _ _ _) (fun _ h_ => h_.1))) (Kd.R_base ho1) hb); have n2_ := Aside0.mk (Kd.R_elder' (by (with_reducible repeat (first | apply Kd.R_alloc | apply Kd.R_drewN | apply Kd.R_drew)); exact (Kd.R_mono (Zz.rF_ gb297 (Kd.R_types HO283.out BK297.out (by decide)) (fun _ hk => hk.2) _ _ _ _) (fun _ h_ => h_.1))) (Kd.R_base ho0) hb); have n3_ := Aside0.mk (Kd.R_elder' (by (with_reducible repeat (first | apply Kd.R_alloc | apply Kd.R_drewN | apply Kd.R_drew)); exact (Kd.R_mono (Zz.rF_ gb297 (Kd.R_types HO286.out BK297.out (by decide)) (fun _ hk => hk.2) _ _ _ _) (fun _ h_ => h_.1))) (Kd.R_base ho1) hb); have n4_ := Aside0.mk (Kd.R_elder' (by (with_reducible repeat (first | apply Kd.R_alloc | apply Kd.R_drewN | apply Kd.R_drew)); exact (Kd.R_mono (Zz.rF_ gb297 (Kd.R_types HO293.out BK297.out (by decide)) (fun _ hk => hk.2) _ _ _ _) (fun _ h_ => h_.1))) (Kd.R_base ho0) hb); have n5_ := Aside0.mk (Kd.R_elder' (by (with_reducible repeat (first | apply Kd.R_alloc | apply Kd.R_drewN | apply Kd.R_drew)); exact (Kd.R_mono (Zz.rF_ gb297 (Kd.R_types HO296.out BK297.out (by decide)) (fun _ hk => hk.2) _ _ _ _) (fun _ h_ => h_.1))) (Kd.R_base ho1) hb); have n6_ := Aside0.mk (Kd.R_lower (Kd.R_new' (Kd.R_new' (Kd.R_new' ho0 (Kd.R_lt (by (with_reducible repeat (first | apply Kd.R_alloc | apply Kd.R_drewN | apply Kd.R_drew)); exact (Kd.R_mono (Zz.rF_ gb297 (Kd.R_types HO275.out BK297.out (by decide)) (fun _ hk => hk.2) _ _ _ _) (fun _ h_ => h_.1))))) (Kd.R_lt (by (with_reducible repeat (first | apply Kd.R_alloc | apply Kd.R_drewN | apply Kd.R_drew)); exact (Kd.R_mono (Zz.rF_ gb297 (Kd.R_types HO283.out BK297.out (by decide)) (fun _ hk => hk.2) _ _ _ _) (fun _ h_ => h_.1))))) (Kd.R_lt (by (with_reducible repeat (first | apply Kd.R_alloc | apply Kd.R_drewN | apply Kd.R_drew)); exact (Kd.R_mono (Zz.rF_ gb297 (Kd.R_types HO293.out BK297.out (by decide)) (fun _ hk => hk.2) _ _ _ _) (fun _ h_ => h_.1))))) (below_size (Zz.rB_ HB.out))); have n7_ := Aside0.mk (Kd.R_lower (Kd.R_new' (Kd.R_new' (Kd.R_new' ho1 (Kd.R_lt (by (with_reducible repeat (first | apply Kd.R_alloc | apply Kd.R_drewN | apply Kd.R_drew)); exact (Kd.R_mono (Zz.rF_ gb297 (Kd.R_types HO278.out BK297.out (by decide)) (fun _ hk => hk.2) _ _ _ _) (fun _ h_ => h_.1))))) (Kd.R_lt (by (with_reducible repeat (first | apply Kd.R_alloc | apply Kd.R_drewN | apply Kd.R_drew)); exact (Kd.R_mono (Zz.rF_ gb297 (Kd.R_types HO286.out BK297.out (by decide)) (fun _ hk => hk.2) _ _ _ _) (fun _ h_ => h_.1))))) (Kd.R_lt (by (with_reducible repeat (first | apply Kd.R_alloc | apply Kd.R_drewN | apply Kd.R_drew)); exact (Kd.R_mono (Zz.rF_ gb297 (Kd.R_types HO296.out BK297.out (by decide)) (fun _ hk => hk.2) _ _ _ _) (fun _ h_ => h_.1))))) (below_size (Zz.rB_ HB.out))); have n8_ := Aside0.mk (blk_below (g := gb269) (o := .cells #[.int .i64 a0_0, .int .i64 a0_1, .slice A0_2 l0_2.length c0_2, .slice A0_3 l0_3.length c0_3] 31 (0, 0)) (Zz.rb4_ NB269_297.out BK269.out) hb); have n9_ := Aside0.mk (blk_below (g := gb288) (o := .cells #[.int .i64 t279, .int .i64 t280, .slice Ao26 t281.length co26, .slice Ao27 t284.length co27] 36 (0, 0)) (Zz.rb4_ NB288_297.out BK288.out) hb); have n10_ := Aside0.mk (blk_below (g := gb297) (o := .cells #[.int .i64 t289, .int .i64 t290, .slice Ao34 t291.length co34, .slice Ao35 t294.length co35] 36 (0, 0)) (by (with_reducible repeat (first | refine blk_drewN ?_ _ | refine blk_drew ?_ | refine blk_alloc ?_ _)); refine blk_put (cs := #[.int .i64 t289, .int .i64 t290, .slice Ao34 t291.length co34, .slice none 0 0]) ?_ 3 _ rfl; (with_reducible repeat (first | refine blk_drewN ?_ _ | refine blk_drew ?_ | refine blk_alloc ?_ _)); refine blk_put (cs := #[.int .i64 t289, .int .i64 t290, .slice none 0 0, .slice none 0 0]) ?_ 2 _ rfl; (with_reducible repeat (first | refine blk_drewN ?_ _ | refine blk_drew ?_ | refine blk_alloc ?_ _)); refine blk_put (cs := #[.int .i64 t289, .int .i64 0, .slice none 0 0, .slice none 0 0]) ?_ 1 _ rfl; (with_reducible repeat (first | refine blk_drewN ?_ _ | refine blk_drew ?_ | refine blk_alloc ?_ _)); refine blk_put (cs := #[.int .i64 0, .int .i64 0, .slice none 0 0, .slice none 0 0]) ?_ 0 _ rfl; (with_reducible repeat (first | refine blk_drewN ?_ _ | refine blk_drew ?_ | refine blk_alloc ?_ _)); exact BK297.out) hb); have n11_ := Aside0.mk (below_step (Zz.rB_ HB.out) hb); clear HO275; clear HO278; clear HO283; clear HO286; clear HO293; clear HO296; clear BK269; clear BK288; clear BK297; clear HB; have HO275 := n0_; have HO278 := n1_; have HO283 := n2_; have HO286 := n3_; have HO293 := n4_; have HO296 := n5_; have HO302 := n6_; have HO305 := n7_; have BK269 := n8_; have BK288 := n9_; have BK297 := n10_; have HB := n11_; clear n0_ n1_ n2_ n3_ n4_ n5_ n6_ n7_ n8_ n9_ n10_ n11_; (try clear hb); (try clear hb2); (try clear hk); (try clear hi); (try clear ho0); (try clear ho1)) | ((with_reducible refine gate_dst (N := 9) rfl ?_); refine box_event ?hg (N := 9) ?hd (cs := #[.int .i64 0, .int .i64 0, .slice none 0 0, .slice none 0 0]) (t := 36) ?hr ?_; (case hd => rfl); (case hg => rfl); (case hr => first | (go_simp; done) | (go_simp; rfl)); intro gb307 hg w37 hbox hb; have n0_ := Aside0.mk (Kd.R_below (Zz.rR_ HO275.out) hb); have n1_ := Aside0.mk (Kd.R_below (Zz.rR_ HO278.out) hb); have n2_ := Aside0.mk (Kd.R_below (Zz.rR_ HO283.out) hb); have n3_ := Aside0.mk (Kd.R_below (Zz.rR_ HO286.out) hb); have n4_ := Aside0.mk (Kd.R_below (Zz.rR_ HO293.out) hb); have n5_ := Aside0.mk (Kd.R_below (Zz.rR_ HO296.out) hb); have n6_ := Aside0.mk (Kd.R_below (Zz.rR_ HO302.out) hb); have n7_ := Aside0.mk (Kd.R_below (Zz.rR_ HO305.out) hb); have n8_ := Aside0.mk (blk_below (g := gb269) (o := .cells #[.int .i64 a0_0, .int .i64 a0_1, .slice A0_2 l0_2.length c0_2, .slice A0_3 l0_3.length c0_3] 31 (0, 0)) (Zz.rb_ BK269.out) hb); have n9_ := Aside0.mk (blk_below (g := gb288) (o := .cells #[.int .i64 t279, .int .i64 t280, .slice Ao26 t281.length co26, .slice Ao27 t284.length co27] 36 (0, 0)) (Zz.rb_ BK288.out) hb); have n10_ := Aside0.mk (blk_below (g := gb297) (o := .cells #[.int .i64 t289, .int .i64 t290, .slice Ao34 t291.length co34, .slice Ao35 t294.length co35] 36 (0, 0)) (Zz.rb_ BK297.out) hb); have n11_ := Aside0.mk (below_step (Zz.rB_ HB.out) hb); have n12_ := Aside0.mk (hbox); have n13_ := Aside0.mk ((by rw [hg]; exact (below_size (Zz.rB_ HB.out)) : w.heap.size ≤ gb307)); have n14_ := Aside0.mk ((by rw [hg]; exact (below_size (Zz.rB_ HB.out)) : w.heap.size ≤ gb307)); have n15_ := Aside0.mk ((by rw [hg]; exact Nat.ne_of_lt (blk_lt (g := gb269) (o := .cells #[.int .i64 a0_0, .int .i64 a0_1, .slice A0_2 l0_2.length c0_2, .slice A0_3 l0_3.length c0_3] 31 (0, 0)) (Zz.rb_ BK269.out)) : gb269 ≠ gb307)); have n16_ := Aside0.mk ((by rw [hg]; exact Nat.ne_of_gt (blk_lt (g := gb269) (o := .cells #[.int .i64 a0_0, .int .i64 a0_1, .slice A0_2 l0_2.length c0_2, .slice A0_3 l0_3.length c0_3] 31 (0, 0)) (Zz.rb_ BK269.out)) : gb307 ≠ gb269)); have n17_ := Aside0.mk ((by rw [hg]; exact Nat.ne_of_lt (blk_lt (g := gb288) (o := .cells #[.int .i64 t279, .int .i64 t280, .slice Ao26 t281.length co26, .slice Ao27 t284.length co27] 36 (0, 0)) (Zz.rb_ BK288.out)) : gb288 ≠ gb307)); have n18_ := Aside0.mk ((by rw [hg]; exact Nat.ne_of_gt (blk_lt (g := gb288) (o := .cells #[.int .i64 t279, .int .i64 t280, .slice Ao26 t281.length co26, .slice Ao27 t284.length co27] 36 (0, 0)) (Zz.rb_ BK288.out)) : gb307 ≠ gb288)); have n19_ := Aside0.mk ((by rw [hg]; exact Nat.ne_of_lt (blk_lt (g := gb297) (o := .cells #[.int .i64 t289, .int .i64 t290, .slice Ao34 t291.length co34, .slice Ao35 t294.length co35] 36 (0, 0)) (Zz.rb_ BK297.out)) : gb297 ≠ gb307)); have n20_ := Aside0.mk ((by rw [hg]; exact Nat.ne_of_gt (blk_lt (g := gb297) (o := .cells #[.int .i64 t289, .int .i64 t290, .slice Ao34 t291.length co34, .slice Ao35 t294.length co35] 36 (0, 0)) (Zz.rb_ BK297.out)) : gb307 ≠ gb297)); clear HO275; clear HO278; clear HO283; clear HO286; clear HO293; clear HO296; clear HO302; clear HO305; clear BK269; clear BK288; clear BK297; clear HB; have HO275 := n0_; have HO278 := n1_; have HO283 := n2_; have HO286 := n3_; have HO293 := n4_; have HO296 := n5_; have HO302 := n6_; have HO305 := n7_; have BK269 := n8_; have BK288 := n9_; have BK297 := n10_; have HB := n11_; have BK307 := n12_; have GW307 := n13_; have GE307 := n14_; have NB269_307 := n15_; have NB307_269 := n16_; have NB288_307 := n17_; have NB307_288 := n18_; have NB297_307 := n19_; have NB307_297 := n20_; clear n0_ n1_ n2_ n3_ n4_ n5_ n6_ n7_ n8_ n9_ n10_ n11_ n12_ n13_ n14_ n15_ n16_ n17_ n18_ n19_ n20_; clear hb hbox hg; have hnb38 := NB307_269.out; have hnc38 := NB269_307.out; have hnb39 := NB307_288.out; have hnc39 := NB288_307.out; have hnb40 := NB307_297.out; have hnc40 := NB297_307.out; have hcz41_0 : w37.cell? ⟨gb307, 0, none⟩ = some (.int .i64 0) := (blk_cell BK307.out 0).trans rfl; have hcz41_1 : w37.cell? ⟨gb307, 1, none⟩ = some (.int .i64 0) := (blk_cell BK307.out 1).trans rfl; have hcz41_2 : w37.cell? ⟨gb307, 2, none⟩ = some (.slice none 0 0) := (blk_cell BK307.out 2).trans rfl; have hcz41_3 : w37.cell? ⟨gb307, 3, none⟩ = some (.slice none 0 0) := (blk_cell BK307.out 3).trans rfl; have hfz41_0 := blk_frozen BK307.out 0; have hfz41_1 := blk_frozen BK307.out 1; have hfz41_2 := blk_frozen BK307.out 2; have hfz41_3 := blk_frozen BK307.out 3; obtain ⟨Ao42, co42, eo42⟩ := Kd.R_slice HO302.out; subst eo42; obtain ⟨Ao43, co43, eo43⟩ := Kd.R_slice HO305.out; subst eo43))
   (try simp only [Act.put, List.setIfInBounds_toArray, List.set_cons_zero, List.set_cons_succ])
   go_cut [47] (fun v47 wc => ∃ (kq : Nat) (x47_13 : Bool), v47 = .bool x47_13 ∧ Aside0 (laws_FnExactUnpin.j0 kq a1 t287 t306 x47_13 a0_0 a0_1 l0_2 l0_3 t279 t280 t281 t284 t289 t290 t291 t294 t298 t299 t300 t303 = some r) ∧ Aside0 (kq ≤ k) ∧ Aside0 (Kd.R k92 92 wc w.heap.size (fun k_ => some k_ ≠ ((.slice Ao34 t291.length co34) : Value).ownBlock ∧ some k_ ≠ ((.slice Ao42 t300.length co42) : Value).ownBlock) (.slice Ao26 t281.length co26) t281) ∧ Aside0 (Kd.R Kd.string 9 wc w.heap.size (fun k_ => some k_ ≠ ((.slice Ao35 t294.length co35) : Value).ownBlock ∧ some k_ ≠ ((.slice Ao43 t303.length co43) : Value).ownBlock) (.slice Ao27 t284.length co27) t284) ∧ Aside0 (Kd.R k92 92 wc w.heap.size (fun k_ => some k_ ≠ ((.slice Ao26 t281.length co26) : Value).ownBlock ∧ some k_ ≠ ((.slice Ao42 t300.length co42) : Value).ownBlock) (.slice Ao34 t291.length co34) t291) ∧ Aside0 (Kd.R Kd.string 9 wc w.heap.size (fun k_ => some k_ ≠ ((.slice Ao27 t284.length co27) : Value).ownBlock ∧ some k_ ≠ ((.slice Ao43 t303.length co43) : Value).ownBlock) (.slice Ao35 t294.length co35) t294) ∧ Aside0 (Kd.R k92 92 wc w.heap.size (fun k_ => some k_ ≠ ((.slice Ao26 t281.length co26) : Value).ownBlock ∧ some k_ ≠ ((.slice Ao34 t291.length co34) : Value).ownBlock) (.slice Ao42 t300.length co42) t300) ∧ Aside0 (Kd.R Kd.string 9 wc w.heap.size (fun k_ => some k_ ≠ ((.slice Ao27 t284.length co27) : Value).ownBlock ∧ some k_ ≠ ((.slice Ao35 t294.length co35) : Value).ownBlock) (.slice Ao43 t303.length co43) t303) ∧ Aside0 (wc.heap[gb269]? = some (.cells #[.int .i64 a0_0, .int .i64 a0_1, (.slice A0_2 l0_2.length c0_2), (.slice A0_3 l0_3.length c0_3)] 31 (0, 0))) ∧ Aside0 (wc.heap[gb288]? = some (.cells #[.int .i64 t279, .int .i64 t280, (.slice Ao26 t281.length co26), (.slice Ao27 t284.length co27)] 36 (0, 0))) ∧ Aside0 (wc.heap[gb297]? = some (.cells #[.int .i64 t289, .int .i64 t290, (.slice Ao34 t291.length co34), (.slice Ao35 t294.length co35)] 36 (0, 0))) ∧ Aside0 (wc.heap[gb307]? = some (.cells #[.int .i64 t298, .int .i64 t299, (.slice Ao42 t300.length co42), (.slice Ao43 t303.length co43)] 36 (0, 0))) ∧ Aside0 (Below w.heap.size w wc))
   case first =>
    have H := HC14.out
    clear HC14
    replace H := Option.bind_eq_some_iff.mp H
    obtain ⟨t308, A440, H⟩ := H
    replace H : (if t308 = true then (laws_FnExactUnpin.j0 k a1 t287 t306 (t306 != t287) a0_0 a0_1 l0_2 l0_3 t279 t280 t281 t284 t289 t290 t291 t294 t298 t299 t300 t303) else (laws_FnExactUnpin.j0 k a1 t287 t306 true a0_0 a0_1 l0_2 l0_3 t279 t280 t281 t284 t289 t290 t291 t294 t298 t299 t300 t303)) = some r := H
    have A44 := Aside0.mk A440
    clear A440
    by_cases c45 : t308 = true
    ·
     subst c45
     have H1 : (laws_FnExactUnpin.j0 k a1 t287 t306 (t306 != t287) a0_0 a0_1 l0_2 l0_3 t279 t280 t281 t284 t289 t290 t291 t294 t298 t299 t300 t303) = some r := by rw [if_pos rfl] at H; exact H
     clear H
     have H := H1
     clear H1
     have H' := Aside0.mk H
     clear H
     have hnb46 := NB307_269.out
     have hnc46 := NB269_307.out
     have hnb47 := NB307_288.out
     have hnc47 := NB288_307.out
     have hnb48 := NB307_297.out
     have hnc48 := NB297_307.out
     have hcz49_0 : w37.cell? ⟨gb307, 0, none⟩ = some (.int .i64 0) := (blk_cell BK307.out 0).trans rfl
     have hcz49_1 : w37.cell? ⟨gb307, 1, none⟩ = some (.int .i64 0) := (blk_cell BK307.out 1).trans rfl
     have hcz49_2 : w37.cell? ⟨gb307, 2, none⟩ = some (.slice none 0 0) := (blk_cell BK307.out 2).trans rfl
     have hcz49_3 : w37.cell? ⟨gb307, 3, none⟩ = some (.slice none 0 0) := (blk_cell BK307.out 3).trans rfl
     have hfz49_0 := blk_frozen BK307.out 0
     have hfz49_1 := blk_frozen BK307.out 1
     have hfz49_2 := blk_frozen BK307.out 2
     have hfz49_3 := blk_frozen BK307.out 3
     have hnb50 := NB288_269.out
     have hnc50 := NB269_288.out
     have hnb51 := NB288_297.out
     have hnc51 := NB297_288.out
     have hcz52_0 : w37.cell? ⟨gb288, 0, none⟩ = some (.int .i64 t279) := (blk_cell BK288.out 0).trans rfl
     have hcz52_1 : w37.cell? ⟨gb288, 1, none⟩ = some (.int .i64 t280) := (blk_cell BK288.out 1).trans rfl
     have hcz52_2 : w37.cell? ⟨gb288, 2, none⟩ = some (.slice Ao26 t281.length co26) := (blk_cell BK288.out 2).trans rfl
     have hcz52_3 : w37.cell? ⟨gb288, 3, none⟩ = some (.slice Ao27 t284.length co27) := (blk_cell BK288.out 3).trans rfl
     have hfz52_0 := blk_frozen BK288.out 0
     have hfz52_1 := blk_frozen BK288.out 1
     have hfz52_2 := blk_frozen BK288.out 2
     have hfz52_3 := blk_frozen BK288.out 3
     go_wp2_with (first | ((with_reducible refine gate_callee (f := 22) rfl ?_); refine goesL_ (some 41) rfl rfl Try.func22 (by kernel_rfl) rfl #[.agg #[.int .i64 t298, .int .i64 t299, .slice Ao42 t300.length co42, .slice Ao43 t303.length co43], .agg #[.int .i64 t279, .int .i64 t280, .slice Ao26 t281.length co26, .slice Ao27 t284.length co27]] rfl (by (try simp only [List.map_toArray, List.map_cons, List.map_nil]); first | done | rfl | (simp only [List.length_drop, List.length_take]; rfl)) ?_; (with_reducible refine (laws_eqStore.calls k t298 t299 _ _ t300 _ _ t303 t279 t280 _ _ t281 _ _ t284 true _ ?side1 ?side2 ?side3 ?side4 ?side5 ?side6 ?side7 ?side8 A44.out).mono ?_); (case side1 => refine (Kd.R_reads' (e := 92) (base := w.heap.size) (ok := fun k_ => (((True ∧ some k_ ≠ (.slice Ao20 t273.length co20 : Value).ownBlock) ∧ some k_ ≠ (.slice Ao26 t281.length co26 : Value).ownBlock) ∧ some k_ ≠ (.slice Ao34 t291.length co34 : Value).ownBlock)) (n := t300.length) (c := co42) ?_).2.2; exact (by (with_reducible repeat (first | apply Kd.R_alloc | apply Kd.R_drewN | apply Kd.R_drew)); exact (Kd.R_mono (Zz.rF_ gb307 (Kd.R_types HO302.out BK307.out (by decide)) (fun _ hk => hk.2) _ _ _ _) (fun _ h_ => h_.1)))); (case side2 => exact (Kd.R_reads' HO302.out).2.1); (case side3 => refine (Kd.R_reads' (e := 9) (base := w.heap.size) (ok := fun k_ => (((True ∧ some k_ ≠ (.slice Ao21 t276.length co21 : Value).ownBlock) ∧ some k_ ≠ (.slice Ao27 t284.length co27 : Value).ownBlock) ∧ some k_ ≠ (.slice Ao35 t294.length co35 : Value).ownBlock)) (n := t303.length) (c := co43) ?_).2.2; exact (by (with_reducible repeat (first | apply Kd.R_alloc | apply Kd.R_drewN | apply Kd.R_drew)); exact (Kd.R_mono (Zz.rF_ gb307 (Kd.R_types HO305.out BK307.out (by decide)) (fun _ hk => hk.2) _ _ _ _) (fun _ h_ => h_.1)))); (case side4 => exact (Kd.R_reads' HO305.out).2.1); (case side5 => refine (Kd.R_reads' (e := 92) (base := w.heap.size) (ok := fun k_ => (((True ∧ some k_ ≠ (.slice Ao20 t273.length co20 : Value).ownBlock) ∧ some k_ ≠ (.slice Ao34 t291.length co34 : Value).ownBlock) ∧ some k_ ≠ (.slice Ao42 t300.length co42 : Value).ownBlock)) (n := t281.length) (c := co26) ?_).2.2; exact (by (with_reducible repeat (first | apply Kd.R_alloc | apply Kd.R_drewN | apply Kd.R_drew)); exact (Kd.R_mono (Zz.rF_ gb307 (Kd.R_types HO283.out BK307.out (by decide)) (fun _ hk => hk.2) _ _ _ _) (fun _ h_ => h_.1)))); (case side6 => exact (Kd.R_reads' HO283.out).2.1); (case side7 => refine (Kd.R_reads' (e := 9) (base := w.heap.size) (ok := fun k_ => (((True ∧ some k_ ≠ (.slice Ao21 t276.length co21 : Value).ownBlock) ∧ some k_ ≠ (.slice Ao35 t294.length co35 : Value).ownBlock) ∧ some k_ ≠ (.slice Ao43 t303.length co43 : Value).ownBlock)) (n := t284.length) (c := co27) ?_).2.2; exact (by (with_reducible repeat (first | apply Kd.R_alloc | apply Kd.R_drewN | apply Kd.R_drew)); exact (Kd.R_mono (Zz.rF_ gb307 (Kd.R_types HO286.out BK307.out (by decide)) (fun _ hk => hk.2) _ _ _ _) (fun _ h_ => h_.1)))); (case side8 => exact (Kd.R_reads' HO286.out).2.1); rintro e w53 ⟨rfl, hb⟩; refine ⟨_, rfl, ?_⟩; have n0_ := Aside0.mk (Kd.R_below (by (with_reducible repeat (first | apply Kd.R_alloc | apply Kd.R_drewN | apply Kd.R_drew)); exact (Kd.R_mono (Zz.rF_ gb307 (Kd.R_types HO275.out BK307.out (by decide)) (fun _ hk => hk.2) _ _ _ _) (fun _ h_ => h_.1))) hb); have n1_ := Aside0.mk (Kd.R_below (by (with_reducible repeat (first | apply Kd.R_alloc | apply Kd.R_drewN | apply Kd.R_drew)); exact (Kd.R_mono (Zz.rF_ gb307 (Kd.R_types HO278.out BK307.out (by decide)) (fun _ hk => hk.2) _ _ _ _) (fun _ h_ => h_.1))) hb); have n2_ := Aside0.mk (Kd.R_below (by (with_reducible repeat (first | apply Kd.R_alloc | apply Kd.R_drewN | apply Kd.R_drew)); exact (Kd.R_mono (Zz.rF_ gb307 (Kd.R_types HO283.out BK307.out (by decide)) (fun _ hk => hk.2) _ _ _ _) (fun _ h_ => h_.1))) hb); have n3_ := Aside0.mk (Kd.R_below (by (with_reducible repeat (first | apply Kd.R_alloc | apply Kd.R_drewN | apply Kd.R_drew)); exact (Kd.R_mono (Zz.rF_ gb307 (Kd.R_types HO286.out BK307.out (by decide)) (fun _ hk => hk.2) _ _ _ _) (fun _ h_ => h_.1))) hb); have n4_ := Aside0.mk (Kd.R_below (by (with_reducible repeat (first | apply Kd.R_alloc | apply Kd.R_drewN | apply Kd.R_drew)); exact (Kd.R_mono (Zz.rF_ gb307 (Kd.R_types HO293.out BK307.out (by decide)) (fun _ hk => hk.2) _ _ _ _) (fun _ h_ => h_.1))) hb); have n5_ := Aside0.mk (Kd.R_below (by (with_reducible repeat (first | apply Kd.R_alloc | apply Kd.R_drewN | apply Kd.R_drew)); exact (Kd.R_mono (Zz.rF_ gb307 (Kd.R_types HO296.out BK307.out (by decide)) (fun _ hk => hk.2) _ _ _ _) (fun _ h_ => h_.1))) hb); have n6_ := Aside0.mk (Kd.R_below (by (with_reducible repeat (first | apply Kd.R_alloc | apply Kd.R_drewN | apply Kd.R_drew)); exact (Kd.R_mono (Zz.rF_ gb307 (Kd.R_types HO302.out BK307.out (by decide)) (fun _ hk => hk.2) _ _ _ _) (fun _ h_ => h_.1))) hb); have n7_ := Aside0.mk (Kd.R_below (by (with_reducible repeat (first | apply Kd.R_alloc | apply Kd.R_drewN | apply Kd.R_drew)); exact (Kd.R_mono (Zz.rF_ gb307 (Kd.R_types HO305.out BK307.out (by decide)) (fun _ hk => hk.2) _ _ _ _) (fun _ h_ => h_.1))) hb); have n8_ := Aside0.mk (blk_below (g := gb269) (o := .cells #[.int .i64 a0_0, .int .i64 a0_1, .slice A0_2 l0_2.length c0_2, .slice A0_3 l0_3.length c0_3] 31 (0, 0)) (Zz.rb4_ NB269_307.out BK269.out) hb); have n9_ := Aside0.mk (blk_below (g := gb288) (o := .cells #[.int .i64 t279, .int .i64 t280, .slice Ao26 t281.length co26, .slice Ao27 t284.length co27] 36 (0, 0)) (Zz.rb4_ NB288_307.out BK288.out) hb); have n10_ := Aside0.mk (blk_below (g := gb297) (o := .cells #[.int .i64 t289, .int .i64 t290, .slice Ao34 t291.length co34, .slice Ao35 t294.length co35] 36 (0, 0)) (Zz.rb4_ NB297_307.out BK297.out) hb); have n11_ := Aside0.mk (blk_below (g := gb307) (o := .cells #[.int .i64 t298, .int .i64 t299, .slice Ao42 t300.length co42, .slice Ao43 t303.length co43] 36 (0, 0)) (by (with_reducible repeat (first | refine blk_drewN ?_ _ | refine blk_drew ?_ | refine blk_alloc ?_ _)); refine blk_put (cs := #[.int .i64 t298, .int .i64 t299, .slice Ao42 t300.length co42, .slice none 0 0]) ?_ 3 _ rfl; (with_reducible repeat (first | refine blk_drewN ?_ _ | refine blk_drew ?_ | refine blk_alloc ?_ _)); refine blk_put (cs := #[.int .i64 t298, .int .i64 t299, .slice none 0 0, .slice none 0 0]) ?_ 2 _ rfl; (with_reducible repeat (first | refine blk_drewN ?_ _ | refine blk_drew ?_ | refine blk_alloc ?_ _)); refine blk_put (cs := #[.int .i64 t298, .int .i64 0, .slice none 0 0, .slice none 0 0]) ?_ 1 _ rfl; (with_reducible repeat (first | refine blk_drewN ?_ _ | refine blk_drew ?_ | refine blk_alloc ?_ _)); refine blk_put (cs := #[.int .i64 0, .int .i64 0, .slice none 0 0, .slice none 0 0]) ?_ 0 _ rfl; (with_reducible repeat (first | refine blk_drewN ?_ _ | refine blk_drew ?_ | refine blk_alloc ?_ _)); exact BK307.out) hb); have n12_ := Aside0.mk (below_step (Zz.rB_ HB.out) hb); clear HO275; clear HO278; clear HO283; clear HO286; clear HO293; clear HO296; clear HO302; clear HO305; clear BK269; clear BK288; clear BK297; clear BK307; clear HB; have HO275 := n0_; have HO278 := n1_; have HO283 := n2_; have HO286 := n3_; have HO293 := n4_; have HO296 := n5_; have HO302 := n6_; have HO305 := n7_; have BK269 := n8_; have BK288 := n9_; have BK297 := n10_; have BK307 := n11_; have HB := n12_; clear n0_ n1_ n2_ n3_ n4_ n5_ n6_ n7_ n8_ n9_ n10_ n11_ n12_; (try clear hb); (try clear hb2); (try clear hk); (try clear hi)))
     go_meet
     case rel => exact ⟨_, ((t306 != t287)), (by first | rfl | (simp; done) | (simp [*]; done)), H', ⟨by first | omega | exact Nat.le_refl _⟩, ⟨by (with_reducible repeat (first | apply Kd.R_alloc | apply Kd.R_drewN | apply Kd.R_drew)); exact Kd.R_mono HO283.out (fun _ hk => ⟨hk.1.2, hk.2⟩)⟩, ⟨by (with_reducible repeat (first | apply Kd.R_alloc | apply Kd.R_drewN | apply Kd.R_drew)); exact Kd.R_mono HO286.out (fun _ hk => ⟨hk.1.2, hk.2⟩)⟩, ⟨by (with_reducible repeat (first | apply Kd.R_alloc | apply Kd.R_drewN | apply Kd.R_drew)); exact Kd.R_mono HO293.out (fun _ hk => ⟨hk.1.2, hk.2⟩)⟩, ⟨by (with_reducible repeat (first | apply Kd.R_alloc | apply Kd.R_drewN | apply Kd.R_drew)); exact Kd.R_mono HO296.out (fun _ hk => ⟨hk.1.2, hk.2⟩)⟩, ⟨by (with_reducible repeat (first | apply Kd.R_alloc | apply Kd.R_drewN | apply Kd.R_drew)); exact Kd.R_mono HO302.out (fun _ hk => ⟨hk.1.2, hk.2⟩)⟩, ⟨by (with_reducible repeat (first | apply Kd.R_alloc | apply Kd.R_drewN | apply Kd.R_drew)); exact Kd.R_mono HO305.out (fun _ hk => ⟨hk.1.2, hk.2⟩)⟩, ⟨Zz.rb_ BK269.out⟩, ⟨Zz.rb_ BK288.out⟩, ⟨Zz.rb_ BK297.out⟩, ⟨Zz.rb_ BK307.out⟩, ⟨Zz.rB_ HB.out⟩⟩
    ·
     replace c45 := Bool.eq_false_iff.mpr c45
     subst c45
     have H1 : (laws_FnExactUnpin.j0 k a1 t287 t306 true a0_0 a0_1 l0_2 l0_3 t279 t280 t281 t284 t289 t290 t291 t294 t298 t299 t300 t303) = some r := by rw [if_neg (show ¬ (false = true) by decide)] at H; exact H
     clear H
     have H := H1
     clear H1
     have H' := Aside0.mk H
     clear H
     have hnb54 := NB307_269.out
     have hnc54 := NB269_307.out
     have hnb55 := NB307_288.out
     have hnc55 := NB288_307.out
     have hnb56 := NB307_297.out
     have hnc56 := NB297_307.out
     have hcz57_0 : w37.cell? ⟨gb307, 0, none⟩ = some (.int .i64 0) := (blk_cell BK307.out 0).trans rfl
     have hcz57_1 : w37.cell? ⟨gb307, 1, none⟩ = some (.int .i64 0) := (blk_cell BK307.out 1).trans rfl
     have hcz57_2 : w37.cell? ⟨gb307, 2, none⟩ = some (.slice none 0 0) := (blk_cell BK307.out 2).trans rfl
     have hcz57_3 : w37.cell? ⟨gb307, 3, none⟩ = some (.slice none 0 0) := (blk_cell BK307.out 3).trans rfl
     have hfz57_0 := blk_frozen BK307.out 0
     have hfz57_1 := blk_frozen BK307.out 1
     have hfz57_2 := blk_frozen BK307.out 2
     have hfz57_3 := blk_frozen BK307.out 3
     have hnb58 := NB288_269.out
     have hnc58 := NB269_288.out
     have hnb59 := NB288_297.out
     have hnc59 := NB297_288.out
     have hcz60_0 : w37.cell? ⟨gb288, 0, none⟩ = some (.int .i64 t279) := (blk_cell BK288.out 0).trans rfl
     have hcz60_1 : w37.cell? ⟨gb288, 1, none⟩ = some (.int .i64 t280) := (blk_cell BK288.out 1).trans rfl
     have hcz60_2 : w37.cell? ⟨gb288, 2, none⟩ = some (.slice Ao26 t281.length co26) := (blk_cell BK288.out 2).trans rfl
     have hcz60_3 : w37.cell? ⟨gb288, 3, none⟩ = some (.slice Ao27 t284.length co27) := (blk_cell BK288.out 3).trans rfl
     have hfz60_0 := blk_frozen BK288.out 0
     have hfz60_1 := blk_frozen BK288.out 1
     have hfz60_2 := blk_frozen BK288.out 2
     have hfz60_3 := blk_frozen BK288.out 3
     go_wp2_with (first | ((with_reducible refine gate_callee (f := 22) rfl ?_); refine goesL_ (some 41) rfl rfl Try.func22 (by kernel_rfl) rfl #[.agg #[.int .i64 t298, .int .i64 t299, .slice Ao42 t300.length co42, .slice Ao43 t303.length co43], .agg #[.int .i64 t279, .int .i64 t280, .slice Ao26 t281.length co26, .slice Ao27 t284.length co27]] rfl (by (try simp only [List.map_toArray, List.map_cons, List.map_nil]); first | done | rfl | (simp only [List.length_drop, List.length_take]; rfl)) ?_; (with_reducible refine (laws_eqStore.calls k t298 t299 _ _ t300 _ _ t303 t279 t280 _ _ t281 _ _ t284 false _ ?side1 ?side2 ?side3 ?side4 ?side5 ?side6 ?side7 ?side8 A44.out).mono ?_); (case side1 => refine (Kd.R_reads' (e := 92) (base := w.heap.size) (ok := fun k_ => (((True ∧ some k_ ≠ (.slice Ao20 t273.length co20 : Value).ownBlock) ∧ some k_ ≠ (.slice Ao26 t281.length co26 : Value).ownBlock) ∧ some k_ ≠ (.slice Ao34 t291.length co34 : Value).ownBlock)) (n := t300.length) (c := co42) ?_).2.2; exact (by (with_reducible repeat (first | apply Kd.R_alloc | apply Kd.R_drewN | apply Kd.R_drew)); exact (Kd.R_mono (Zz.rF_ gb307 (Kd.R_types HO302.out BK307.out (by decide)) (fun _ hk => hk.2) _ _ _ _) (fun _ h_ => h_.1)))); (case side2 => exact (Kd.R_reads' HO302.out).2.1); (case side3 => refine (Kd.R_reads' (e := 9) (base := w.heap.size) (ok := fun k_ => (((True ∧ some k_ ≠ (.slice Ao21 t276.length co21 : Value).ownBlock) ∧ some k_ ≠ (.slice Ao27 t284.length co27 : Value).ownBlock) ∧ some k_ ≠ (.slice Ao35 t294.length co35 : Value).ownBlock)) (n := t303.length) (c := co43) ?_).2.2; exact (by (with_reducible repeat (first | apply Kd.R_alloc | apply Kd.R_drewN | apply Kd.R_drew)); exact (Kd.R_mono (Zz.rF_ gb307 (Kd.R_types HO305.out BK307.out (by decide)) (fun _ hk => hk.2) _ _ _ _) (fun _ h_ => h_.1)))); (case side4 => exact (Kd.R_reads' HO305.out).2.1); (case side5 => refine (Kd.R_reads' (e := 92) (base := w.heap.size) (ok := fun k_ => (((True ∧ some k_ ≠ (.slice Ao20 t273.length co20 : Value).ownBlock) ∧ some k_ ≠ (.slice Ao34 t291.length co34 : Value).ownBlock) ∧ some k_ ≠ (.slice Ao42 t300.length co42 : Value).ownBlock)) (n := t281.length) (c := co26) ?_).2.2; exact (by (with_reducible repeat (first | apply Kd.R_alloc | apply Kd.R_drewN | apply Kd.R_drew)); exact (Kd.R_mono (Zz.rF_ gb307 (Kd.R_types HO283.out BK307.out (by decide)) (fun _ hk => hk.2) _ _ _ _) (fun _ h_ => h_.1)))); (case side6 => exact (Kd.R_reads' HO283.out).2.1); (case side7 => refine (Kd.R_reads' (e := 9) (base := w.heap.size) (ok := fun k_ => (((True ∧ some k_ ≠ (.slice Ao21 t276.length co21 : Value).ownBlock) ∧ some k_ ≠ (.slice Ao35 t294.length co35 : Value).ownBlock) ∧ some k_ ≠ (.slice Ao43 t303.length co43 : Value).ownBlock)) (n := t284.length) (c := co27) ?_).2.2; exact (by (with_reducible repeat (first | apply Kd.R_alloc | apply Kd.R_drewN | apply Kd.R_drew)); exact (Kd.R_mono (Zz.rF_ gb307 (Kd.R_types HO286.out BK307.out (by decide)) (fun _ hk => hk.2) _ _ _ _) (fun _ h_ => h_.1)))); (case side8 => exact (Kd.R_reads' HO286.out).2.1); rintro e w61 ⟨rfl, hb⟩; refine ⟨_, rfl, ?_⟩; have n0_ := Aside0.mk (Kd.R_below (by (with_reducible repeat (first | apply Kd.R_alloc | apply Kd.R_drewN | apply Kd.R_drew)); exact (Kd.R_mono (Zz.rF_ gb307 (Kd.R_types HO275.out BK307.out (by decide)) (fun _ hk => hk.2) _ _ _ _) (fun _ h_ => h_.1))) hb); have n1_ := Aside0.mk (Kd.R_below (by (with_reducible repeat (first | apply Kd.R_alloc | apply Kd.R_drewN | apply Kd.R_drew)); exact (Kd.R_mono (Zz.rF_ gb307 (Kd.R_types HO278.out BK307.out (by decide)) (fun _ hk => hk.2) _ _ _ _) (fun _ h_ => h_.1))) hb); have n2_ := Aside0.mk (Kd.R_below (by (with_reducible repeat (first | apply Kd.R_alloc | apply Kd.R_drewN | apply Kd.R_drew)); exact (Kd.R_mono (Zz.rF_ gb307 (Kd.R_types HO283.out BK307.out (by decide)) (fun _ hk => hk.2) _ _ _ _) (fun _ h_ => h_.1))) hb); have n3_ := Aside0.mk (Kd.R_below (by (with_reducible repeat (first | apply Kd.R_alloc | apply Kd.R_drewN | apply Kd.R_drew)); exact (Kd.R_mono (Zz.rF_ gb307 (Kd.R_types HO286.out BK307.out (by decide)) (fun _ hk => hk.2) _ _ _ _) (fun _ h_ => h_.1))) hb); have n4_ := Aside0.mk (Kd.R_below (by (with_reducible repeat (first | apply Kd.R_alloc | apply Kd.R_drewN | apply Kd.R_drew)); exact (Kd.R_mono (Zz.rF_ gb307 (Kd.R_types HO293.out BK307.out (by decide)) (fun _ hk => hk.2) _ _ _ _) (fun _ h_ => h_.1))) hb); have n5_ := Aside0.mk (Kd.R_below (by (with_reducible repeat (first | apply Kd.R_alloc | apply Kd.R_drewN | apply Kd.R_drew)); exact (Kd.R_mono (Zz.rF_ gb307 (Kd.R_types HO296.out BK307.out (by decide)) (fun _ hk => hk.2) _ _ _ _) (fun _ h_ => h_.1))) hb); have n6_ := Aside0.mk (Kd.R_below (by (with_reducible repeat (first | apply Kd.R_alloc | apply Kd.R_drewN | apply Kd.R_drew)); exact (Kd.R_mono (Zz.rF_ gb307 (Kd.R_types HO302.out BK307.out (by decide)) (fun _ hk => hk.2) _ _ _ _) (fun _ h_ => h_.1))) hb); have n7_ := Aside0.mk (Kd.R_below (by (with_reducible repeat (first | apply Kd.R_alloc | apply Kd.R_drewN | apply Kd.R_drew)); exact (Kd.R_mono (Zz.rF_ gb307 (Kd.R_types HO305.out BK307.out (by decide)) (fun _ hk => hk.2) _ _ _ _) (fun _ h_ => h_.1))) hb); have n8_ := Aside0.mk (blk_below (g := gb269) (o := .cells #[.int .i64 a0_0, .int .i64 a0_1, .slice A0_2 l0_2.length c0_2, .slice A0_3 l0_3.length c0_3] 31 (0, 0)) (Zz.rb4_ NB269_307.out BK269.out) hb); have n9_ := Aside0.mk (blk_below (g := gb288) (o := .cells #[.int .i64 t279, .int .i64 t280, .slice Ao26 t281.length co26, .slice Ao27 t284.length co27] 36 (0, 0)) (Zz.rb4_ NB288_307.out BK288.out) hb); have n10_ := Aside0.mk (blk_below (g := gb297) (o := .cells #[.int .i64 t289, .int .i64 t290, .slice Ao34 t291.length co34, .slice Ao35 t294.length co35] 36 (0, 0)) (Zz.rb4_ NB297_307.out BK297.out) hb); have n11_ := Aside0.mk (blk_below (g := gb307) (o := .cells #[.int .i64 t298, .int .i64 t299, .slice Ao42 t300.length co42, .slice Ao43 t303.length co43] 36 (0, 0)) (by (with_reducible repeat (first | refine blk_drewN ?_ _ | refine blk_drew ?_ | refine blk_alloc ?_ _)); refine blk_put (cs := #[.int .i64 t298, .int .i64 t299, .slice Ao42 t300.length co42, .slice none 0 0]) ?_ 3 _ rfl; (with_reducible repeat (first | refine blk_drewN ?_ _ | refine blk_drew ?_ | refine blk_alloc ?_ _)); refine blk_put (cs := #[.int .i64 t298, .int .i64 t299, .slice none 0 0, .slice none 0 0]) ?_ 2 _ rfl; (with_reducible repeat (first | refine blk_drewN ?_ _ | refine blk_drew ?_ | refine blk_alloc ?_ _)); refine blk_put (cs := #[.int .i64 t298, .int .i64 0, .slice none 0 0, .slice none 0 0]) ?_ 1 _ rfl; (with_reducible repeat (first | refine blk_drewN ?_ _ | refine blk_drew ?_ | refine blk_alloc ?_ _)); refine blk_put (cs := #[.int .i64 0, .int .i64 0, .slice none 0 0, .slice none 0 0]) ?_ 0 _ rfl; (with_reducible repeat (first | refine blk_drewN ?_ _ | refine blk_drew ?_ | refine blk_alloc ?_ _)); exact BK307.out) hb); have n12_ := Aside0.mk (below_step (Zz.rB_ HB.out) hb); clear HO275; clear HO278; clear HO283; clear HO286; clear HO293; clear HO296; clear HO302; clear HO305; clear BK269; clear BK288; clear BK297; clear BK307; clear HB; have HO275 := n0_; have HO278 := n1_; have HO283 := n2_; have HO286 := n3_; have HO293 := n4_; have HO296 := n5_; have HO302 := n6_; have HO305 := n7_; have BK269 := n8_; have BK288 := n9_; have BK297 := n10_; have BK307 := n11_; have HB := n12_; clear n0_ n1_ n2_ n3_ n4_ n5_ n6_ n7_ n8_ n9_ n10_ n11_ n12_; (try clear hb); (try clear hb2); (try clear hk); (try clear hi)))
     go_meet
     case rel => exact ⟨_, (true), (by first | rfl | (simp; done) | (simp [*]; done)), H', ⟨by first | omega | exact Nat.le_refl _⟩, ⟨by (with_reducible repeat (first | apply Kd.R_alloc | apply Kd.R_drewN | apply Kd.R_drew)); exact Kd.R_mono HO283.out (fun _ hk => ⟨hk.1.2, hk.2⟩)⟩, ⟨by (with_reducible repeat (first | apply Kd.R_alloc | apply Kd.R_drewN | apply Kd.R_drew)); exact Kd.R_mono HO286.out (fun _ hk => ⟨hk.1.2, hk.2⟩)⟩, ⟨by (with_reducible repeat (first | apply Kd.R_alloc | apply Kd.R_drewN | apply Kd.R_drew)); exact Kd.R_mono HO293.out (fun _ hk => ⟨hk.1.2, hk.2⟩)⟩, ⟨by (with_reducible repeat (first | apply Kd.R_alloc | apply Kd.R_drewN | apply Kd.R_drew)); exact Kd.R_mono HO296.out (fun _ hk => ⟨hk.1.2, hk.2⟩)⟩, ⟨by (with_reducible repeat (first | apply Kd.R_alloc | apply Kd.R_drewN | apply Kd.R_drew)); exact Kd.R_mono HO302.out (fun _ hk => ⟨hk.1.2, hk.2⟩)⟩, ⟨by (with_reducible repeat (first | apply Kd.R_alloc | apply Kd.R_drewN | apply Kd.R_drew)); exact Kd.R_mono HO305.out (fun _ hk => ⟨hk.1.2, hk.2⟩)⟩, ⟨Zz.rb_ BK269.out⟩, ⟨Zz.rb_ BK288.out⟩, ⟨Zz.rb_ BK297.out⟩, ⟨Zz.rb_ BK307.out⟩, ⟨Zz.rB_ HB.out⟩⟩
   case rest =>
    clear HC14
    try clear c1
    try clear c2
    try clear p2
    try clear c3
    try clear c3b0
    try clear c3b1
    try clear c4
    try clear c5
    try clear c6
    try clear c6b0
    try clear c8
    try clear c18
    try clear c20
    try clear c22
    try clear c24
    try clear c31
    try clear c32
    try clear c38
    try clear c39
    try clear c40
    try clear c41
    try clear c45
    try clear c46
    try clear c47
    try clear c48
    try clear c50
    try clear c51
    try clear c54
    try clear c55
    try clear c56
    try clear c58
    try clear c59
    try clear hcz16_0
    try clear hcz16_1
    try clear hcz16_2
    try clear hcz16_3
    try clear hcz18_0
    try clear hcz18_1
    try clear hcz18_2
    try clear hcz18_3
    try clear hcz25_0
    try clear hcz25_1
    try clear hcz25_2
    try clear hcz25_3
    try clear hcz28_0
    try clear hcz28_1
    try clear hcz28_2
    try clear hcz28_3
    try clear hcz33_0
    try clear hcz33_1
    try clear hcz33_2
    try clear hcz33_3
    try clear hcz41_0
    try clear hcz41_1
    try clear hcz41_2
    try clear hcz41_3
    try clear hcz49_0
    try clear hcz49_1
    try clear hcz49_2
    try clear hcz49_3
    try clear hcz52_0
    try clear hcz52_1
    try clear hcz52_2
    try clear hcz52_3
    try clear hcz57_0
    try clear hcz57_1
    try clear hcz57_2
    try clear hcz57_3
    try clear hcz60_0
    try clear hcz60_1
    try clear hcz60_2
    try clear hcz60_3
    try clear hcz8_0
    try clear hcz8_1
    try clear hcz8_2
    try clear hcz8_3
    try clear hfz16_0
    try clear hfz16_1
    try clear hfz16_2
    try clear hfz16_3
    try clear hfz18_0
    try clear hfz18_1
    try clear hfz18_2
    try clear hfz18_3
    try clear hfz25_0
    try clear hfz25_1
    try clear hfz25_2
    try clear hfz25_3
    try clear hfz28_0
    try clear hfz28_1
    try clear hfz28_2
    try clear hfz28_3
    try clear hfz33_0
    try clear hfz33_1
    try clear hfz33_2
    try clear hfz33_3
    try clear hfz41_0
    try clear hfz41_1
    try clear hfz41_2
    try clear hfz41_3
    try clear hfz49_0
    try clear hfz49_1
    try clear hfz49_2
    try clear hfz49_3
    try clear hfz52_0
    try clear hfz52_1
    try clear hfz52_2
    try clear hfz52_3
    try clear hfz57_0
    try clear hfz57_1
    try clear hfz57_2
    try clear hfz57_3
    try clear hfz60_0
    try clear hfz60_1
    try clear hfz60_2
    try clear hfz60_3
    try clear hfz8_0
    try clear hfz8_1
    try clear hfz8_2
    try clear hfz8_3
    obtain ⟨kq, x47_13, rfl, HA, HJ13, HO_289002, HO_289003, HO_298002, HO_298003, HO_308002, HO_308003, BK269, BK288, BK297, BK307, HB⟩ := hcut
    cases kq with
    | zero => exact absurd HA.out (by simp [laws_FnExactUnpin.j0])
    | succ kj13 =>
     have H := HA.out
     clear HA
     simp only [laws_FnExactUnpin.j0] at H
     by_cases c62 : x47_13 = true
     ·
      subst c62
      have H1 : (some false) = some r := by rw [if_pos rfl] at H; exact H
      clear H
      have H := H1
      clear H1
      obtain rfl := Option.some.inj H
      go_wp2
      go_ret
      exact ⟨by first | rfl | (simp [errW_none, errW_some] <;> rfl) | (simp [*, errW_none, errW_some] <;> rfl), by repeat (first | (with_reducible first | exact HB.out | apply below_alloc | apply pw_below_drewN | apply below_drew1 | refine below_set ?_ GE269.out | refine below_set ?_ GE288.out | refine below_set ?_ GE297.out | refine below_set ?_ GE307.out) | exact HB.out)⟩
     ·
      replace c62 := Bool.eq_false_iff.mpr c62
      subst c62
      have H1 : ((laws_toStore.f kj13 a0_0 a0_1 l0_2 l0_3).bind fun bt309 => ((laws_eqStore.f kj13 t289 t290 t291 t294 bt309.1 bt309.2.1 bt309.2.2.1 bt309.2.2.2).bind fun t317 => (if t317 = true then ((laws_markStore.f kj13 t289 t290 t291 t294 1).bind fun bt318 => (if bt318.1 < 0 then (laws_FnExactUnpin.j1 kj13 a1 t287 true a0_0 a0_1 l0_2 l0_3 t279 t280 t281 t284 t298 t299 t300 t303) else ((laws_eqStore.f kj13 t298 t299 t300 t303 t279 t280 t281 t284).bind fun t321 => (if t321 = true then (laws_FnExactUnpin.j1 kj13 a1 t287 (t306 != t287) a0_0 a0_1 l0_2 l0_3 t279 t280 t281 t284 t298 t299 t300 t303) else (laws_FnExactUnpin.j1 kj13 a1 t287 true a0_0 a0_1 l0_2 l0_3 t279 t280 t281 t284 t298 t299 t300 t303))))) else (some false)))) = some r := by rw [if_neg (show ¬ (false = true) by decide)] at H; exact H
      clear H
      have H := H1
      clear H1
      replace H := Option.bind_eq_some_iff.mp H
      obtain ⟨⟨t309, t310, t311, t314⟩, A630, H⟩ := H
      replace H : ((laws_eqStore.f kj13 t289 t290 t291 t294 t309 t310 t311 t314).bind fun t317 => (if t317 = true then ((laws_markStore.f kj13 t289 t290 t291 t294 1).bind fun bt318 => (if bt318.1 < 0 then (laws_FnExactUnpin.j1 kj13 a1 t287 true a0_0 a0_1 l0_2 l0_3 t279 t280 t281 t284 t298 t299 t300 t303) else ((laws_eqStore.f kj13 t298 t299 t300 t303 t279 t280 t281 t284).bind fun t321 => (if t321 = true then (laws_FnExactUnpin.j1 kj13 a1 t287 (t306 != t287) a0_0 a0_1 l0_2 l0_3 t279 t280 t281 t284 t298 t299 t300 t303) else (laws_FnExactUnpin.j1 kj13 a1 t287 true a0_0 a0_1 l0_2 l0_3 t279 t280 t281 t284 t298 t299 t300 t303))))) else (some false))) = some r := H
      have A63 := Aside0.mk A630
      clear A630
      replace H := Option.bind_eq_some_iff.mp H
      obtain ⟨t317, A640, H⟩ := H
      replace H : (if t317 = true then ((laws_markStore.f kj13 t289 t290 t291 t294 1).bind fun bt318 => (if bt318.1 < 0 then (laws_FnExactUnpin.j1 kj13 a1 t287 true a0_0 a0_1 l0_2 l0_3 t279 t280 t281 t284 t298 t299 t300 t303) else ((laws_eqStore.f kj13 t298 t299 t300 t303 t279 t280 t281 t284).bind fun t321 => (if t321 = true then (laws_FnExactUnpin.j1 kj13 a1 t287 (t306 != t287) a0_0 a0_1 l0_2 l0_3 t279 t280 t281 t284 t298 t299 t300 t303) else (laws_FnExactUnpin.j1 kj13 a1 t287 true a0_0 a0_1 l0_2 l0_3 t279 t280 t281 t284 t298 t299 t300 t303))))) else (some false)) = some r := H
      have A64 := Aside0.mk A640
      clear A640
      by_cases c65 : t317 = true
      ·
       subst c65
       have H1 : ((laws_markStore.f kj13 t289 t290 t291 t294 1).bind fun bt318 => (if bt318.1 < 0 then (laws_FnExactUnpin.j1 kj13 a1 t287 true a0_0 a0_1 l0_2 l0_3 t279 t280 t281 t284 t298 t299 t300 t303) else ((laws_eqStore.f kj13 t298 t299 t300 t303 t279 t280 t281 t284).bind fun t321 => (if t321 = true then (laws_FnExactUnpin.j1 kj13 a1 t287 (t306 != t287) a0_0 a0_1 l0_2 l0_3 t279 t280 t281 t284 t298 t299 t300 t303) else (laws_FnExactUnpin.j1 kj13 a1 t287 true a0_0 a0_1 l0_2 l0_3 t279 t280 t281 t284 t298 t299 t300 t303))))) = some r := by rw [if_pos rfl] at H; exact H
       clear H
       have H := H1
       clear H1
       replace H := Option.bind_eq_some_iff.mp H
       obtain ⟨⟨t318, t319, t320⟩, A660, H⟩ := H
       replace H : (if t318 < 0 then (laws_FnExactUnpin.j1 kj13 a1 t287 true a0_0 a0_1 l0_2 l0_3 t279 t280 t281 t284 t298 t299 t300 t303) else ((laws_eqStore.f kj13 t298 t299 t300 t303 t279 t280 t281 t284).bind fun t321 => (if t321 = true then (laws_FnExactUnpin.j1 kj13 a1 t287 (t306 != t287) a0_0 a0_1 l0_2 l0_3 t279 t280 t281 t284 t298 t299 t300 t303) else (laws_FnExactUnpin.j1 kj13 a1 t287 true a0_0 a0_1 l0_2 l0_3 t279 t280 t281 t284 t298 t299 t300 t303)))) = some r := H
       have A66 := Aside0.mk A660
       clear A660
       have HC67 := Aside0.mk H
       clear H
       try go_wp2
       have n0_ := Aside0.mk (Kd.R_drew HO_289002.out)
       have n1_ := Aside0.mk (Kd.R_drew HO_289003.out)
       have n2_ := Aside0.mk (Kd.R_drew HO_298002.out)
       have n3_ := Aside0.mk (Kd.R_drew HO_298003.out)
       have n4_ := Aside0.mk (Kd.R_drew HO_308002.out)
       have n5_ := Aside0.mk (Kd.R_drew HO_308003.out)
       have n6_ := Aside0.mk (blk_drew BK269.out)
       have n7_ := Aside0.mk (blk_drew BK288.out)
       have n8_ := Aside0.mk (blk_drew BK297.out)
       have n9_ := Aside0.mk (blk_drew BK307.out)
       have n10_ := Aside0.mk (below_drew1 HB.out)
       clear HO_289002
       clear HO_289003
       clear HO_298002
       clear HO_298003
       clear HO_308002
       clear HO_308003
       clear BK269
       clear BK288
       clear BK297
       clear BK307
       clear HB
       have HO_289002 := n0_
       have HO_289003 := n1_
       have HO_298002 := n2_
       have HO_298003 := n3_
       have HO_308002 := n4_
       have HO_308003 := n5_
       have BK269 := n6_
       have BK288 := n7_
       have BK297 := n8_
       have BK307 := n9_
       have HB := n10_
       clear n0_ n1_ n2_ n3_ n4_ n5_ n6_ n7_ n8_ n9_ n10_
       refine start_ (n := 5) (S := fun w' => w'.cell? ⟨gb297, 0, none⟩ = some (.int .i64 t289) ∧ w'.cell? ⟨gb297, 1, none⟩ = some (.int .i64 t290) ∧ w'.cell? ⟨gb297, 2, none⟩ = some (.slice Ao34 t291.length co34) ∧ w'.cell? ⟨gb297, 3, none⟩ = some (.slice Ao35 t294.length co35) ∧ w'.cell? ⟨gb269, 0, none⟩ = some (.int .i64 a0_0) ∧ w'.cell? ⟨gb269, 1, none⟩ = some (.int .i64 a0_1) ∧ w'.cell? ⟨gb269, 2, none⟩ = some (.slice A0_2 l0_2.length c0_2) ∧ w'.cell? ⟨gb269, 3, none⟩ = some (.slice A0_3 l0_3.length c0_3)) (ds := []) #[false, false, false, false, false] (by kernel_rfl) rfl rfl ⟨(blk_cell BK297.out 0).trans rfl, (blk_cell BK297.out 1).trans rfl, (blk_cell BK297.out 2).trans rfl, (blk_cell BK297.out 3).trans rfl, (blk_cell BK269.out 0).trans rfl, (blk_cell BK269.out 1).trans rfl, (blk_cell BK269.out 2).trans rfl, (blk_cell BK269.out 3).trans rfl⟩ (fun hHeld => ?_)
       generalize wc.drew = w68 at HO_289002 HO_289003 HO_298002 HO_298003 HO_308002 HO_308003 BK269 BK288 BK297 BK307 HB hHeld ⊢
       refine take_ (i := 0) (N := some 48) (v := ?_) (a' := ?_) #[true, false, false, false, false] rfl rfl (by kernel_rfl) (fun _ _ _ h => h) (Or.inl ⟨by rfl, ?_⟩) hHeld ?_ ?_
       rotate_left
       ·
        rintro w' ⟨s0, s1, s2, s3, s4, s5, s6, s7⟩
        go_simp
        with_reducible rfl
       rotate_left
       ·
        simp only [Act.put, List.setIfInBounds_toArray, List.set_cons_zero, List.set_cons_succ, i64_w, i32_w]
        rfl
       refine take_ (i := 1) (N := some 49) (v := ?_) (a' := ?_) #[true, true, false, false, false] rfl rfl (by kernel_rfl) (fun _ _ _ h => h) (Or.inl ⟨by rfl, ?_⟩) hHeld ?_ ?_
       rotate_left
       ·
        rintro w' ⟨s0, s1, s2, s3, s4, s5, s6, s7⟩
        go_simp
        with_reducible rfl
       rotate_left
       ·
        simp only [Act.put, List.setIfInBounds_toArray, List.set_cons_zero, List.set_cons_succ, i64_w, i32_w]
        rfl
       refine one_ (i := 2) (N := some 50) #[true, true, true, false, false] rfl rfl (by kernel_rfl) (by decide) (fun K hK => ?_)
       refine goes_ Try.func20 (by kernel_rfl) rfl #[.agg #[.int .i64 a0_0, .int .i64 a0_1, .slice A0_2 l0_2.length c0_2, .slice A0_3 l0_3.length c0_3]] (by rfl) rfl rfl (by (try simp only [List.map_toArray, List.map_cons, List.map_nil]); first | done | rfl | (simp only [List.length_drop, List.length_take]; rfl)) ?_
       with_reducible refine (laws_toStore.calls kj13 a0_0 a0_1 _ _ l0_2 _ _ l0_3 t309 t310 t311 t314 _ ?side1 ?side2 ?side3 ?side4 A63.out).mono ?_
       (case side1 => repeat (first | exact (Kd.C_below HR0_2.out HB.out) | (with_reducible refine Kd.C_alloc ?_ _) | (with_reducible refine Kd.C_drewN ?_ _) | (with_reducible refine Kd.C_drew ?_)))
       (case side2 => exact HC0_2.out)
       (case side3 => repeat (first | exact (Kd.C_below HR0_3.out HB.out) | (with_reducible refine Kd.C_alloc ?_ _) | (with_reducible refine Kd.C_drewN ?_ _) | (with_reducible refine Kd.C_drew ?_)))
       (case side4 => exact HC0_3.out)
       rintro e w69 ⟨v312, v315, rfl, ho0, ho1, hb⟩
       refine ⟨_, rfl, ?_⟩
       have n0_ := Aside0.mk (Kd.R_elder' (Zz.rR_ HO_289002.out) (Kd.R_base ho0) hb)
       have n1_ := Aside0.mk (Kd.R_elder' (Zz.rR_ HO_289003.out) (Kd.R_base ho1) hb)
       have n2_ := Aside0.mk (Kd.R_elder' (Zz.rR_ HO_298002.out) (Kd.R_base ho0) hb)
       have n3_ := Aside0.mk (Kd.R_elder' (Zz.rR_ HO_298003.out) (Kd.R_base ho1) hb)
       have n4_ := Aside0.mk (Kd.R_elder' (Zz.rR_ HO_308002.out) (Kd.R_base ho0) hb)
       have n5_ := Aside0.mk (Kd.R_elder' (Zz.rR_ HO_308003.out) (Kd.R_base ho1) hb)
       have n6_ := Aside0.mk (Kd.R_lower (Kd.R_new' (Kd.R_new' (Kd.R_new' ho0 (Kd.R_lt (Zz.rR_ HO_289002.out))) (Kd.R_lt (Zz.rR_ HO_298002.out))) (Kd.R_lt (Zz.rR_ HO_308002.out))) (below_size (Zz.rB_ HB.out)))
       have n7_ := Aside0.mk (Kd.R_lower (Kd.R_new' (Kd.R_new' (Kd.R_new' ho1 (Kd.R_lt (Zz.rR_ HO_289003.out))) (Kd.R_lt (Zz.rR_ HO_298003.out))) (Kd.R_lt (Zz.rR_ HO_308003.out))) (below_size (Zz.rB_ HB.out)))
       have n8_ := Aside0.mk (blk_below (g := gb269) (o := .cells #[.int .i64 a0_0, .int .i64 a0_1, .slice A0_2 l0_2.length c0_2, .slice A0_3 l0_3.length c0_3] 31 (0, 0)) (Zz.rb_ BK269.out) hb)
       have n9_ := Aside0.mk (blk_below (g := gb288) (o := .cells #[.int .i64 t279, .int .i64 t280, .slice Ao26 t281.length co26, .slice Ao27 t284.length co27] 36 (0, 0)) (Zz.rb_ BK288.out) hb)
       have n10_ := Aside0.mk (blk_below (g := gb297) (o := .cells #[.int .i64 t289, .int .i64 t290, .slice Ao34 t291.length co34, .slice Ao35 t294.length co35] 36 (0, 0)) (Zz.rb_ BK297.out) hb)
       have n11_ := Aside0.mk (blk_below (g := gb307) (o := .cells #[.int .i64 t298, .int .i64 t299, .slice Ao42 t300.length co42, .slice Ao43 t303.length co43] 36 (0, 0)) (Zz.rb_ BK307.out) hb)
       have n12_ := Aside0.mk (below_step (Zz.rB_ HB.out) hb)
       clear HO_289002
       clear HO_289003
       clear HO_298002
       clear HO_298003
       clear HO_308002
       clear HO_308003
       clear BK269
       clear BK288
       clear BK297
       clear BK307
       clear HB
       have HO_289002 := n0_
       have HO_289003 := n1_
       have HO_298002 := n2_
       have HO_298003 := n3_
       have HO_308002 := n4_
       have HO_308003 := n5_
       have HO313 := n6_
       have HO316 := n7_
       have BK269 := n8_
       have BK288 := n9_
       have BK297 := n10_
       have BK307 := n11_
       have HB := n12_
       clear n0_ n1_ n2_ n3_ n4_ n5_ n6_ n7_ n8_ n9_ n10_ n11_ n12_
       (try clear hb)
       (try clear hb2)
       (try clear hk)
       (try clear hi)
       (try clear ho0)
       (try clear ho1)
       obtain ⟨Ao70, co70, eo70⟩ := Kd.R_slice HO313.out
       (first | subst eo70 | (injection eo70 with f1_ f2_ f3_; have f4_ := f1_.symm; have f5_ := f3_.symm; clear f1_ f2_ f3_; subst f4_; subst f5_))
       obtain ⟨Ao71, co71, eo71⟩ := Kd.R_slice HO316.out
       (first | subst eo71 | (injection eo71 with f1_ f2_ f3_; have f4_ := f1_.symm; have f5_ := f3_.symm; clear f1_ f2_ f3_; subst f4_; subst f5_))
       refine hK.out _ _ ⟨(blk_cell BK297.out 0).trans rfl, (blk_cell BK297.out 1).trans rfl, (blk_cell BK297.out 2).trans rfl, (blk_cell BK297.out 3).trans rfl, (blk_cell BK269.out 0).trans rfl, (blk_cell BK269.out 1).trans rfl, (blk_cell BK269.out 2).trans rfl, (blk_cell BK269.out 3).trans rfl⟩ (fun hHeld => ?_)
       clear hK K
       refine norm_ (a' := ?_) ?_ ?_
       rotate_left
       ·
        show Act.put _ (some 50) _ = _
        simp only [Act.put, List.setIfInBounds_toArray, List.set_cons_zero, List.set_cons_succ, i64_w, i32_w]
        rfl
       refine one_ (i := 3) (N := some 51) #[true, true, true, true, false] rfl rfl (by kernel_rfl) (by decide) (fun K hK => ?_)
       refine goes_ Try.func22 (by kernel_rfl) rfl #[.agg #[.int .i64 t289, .int .i64 t290, .slice Ao34 t291.length co34, .slice Ao35 t294.length co35], .agg #[.int .i64 t309, .int .i64 t310, .slice Ao70 t311.length co70, .slice Ao71 t314.length co71]] (by rfl) rfl rfl (by (try simp only [List.map_toArray, List.map_cons, List.map_nil]); first | done | rfl | (simp only [List.length_drop, List.length_take]; rfl)) ?_
       with_reducible refine (laws_eqStore.calls kj13 t289 t290 _ _ t291 _ _ t294 t309 t310 _ _ t311 _ _ t314 true _ ?side1 ?side2 ?side3 ?side4 ?side5 ?side6 ?side7 ?side8 A64.out).mono ?_
       (case side1 => repeat (first | exact (Kd.R_reads' HO_298002.out).2.2 | (with_reducible refine Kd.C_alloc ?_ _) | (with_reducible refine Kd.C_drewN ?_ _) | (with_reducible refine Kd.C_drew ?_)))
       (case side2 => exact (Kd.R_reads' HO_298002.out).2.1)
       (case side3 => repeat (first | exact (Kd.R_reads' HO_298003.out).2.2 | (with_reducible refine Kd.C_alloc ?_ _) | (with_reducible refine Kd.C_drewN ?_ _) | (with_reducible refine Kd.C_drew ?_)))
       (case side4 => exact (Kd.R_reads' HO_298003.out).2.1)
       (case side5 => repeat (first | exact (Kd.R_reads' HO313.out).2.2 | (with_reducible refine Kd.C_alloc ?_ _) | (with_reducible refine Kd.C_drewN ?_ _) | (with_reducible refine Kd.C_drew ?_)))
       (case side6 => exact (Kd.R_reads' HO313.out).2.1)
       (case side7 => repeat (first | exact (Kd.R_reads' HO316.out).2.2 | (with_reducible refine Kd.C_alloc ?_ _) | (with_reducible refine Kd.C_drewN ?_ _) | (with_reducible refine Kd.C_drew ?_)))
       (case side8 => exact (Kd.R_reads' HO316.out).2.1)
       rintro e w72 ⟨rfl, hb⟩
       refine ⟨_, rfl, ?_⟩
       have n0_ := Aside0.mk (Kd.R_below (Zz.rR_ HO_289002.out) hb)
       have n1_ := Aside0.mk (Kd.R_below (Zz.rR_ HO_289003.out) hb)
       have n2_ := Aside0.mk (Kd.R_below (Zz.rR_ HO_298002.out) hb)
       have n3_ := Aside0.mk (Kd.R_below (Zz.rR_ HO_298003.out) hb)
       have n4_ := Aside0.mk (Kd.R_below (Zz.rR_ HO_308002.out) hb)
       have n5_ := Aside0.mk (Kd.R_below (Zz.rR_ HO_308003.out) hb)
       have n6_ := Aside0.mk (Kd.R_below (Zz.rR_ HO313.out) hb)
       have n7_ := Aside0.mk (Kd.R_below (Zz.rR_ HO316.out) hb)
       have n8_ := Aside0.mk (blk_below (g := gb269) (o := .cells #[.int .i64 a0_0, .int .i64 a0_1, .slice A0_2 l0_2.length c0_2, .slice A0_3 l0_3.length c0_3] 31 (0, 0)) (Zz.rb_ BK269.out) hb)
       have n9_ := Aside0.mk (blk_below (g := gb288) (o := .cells #[.int .i64 t279, .int .i64 t280, .slice Ao26 t281.length co26, .slice Ao27 t284.length co27] 36 (0, 0)) (Zz.rb_ BK288.out) hb)
       have n10_ := Aside0.mk (blk_below (g := gb297) (o := .cells #[.int .i64 t289, .int .i64 t290, .slice Ao34 t291.length co34, .slice Ao35 t294.length co35] 36 (0, 0)) (Zz.rb_ BK297.out) hb)
       have n11_ := Aside0.mk (blk_below (g := gb307) (o := .cells #[.int .i64 t298, .int .i64 t299, .slice Ao42 t300.length co42, .slice Ao43 t303.length co43] 36 (0, 0)) (Zz.rb_ BK307.out) hb)
       have n12_ := Aside0.mk (below_step (Zz.rB_ HB.out) hb)
       clear HO_289002
       clear HO_289003
       clear HO_298002
       clear HO_298003
       clear HO_308002
       clear HO_308003
       clear HO313
       clear HO316
       clear BK269
       clear BK288
       clear BK297
       clear BK307
       clear HB
       have HO_289002 := n0_
       have HO_289003 := n1_
       have HO_298002 := n2_
       have HO_298003 := n3_
       have HO_308002 := n4_
       have HO_308003 := n5_
       have HO313 := n6_
       have HO316 := n7_
       have BK269 := n8_
       have BK288 := n9_
       have BK297 := n10_
       have BK307 := n11_
       have HB := n12_
       clear n0_ n1_ n2_ n3_ n4_ n5_ n6_ n7_ n8_ n9_ n10_ n11_ n12_
       (try clear hb)
       (try clear hb2)
       (try clear hk)
       (try clear hi)
       refine hK.out _ _ ⟨(blk_cell BK297.out 0).trans rfl, (blk_cell BK297.out 1).trans rfl, (blk_cell BK297.out 2).trans rfl, (blk_cell BK297.out 3).trans rfl, (blk_cell BK269.out 0).trans rfl, (blk_cell BK269.out 1).trans rfl, (blk_cell BK269.out 2).trans rfl, (blk_cell BK269.out 3).trans rfl⟩ (fun hHeld => ?_)
       clear hK K
       refine norm_ (a' := ?_) ?_ ?_
       rotate_left
       ·
        show Act.put _ (some 51) _ = _
        simp only [Act.put, List.setIfInBounds_toArray, List.set_cons_zero, List.set_cons_succ, i64_w, i32_w]
        rfl
       refine pure_ (i := 4) (N := some 52) (v := ?_) (a' := ?_) #[true, true, true, true, true] rfl rfl (by kernel_rfl) (fun _ _ _ h => h) (Or.inl ⟨by rfl, ?_⟩) ?_ ?_
       rotate_left
       ·
        intro w'
        go_simp
        with_reducible rfl
       rotate_left
       ·
        simp only [Act.put, List.setIfInBounds_toArray, List.set_cons_zero, List.set_cons_succ, i64_w, i32_w]
        rfl
       refine done_ (by kernel_rfl) ?_
       have hnb73 := NB297_269.out
       have hnc73 := NB269_297.out
       have hnb74 := NB297_288.out
       have hnc74 := NB288_297.out
       have hnb75 := NB297_307.out
       have hnc75 := NB307_297.out
       have hcz76_0 : w72.cell? ⟨gb297, 0, none⟩ = some (.int .i64 t289) := (blk_cell BK297.out 0).trans rfl
       have hcz76_1 : w72.cell? ⟨gb297, 1, none⟩ = some (.int .i64 t290) := (blk_cell BK297.out 1).trans rfl
       have hcz76_2 : w72.cell? ⟨gb297, 2, none⟩ = some (.slice Ao34 t291.length co34) := (blk_cell BK297.out 2).trans rfl
       have hcz76_3 : w72.cell? ⟨gb297, 3, none⟩ = some (.slice Ao35 t294.length co35) := (blk_cell BK297.out 3).trans rfl
       have hfz76_0 := blk_frozen BK297.out 0
       have hfz76_1 := blk_frozen BK297.out 1
       have hfz76_2 := blk_frozen BK297.out 2
       have hfz76_3 := blk_frozen BK297.out 3
       go_upto_region 16 with (first | ((with_reducible refine gate_callee (f := 38) rfl ?_); refine goesL_ (some 55) rfl rfl Try.func38 (by kernel_rfl) rfl #[.agg #[.int .i64 t289, .int .i64 t290, .slice Ao34 t291.length co34, .slice Ao35 t294.length co35], .int .i64 1] rfl (by (try simp only [List.map_toArray, List.map_cons, List.map_nil]); first | done | rfl | (simp only [List.length_drop, List.length_take]; rfl)) ?_; (with_reducible refine (laws_markStore.calls kj13 t289 t290 (fun k_ => some k_ = (.slice Ao34 t291.length co34 : Value).ownBlock) (.slice Ao34 t291.length co34) t291 (fun k_ => some k_ = (.slice Ao35 t294.length co35 : Value).ownBlock) (.slice Ao35 t294.length co35) t294 1 t318 t319 t320 w _ ?side1 ?side2 ?side3 A66.out).mono ?_); (case side1 => exact Zz.rB_ HB.out); (case side2 => exact Kd.R_tight rfl HO_298002.out); (case side3 => exact Kd.R_tight rfl HO_298003.out); rintro e w77 ⟨rfl, hy0, hy1, hb, hkp⟩; refine ⟨_, rfl, ?_⟩; have n0_ := Aside0.mk (Kd.R_mono (ok' := fun k_ => some k_ ≠ (.slice Ao34 t291.length co34 : Value).ownBlock ∧ some k_ ≠ (.slice Ao42 t300.length co42 : Value).ownBlock ∧ some k_ ≠ (.slice Ao70 t311.length co70 : Value).ownBlock) (Kd.R_keptB ((Kd.R_apart' HO_289002.out (Kd.R_typed HO_298003.out) (by decide))) hkp (fun k_ hk_ hs_ => Or.elim hs_ (fun e_ => (hk_.1.1.1) e_) (fun e_ => (hk_.2) e_))) (fun k_ hk_ => ⟨hk_.1.1.1.1, hk_.1.1.1.2, hk_.1.1.2⟩)); have n1_ := Aside0.mk (Kd.R_mono (ok' := fun k_ => some k_ ≠ (.slice Ao35 t294.length co35 : Value).ownBlock ∧ some k_ ≠ (.slice Ao43 t303.length co43 : Value).ownBlock ∧ some k_ ≠ (.slice Ao71 t314.length co71 : Value).ownBlock) (Kd.R_keptB ((Kd.R_apart' HO_289003.out (Kd.R_typed HO_298002.out) (by decide))) hkp (fun k_ hk_ hs_ => Or.elim hs_ (fun e_ => (hk_.2) e_) (fun e_ => (hk_.1.1.1) e_))) (fun k_ hk_ => ⟨hk_.1.1.1.1, hk_.1.1.1.2, hk_.1.1.2⟩)); have n2_ := Aside0.mk (Kd.R_reok rfl hy0 (fun k_ e_ => HO_298002.out.1 k_ e_)); have n3_ := Aside0.mk (Kd.R_reok rfl hy1 (fun k_ e_ => HO_298003.out.1 k_ e_)); have n4_ := Aside0.mk (Kd.R_mono (ok' := fun k_ => some k_ ≠ (.slice Ao26 t281.length co26 : Value).ownBlock ∧ some k_ ≠ (.slice Ao34 t291.length co34 : Value).ownBlock ∧ some k_ ≠ (.slice Ao70 t311.length co70 : Value).ownBlock) (Kd.R_keptB ((Kd.R_apart' HO_308002.out (Kd.R_typed HO_298003.out) (by decide))) hkp (fun k_ hk_ hs_ => Or.elim hs_ (fun e_ => (hk_.1.1.2) e_) (fun e_ => (hk_.2) e_))) (fun k_ hk_ => ⟨hk_.1.1.1.1, hk_.1.1.1.2, hk_.1.1.2⟩)); have n5_ := Aside0.mk (Kd.R_mono (ok' := fun k_ => some k_ ≠ (.slice Ao27 t284.length co27 : Value).ownBlock ∧ some k_ ≠ (.slice Ao35 t294.length co35 : Value).ownBlock ∧ some k_ ≠ (.slice Ao71 t314.length co71 : Value).ownBlock) (Kd.R_keptB ((Kd.R_apart' HO_308003.out (Kd.R_typed HO_298002.out) (by decide))) hkp (fun k_ hk_ hs_ => Or.elim hs_ (fun e_ => (hk_.2) e_) (fun e_ => (hk_.1.1.2) e_))) (fun k_ hk_ => ⟨hk_.1.1.1.1, hk_.1.1.1.2, hk_.1.1.2⟩)); have n6_ := Aside0.mk (blk_kept (Zz.rb_ BK269.out) hkp (fun hs_ => Or.elim hs_ (fun e_ => (fun e_ => (Kd.R_ne HO_298002.out BK269.out (by decide)) e_) e_) (fun e_ => (fun e_ => (Kd.R_ne HO_298003.out BK269.out (by decide)) e_) e_))); have n7_ := Aside0.mk (blk_kept (Zz.rb_ BK288.out) hkp (fun hs_ => Or.elim hs_ (fun e_ => (fun e_ => (Kd.R_ne HO_298002.out BK288.out (by decide)) e_) e_) (fun e_ => (fun e_ => (Kd.R_ne HO_298003.out BK288.out (by decide)) e_) e_))); have n8_ := Aside0.mk (blk_kept (Zz.rb_ BK297.out) hkp (fun hs_ => Or.elim hs_ (fun e_ => (fun e_ => (Kd.R_ne HO_298002.out BK297.out (by decide)) e_) e_) (fun e_ => (fun e_ => (Kd.R_ne HO_298003.out BK297.out (by decide)) e_) e_))); have n9_ := Aside0.mk (blk_kept (Zz.rb_ BK307.out) hkp (fun hs_ => Or.elim hs_ (fun e_ => (fun e_ => (Kd.R_ne HO_298002.out BK307.out (by decide)) e_) e_) (fun e_ => (fun e_ => (Kd.R_ne HO_298003.out BK307.out (by decide)) e_) e_))); have n10_ := Aside0.mk (Kd.R_mono (ok' := fun k_ => some k_ ≠ (.slice Ao26 t281.length co26 : Value).ownBlock ∧ some k_ ≠ (.slice Ao34 t291.length co34 : Value).ownBlock ∧ some k_ ≠ (.slice Ao42 t300.length co42 : Value).ownBlock) (Kd.R_keptB ((Kd.R_apart' HO313.out (Kd.R_typed HO_298003.out) (by decide))) hkp (fun k_ hk_ hs_ => Or.elim hs_ (fun e_ => (hk_.1.1.2) e_) (fun e_ => (hk_.2) e_))) (fun k_ hk_ => ⟨hk_.1.1.1.1.2, hk_.1.1.1.2, hk_.1.1.2⟩)); have n11_ := Aside0.mk (Kd.R_mono (ok' := fun k_ => some k_ ≠ (.slice Ao27 t284.length co27 : Value).ownBlock ∧ some k_ ≠ (.slice Ao35 t294.length co35 : Value).ownBlock ∧ some k_ ≠ (.slice Ao43 t303.length co43 : Value).ownBlock) (Kd.R_keptB ((Kd.R_apart' HO316.out (Kd.R_typed HO_298002.out) (by decide))) hkp (fun k_ hk_ hs_ => Or.elim hs_ (fun e_ => (hk_.2) e_) (fun e_ => (hk_.1.1.2) e_))) (fun k_ hk_ => ⟨hk_.1.1.1.1.2, hk_.1.1.1.2, hk_.1.1.2⟩)); have n12_ := Aside0.mk (hb); clear HO_289002; clear HO_289003; clear HO_298002; clear HO_298003; clear HO_308002; clear HO_308003; clear BK269; clear BK288; clear BK297; clear BK307; clear HO313; clear HO316; clear HB; have HO_289002 := n0_; have HO_289003 := n1_; have HO_298002 := n2_; have HO_298003 := n3_; have HO_308002 := n4_; have HO_308003 := n5_; have BK269 := n6_; have BK288 := n7_; have BK297 := n8_; have BK307 := n9_; have HO313 := n10_; have HO316 := n11_; have HB := n12_; clear n0_ n1_ n2_ n3_ n4_ n5_ n6_ n7_ n8_ n9_ n10_ n11_ n12_; (try clear hb); (try clear hkp); (try clear hy0); (try clear hy1)))
       (try simp only [Act.put, List.setIfInBounds_toArray, List.set_cons_zero, List.set_cons_succ])
       go_cut [68] (fun v68 wc => ∃ (kq : Nat) (x68_66 : Bool), v68 = .bool x68_66 ∧ Aside0 (laws_FnExactUnpin.j1 kq a1 t287 x68_66 a0_0 a0_1 l0_2 l0_3 t279 t280 t281 t284 t298 t299 t300 t303 = some r) ∧ Aside0 (kq ≤ kj13) ∧ Aside0 (Kd.R k92 92 wc w.heap.size (fun k_ => some k_ ≠ ((.slice Ao34 t291.length co34) : Value).ownBlock ∧ some k_ ≠ ((.slice Ao42 t300.length co42) : Value).ownBlock) (.slice Ao26 t281.length co26) t281) ∧ Aside0 (Kd.R Kd.string 9 wc w.heap.size (fun k_ => some k_ ≠ ((.slice Ao35 t294.length co35) : Value).ownBlock ∧ some k_ ≠ ((.slice Ao43 t303.length co43) : Value).ownBlock) (.slice Ao27 t284.length co27) t284) ∧ Aside0 (Kd.R k92 92 wc w.heap.size (fun k_ => some k_ ≠ ((.slice Ao26 t281.length co26) : Value).ownBlock ∧ some k_ ≠ ((.slice Ao42 t300.length co42) : Value).ownBlock) (.slice Ao34 t291.length co34) t319) ∧ Aside0 (Kd.R Kd.string 9 wc w.heap.size (fun k_ => some k_ ≠ ((.slice Ao27 t284.length co27) : Value).ownBlock ∧ some k_ ≠ ((.slice Ao43 t303.length co43) : Value).ownBlock) (.slice Ao35 t294.length co35) t320) ∧ Aside0 (Kd.R k92 92 wc w.heap.size (fun k_ => some k_ ≠ ((.slice Ao26 t281.length co26) : Value).ownBlock ∧ some k_ ≠ ((.slice Ao34 t291.length co34) : Value).ownBlock) (.slice Ao42 t300.length co42) t300) ∧ Aside0 (Kd.R Kd.string 9 wc w.heap.size (fun k_ => some k_ ≠ ((.slice Ao27 t284.length co27) : Value).ownBlock ∧ some k_ ≠ ((.slice Ao35 t294.length co35) : Value).ownBlock) (.slice Ao43 t303.length co43) t303) ∧ Aside0 (wc.heap[gb269]? = some (.cells #[.int .i64 a0_0, .int .i64 a0_1, (.slice A0_2 l0_2.length c0_2), (.slice A0_3 l0_3.length c0_3)] 31 (0, 0))) ∧ Aside0 (wc.heap[gb288]? = some (.cells #[.int .i64 t279, .int .i64 t280, (.slice Ao26 t281.length co26), (.slice Ao27 t284.length co27)] 36 (0, 0))) ∧ Aside0 (wc.heap[gb297]? = some (.cells #[.int .i64 t289, .int .i64 t290, (.slice Ao34 t291.length co34), (.slice Ao35 t294.length co35)] 36 (0, 0))) ∧ Aside0 (wc.heap[gb307]? = some (.cells #[.int .i64 t298, .int .i64 t299, (.slice Ao42 t300.length co42), (.slice Ao43 t303.length co43)] 36 (0, 0))) ∧ Aside0 (Below w.heap.size w wc))
       case first =>
        have H := HC67.out
        clear HC67
        by_cases c78 : t318 < 0
        ·
         rw [if_pos c78] at H
         have c78b0 : decide (t318 < 0) = true := decide_eq_true c78
         clear c78
         (first | rw [c78b0] | (simp only [i64_w, i32_w]; rw [c78b0]) | skip)
         have H' := Aside0.mk H
         clear H
         go_wp2
         go_meet
         case rel => exact ⟨_, (true), (by first | rfl | (simp; done) | (simp [*]; done)), H', ⟨by have := HJ13.out; first | omega | exact Nat.le_refl _⟩, ⟨by (with_reducible repeat (first | apply Kd.R_alloc | apply Kd.R_drewN | apply Kd.R_drew)); exact Kd.R_mono HO_289002.out (fun _ hk => ⟨hk.1, hk.2.1⟩)⟩, ⟨by (with_reducible repeat (first | apply Kd.R_alloc | apply Kd.R_drewN | apply Kd.R_drew)); exact Kd.R_mono HO_289003.out (fun _ hk => ⟨hk.1, hk.2.1⟩)⟩, ⟨by (with_reducible repeat (first | apply Kd.R_alloc | apply Kd.R_drewN | apply Kd.R_drew)); exact Kd.R_mono HO_298002.out (fun _ hk => ⟨hk.1.1, hk.1.2⟩)⟩, ⟨by (with_reducible repeat (first | apply Kd.R_alloc | apply Kd.R_drewN | apply Kd.R_drew)); exact Kd.R_mono HO_298003.out (fun _ hk => ⟨hk.1.1, hk.1.2⟩)⟩, ⟨by (with_reducible repeat (first | apply Kd.R_alloc | apply Kd.R_drewN | apply Kd.R_drew)); exact Kd.R_mono HO_308002.out (fun _ hk => ⟨hk.1, hk.2.1⟩)⟩, ⟨by (with_reducible repeat (first | apply Kd.R_alloc | apply Kd.R_drewN | apply Kd.R_drew)); exact Kd.R_mono HO_308003.out (fun _ hk => ⟨hk.1, hk.2.1⟩)⟩, ⟨Zz.rb_ BK269.out⟩, ⟨Zz.rb_ BK288.out⟩, ⟨Zz.rb_ BK297.out⟩, ⟨Zz.rb_ BK307.out⟩, ⟨Zz.rB_ HB.out⟩⟩
        ·
         rw [if_neg c78] at H
         have c78b0 : decide (t318 < 0) = false := decide_eq_false c78
         clear c78
         (first | rw [c78b0] | (simp only [i64_w, i32_w]; rw [c78b0]) | skip)
         replace H := Option.bind_eq_some_iff.mp H
         obtain ⟨t321, A790, H⟩ := H
         replace H : (if t321 = true then (laws_FnExactUnpin.j1 kj13 a1 t287 (t306 != t287) a0_0 a0_1 l0_2 l0_3 t279 t280 t281 t284 t298 t299 t300 t303) else (laws_FnExactUnpin.j1 kj13 a1 t287 true a0_0 a0_1 l0_2 l0_3 t279 t280 t281 t284 t298 t299 t300 t303)) = some r := H
         have A79 := Aside0.mk A790
         clear A790
         by_cases c80 : t321 = true
         ·
          subst c80
          have H1 : (laws_FnExactUnpin.j1 kj13 a1 t287 (t306 != t287) a0_0 a0_1 l0_2 l0_3 t279 t280 t281 t284 t298 t299 t300 t303) = some r := by rw [if_pos rfl] at H; exact H
          clear H
          have H := H1
          clear H1
          have H' := Aside0.mk H
          clear H
          have hnb81 := NB307_269.out
          have hnc81 := NB269_307.out
          have hnb82 := NB307_288.out
          have hnc82 := NB288_307.out
          have hnb83 := NB307_297.out
          have hnc83 := NB297_307.out
          have hcz84_0 : w77.cell? ⟨gb307, 0, none⟩ = some (.int .i64 t298) := (blk_cell BK307.out 0).trans rfl
          have hcz84_1 : w77.cell? ⟨gb307, 1, none⟩ = some (.int .i64 t299) := (blk_cell BK307.out 1).trans rfl
          have hcz84_2 : w77.cell? ⟨gb307, 2, none⟩ = some (.slice Ao42 t300.length co42) := (blk_cell BK307.out 2).trans rfl
          have hcz84_3 : w77.cell? ⟨gb307, 3, none⟩ = some (.slice Ao43 t303.length co43) := (blk_cell BK307.out 3).trans rfl
          have hfz84_0 := blk_frozen BK307.out 0
          have hfz84_1 := blk_frozen BK307.out 1
          have hfz84_2 := blk_frozen BK307.out 2
          have hfz84_3 := blk_frozen BK307.out 3
          have hnb85 := NB288_269.out
          have hnc85 := NB269_288.out
          have hnb86 := NB288_297.out
          have hnc86 := NB297_288.out
          have hcz87_0 : w77.cell? ⟨gb288, 0, none⟩ = some (.int .i64 t279) := (blk_cell BK288.out 0).trans rfl
          have hcz87_1 : w77.cell? ⟨gb288, 1, none⟩ = some (.int .i64 t280) := (blk_cell BK288.out 1).trans rfl
          have hcz87_2 : w77.cell? ⟨gb288, 2, none⟩ = some (.slice Ao26 t281.length co26) := (blk_cell BK288.out 2).trans rfl
          have hcz87_3 : w77.cell? ⟨gb288, 3, none⟩ = some (.slice Ao27 t284.length co27) := (blk_cell BK288.out 3).trans rfl
          have hfz87_0 := blk_frozen BK288.out 0
          have hfz87_1 := blk_frozen BK288.out 1
          have hfz87_2 := blk_frozen BK288.out 2
          have hfz87_3 := blk_frozen BK288.out 3
          go_wp2_with (first | (go_at_call 22; (with_reducible refine (laws_eqStore.calls kj13 t298 t299 _ _ t300 _ _ t303 t279 t280 _ _ t281 _ _ t284 true _ ?side1 ?side2 ?side3 ?side4 ?side5 ?side6 ?side7 ?side8 A79.out).mono ?_); (case side1 => repeat (first | exact (Kd.R_reads' HO_308002.out).2.2 | (with_reducible refine Kd.C_alloc ?_ _) | (with_reducible refine Kd.C_drewN ?_ _) | (with_reducible refine Kd.C_drew ?_))); (case side2 => exact (Kd.R_reads' HO_308002.out).2.1); (case side3 => repeat (first | exact (Kd.R_reads' HO_308003.out).2.2 | (with_reducible refine Kd.C_alloc ?_ _) | (with_reducible refine Kd.C_drewN ?_ _) | (with_reducible refine Kd.C_drew ?_))); (case side4 => exact (Kd.R_reads' HO_308003.out).2.1); (case side5 => repeat (first | exact (Kd.R_reads' HO_289002.out).2.2 | (with_reducible refine Kd.C_alloc ?_ _) | (with_reducible refine Kd.C_drewN ?_ _) | (with_reducible refine Kd.C_drew ?_))); (case side6 => exact (Kd.R_reads' HO_289002.out).2.1); (case side7 => repeat (first | exact (Kd.R_reads' HO_289003.out).2.2 | (with_reducible refine Kd.C_alloc ?_ _) | (with_reducible refine Kd.C_drewN ?_ _) | (with_reducible refine Kd.C_drew ?_))); (case side8 => exact (Kd.R_reads' HO_289003.out).2.1); rintro e w88 ⟨rfl, hb⟩; have n0_ := Aside0.mk (Kd.R_below (Zz.rR_ HO_289002.out) hb); have n1_ := Aside0.mk (Kd.R_below (Zz.rR_ HO_289003.out) hb); have n2_ := Aside0.mk (Kd.R_below (Zz.rR_ HO_298002.out) hb); have n3_ := Aside0.mk (Kd.R_below (Zz.rR_ HO_298003.out) hb); have n4_ := Aside0.mk (Kd.R_below (Zz.rR_ HO_308002.out) hb); have n5_ := Aside0.mk (Kd.R_below (Zz.rR_ HO_308003.out) hb); have n6_ := Aside0.mk (Kd.R_below (Zz.rR_ HO313.out) hb); have n7_ := Aside0.mk (Kd.R_below (Zz.rR_ HO316.out) hb); have n8_ := Aside0.mk (blk_below (g := gb269) (o := .cells #[.int .i64 a0_0, .int .i64 a0_1, .slice A0_2 l0_2.length c0_2, .slice A0_3 l0_3.length c0_3] 31 (0, 0)) (Zz.rb_ BK269.out) hb); have n9_ := Aside0.mk (blk_below (g := gb288) (o := .cells #[.int .i64 t279, .int .i64 t280, .slice Ao26 t281.length co26, .slice Ao27 t284.length co27] 36 (0, 0)) (Zz.rb_ BK288.out) hb); have n10_ := Aside0.mk (blk_below (g := gb297) (o := .cells #[.int .i64 t289, .int .i64 t290, .slice Ao34 t291.length co34, .slice Ao35 t294.length co35] 36 (0, 0)) (Zz.rb_ BK297.out) hb); have n11_ := Aside0.mk (blk_below (g := gb307) (o := .cells #[.int .i64 t298, .int .i64 t299, .slice Ao42 t300.length co42, .slice Ao43 t303.length co43] 36 (0, 0)) (Zz.rb_ BK307.out) hb); have n12_ := Aside0.mk (below_step (Zz.rB_ HB.out) hb); clear HO_289002; clear HO_289003; clear HO_298002; clear HO_298003; clear HO_308002; clear HO_308003; clear HO313; clear HO316; clear BK269; clear BK288; clear BK297; clear BK307; clear HB; have HO_289002 := n0_; have HO_289003 := n1_; have HO_298002 := n2_; have HO_298003 := n3_; have HO_308002 := n4_; have HO_308003 := n5_; have HO313 := n6_; have HO316 := n7_; have BK269 := n8_; have BK288 := n9_; have BK297 := n10_; have BK307 := n11_; have HB := n12_; clear n0_ n1_ n2_ n3_ n4_ n5_ n6_ n7_ n8_ n9_ n10_ n11_ n12_; (try clear hb); (try clear hb2); (try clear hk); (try clear hi)))
          go_meet
          case rel => exact ⟨_, ((t306 != t287)), (by first | rfl | (simp; done) | (simp [*]; done)), H', ⟨by have := HJ13.out; first | omega | exact Nat.le_refl _⟩, ⟨by (with_reducible repeat (first | apply Kd.R_alloc | apply Kd.R_drewN | apply Kd.R_drew)); exact Kd.R_mono HO_289002.out (fun _ hk => ⟨hk.1, hk.2.1⟩)⟩, ⟨by (with_reducible repeat (first | apply Kd.R_alloc | apply Kd.R_drewN | apply Kd.R_drew)); exact Kd.R_mono HO_289003.out (fun _ hk => ⟨hk.1, hk.2.1⟩)⟩, ⟨by (with_reducible repeat (first | apply Kd.R_alloc | apply Kd.R_drewN | apply Kd.R_drew)); exact Kd.R_mono HO_298002.out (fun _ hk => ⟨hk.1.1, hk.1.2⟩)⟩, ⟨by (with_reducible repeat (first | apply Kd.R_alloc | apply Kd.R_drewN | apply Kd.R_drew)); exact Kd.R_mono HO_298003.out (fun _ hk => ⟨hk.1.1, hk.1.2⟩)⟩, ⟨by (with_reducible repeat (first | apply Kd.R_alloc | apply Kd.R_drewN | apply Kd.R_drew)); exact Kd.R_mono HO_308002.out (fun _ hk => ⟨hk.1, hk.2.1⟩)⟩, ⟨by (with_reducible repeat (first | apply Kd.R_alloc | apply Kd.R_drewN | apply Kd.R_drew)); exact Kd.R_mono HO_308003.out (fun _ hk => ⟨hk.1, hk.2.1⟩)⟩, ⟨Zz.rb_ BK269.out⟩, ⟨Zz.rb_ BK288.out⟩, ⟨Zz.rb_ BK297.out⟩, ⟨Zz.rb_ BK307.out⟩, ⟨Zz.rB_ HB.out⟩⟩
         ·
          replace c80 := Bool.eq_false_iff.mpr c80
          subst c80
          have H1 : (laws_FnExactUnpin.j1 kj13 a1 t287 true a0_0 a0_1 l0_2 l0_3 t279 t280 t281 t284 t298 t299 t300 t303) = some r := by rw [if_neg (show ¬ (false = true) by decide)] at H; exact H
          clear H
          have H := H1
          clear H1
          have H' := Aside0.mk H
          clear H
          have hnb89 := NB307_269.out
          have hnc89 := NB269_307.out
          have hnb90 := NB307_288.out
          have hnc90 := NB288_307.out
          have hnb91 := NB307_297.out
          have hnc91 := NB297_307.out
          have hcz92_0 : w77.cell? ⟨gb307, 0, none⟩ = some (.int .i64 t298) := (blk_cell BK307.out 0).trans rfl
          have hcz92_1 : w77.cell? ⟨gb307, 1, none⟩ = some (.int .i64 t299) := (blk_cell BK307.out 1).trans rfl
          have hcz92_2 : w77.cell? ⟨gb307, 2, none⟩ = some (.slice Ao42 t300.length co42) := (blk_cell BK307.out 2).trans rfl
          have hcz92_3 : w77.cell? ⟨gb307, 3, none⟩ = some (.slice Ao43 t303.length co43) := (blk_cell BK307.out 3).trans rfl
          have hfz92_0 := blk_frozen BK307.out 0
          have hfz92_1 := blk_frozen BK307.out 1
          have hfz92_2 := blk_frozen BK307.out 2
          have hfz92_3 := blk_frozen BK307.out 3
          have hnb93 := NB288_269.out
          have hnc93 := NB269_288.out
          have hnb94 := NB288_297.out
          have hnc94 := NB297_288.out
          have hcz95_0 : w77.cell? ⟨gb288, 0, none⟩ = some (.int .i64 t279) := (blk_cell BK288.out 0).trans rfl
          have hcz95_1 : w77.cell? ⟨gb288, 1, none⟩ = some (.int .i64 t280) := (blk_cell BK288.out 1).trans rfl
          have hcz95_2 : w77.cell? ⟨gb288, 2, none⟩ = some (.slice Ao26 t281.length co26) := (blk_cell BK288.out 2).trans rfl
          have hcz95_3 : w77.cell? ⟨gb288, 3, none⟩ = some (.slice Ao27 t284.length co27) := (blk_cell BK288.out 3).trans rfl
          have hfz95_0 := blk_frozen BK288.out 0
          have hfz95_1 := blk_frozen BK288.out 1
          have hfz95_2 := blk_frozen BK288.out 2
          have hfz95_3 := blk_frozen BK288.out 3
          go_wp2_with (first | (go_at_call 22; (with_reducible refine (laws_eqStore.calls kj13 t298 t299 _ _ t300 _ _ t303 t279 t280 _ _ t281 _ _ t284 false _ ?side1 ?side2 ?side3 ?side4 ?side5 ?side6 ?side7 ?side8 A79.out).mono ?_); (case side1 => repeat (first | exact (Kd.R_reads' HO_308002.out).2.2 | (with_reducible refine Kd.C_alloc ?_ _) | (with_reducible refine Kd.C_drewN ?_ _) | (with_reducible refine Kd.C_drew ?_))); (case side2 => exact (Kd.R_reads' HO_308002.out).2.1); (case side3 => repeat (first | exact (Kd.R_reads' HO_308003.out).2.2 | (with_reducible refine Kd.C_alloc ?_ _) | (with_reducible refine Kd.C_drewN ?_ _) | (with_reducible refine Kd.C_drew ?_))); (case side4 => exact (Kd.R_reads' HO_308003.out).2.1); (case side5 => repeat (first | exact (Kd.R_reads' HO_289002.out).2.2 | (with_reducible refine Kd.C_alloc ?_ _) | (with_reducible refine Kd.C_drewN ?_ _) | (with_reducible refine Kd.C_drew ?_))); (case side6 => exact (Kd.R_reads' HO_289002.out).2.1); (case side7 => repeat (first | exact (Kd.R_reads' HO_289003.out).2.2 | (with_reducible refine Kd.C_alloc ?_ _) | (with_reducible refine Kd.C_drewN ?_ _) | (with_reducible refine Kd.C_drew ?_))); (case side8 => exact (Kd.R_reads' HO_289003.out).2.1); rintro e w96 ⟨rfl, hb⟩; have n0_ := Aside0.mk (Kd.R_below (Zz.rR_ HO_289002.out) hb); have n1_ := Aside0.mk (Kd.R_below (Zz.rR_ HO_289003.out) hb); have n2_ := Aside0.mk (Kd.R_below (Zz.rR_ HO_298002.out) hb); have n3_ := Aside0.mk (Kd.R_below (Zz.rR_ HO_298003.out) hb); have n4_ := Aside0.mk (Kd.R_below (Zz.rR_ HO_308002.out) hb); have n5_ := Aside0.mk (Kd.R_below (Zz.rR_ HO_308003.out) hb); have n6_ := Aside0.mk (Kd.R_below (Zz.rR_ HO313.out) hb); have n7_ := Aside0.mk (Kd.R_below (Zz.rR_ HO316.out) hb); have n8_ := Aside0.mk (blk_below (g := gb269) (o := .cells #[.int .i64 a0_0, .int .i64 a0_1, .slice A0_2 l0_2.length c0_2, .slice A0_3 l0_3.length c0_3] 31 (0, 0)) (Zz.rb_ BK269.out) hb); have n9_ := Aside0.mk (blk_below (g := gb288) (o := .cells #[.int .i64 t279, .int .i64 t280, .slice Ao26 t281.length co26, .slice Ao27 t284.length co27] 36 (0, 0)) (Zz.rb_ BK288.out) hb); have n10_ := Aside0.mk (blk_below (g := gb297) (o := .cells #[.int .i64 t289, .int .i64 t290, .slice Ao34 t291.length co34, .slice Ao35 t294.length co35] 36 (0, 0)) (Zz.rb_ BK297.out) hb); have n11_ := Aside0.mk (blk_below (g := gb307) (o := .cells #[.int .i64 t298, .int .i64 t299, .slice Ao42 t300.length co42, .slice Ao43 t303.length co43] 36 (0, 0)) (Zz.rb_ BK307.out) hb); have n12_ := Aside0.mk (below_step (Zz.rB_ HB.out) hb); clear HO_289002; clear HO_289003; clear HO_298002; clear HO_298003; clear HO_308002; clear HO_308003; clear HO313; clear HO316; clear BK269; clear BK288; clear BK297; clear BK307; clear HB; have HO_289002 := n0_; have HO_289003 := n1_; have HO_298002 := n2_; have HO_298003 := n3_; have HO_308002 := n4_; have HO_308003 := n5_; have HO313 := n6_; have HO316 := n7_; have BK269 := n8_; have BK288 := n9_; have BK297 := n10_; have BK307 := n11_; have HB := n12_; clear n0_ n1_ n2_ n3_ n4_ n5_ n6_ n7_ n8_ n9_ n10_ n11_ n12_; (try clear hb); (try clear hb2); (try clear hk); (try clear hi)))
          go_meet
          case rel => exact ⟨_, (true), (by first | rfl | (simp; done) | (simp [*]; done)), H', ⟨by have := HJ13.out; first | omega | exact Nat.le_refl _⟩, ⟨by (with_reducible repeat (first | apply Kd.R_alloc | apply Kd.R_drewN | apply Kd.R_drew)); exact Kd.R_mono HO_289002.out (fun _ hk => ⟨hk.1, hk.2.1⟩)⟩, ⟨by (with_reducible repeat (first | apply Kd.R_alloc | apply Kd.R_drewN | apply Kd.R_drew)); exact Kd.R_mono HO_289003.out (fun _ hk => ⟨hk.1, hk.2.1⟩)⟩, ⟨by (with_reducible repeat (first | apply Kd.R_alloc | apply Kd.R_drewN | apply Kd.R_drew)); exact Kd.R_mono HO_298002.out (fun _ hk => ⟨hk.1.1, hk.1.2⟩)⟩, ⟨by (with_reducible repeat (first | apply Kd.R_alloc | apply Kd.R_drewN | apply Kd.R_drew)); exact Kd.R_mono HO_298003.out (fun _ hk => ⟨hk.1.1, hk.1.2⟩)⟩, ⟨by (with_reducible repeat (first | apply Kd.R_alloc | apply Kd.R_drewN | apply Kd.R_drew)); exact Kd.R_mono HO_308002.out (fun _ hk => ⟨hk.1, hk.2.1⟩)⟩, ⟨by (with_reducible repeat (first | apply Kd.R_alloc | apply Kd.R_drewN | apply Kd.R_drew)); exact Kd.R_mono HO_308003.out (fun _ hk => ⟨hk.1, hk.2.1⟩)⟩, ⟨Zz.rb_ BK269.out⟩, ⟨Zz.rb_ BK288.out⟩, ⟨Zz.rb_ BK297.out⟩, ⟨Zz.rb_ BK307.out⟩, ⟨Zz.rB_ HB.out⟩⟩
       case rest =>
        clear HC67
        try clear c1
        try clear c2
        try clear p2
        try clear c3
        try clear c3b0
        try clear c3b1
        try clear c4
        try clear c5
        try clear c6
        try clear c6b0
        try clear c7
        try clear c8
        try clear c9
        try clear c18
        try clear c20
        try clear c22
        try clear c24
        try clear c31
        try clear c32
        try clear c38
        try clear c39
        try clear c40
        try clear c41
        try clear c45
        try clear c46
        try clear c47
        try clear c48
        try clear c50
        try clear c51
        try clear c54
        try clear c55
        try clear c56
        try clear c58
        try clear c59
        try clear c62
        try clear c65
        try clear c73
        try clear c74
        try clear c75
        try clear c78
        try clear c78b0
        try clear c80
        try clear c81
        try clear c82
        try clear c83
        try clear c85
        try clear c86
        try clear c89
        try clear c90
        try clear c91
        try clear c93
        try clear c94
        try clear hcz16_0
        try clear hcz16_1
        try clear hcz16_2
        try clear hcz16_3
        try clear hcz18_0
        try clear hcz18_1
        try clear hcz18_2
        try clear hcz18_3
        try clear hcz25_0
        try clear hcz25_1
        try clear hcz25_2
        try clear hcz25_3
        try clear hcz28_0
        try clear hcz28_1
        try clear hcz28_2
        try clear hcz28_3
        try clear hcz33_0
        try clear hcz33_1
        try clear hcz33_2
        try clear hcz33_3
        try clear hcz41_0
        try clear hcz41_1
        try clear hcz41_2
        try clear hcz41_3
        try clear hcz49_0
        try clear hcz49_1
        try clear hcz49_2
        try clear hcz49_3
        try clear hcz52_0
        try clear hcz52_1
        try clear hcz52_2
        try clear hcz52_3
        try clear hcz57_0
        try clear hcz57_1
        try clear hcz57_2
        try clear hcz57_3
        try clear hcz60_0
        try clear hcz60_1
        try clear hcz60_2
        try clear hcz60_3
        try clear hcz76_0
        try clear hcz76_1
        try clear hcz76_2
        try clear hcz76_3
        try clear hcz84_0
        try clear hcz84_1
        try clear hcz84_2
        try clear hcz84_3
        try clear hcz87_0
        try clear hcz87_1
        try clear hcz87_2
        try clear hcz87_3
        try clear hcz8_0
        try clear hcz8_1
        try clear hcz8_2
        try clear hcz8_3
        try clear hcz92_0
        try clear hcz92_1
        try clear hcz92_2
        try clear hcz92_3
        try clear hcz95_0
        try clear hcz95_1
        try clear hcz95_2
        try clear hcz95_3
        try clear hfz16_0
        try clear hfz16_1
        try clear hfz16_2
        try clear hfz16_3
        try clear hfz18_0
        try clear hfz18_1
        try clear hfz18_2
        try clear hfz18_3
        try clear hfz25_0
        try clear hfz25_1
        try clear hfz25_2
        try clear hfz25_3
        try clear hfz28_0
        try clear hfz28_1
        try clear hfz28_2
        try clear hfz28_3
        try clear hfz33_0
        try clear hfz33_1
        try clear hfz33_2
        try clear hfz33_3
        try clear hfz41_0
        try clear hfz41_1
        try clear hfz41_2
        try clear hfz41_3
        try clear hfz49_0
        try clear hfz49_1
        try clear hfz49_2
        try clear hfz49_3
        try clear hfz52_0
        try clear hfz52_1
        try clear hfz52_2
        try clear hfz52_3
        try clear hfz57_0
        try clear hfz57_1
        try clear hfz57_2
        try clear hfz57_3
        try clear hfz60_0
        try clear hfz60_1
        try clear hfz60_2
        try clear hfz60_3
        try clear hfz76_0
        try clear hfz76_1
        try clear hfz76_2
        try clear hfz76_3
        try clear hfz84_0
        try clear hfz84_1
        try clear hfz84_2
        try clear hfz84_3
        try clear hfz87_0
        try clear hfz87_1
        try clear hfz87_2
        try clear hfz87_3
        try clear hfz8_0
        try clear hfz8_1
        try clear hfz8_2
        try clear hfz8_3
        try clear hfz92_0
        try clear hfz92_1
        try clear hfz92_2
        try clear hfz92_3
        try clear hfz95_0
        try clear hfz95_1
        try clear hfz95_2
        try clear hfz95_3
        try clear p2
        obtain ⟨kq, x68_66, rfl, HA, HJ66, HO_289002, HO_289003, HO_298002, HO_298003, HO_308002, HO_308003, BK269, BK288, BK297, BK307, HB⟩ := hcut
        have hl298002_66 := (Kd.R_reads' HO_298002.out).1
        rw [hl298002_66] at HO_298002
        (try simp only [hl298002_66])
        (try simp only [hl298002_66] at BK269)
        (try simp only [hl298002_66] at BK288)
        (try simp only [hl298002_66] at BK297)
        (try simp only [hl298002_66] at BK307)
        (try simp only [hl298002_66] at HO_289002)
        (try simp only [hl298002_66] at HO_289003)
        (try simp only [hl298002_66] at HO_298003)
        (try simp only [hl298002_66] at HO_308002)
        (try simp only [hl298002_66] at HO_308003)
        have hl298003_66 := (Kd.R_reads' HO_298003.out).1
        rw [hl298003_66] at HO_298003
        (try simp only [hl298003_66])
        (try simp only [hl298003_66] at BK269)
        (try simp only [hl298003_66] at BK288)
        (try simp only [hl298003_66] at BK297)
        (try simp only [hl298003_66] at BK307)
        (try simp only [hl298003_66] at HO_289002)
        (try simp only [hl298003_66] at HO_289003)
        (try simp only [hl298003_66] at HO_298002)
        (try simp only [hl298003_66] at HO_308002)
        (try simp only [hl298003_66] at HO_308003)
        cases kq with
        | zero => exact absurd HA.out (by simp [laws_FnExactUnpin.j1])
        | succ kj66 =>
         have H := HA.out
         clear HA
         simp only [laws_FnExactUnpin.j1] at H
         by_cases c97 : x68_66 = true
         ·
          subst c97
          have H1 : (some false) = some r := by rw [if_pos rfl] at H; exact H
          clear H
          have H := H1
          clear H1
          obtain rfl := Option.some.inj H
          go_wp2
          go_ret
          exact ⟨by first | rfl | (simp [errW_none, errW_some] <;> rfl) | (simp [*, errW_none, errW_some] <;> rfl), by repeat (first | (with_reducible first | exact HB.out | apply below_alloc | apply pw_below_drewN | apply below_drew1 | refine below_set ?_ GE269.out | refine below_set ?_ GE288.out | refine below_set ?_ GE297.out | refine below_set ?_ GE307.out) | exact HB.out)⟩
         ·
          replace c97 := Bool.eq_false_iff.mpr c97
          subst c97
          have H1 : ((laws_markStore.f kj66 t298 t299 t300 t303 1).bind fun bt322 => ((laws_heldStore.f kj66 t298 t299 bt322.2.1 bt322.2.2 1).bind fun t325 => (if t325 < 0 then (some false) else (if t325 = bt322.1 then ((laws_toStore.f kj66 a0_0 a0_1 l0_2 l0_3).bind fun bt326 => ((impl_Unpin.f kj66 bt326.1 bt326.2.1 bt326.2.2.1 bt326.2.2.2 a1).bind fun bt334 => ((laws_eqStore.f kj66 bt334.1 bt334.2.1 bt334.2.2.1 bt334.2.2.2.1 t279 t280 t281 t284).bind fun t344 => (if t344 = true then (laws_FnExactUnpin.j2 kj66 bt322.1 (bt334.2.2.2.2 != t287) t298 t299 bt322.2.1 bt322.2.2) else (laws_FnExactUnpin.j2 kj66 bt322.1 true t298 t299 bt322.2.1 bt322.2.2))))) else (some false))))) = some r := by rw [if_neg (show ¬ (false = true) by decide)] at H; exact H
          clear H
          have H := H1
          clear H1
          replace H := Option.bind_eq_some_iff.mp H
          obtain ⟨⟨t322, t323, t324⟩, A980, H⟩ := H
          replace H : ((laws_heldStore.f kj66 t298 t299 t323 t324 1).bind fun t325 => (if t325 < 0 then (some false) else (if t325 = t322 then ((laws_toStore.f kj66 a0_0 a0_1 l0_2 l0_3).bind fun bt326 => ((impl_Unpin.f kj66 bt326.1 bt326.2.1 bt326.2.2.1 bt326.2.2.2 a1).bind fun bt334 => ((laws_eqStore.f kj66 bt334.1 bt334.2.1 bt334.2.2.1 bt334.2.2.2.1 t279 t280 t281 t284).bind fun t344 => (if t344 = true then (laws_FnExactUnpin.j2 kj66 t322 (bt334.2.2.2.2 != t287) t298 t299 t323 t324) else (laws_FnExactUnpin.j2 kj66 t322 true t298 t299 t323 t324))))) else (some false)))) = some r := H
          have A98 := Aside0.mk A980
          clear A980
          replace H := Option.bind_eq_some_iff.mp H
          obtain ⟨t325, A990, H⟩ := H
          replace H : (if t325 < 0 then (some false) else (if t325 = t322 then ((laws_toStore.f kj66 a0_0 a0_1 l0_2 l0_3).bind fun bt326 => ((impl_Unpin.f kj66 bt326.1 bt326.2.1 bt326.2.2.1 bt326.2.2.2 a1).bind fun bt334 => ((laws_eqStore.f kj66 bt334.1 bt334.2.1 bt334.2.2.1 bt334.2.2.2.1 t279 t280 t281 t284).bind fun t344 => (if t344 = true then (laws_FnExactUnpin.j2 kj66 t322 (bt334.2.2.2.2 != t287) t298 t299 t323 t324) else (laws_FnExactUnpin.j2 kj66 t322 true t298 t299 t323 t324))))) else (some false))) = some r := H
          have A99 := Aside0.mk A990
          clear A990
          by_cases c100 : t325 < 0
          ·
           rw [if_pos c100] at H
           have c100b0 : decide (t325 < 0) = true := decide_eq_true c100
           clear c100
           obtain rfl := Option.some.inj H
           have hnb101 := NB307_269.out
           have hnc101 := NB269_307.out
           have hnb102 := NB307_288.out
           have hnc102 := NB288_307.out
           have hnb103 := NB307_297.out
           have hnc103 := NB297_307.out
           have hcz104_0 : wc.cell? ⟨gb307, 0, none⟩ = some (.int .i64 t298) := (blk_cell BK307.out 0).trans rfl
           have hcz104_1 : wc.cell? ⟨gb307, 1, none⟩ = some (.int .i64 t299) := (blk_cell BK307.out 1).trans rfl
           have hcz104_2 : wc.cell? ⟨gb307, 2, none⟩ = some (.slice Ao42 t300.length co42) := (blk_cell BK307.out 2).trans rfl
           have hcz104_3 : wc.cell? ⟨gb307, 3, none⟩ = some (.slice Ao43 t303.length co43) := (blk_cell BK307.out 3).trans rfl
           have hfz104_0 := blk_frozen BK307.out 0
           have hfz104_1 := blk_frozen BK307.out 1
           have hfz104_2 := blk_frozen BK307.out 2
           have hfz104_3 := blk_frozen BK307.out 3
           go_wp2_with (first | ((with_reducible refine gate_callee (f := 38) rfl ?_); refine goesL_ (some 71) rfl rfl Try.func38 (by kernel_rfl) rfl #[.agg #[.int .i64 t298, .int .i64 t299, .slice Ao42 t300.length co42, .slice Ao43 t303.length co43], .int .i64 1] rfl (by (try simp only [List.map_toArray, List.map_cons, List.map_nil]); first | done | rfl | (simp only [List.length_drop, List.length_take]; rfl)) ?_; (with_reducible refine (laws_markStore.calls kj66 t298 t299 (fun k_ => some k_ = (.slice Ao42 t300.length co42 : Value).ownBlock) (.slice Ao42 t300.length co42) t300 (fun k_ => some k_ = (.slice Ao43 t303.length co43 : Value).ownBlock) (.slice Ao43 t303.length co43) t303 1 t322 t323 t324 w _ ?side1 ?side2 ?side3 A98.out).mono ?_); (case side1 => exact Zz.rB_ HB.out); (case side2 => exact Kd.R_tight rfl HO_308002.out); (case side3 => exact Kd.R_tight rfl HO_308003.out); rintro e w105 ⟨rfl, hy0, hy1, hb, hkp⟩; refine ⟨_, rfl, ?_⟩; have n0_ := Aside0.mk (Kd.R_mono (ok' := fun k_ => some k_ ≠ (.slice Ao34 t319.length co34 : Value).ownBlock ∧ some k_ ≠ (.slice Ao42 t300.length co42 : Value).ownBlock) (Kd.R_keptB ((Kd.R_apart' HO_289002.out (Kd.R_typed HO_308003.out) (by decide))) hkp (fun k_ hk_ hs_ => Or.elim hs_ (fun e_ => (hk_.1.2) e_) (fun e_ => (hk_.2) e_))) (fun k_ hk_ => ⟨hk_.1.1.1, hk_.1.1.2⟩)); have n1_ := Aside0.mk (Kd.R_mono (ok' := fun k_ => some k_ ≠ (.slice Ao35 t320.length co35 : Value).ownBlock ∧ some k_ ≠ (.slice Ao43 t303.length co43 : Value).ownBlock) (Kd.R_keptB ((Kd.R_apart' HO_289003.out (Kd.R_typed HO_308002.out) (by decide))) hkp (fun k_ hk_ hs_ => Or.elim hs_ (fun e_ => (hk_.2) e_) (fun e_ => (hk_.1.2) e_))) (fun k_ hk_ => ⟨hk_.1.1.1, hk_.1.1.2⟩)); have n2_ := Aside0.mk (Kd.R_mono (ok' := fun k_ => some k_ ≠ (.slice Ao26 t281.length co26 : Value).ownBlock ∧ some k_ ≠ (.slice Ao42 t300.length co42 : Value).ownBlock) (Kd.R_keptB ((Kd.R_apart' HO_298002.out (Kd.R_typed HO_308003.out) (by decide))) hkp (fun k_ hk_ hs_ => Or.elim hs_ (fun e_ => (hk_.1.2) e_) (fun e_ => (hk_.2) e_))) (fun k_ hk_ => ⟨hk_.1.1.1, hk_.1.1.2⟩)); have n3_ := Aside0.mk (Kd.R_mono (ok' := fun k_ => some k_ ≠ (.slice Ao27 t284.length co27 : Value).ownBlock ∧ some k_ ≠ (.slice Ao43 t303.length co43 : Value).ownBlock) (Kd.R_keptB ((Kd.R_apart' HO_298003.out (Kd.R_typed HO_308002.out) (by decide))) hkp (fun k_ hk_ hs_ => Or.elim hs_ (fun e_ => (hk_.2) e_) (fun e_ => (hk_.1.2) e_))) (fun k_ hk_ => ⟨hk_.1.1.1, hk_.1.1.2⟩)); have n4_ := Aside0.mk (Kd.R_reok rfl hy0 (fun k_ e_ => HO_308002.out.1 k_ e_)); have n5_ := Aside0.mk (Kd.R_reok rfl hy1 (fun k_ e_ => HO_308003.out.1 k_ e_)); have n6_ := Aside0.mk (blk_kept (Zz.rb_ BK269.out) hkp (fun hs_ => Or.elim hs_ (fun e_ => (fun e_ => (Kd.R_ne HO_308002.out BK269.out (by decide)) e_) e_) (fun e_ => (fun e_ => (Kd.R_ne HO_308003.out BK269.out (by decide)) e_) e_))); have n7_ := Aside0.mk (blk_kept (Zz.rb_ BK288.out) hkp (fun hs_ => Or.elim hs_ (fun e_ => (fun e_ => (Kd.R_ne HO_308002.out BK288.out (by decide)) e_) e_) (fun e_ => (fun e_ => (Kd.R_ne HO_308003.out BK288.out (by decide)) e_) e_))); have n8_ := Aside0.mk (blk_kept (Zz.rb_ BK297.out) hkp (fun hs_ => Or.elim hs_ (fun e_ => (fun e_ => (Kd.R_ne HO_308002.out BK297.out (by decide)) e_) e_) (fun e_ => (fun e_ => (Kd.R_ne HO_308003.out BK297.out (by decide)) e_) e_))); have n9_ := Aside0.mk (blk_kept (Zz.rb_ BK307.out) hkp (fun hs_ => Or.elim hs_ (fun e_ => (fun e_ => (Kd.R_ne HO_308002.out BK307.out (by decide)) e_) e_) (fun e_ => (fun e_ => (Kd.R_ne HO_308003.out BK307.out (by decide)) e_) e_))); have n10_ := Aside0.mk (hb); clear HO_289002; clear HO_289003; clear HO_298002; clear HO_298003; clear HO_308002; clear HO_308003; clear BK269; clear BK288; clear BK297; clear BK307; clear HB; have HO_289002 := n0_; have HO_289003 := n1_; have HO_298002 := n2_; have HO_298003 := n3_; have HO_308002 := n4_; have HO_308003 := n5_; have BK269 := n6_; have BK288 := n7_; have BK297 := n8_; have BK307 := n9_; have HB := n10_; clear n0_ n1_ n2_ n3_ n4_ n5_ n6_ n7_ n8_ n9_ n10_; (try clear hb); (try clear hkp); (try clear hy0); (try clear hy1); have hcz106_0 : w105.cell? ⟨gb307, 0, none⟩ = some (.int .i64 t298) := (blk_cell BK307.out 0).trans rfl; have hcz106_1 : w105.cell? ⟨gb307, 1, none⟩ = some (.int .i64 t299) := (blk_cell BK307.out 1).trans rfl; have hcz106_2 : w105.cell? ⟨gb307, 2, none⟩ = some (.slice Ao42 t300.length co42) := (blk_cell BK307.out 2).trans rfl; have hcz106_3 : w105.cell? ⟨gb307, 3, none⟩ = some (.slice Ao43 t303.length co43) := (blk_cell BK307.out 3).trans rfl; have hfz106_0 := blk_frozen BK307.out 0; have hfz106_1 := blk_frozen BK307.out 1; have hfz106_2 := blk_frozen BK307.out 2; have hfz106_3 := blk_frozen BK307.out 3) | ((with_reducible refine gate_callee (f := 39) rfl ?_); refine goesL_ (some 74) rfl rfl Try.func39 (by kernel_rfl) rfl #[.agg #[.int .i64 t298, .int .i64 t299, .slice Ao42 t323.length co42, .slice Ao43 t324.length co43], .int .i64 1] rfl (by (try simp only [List.map_toArray, List.map_cons, List.map_nil]); first | done | (rw [show t323.length = t300.length from (Kd.R_reads' HO_308002.out).1.symm, show t324.length = t303.length from (Kd.R_reads' HO_308003.out).1.symm] <;> rfl) | rfl | (simp only [List.length_drop, List.length_take]; rfl)) ?_; (with_reducible refine (laws_heldStore.calls kj66 t298 t299 _ _ t323 _ _ t324 1 t325 _ ?side1 ?side2 ?side3 ?side4 A99.out).mono ?_); (case side1 => repeat (first | exact (Kd.R_reads' HO_308002.out).2.2 | (with_reducible refine Kd.C_alloc ?_ _) | (with_reducible refine Kd.C_drewN ?_ _) | (with_reducible refine Kd.C_drew ?_))); (case side2 => rw [show t323.length = t300.length from (Kd.R_reads' HO_308002.out).1.symm]; exact (Kd.R_reads' HO_308002.out).2.1); (case side3 => repeat (first | exact (Kd.R_reads' HO_308003.out).2.2 | (with_reducible refine Kd.C_alloc ?_ _) | (with_reducible refine Kd.C_drewN ?_ _) | (with_reducible refine Kd.C_drew ?_))); (case side4 => rw [show t324.length = t303.length from (Kd.R_reads' HO_308003.out).1.symm]; exact (Kd.R_reads' HO_308003.out).2.1); rintro e w107 ⟨rfl, hb⟩; refine ⟨_, rfl, ?_⟩; have n0_ := Aside0.mk (Kd.R_below (Zz.rR_ HO_289002.out) hb); have n1_ := Aside0.mk (Kd.R_below (Zz.rR_ HO_289003.out) hb); have n2_ := Aside0.mk (Kd.R_below (Zz.rR_ HO_298002.out) hb); have n3_ := Aside0.mk (Kd.R_below (Zz.rR_ HO_298003.out) hb); have n4_ := Aside0.mk (Kd.R_below (Zz.rR_ HO_308002.out) hb); have n5_ := Aside0.mk (Kd.R_below (Zz.rR_ HO_308003.out) hb); have n6_ := Aside0.mk (blk_below (g := gb269) (o := .cells #[.int .i64 a0_0, .int .i64 a0_1, .slice A0_2 l0_2.length c0_2, .slice A0_3 l0_3.length c0_3] 31 (0, 0)) (Zz.rb_ BK269.out) hb); have n7_ := Aside0.mk (blk_below (g := gb288) (o := .cells #[.int .i64 t279, .int .i64 t280, .slice Ao26 t281.length co26, .slice Ao27 t284.length co27] 36 (0, 0)) (Zz.rb_ BK288.out) hb); have n8_ := Aside0.mk (blk_below (g := gb297) (o := .cells #[.int .i64 t289, .int .i64 t290, .slice Ao34 t319.length co34, .slice Ao35 t320.length co35] 36 (0, 0)) (Zz.rb_ BK297.out) hb); have n9_ := Aside0.mk (blk_below (g := gb307) (o := .cells #[.int .i64 t298, .int .i64 t299, .slice Ao42 t300.length co42, .slice Ao43 t303.length co43] 36 (0, 0)) (Zz.rb_ BK307.out) hb); have n10_ := Aside0.mk (below_step (Zz.rB_ HB.out) hb); clear HO_289002; clear HO_289003; clear HO_298002; clear HO_298003; clear HO_308002; clear HO_308003; clear BK269; clear BK288; clear BK297; clear BK307; clear HB; have HO_289002 := n0_; have HO_289003 := n1_; have HO_298002 := n2_; have HO_298003 := n3_; have HO_308002 := n4_; have HO_308003 := n5_; have BK269 := n6_; have BK288 := n7_; have BK297 := n8_; have BK307 := n9_; have HB := n10_; clear n0_ n1_ n2_ n3_ n4_ n5_ n6_ n7_ n8_ n9_ n10_; (try clear hb); (try clear hb2); (try clear hk); (try clear hi)))
           go_ret
           exact ⟨by first | rfl | (simp [errW_none, errW_some] <;> rfl) | (simp [*, errW_none, errW_some] <;> rfl), by repeat (first | (with_reducible first | exact HB.out | apply below_alloc | apply pw_below_drewN | apply below_drew1 | refine below_set ?_ GE269.out | refine below_set ?_ GE288.out | refine below_set ?_ GE297.out | refine below_set ?_ GE307.out) | exact HB.out)⟩
          ·
           rw [if_neg c100] at H
           have c100b0 : decide (t325 < 0) = false := decide_eq_false c100
           clear c100
           by_cases c108 : t325 = t322
           ·
            rw [if_pos c108] at H
            have c108b0 : (t325 == t322) = true := beq_iff_eq.mpr c108
            have c108b1 : (t325 != t322) = false := bne_eq_false_iff_eq.mpr c108
            clear c108
            replace H := Option.bind_eq_some_iff.mp H
            obtain ⟨⟨t326, t327, t328, t331⟩, A1090, H⟩ := H
            replace H : ((impl_Unpin.f kj66 t326 t327 t328 t331 a1).bind fun bt334 => ((laws_eqStore.f kj66 bt334.1 bt334.2.1 bt334.2.2.1 bt334.2.2.2.1 t279 t280 t281 t284).bind fun t344 => (if t344 = true then (laws_FnExactUnpin.j2 kj66 t322 (bt334.2.2.2.2 != t287) t298 t299 t323 t324) else (laws_FnExactUnpin.j2 kj66 t322 true t298 t299 t323 t324)))) = some r := H
            have A109 := Aside0.mk A1090
            clear A1090
            replace H := Option.bind_eq_some_iff.mp H
            obtain ⟨⟨t334, t335, t336, t339, t342⟩, A1100, H⟩ := H
            replace H : ((laws_eqStore.f kj66 t334 t335 t336 t339 t279 t280 t281 t284).bind fun t344 => (if t344 = true then (laws_FnExactUnpin.j2 kj66 t322 (t342 != t287) t298 t299 t323 t324) else (laws_FnExactUnpin.j2 kj66 t322 true t298 t299 t323 t324))) = some r := H
            have A110 := Aside0.mk A1100
            clear A1100
            have HC111 := Aside0.mk H
            clear H
            have hnb112 := NB307_269.out
            have hnc112 := NB269_307.out
            have hnb113 := NB307_288.out
            have hnc113 := NB288_307.out
            have hnb114 := NB307_297.out
            have hnc114 := NB297_307.out
            have hcz115_0 : wc.cell? ⟨gb307, 0, none⟩ = some (.int .i64 t298) := (blk_cell BK307.out 0).trans rfl
            have hcz115_1 : wc.cell? ⟨gb307, 1, none⟩ = some (.int .i64 t299) := (blk_cell BK307.out 1).trans rfl
            have hcz115_2 : wc.cell? ⟨gb307, 2, none⟩ = some (.slice Ao42 t300.length co42) := (blk_cell BK307.out 2).trans rfl
            have hcz115_3 : wc.cell? ⟨gb307, 3, none⟩ = some (.slice Ao43 t303.length co43) := (blk_cell BK307.out 3).trans rfl
            have hfz115_0 := blk_frozen BK307.out 0
            have hfz115_1 := blk_frozen BK307.out 1
            have hfz115_2 := blk_frozen BK307.out 2
            have hfz115_3 := blk_frozen BK307.out 3
            go_upto_region 27 with (first | ((with_reducible refine gate_callee (f := 38) rfl ?_); refine goesL_ (some 71) rfl rfl Try.func38 (by kernel_rfl) rfl #[.agg #[.int .i64 t298, .int .i64 t299, .slice Ao42 t300.length co42, .slice Ao43 t303.length co43], .int .i64 1] rfl (by (try simp only [List.map_toArray, List.map_cons, List.map_nil]); first | done | rfl | (simp only [List.length_drop, List.length_take]; rfl)) ?_; (with_reducible refine (laws_markStore.calls kj66 t298 t299 (fun k_ => some k_ = (.slice Ao42 t300.length co42 : Value).ownBlock) (.slice Ao42 t300.length co42) t300 (fun k_ => some k_ = (.slice Ao43 t303.length co43 : Value).ownBlock) (.slice Ao43 t303.length co43) t303 1 t322 t323 t324 w _ ?side1 ?side2 ?side3 A98.out).mono ?_); (case side1 => exact Zz.rB_ HB.out); (case side2 => exact Kd.R_tight rfl HO_308002.out); (case side3 => exact Kd.R_tight rfl HO_308003.out); rintro e w116 ⟨rfl, hy0, hy1, hb, hkp⟩; refine ⟨_, rfl, ?_⟩; have n0_ := Aside0.mk (Kd.R_mono (ok' := fun k_ => some k_ ≠ (.slice Ao34 t319.length co34 : Value).ownBlock ∧ some k_ ≠ (.slice Ao42 t300.length co42 : Value).ownBlock) (Kd.R_keptB ((Kd.R_apart' HO_289002.out (Kd.R_typed HO_308003.out) (by decide))) hkp (fun k_ hk_ hs_ => Or.elim hs_ (fun e_ => (hk_.1.2) e_) (fun e_ => (hk_.2) e_))) (fun k_ hk_ => ⟨hk_.1.1.1, hk_.1.1.2⟩)); have n1_ := Aside0.mk (Kd.R_mono (ok' := fun k_ => some k_ ≠ (.slice Ao35 t320.length co35 : Value).ownBlock ∧ some k_ ≠ (.slice Ao43 t303.length co43 : Value).ownBlock) (Kd.R_keptB ((Kd.R_apart' HO_289003.out (Kd.R_typed HO_308002.out) (by decide))) hkp (fun k_ hk_ hs_ => Or.elim hs_ (fun e_ => (hk_.2) e_) (fun e_ => (hk_.1.2) e_))) (fun k_ hk_ => ⟨hk_.1.1.1, hk_.1.1.2⟩)); have n2_ := Aside0.mk (Kd.R_mono (ok' := fun k_ => some k_ ≠ (.slice Ao26 t281.length co26 : Value).ownBlock ∧ some k_ ≠ (.slice Ao42 t300.length co42 : Value).ownBlock) (Kd.R_keptB ((Kd.R_apart' HO_298002.out (Kd.R_typed HO_308003.out) (by decide))) hkp (fun k_ hk_ hs_ => Or.elim hs_ (fun e_ => (hk_.1.2) e_) (fun e_ => (hk_.2) e_))) (fun k_ hk_ => ⟨hk_.1.1.1, hk_.1.1.2⟩)); have n3_ := Aside0.mk (Kd.R_mono (ok' := fun k_ => some k_ ≠ (.slice Ao27 t284.length co27 : Value).ownBlock ∧ some k_ ≠ (.slice Ao43 t303.length co43 : Value).ownBlock) (Kd.R_keptB ((Kd.R_apart' HO_298003.out (Kd.R_typed HO_308002.out) (by decide))) hkp (fun k_ hk_ hs_ => Or.elim hs_ (fun e_ => (hk_.2) e_) (fun e_ => (hk_.1.2) e_))) (fun k_ hk_ => ⟨hk_.1.1.1, hk_.1.1.2⟩)); have n4_ := Aside0.mk (Kd.R_reok rfl hy0 (fun k_ e_ => HO_308002.out.1 k_ e_)); have n5_ := Aside0.mk (Kd.R_reok rfl hy1 (fun k_ e_ => HO_308003.out.1 k_ e_)); have n6_ := Aside0.mk (blk_kept (Zz.rb_ BK269.out) hkp (fun hs_ => Or.elim hs_ (fun e_ => (fun e_ => (Kd.R_ne HO_308002.out BK269.out (by decide)) e_) e_) (fun e_ => (fun e_ => (Kd.R_ne HO_308003.out BK269.out (by decide)) e_) e_))); have n7_ := Aside0.mk (blk_kept (Zz.rb_ BK288.out) hkp (fun hs_ => Or.elim hs_ (fun e_ => (fun e_ => (Kd.R_ne HO_308002.out BK288.out (by decide)) e_) e_) (fun e_ => (fun e_ => (Kd.R_ne HO_308003.out BK288.out (by decide)) e_) e_))); have n8_ := Aside0.mk (blk_kept (Zz.rb_ BK297.out) hkp (fun hs_ => Or.elim hs_ (fun e_ => (fun e_ => (Kd.R_ne HO_308002.out BK297.out (by decide)) e_) e_) (fun e_ => (fun e_ => (Kd.R_ne HO_308003.out BK297.out (by decide)) e_) e_))); have n9_ := Aside0.mk (blk_kept (Zz.rb_ BK307.out) hkp (fun hs_ => Or.elim hs_ (fun e_ => (fun e_ => (Kd.R_ne HO_308002.out BK307.out (by decide)) e_) e_) (fun e_ => (fun e_ => (Kd.R_ne HO_308003.out BK307.out (by decide)) e_) e_))); have n10_ := Aside0.mk (hb); clear HO_289002; clear HO_289003; clear HO_298002; clear HO_298003; clear HO_308002; clear HO_308003; clear BK269; clear BK288; clear BK297; clear BK307; clear HB; have HO_289002 := n0_; have HO_289003 := n1_; have HO_298002 := n2_; have HO_298003 := n3_; have HO_308002 := n4_; have HO_308003 := n5_; have BK269 := n6_; have BK288 := n7_; have BK297 := n8_; have BK307 := n9_; have HB := n10_; clear n0_ n1_ n2_ n3_ n4_ n5_ n6_ n7_ n8_ n9_ n10_; (try clear hb); (try clear hkp); (try clear hy0); (try clear hy1); have hcz117_0 : w116.cell? ⟨gb307, 0, none⟩ = some (.int .i64 t298) := (blk_cell BK307.out 0).trans rfl; have hcz117_1 : w116.cell? ⟨gb307, 1, none⟩ = some (.int .i64 t299) := (blk_cell BK307.out 1).trans rfl; have hcz117_2 : w116.cell? ⟨gb307, 2, none⟩ = some (.slice Ao42 t300.length co42) := (blk_cell BK307.out 2).trans rfl; have hcz117_3 : w116.cell? ⟨gb307, 3, none⟩ = some (.slice Ao43 t303.length co43) := (blk_cell BK307.out 3).trans rfl; have hfz117_0 := blk_frozen BK307.out 0; have hfz117_1 := blk_frozen BK307.out 1; have hfz117_2 := blk_frozen BK307.out 2; have hfz117_3 := blk_frozen BK307.out 3) | ((with_reducible refine gate_callee (f := 39) rfl ?_); refine goesL_ (some 74) rfl rfl Try.func39 (by kernel_rfl) rfl #[.agg #[.int .i64 t298, .int .i64 t299, .slice Ao42 t323.length co42, .slice Ao43 t324.length co43], .int .i64 1] rfl (by (try simp only [List.map_toArray, List.map_cons, List.map_nil]); first | done | (rw [show t323.length = t300.length from (Kd.R_reads' HO_308002.out).1.symm, show t324.length = t303.length from (Kd.R_reads' HO_308003.out).1.symm] <;> rfl) | rfl | (simp only [List.length_drop, List.length_take]; rfl)) ?_; (with_reducible refine (laws_heldStore.calls kj66 t298 t299 _ _ t323 _ _ t324 1 t325 _ ?side1 ?side2 ?side3 ?side4 A99.out).mono ?_); (case side1 => repeat (first | exact (Kd.R_reads' HO_308002.out).2.2 | (with_reducible refine Kd.C_alloc ?_ _) | (with_reducible refine Kd.C_drewN ?_ _) | (with_reducible refine Kd.C_drew ?_))); (case side2 => rw [show t323.length = t300.length from (Kd.R_reads' HO_308002.out).1.symm]; exact (Kd.R_reads' HO_308002.out).2.1); (case side3 => repeat (first | exact (Kd.R_reads' HO_308003.out).2.2 | (with_reducible refine Kd.C_alloc ?_ _) | (with_reducible refine Kd.C_drewN ?_ _) | (with_reducible refine Kd.C_drew ?_))); (case side4 => rw [show t324.length = t303.length from (Kd.R_reads' HO_308003.out).1.symm]; exact (Kd.R_reads' HO_308003.out).2.1); rintro e w118 ⟨rfl, hb⟩; refine ⟨_, rfl, ?_⟩; have n0_ := Aside0.mk (Kd.R_below (Zz.rR_ HO_289002.out) hb); have n1_ := Aside0.mk (Kd.R_below (Zz.rR_ HO_289003.out) hb); have n2_ := Aside0.mk (Kd.R_below (Zz.rR_ HO_298002.out) hb); have n3_ := Aside0.mk (Kd.R_below (Zz.rR_ HO_298003.out) hb); have n4_ := Aside0.mk (Kd.R_below (Zz.rR_ HO_308002.out) hb); have n5_ := Aside0.mk (Kd.R_below (Zz.rR_ HO_308003.out) hb); have n6_ := Aside0.mk (blk_below (g := gb269) (o := .cells #[.int .i64 a0_0, .int .i64 a0_1, .slice A0_2 l0_2.length c0_2, .slice A0_3 l0_3.length c0_3] 31 (0, 0)) (Zz.rb_ BK269.out) hb); have n7_ := Aside0.mk (blk_below (g := gb288) (o := .cells #[.int .i64 t279, .int .i64 t280, .slice Ao26 t281.length co26, .slice Ao27 t284.length co27] 36 (0, 0)) (Zz.rb_ BK288.out) hb); have n8_ := Aside0.mk (blk_below (g := gb297) (o := .cells #[.int .i64 t289, .int .i64 t290, .slice Ao34 t319.length co34, .slice Ao35 t320.length co35] 36 (0, 0)) (Zz.rb_ BK297.out) hb); have n9_ := Aside0.mk (blk_below (g := gb307) (o := .cells #[.int .i64 t298, .int .i64 t299, .slice Ao42 t300.length co42, .slice Ao43 t303.length co43] 36 (0, 0)) (Zz.rb_ BK307.out) hb); have n10_ := Aside0.mk (below_step (Zz.rB_ HB.out) hb); clear HO_289002; clear HO_289003; clear HO_298002; clear HO_298003; clear HO_308002; clear HO_308003; clear BK269; clear BK288; clear BK297; clear BK307; clear HB; have HO_289002 := n0_; have HO_289003 := n1_; have HO_298002 := n2_; have HO_298003 := n3_; have HO_308002 := n4_; have HO_308003 := n5_; have BK269 := n6_; have BK288 := n7_; have BK297 := n8_; have BK307 := n9_; have HB := n10_; clear n0_ n1_ n2_ n3_ n4_ n5_ n6_ n7_ n8_ n9_ n10_; (try clear hb); (try clear hb2); (try clear hk); (try clear hi); have hnb119 := NB269_288.out; have hnc119 := NB288_269.out; have hnb120 := NB269_297.out; have hnc120 := NB297_269.out; have hcz121_0 : w118.cell? ⟨gb269, 0, none⟩ = some (.int .i64 a0_0) := (blk_cell BK269.out 0).trans rfl; have hcz121_1 : w118.cell? ⟨gb269, 1, none⟩ = some (.int .i64 a0_1) := (blk_cell BK269.out 1).trans rfl; have hcz121_2 : w118.cell? ⟨gb269, 2, none⟩ = some (.slice A0_2 l0_2.length c0_2) := (blk_cell BK269.out 2).trans rfl; have hcz121_3 : w118.cell? ⟨gb269, 3, none⟩ = some (.slice A0_3 l0_3.length c0_3) := (blk_cell BK269.out 3).trans rfl; have hfz121_0 := blk_frozen BK269.out 0; have hfz121_1 := blk_frozen BK269.out 1; have hfz121_2 := blk_frozen BK269.out 2; have hfz121_3 := blk_frozen BK269.out 3) | ((with_reducible refine gate_callee (f := 20) rfl ?_); refine goesL_ (some 82) rfl rfl Try.func20 (by kernel_rfl) rfl #[.agg #[.int .i64 a0_0, .int .i64 a0_1, .slice A0_2 l0_2.length c0_2, .slice A0_3 l0_3.length c0_3]] rfl (by (try simp only [List.map_toArray, List.map_cons, List.map_nil]); first | done | rfl | (simp only [List.length_drop, List.length_take]; rfl)) ?_; (with_reducible refine (laws_toStore.calls kj66 a0_0 a0_1 _ _ l0_2 _ _ l0_3 t326 t327 t328 t331 _ ?side1 ?side2 ?side3 ?side4 A109.out).mono ?_); (case side1 => repeat (first | exact (Kd.C_below HR0_2.out HB.out) | (with_reducible refine Kd.C_alloc ?_ _) | (with_reducible refine Kd.C_drewN ?_ _) | (with_reducible refine Kd.C_drew ?_))); (case side2 => exact HC0_2.out); (case side3 => repeat (first | exact (Kd.C_below HR0_3.out HB.out) | (with_reducible refine Kd.C_alloc ?_ _) | (with_reducible refine Kd.C_drewN ?_ _) | (with_reducible refine Kd.C_drew ?_))); (case side4 => exact HC0_3.out); rintro e w122 ⟨v329, v332, rfl, ho0, ho1, hb⟩; refine ⟨_, rfl, ?_⟩; have n0_ := Aside0.mk (Kd.R_elder' (Zz.rR_ HO_289002.out) (Kd.R_base ho0) hb); have n1_ := Aside0.mk (Kd.R_elder' (Zz.rR_ HO_289003.out) (Kd.R_base ho1) hb); have n2_ := Aside0.mk (Kd.R_elder' (Zz.rR_ HO_298002.out) (Kd.R_base ho0) hb); have n3_ := Aside0.mk (Kd.R_elder' (Zz.rR_ HO_298003.out) (Kd.R_base ho1) hb); have n4_ := Aside0.mk (Kd.R_elder' (Zz.rR_ HO_308002.out) (Kd.R_base ho0) hb); have n5_ := Aside0.mk (Kd.R_elder' (Zz.rR_ HO_308003.out) (Kd.R_base ho1) hb); have n6_ := Aside0.mk (Kd.R_lower (Kd.R_new' (Kd.R_new' (Kd.R_new' ho0 (Kd.R_lt (Zz.rR_ HO_289002.out))) (Kd.R_lt (Zz.rR_ HO_298002.out))) (Kd.R_lt (Zz.rR_ HO_308002.out))) (below_size (Zz.rB_ HB.out))); have n7_ := Aside0.mk (Kd.R_lower (Kd.R_new' (Kd.R_new' (Kd.R_new' ho1 (Kd.R_lt (Zz.rR_ HO_289003.out))) (Kd.R_lt (Zz.rR_ HO_298003.out))) (Kd.R_lt (Zz.rR_ HO_308003.out))) (below_size (Zz.rB_ HB.out))); have n8_ := Aside0.mk (blk_below (g := gb269) (o := .cells #[.int .i64 a0_0, .int .i64 a0_1, .slice A0_2 l0_2.length c0_2, .slice A0_3 l0_3.length c0_3] 31 (0, 0)) (Zz.rb_ BK269.out) hb); have n9_ := Aside0.mk (blk_below (g := gb288) (o := .cells #[.int .i64 t279, .int .i64 t280, .slice Ao26 t281.length co26, .slice Ao27 t284.length co27] 36 (0, 0)) (Zz.rb_ BK288.out) hb); have n10_ := Aside0.mk (blk_below (g := gb297) (o := .cells #[.int .i64 t289, .int .i64 t290, .slice Ao34 t319.length co34, .slice Ao35 t320.length co35] 36 (0, 0)) (Zz.rb_ BK297.out) hb); have n11_ := Aside0.mk (blk_below (g := gb307) (o := .cells #[.int .i64 t298, .int .i64 t299, .slice Ao42 t300.length co42, .slice Ao43 t303.length co43] 36 (0, 0)) (Zz.rb_ BK307.out) hb); have n12_ := Aside0.mk (below_step (Zz.rB_ HB.out) hb); clear HO_289002; clear HO_289003; clear HO_298002; clear HO_298003; clear HO_308002; clear HO_308003; clear BK269; clear BK288; clear BK297; clear BK307; clear HB; have HO_289002 := n0_; have HO_289003 := n1_; have HO_298002 := n2_; have HO_298003 := n3_; have HO_308002 := n4_; have HO_308003 := n5_; have HO330 := n6_; have HO333 := n7_; have BK269 := n8_; have BK288 := n9_; have BK297 := n10_; have BK307 := n11_; have HB := n12_; clear n0_ n1_ n2_ n3_ n4_ n5_ n6_ n7_ n8_ n9_ n10_ n11_ n12_; (try clear hb); (try clear hb2); (try clear hk); (try clear hi); (try clear ho0); (try clear ho1); obtain ⟨Ao123, co123, eo123⟩ := Kd.R_slice HO330.out; subst eo123; obtain ⟨Ao124, co124, eo124⟩ := Kd.R_slice HO333.out; subst eo124) | ((with_reducible refine gate_callee (f := 41) rfl ?_); refine goesL_ (some 84) rfl rfl Try.func41 (by kernel_rfl) rfl #[.agg #[.int .i64 t326, .int .i64 t327, .slice Ao123 t328.length co123, .slice Ao124 t331.length co124], .string a1] rfl (by (try simp only [List.map_toArray, List.map_cons, List.map_nil]); first | done | rfl | (simp only [List.length_drop, List.length_take]; rfl)) ?_; (with_reducible refine (impl_Unpin.calls kj66 t326 t327 _ _ t328 _ _ t331 a1 t334 t335 t336 t339 t342 _ ?side1 ?side2 ?side3 ?side4 A110.out).mono ?_); (case side1 => repeat (first | exact (Kd.R_reads' HO330.out).2.2 | (with_reducible refine Kd.C_alloc ?_ _) | (with_reducible refine Kd.C_drewN ?_ _) | (with_reducible refine Kd.C_drew ?_))); (case side2 => exact (Kd.R_reads' HO330.out).2.1); (case side3 => repeat (first | exact (Kd.R_reads' HO333.out).2.2 | (with_reducible refine Kd.C_alloc ?_ _) | (with_reducible refine Kd.C_drewN ?_ _) | (with_reducible refine Kd.C_drew ?_))); (case side4 => exact (Kd.R_reads' HO333.out).2.1); rintro e w125 ⟨v337, v340, rfl, ho0, ho1, hb⟩; refine ⟨_, rfl, ?_⟩; have n0_ := Aside0.mk (Kd.R_elder' (Zz.rR_ HO_289002.out) (Kd.R_base ho0) hb); have n1_ := Aside0.mk (Kd.R_elder' (Zz.rR_ HO_289003.out) (Kd.R_base ho1) hb); have n2_ := Aside0.mk (Kd.R_elder' (Zz.rR_ HO_298002.out) (Kd.R_base ho0) hb); have n3_ := Aside0.mk (Kd.R_elder' (Zz.rR_ HO_298003.out) (Kd.R_base ho1) hb); have n4_ := Aside0.mk (Kd.R_elder' (Zz.rR_ HO_308002.out) (Kd.R_base ho0) hb); have n5_ := Aside0.mk (Kd.R_elder' (Zz.rR_ HO_308003.out) (Kd.R_base ho1) hb); have n6_ := Aside0.mk (Kd.R_elder' (Zz.rR_ HO330.out) (Kd.R_base ho0) hb); have n7_ := Aside0.mk (Kd.R_elder' (Zz.rR_ HO333.out) (Kd.R_base ho1) hb); have n8_ := Aside0.mk (Kd.R_lower (Kd.R_new' (Kd.R_new' (Kd.R_new' (Kd.R_new' ho0 (Kd.R_lt (Zz.rR_ HO_289002.out))) (Kd.R_lt (Zz.rR_ HO_298002.out))) (Kd.R_lt (Zz.rR_ HO_308002.out))) (Kd.R_lt (Zz.rR_ HO330.out))) (below_size (Zz.rB_ HB.out))); have n9_ := Aside0.mk (Kd.R_lower (Kd.R_new' (Kd.R_new' (Kd.R_new' (Kd.R_new' ho1 (Kd.R_lt (Zz.rR_ HO_289003.out))) (Kd.R_lt (Zz.rR_ HO_298003.out))) (Kd.R_lt (Zz.rR_ HO_308003.out))) (Kd.R_lt (Zz.rR_ HO333.out))) (below_size (Zz.rB_ HB.out))); have n10_ := Aside0.mk (blk_below (g := gb269) (o := .cells #[.int .i64 a0_0, .int .i64 a0_1, .slice A0_2 l0_2.length c0_2, .slice A0_3 l0_3.length c0_3] 31 (0, 0)) (Zz.rb_ BK269.out) hb); have n11_ := Aside0.mk (blk_below (g := gb288) (o := .cells #[.int .i64 t279, .int .i64 t280, .slice Ao26 t281.length co26, .slice Ao27 t284.length co27] 36 (0, 0)) (Zz.rb_ BK288.out) hb); have n12_ := Aside0.mk (blk_below (g := gb297) (o := .cells #[.int .i64 t289, .int .i64 t290, .slice Ao34 t319.length co34, .slice Ao35 t320.length co35] 36 (0, 0)) (Zz.rb_ BK297.out) hb); have n13_ := Aside0.mk (blk_below (g := gb307) (o := .cells #[.int .i64 t298, .int .i64 t299, .slice Ao42 t300.length co42, .slice Ao43 t303.length co43] 36 (0, 0)) (Zz.rb_ BK307.out) hb); have n14_ := Aside0.mk (below_step (Zz.rB_ HB.out) hb); clear HO_289002; clear HO_289003; clear HO_298002; clear HO_298003; clear HO_308002; clear HO_308003; clear HO330; clear HO333; clear BK269; clear BK288; clear BK297; clear BK307; clear HB; have HO_289002 := n0_; have HO_289003 := n1_; have HO_298002 := n2_; have HO_298003 := n3_; have HO_308002 := n4_; have HO_308003 := n5_; have HO330 := n6_; have HO333 := n7_; have HO338 := n8_; have HO341 := n9_; have BK269 := n10_; have BK288 := n11_; have BK297 := n12_; have BK307 := n13_; have HB := n14_; clear n0_ n1_ n2_ n3_ n4_ n5_ n6_ n7_ n8_ n9_ n10_ n11_ n12_ n13_ n14_; (try clear hb); (try clear hb2); (try clear hk); (try clear hi); (try clear ho0); (try clear ho1)) | ((with_reducible refine gate_dst (N := 14) rfl ?_); refine box_event ?hg (N := 14) ?hd (cs := #[.int .i64 0, .int .i64 0, .slice none 0 0, .slice none 0 0]) (t := 36) ?hr ?_; (case hd => rfl); (case hg => rfl); (case hr => first | (go_simp; done) | (go_simp; rfl)); intro gb343 hg w126 hbox hb; have n0_ := Aside0.mk (Kd.R_below (Zz.rR_ HO_289002.out) hb); have n1_ := Aside0.mk (Kd.R_below (Zz.rR_ HO_289003.out) hb); have n2_ := Aside0.mk (Kd.R_below (Zz.rR_ HO_298002.out) hb); have n3_ := Aside0.mk (Kd.R_below (Zz.rR_ HO_298003.out) hb); have n4_ := Aside0.mk (Kd.R_below (Zz.rR_ HO_308002.out) hb); have n5_ := Aside0.mk (Kd.R_below (Zz.rR_ HO_308003.out) hb); have n6_ := Aside0.mk (Kd.R_below (Zz.rR_ HO330.out) hb); have n7_ := Aside0.mk (Kd.R_below (Zz.rR_ HO333.out) hb); have n8_ := Aside0.mk (Kd.R_below (Zz.rR_ HO338.out) hb); have n9_ := Aside0.mk (Kd.R_below (Zz.rR_ HO341.out) hb); have n10_ := Aside0.mk (blk_below (g := gb269) (o := .cells #[.int .i64 a0_0, .int .i64 a0_1, .slice A0_2 l0_2.length c0_2, .slice A0_3 l0_3.length c0_3] 31 (0, 0)) (Zz.rb_ BK269.out) hb); have n11_ := Aside0.mk (blk_below (g := gb288) (o := .cells #[.int .i64 t279, .int .i64 t280, .slice Ao26 t281.length co26, .slice Ao27 t284.length co27] 36 (0, 0)) (Zz.rb_ BK288.out) hb); have n12_ := Aside0.mk (blk_below (g := gb297) (o := .cells #[.int .i64 t289, .int .i64 t290, .slice Ao34 t319.length co34, .slice Ao35 t320.length co35] 36 (0, 0)) (Zz.rb_ BK297.out) hb); have n13_ := Aside0.mk (blk_below (g := gb307) (o := .cells #[.int .i64 t298, .int .i64 t299, .slice Ao42 t300.length co42, .slice Ao43 t303.length co43] 36 (0, 0)) (Zz.rb_ BK307.out) hb); have n14_ := Aside0.mk (below_step (Zz.rB_ HB.out) hb); have n15_ := Aside0.mk (hbox); have n16_ := Aside0.mk ((by rw [hg]; exact (below_size (Zz.rB_ HB.out)) : w.heap.size ≤ gb343)); have n17_ := Aside0.mk ((by rw [hg]; exact (below_size (Zz.rB_ HB.out)) : w.heap.size ≤ gb343)); have n18_ := Aside0.mk ((by rw [hg]; exact Nat.ne_of_lt (blk_lt (g := gb269) (o := .cells #[.int .i64 a0_0, .int .i64 a0_1, .slice A0_2 l0_2.length c0_2, .slice A0_3 l0_3.length c0_3] 31 (0, 0)) (Zz.rb_ BK269.out)) : gb269 ≠ gb343)); have n19_ := Aside0.mk ((by rw [hg]; exact Nat.ne_of_gt (blk_lt (g := gb269) (o := .cells #[.int .i64 a0_0, .int .i64 a0_1, .slice A0_2 l0_2.length c0_2, .slice A0_3 l0_3.length c0_3] 31 (0, 0)) (Zz.rb_ BK269.out)) : gb343 ≠ gb269)); have n20_ := Aside0.mk ((by rw [hg]; exact Nat.ne_of_lt (blk_lt (g := gb288) (o := .cells #[.int .i64 t279, .int .i64 t280, .slice Ao26 t281.length co26, .slice Ao27 t284.length co27] 36 (0, 0)) (Zz.rb_ BK288.out)) : gb288 ≠ gb343)); have n21_ := Aside0.mk ((by rw [hg]; exact Nat.ne_of_gt (blk_lt (g := gb288) (o := .cells #[.int .i64 t279, .int .i64 t280, .slice Ao26 t281.length co26, .slice Ao27 t284.length co27] 36 (0, 0)) (Zz.rb_ BK288.out)) : gb343 ≠ gb288)); have n22_ := Aside0.mk ((by rw [hg]; exact Nat.ne_of_lt (blk_lt (g := gb297) (o := .cells #[.int .i64 t289, .int .i64 t290, .slice Ao34 t319.length co34, .slice Ao35 t320.length co35] 36 (0, 0)) (Zz.rb_ BK297.out)) : gb297 ≠ gb343)); have n23_ := Aside0.mk ((by rw [hg]; exact Nat.ne_of_gt (blk_lt (g := gb297) (o := .cells #[.int .i64 t289, .int .i64 t290, .slice Ao34 t319.length co34, .slice Ao35 t320.length co35] 36 (0, 0)) (Zz.rb_ BK297.out)) : gb343 ≠ gb297)); have n24_ := Aside0.mk ((by rw [hg]; exact Nat.ne_of_lt (blk_lt (g := gb307) (o := .cells #[.int .i64 t298, .int .i64 t299, .slice Ao42 t300.length co42, .slice Ao43 t303.length co43] 36 (0, 0)) (Zz.rb_ BK307.out)) : gb307 ≠ gb343)); have n25_ := Aside0.mk ((by rw [hg]; exact Nat.ne_of_gt (blk_lt (g := gb307) (o := .cells #[.int .i64 t298, .int .i64 t299, .slice Ao42 t300.length co42, .slice Ao43 t303.length co43] 36 (0, 0)) (Zz.rb_ BK307.out)) : gb343 ≠ gb307)); clear HO_289002; clear HO_289003; clear HO_298002; clear HO_298003; clear HO_308002; clear HO_308003; clear HO330; clear HO333; clear HO338; clear HO341; clear BK269; clear BK288; clear BK297; clear BK307; clear HB; have HO_289002 := n0_; have HO_289003 := n1_; have HO_298002 := n2_; have HO_298003 := n3_; have HO_308002 := n4_; have HO_308003 := n5_; have HO330 := n6_; have HO333 := n7_; have HO338 := n8_; have HO341 := n9_; have BK269 := n10_; have BK288 := n11_; have BK297 := n12_; have BK307 := n13_; have HB := n14_; have BK343 := n15_; have GW343 := n16_; have GE343 := n17_; have NB269_343 := n18_; have NB343_269 := n19_; have NB288_343 := n20_; have NB343_288 := n21_; have NB297_343 := n22_; have NB343_297 := n23_; have NB307_343 := n24_; have NB343_307 := n25_; clear n0_ n1_ n2_ n3_ n4_ n5_ n6_ n7_ n8_ n9_ n10_ n11_ n12_ n13_ n14_ n15_ n16_ n17_ n18_ n19_ n20_ n21_ n22_ n23_ n24_ n25_; clear hb hbox hg; have hnb127 := NB343_269.out; have hnc127 := NB269_343.out; have hnb128 := NB343_288.out; have hnc128 := NB288_343.out; have hnb129 := NB343_297.out; have hnc129 := NB297_343.out; have hnb130 := NB343_307.out; have hnc130 := NB307_343.out; have hcz131_0 : w126.cell? ⟨gb343, 0, none⟩ = some (.int .i64 0) := (blk_cell BK343.out 0).trans rfl; have hcz131_1 : w126.cell? ⟨gb343, 1, none⟩ = some (.int .i64 0) := (blk_cell BK343.out 1).trans rfl; have hcz131_2 : w126.cell? ⟨gb343, 2, none⟩ = some (.slice none 0 0) := (blk_cell BK343.out 2).trans rfl; have hcz131_3 : w126.cell? ⟨gb343, 3, none⟩ = some (.slice none 0 0) := (blk_cell BK343.out 3).trans rfl; have hfz131_0 := blk_frozen BK343.out 0; have hfz131_1 := blk_frozen BK343.out 1; have hfz131_2 := blk_frozen BK343.out 2; have hfz131_3 := blk_frozen BK343.out 3; obtain ⟨Ao132, co132, eo132⟩ := Kd.R_slice HO338.out; subst eo132; obtain ⟨Ao133, co133, eo133⟩ := Kd.R_slice HO341.out; subst eo133))
            (try simp only [Act.put, List.setIfInBounds_toArray, List.set_cons_zero, List.set_cons_succ])
            go_cut [95] (fun v95 wc => ∃ (kq : Nat) (x95_110 : Bool), v95 = .bool x95_110 ∧ Aside0 (laws_FnExactUnpin.j2 kq t322 x95_110 t298 t299 t323 t324 = some r) ∧ Aside0 (kq ≤ kj66) ∧ Aside0 (Kd.R k92 92 wc w.heap.size (fun k_ => some k_ ≠ ((.slice Ao34 t319.length co34) : Value).ownBlock ∧ some k_ ≠ ((.slice Ao42 t300.length co42) : Value).ownBlock ∧ some k_ ≠ ((.slice Ao132 t336.length co132) : Value).ownBlock) (.slice Ao26 t281.length co26) t281) ∧ Aside0 (Kd.R Kd.string 9 wc w.heap.size (fun k_ => some k_ ≠ ((.slice Ao35 t320.length co35) : Value).ownBlock ∧ some k_ ≠ ((.slice Ao43 t303.length co43) : Value).ownBlock ∧ some k_ ≠ ((.slice Ao133 t339.length co133) : Value).ownBlock) (.slice Ao27 t284.length co27) t284) ∧ Aside0 (Kd.R k92 92 wc w.heap.size (fun k_ => some k_ ≠ ((.slice Ao26 t281.length co26) : Value).ownBlock ∧ some k_ ≠ ((.slice Ao42 t300.length co42) : Value).ownBlock ∧ some k_ ≠ ((.slice Ao132 t336.length co132) : Value).ownBlock) (.slice Ao34 t319.length co34) t319) ∧ Aside0 (Kd.R Kd.string 9 wc w.heap.size (fun k_ => some k_ ≠ ((.slice Ao27 t284.length co27) : Value).ownBlock ∧ some k_ ≠ ((.slice Ao43 t303.length co43) : Value).ownBlock ∧ some k_ ≠ ((.slice Ao133 t339.length co133) : Value).ownBlock) (.slice Ao35 t320.length co35) t320) ∧ Aside0 (Kd.R k92 92 wc w.heap.size (fun k_ => some k_ ≠ ((.slice Ao26 t281.length co26) : Value).ownBlock ∧ some k_ ≠ ((.slice Ao34 t319.length co34) : Value).ownBlock ∧ some k_ ≠ ((.slice Ao132 t336.length co132) : Value).ownBlock) (.slice Ao42 t300.length co42) t323) ∧ Aside0 (Kd.R Kd.string 9 wc w.heap.size (fun k_ => some k_ ≠ ((.slice Ao27 t284.length co27) : Value).ownBlock ∧ some k_ ≠ ((.slice Ao35 t320.length co35) : Value).ownBlock ∧ some k_ ≠ ((.slice Ao133 t339.length co133) : Value).ownBlock) (.slice Ao43 t303.length co43) t324) ∧ Aside0 (Kd.R k92 92 wc w.heap.size (fun k_ => some k_ ≠ ((.slice Ao26 t281.length co26) : Value).ownBlock ∧ some k_ ≠ ((.slice Ao34 t319.length co34) : Value).ownBlock ∧ some k_ ≠ ((.slice Ao42 t300.length co42) : Value).ownBlock) (.slice Ao132 t336.length co132) t336) ∧ Aside0 (Kd.R Kd.string 9 wc w.heap.size (fun k_ => some k_ ≠ ((.slice Ao27 t284.length co27) : Value).ownBlock ∧ some k_ ≠ ((.slice Ao35 t320.length co35) : Value).ownBlock ∧ some k_ ≠ ((.slice Ao43 t303.length co43) : Value).ownBlock) (.slice Ao133 t339.length co133) t339) ∧ Aside0 (wc.heap[gb269]? = some (.cells #[.int .i64 a0_0, .int .i64 a0_1, (.slice A0_2 l0_2.length c0_2), (.slice A0_3 l0_3.length c0_3)] 31 (0, 0))) ∧ Aside0 (wc.heap[gb288]? = some (.cells #[.int .i64 t279, .int .i64 t280, (.slice Ao26 t281.length co26), (.slice Ao27 t284.length co27)] 36 (0, 0))) ∧ Aside0 (wc.heap[gb297]? = some (.cells #[.int .i64 t289, .int .i64 t290, (.slice Ao34 t319.length co34), (.slice Ao35 t320.length co35)] 36 (0, 0))) ∧ Aside0 (wc.heap[gb307]? = some (.cells #[.int .i64 t298, .int .i64 t299, (.slice Ao42 t300.length co42), (.slice Ao43 t303.length co43)] 36 (0, 0))) ∧ Aside0 (wc.heap[gb343]? = some (.cells #[.int .i64 t334, .int .i64 t335, (.slice Ao132 t336.length co132), (.slice Ao133 t339.length co133)] 36 (0, 0))) ∧ Aside0 (Below w.heap.size w wc))
            case first =>
             have H := HC111.out
             clear HC111
             replace H := Option.bind_eq_some_iff.mp H
             obtain ⟨t344, A1340, H⟩ := H
             replace H : (if t344 = true then (laws_FnExactUnpin.j2 kj66 t322 (t342 != t287) t298 t299 t323 t324) else (laws_FnExactUnpin.j2 kj66 t322 true t298 t299 t323 t324)) = some r := H
             have A134 := Aside0.mk A1340
             clear A1340
             by_cases c135 : t344 = true
             ·
              subst c135
              have H1 : (laws_FnExactUnpin.j2 kj66 t322 (t342 != t287) t298 t299 t323 t324) = some r := by rw [if_pos rfl] at H; exact H
              clear H
              have H := H1
              clear H1
              have H' := Aside0.mk H
              clear H
              have hnb136 := NB343_269.out
              have hnc136 := NB269_343.out
              have hnb137 := NB343_288.out
              have hnc137 := NB288_343.out
              have hnb138 := NB343_297.out
              have hnc138 := NB297_343.out
              have hnb139 := NB343_307.out
              have hnc139 := NB307_343.out
              have hcz140_0 : w126.cell? ⟨gb343, 0, none⟩ = some (.int .i64 0) := (blk_cell BK343.out 0).trans rfl
              have hcz140_1 : w126.cell? ⟨gb343, 1, none⟩ = some (.int .i64 0) := (blk_cell BK343.out 1).trans rfl
              have hcz140_2 : w126.cell? ⟨gb343, 2, none⟩ = some (.slice none 0 0) := (blk_cell BK343.out 2).trans rfl
              have hcz140_3 : w126.cell? ⟨gb343, 3, none⟩ = some (.slice none 0 0) := (blk_cell BK343.out 3).trans rfl
              have hfz140_0 := blk_frozen BK343.out 0
              have hfz140_1 := blk_frozen BK343.out 1
              have hfz140_2 := blk_frozen BK343.out 2
              have hfz140_3 := blk_frozen BK343.out 3
              have hnb141 := NB288_269.out
              have hnc141 := NB269_288.out
              have hnb142 := NB288_297.out
              have hnc142 := NB297_288.out
              have hnb143 := NB288_307.out
              have hnc143 := NB307_288.out
              have hcz144_0 : w126.cell? ⟨gb288, 0, none⟩ = some (.int .i64 t279) := (blk_cell BK288.out 0).trans rfl
              have hcz144_1 : w126.cell? ⟨gb288, 1, none⟩ = some (.int .i64 t280) := (blk_cell BK288.out 1).trans rfl
              have hcz144_2 : w126.cell? ⟨gb288, 2, none⟩ = some (.slice Ao26 t281.length co26) := (blk_cell BK288.out 2).trans rfl
              have hcz144_3 : w126.cell? ⟨gb288, 3, none⟩ = some (.slice Ao27 t284.length co27) := (blk_cell BK288.out 3).trans rfl
              have hfz144_0 := blk_frozen BK288.out 0
              have hfz144_1 := blk_frozen BK288.out 1
              have hfz144_2 := blk_frozen BK288.out 2
              have hfz144_3 := blk_frozen BK288.out 3
              go_wp2_with (first | ((with_reducible refine gate_callee (f := 22) rfl ?_); refine goesL_ (some 89) rfl rfl Try.func22 (by kernel_rfl) rfl #[.agg #[.int .i64 t334, .int .i64 t335, .slice Ao132 t336.length co132, .slice Ao133 t339.length co133], .agg #[.int .i64 t279, .int .i64 t280, .slice Ao26 t281.length co26, .slice Ao27 t284.length co27]] rfl (by (try simp only [List.map_toArray, List.map_cons, List.map_nil]); first | done | rfl | (simp only [List.length_drop, List.length_take]; rfl)) ?_; (with_reducible refine (laws_eqStore.calls kj66 t334 t335 _ _ t336 _ _ t339 t279 t280 _ _ t281 _ _ t284 true _ ?side1 ?side2 ?side3 ?side4 ?side5 ?side6 ?side7 ?side8 A134.out).mono ?_); (case side1 => refine (Kd.R_reads' (e := 92) (base := w.heap.size) (ok := fun k_ => ((((True ∧ some k_ ≠ (.slice Ao26 t281.length co26 : Value).ownBlock) ∧ some k_ ≠ (.slice Ao34 t319.length co34 : Value).ownBlock) ∧ some k_ ≠ (.slice Ao42 t300.length co42 : Value).ownBlock) ∧ some k_ ≠ (.slice Ao123 t328.length co123 : Value).ownBlock)) (n := t336.length) (c := co132) ?_).2.2; exact (by (with_reducible repeat (first | apply Kd.R_alloc | apply Kd.R_drewN | apply Kd.R_drew)); exact (Kd.R_mono (Zz.rF_ gb343 (Kd.R_types HO338.out BK343.out (by decide)) (fun _ hk => hk.2) _ _ _ _) (fun _ h_ => h_.1)))); (case side2 => exact (Kd.R_reads' HO338.out).2.1); (case side3 => refine (Kd.R_reads' (e := 9) (base := w.heap.size) (ok := fun k_ => ((((True ∧ some k_ ≠ (.slice Ao27 t284.length co27 : Value).ownBlock) ∧ some k_ ≠ (.slice Ao35 t320.length co35 : Value).ownBlock) ∧ some k_ ≠ (.slice Ao43 t303.length co43 : Value).ownBlock) ∧ some k_ ≠ (.slice Ao124 t331.length co124 : Value).ownBlock)) (n := t339.length) (c := co133) ?_).2.2; exact (by (with_reducible repeat (first | apply Kd.R_alloc | apply Kd.R_drewN | apply Kd.R_drew)); exact (Kd.R_mono (Zz.rF_ gb343 (Kd.R_types HO341.out BK343.out (by decide)) (fun _ hk => hk.2) _ _ _ _) (fun _ h_ => h_.1)))); (case side4 => exact (Kd.R_reads' HO341.out).2.1); (case side5 => refine (Kd.R_reads' (e := 92) (base := w.heap.size) (ok := fun k_ => (((some k_ ≠ (.slice Ao34 t319.length co34 : Value).ownBlock ∧ some k_ ≠ (.slice Ao42 t300.length co42 : Value).ownBlock) ∧ some k_ ≠ (.slice Ao123 t328.length co123 : Value).ownBlock) ∧ some k_ ≠ (.slice Ao132 t336.length co132 : Value).ownBlock)) (n := t281.length) (c := co26) ?_).2.2; exact (by (with_reducible repeat (first | apply Kd.R_alloc | apply Kd.R_drewN | apply Kd.R_drew)); exact (Kd.R_mono (Zz.rF_ gb343 (Kd.R_types HO_289002.out BK343.out (by decide)) (fun _ hk => hk.2) _ _ _ _) (fun _ h_ => h_.1)))); (case side6 => exact (Kd.R_reads' HO_289002.out).2.1); (case side7 => refine (Kd.R_reads' (e := 9) (base := w.heap.size) (ok := fun k_ => (((some k_ ≠ (.slice Ao35 t320.length co35 : Value).ownBlock ∧ some k_ ≠ (.slice Ao43 t303.length co43 : Value).ownBlock) ∧ some k_ ≠ (.slice Ao124 t331.length co124 : Value).ownBlock) ∧ some k_ ≠ (.slice Ao133 t339.length co133 : Value).ownBlock)) (n := t284.length) (c := co27) ?_).2.2; exact (by (with_reducible repeat (first | apply Kd.R_alloc | apply Kd.R_drewN | apply Kd.R_drew)); exact (Kd.R_mono (Zz.rF_ gb343 (Kd.R_types HO_289003.out BK343.out (by decide)) (fun _ hk => hk.2) _ _ _ _) (fun _ h_ => h_.1)))); (case side8 => exact (Kd.R_reads' HO_289003.out).2.1); rintro e w145 ⟨rfl, hb⟩; refine ⟨_, rfl, ?_⟩; have n0_ := Aside0.mk (Kd.R_below (by (with_reducible repeat (first | apply Kd.R_alloc | apply Kd.R_drewN | apply Kd.R_drew)); exact (Kd.R_mono (Zz.rF_ gb343 (Kd.R_types HO_289002.out BK343.out (by decide)) (fun _ hk => hk.2) _ _ _ _) (fun _ h_ => h_.1))) hb); have n1_ := Aside0.mk (Kd.R_below (by (with_reducible repeat (first | apply Kd.R_alloc | apply Kd.R_drewN | apply Kd.R_drew)); exact (Kd.R_mono (Zz.rF_ gb343 (Kd.R_types HO_289003.out BK343.out (by decide)) (fun _ hk => hk.2) _ _ _ _) (fun _ h_ => h_.1))) hb); have n2_ := Aside0.mk (Kd.R_below (by (with_reducible repeat (first | apply Kd.R_alloc | apply Kd.R_drewN | apply Kd.R_drew)); exact (Kd.R_mono (Zz.rF_ gb343 (Kd.R_types HO_298002.out BK343.out (by decide)) (fun _ hk => hk.2) _ _ _ _) (fun _ h_ => h_.1))) hb); have n3_ := Aside0.mk (Kd.R_below (by (with_reducible repeat (first | apply Kd.R_alloc | apply Kd.R_drewN | apply Kd.R_drew)); exact (Kd.R_mono (Zz.rF_ gb343 (Kd.R_types HO_298003.out BK343.out (by decide)) (fun _ hk => hk.2) _ _ _ _) (fun _ h_ => h_.1))) hb); have n4_ := Aside0.mk (Kd.R_below (by (with_reducible repeat (first | apply Kd.R_alloc | apply Kd.R_drewN | apply Kd.R_drew)); exact (Kd.R_mono (Zz.rF_ gb343 (Kd.R_types HO_308002.out BK343.out (by decide)) (fun _ hk => hk.2) _ _ _ _) (fun _ h_ => h_.1))) hb); have n5_ := Aside0.mk (Kd.R_below (by (with_reducible repeat (first | apply Kd.R_alloc | apply Kd.R_drewN | apply Kd.R_drew)); exact (Kd.R_mono (Zz.rF_ gb343 (Kd.R_types HO_308003.out BK343.out (by decide)) (fun _ hk => hk.2) _ _ _ _) (fun _ h_ => h_.1))) hb); have n6_ := Aside0.mk (Kd.R_below (by (with_reducible repeat (first | apply Kd.R_alloc | apply Kd.R_drewN | apply Kd.R_drew)); exact (Kd.R_mono (Zz.rF_ gb343 (Kd.R_types HO330.out BK343.out (by decide)) (fun _ hk => hk.2) _ _ _ _) (fun _ h_ => h_.1))) hb); have n7_ := Aside0.mk (Kd.R_below (by (with_reducible repeat (first | apply Kd.R_alloc | apply Kd.R_drewN | apply Kd.R_drew)); exact (Kd.R_mono (Zz.rF_ gb343 (Kd.R_types HO333.out BK343.out (by decide)) (fun _ hk => hk.2) _ _ _ _) (fun _ h_ => h_.1))) hb); have n8_ := Aside0.mk (Kd.R_below (by (with_reducible repeat (first | apply Kd.R_alloc | apply Kd.R_drewN | apply Kd.R_drew)); exact (Kd.R_mono (Zz.rF_ gb343 (Kd.R_types HO338.out BK343.out (by decide)) (fun _ hk => hk.2) _ _ _ _) (fun _ h_ => h_.1))) hb); have n9_ := Aside0.mk (Kd.R_below (by (with_reducible repeat (first | apply Kd.R_alloc | apply Kd.R_drewN | apply Kd.R_drew)); exact (Kd.R_mono (Zz.rF_ gb343 (Kd.R_types HO341.out BK343.out (by decide)) (fun _ hk => hk.2) _ _ _ _) (fun _ h_ => h_.1))) hb); have n10_ := Aside0.mk (blk_below (g := gb269) (o := .cells #[.int .i64 a0_0, .int .i64 a0_1, .slice A0_2 l0_2.length c0_2, .slice A0_3 l0_3.length c0_3] 31 (0, 0)) (Zz.rb4_ NB269_343.out BK269.out) hb); have n11_ := Aside0.mk (blk_below (g := gb288) (o := .cells #[.int .i64 t279, .int .i64 t280, .slice Ao26 t281.length co26, .slice Ao27 t284.length co27] 36 (0, 0)) (Zz.rb4_ NB288_343.out BK288.out) hb); have n12_ := Aside0.mk (blk_below (g := gb297) (o := .cells #[.int .i64 t289, .int .i64 t290, .slice Ao34 t319.length co34, .slice Ao35 t320.length co35] 36 (0, 0)) (Zz.rb4_ NB297_343.out BK297.out) hb); have n13_ := Aside0.mk (blk_below (g := gb307) (o := .cells #[.int .i64 t298, .int .i64 t299, .slice Ao42 t300.length co42, .slice Ao43 t303.length co43] 36 (0, 0)) (Zz.rb4_ NB307_343.out BK307.out) hb); have n14_ := Aside0.mk (blk_below (g := gb343) (o := .cells #[.int .i64 t334, .int .i64 t335, .slice Ao132 t336.length co132, .slice Ao133 t339.length co133] 36 (0, 0)) (by (with_reducible repeat (first | refine blk_drewN ?_ _ | refine blk_drew ?_ | refine blk_alloc ?_ _)); refine blk_put (cs := #[.int .i64 t334, .int .i64 t335, .slice Ao132 t336.length co132, .slice none 0 0]) ?_ 3 _ rfl; (with_reducible repeat (first | refine blk_drewN ?_ _ | refine blk_drew ?_ | refine blk_alloc ?_ _)); refine blk_put (cs := #[.int .i64 t334, .int .i64 t335, .slice none 0 0, .slice none 0 0]) ?_ 2 _ rfl; (with_reducible repeat (first | refine blk_drewN ?_ _ | refine blk_drew ?_ | refine blk_alloc ?_ _)); refine blk_put (cs := #[.int .i64 t334, .int .i64 0, .slice none 0 0, .slice none 0 0]) ?_ 1 _ rfl; (with_reducible repeat (first | refine blk_drewN ?_ _ | refine blk_drew ?_ | refine blk_alloc ?_ _)); refine blk_put (cs := #[.int .i64 0, .int .i64 0, .slice none 0 0, .slice none 0 0]) ?_ 0 _ rfl; (with_reducible repeat (first | refine blk_drewN ?_ _ | refine blk_drew ?_ | refine blk_alloc ?_ _)); exact BK343.out) hb); have n15_ := Aside0.mk (below_step (Zz.rB_ HB.out) hb); clear HO_289002; clear HO_289003; clear HO_298002; clear HO_298003; clear HO_308002; clear HO_308003; clear HO330; clear HO333; clear HO338; clear HO341; clear BK269; clear BK288; clear BK297; clear BK307; clear BK343; clear HB; have HO_289002 := n0_; have HO_289003 := n1_; have HO_298002 := n2_; have HO_298003 := n3_; have HO_308002 := n4_; have HO_308003 := n5_; have HO330 := n6_; have HO333 := n7_; have HO338 := n8_; have HO341 := n9_; have BK269 := n10_; have BK288 := n11_; have BK297 := n12_; have BK307 := n13_; have BK343 := n14_; have HB := n15_; clear n0_ n1_ n2_ n3_ n4_ n5_ n6_ n7_ n8_ n9_ n10_ n11_ n12_ n13_ n14_ n15_; (try clear hb); (try clear hb2); (try clear hk); (try clear hi)))
              go_meet
              case rel => exact ⟨_, ((t342 != t287)), (by first | rfl | (simp; done) | (simp [*]; done)), H', ⟨by have := HJ13.out; have := HJ66.out; first | omega | exact Nat.le_refl _⟩, ⟨by (try simp only [hl298002_66]); (try simp only [hl298003_66]); (with_reducible repeat (first | apply Kd.R_alloc | apply Kd.R_drewN | apply Kd.R_drew)); exact Kd.R_mono HO_289002.out (fun _ hk => ⟨hk.1.1.1, ⟨hk.1.1.2, hk.2⟩⟩)⟩, ⟨by (try simp only [hl298002_66]); (try simp only [hl298003_66]); (with_reducible repeat (first | apply Kd.R_alloc | apply Kd.R_drewN | apply Kd.R_drew)); exact Kd.R_mono HO_289003.out (fun _ hk => ⟨hk.1.1.1, ⟨hk.1.1.2, hk.2⟩⟩)⟩, ⟨by (try simp only [hl298002_66]); (try simp only [hl298003_66]); (with_reducible repeat (first | apply Kd.R_alloc | apply Kd.R_drewN | apply Kd.R_drew)); exact Kd.R_mono HO_298002.out (fun _ hk => ⟨hk.1.1.1, ⟨hk.1.1.2, hk.2⟩⟩)⟩, ⟨by (try simp only [hl298002_66]); (try simp only [hl298003_66]); (with_reducible repeat (first | apply Kd.R_alloc | apply Kd.R_drewN | apply Kd.R_drew)); exact Kd.R_mono HO_298003.out (fun _ hk => ⟨hk.1.1.1, ⟨hk.1.1.2, hk.2⟩⟩)⟩, ⟨by (try simp only [hl298002_66]); (try simp only [hl298003_66]); (with_reducible repeat (first | apply Kd.R_alloc | apply Kd.R_drewN | apply Kd.R_drew)); exact Kd.R_mono HO_308002.out (fun _ hk => ⟨hk.1.1.1, ⟨hk.1.1.2, hk.2⟩⟩)⟩, ⟨by (try simp only [hl298002_66]); (try simp only [hl298003_66]); (with_reducible repeat (first | apply Kd.R_alloc | apply Kd.R_drewN | apply Kd.R_drew)); exact Kd.R_mono HO_308003.out (fun _ hk => ⟨hk.1.1.1, ⟨hk.1.1.2, hk.2⟩⟩)⟩, ⟨by (try simp only [hl298002_66]); (try simp only [hl298003_66]); (with_reducible repeat (first | apply Kd.R_alloc | apply Kd.R_drewN | apply Kd.R_drew)); exact Kd.R_mono HO338.out (fun _ hk => ⟨hk.1.1.1.2, ⟨hk.1.1.2, hk.1.2⟩⟩)⟩, ⟨by (try simp only [hl298002_66]); (try simp only [hl298003_66]); (with_reducible repeat (first | apply Kd.R_alloc | apply Kd.R_drewN | apply Kd.R_drew)); exact Kd.R_mono HO341.out (fun _ hk => ⟨hk.1.1.1.2, ⟨hk.1.1.2, hk.1.2⟩⟩)⟩, ⟨by (try simp only [hl298002_66]); (try simp only [hl298003_66]); (with_reducible repeat (first | refine blk_drewN ?_ _ | refine blk_drew ?_ | refine blk_alloc ?_ _)); exact BK269.out⟩, ⟨by (try simp only [hl298002_66]); (try simp only [hl298003_66]); (with_reducible repeat (first | refine blk_drewN ?_ _ | refine blk_drew ?_ | refine blk_alloc ?_ _)); exact BK288.out⟩, ⟨by (try simp only [hl298002_66]); (try simp only [hl298003_66]); (with_reducible repeat (first | refine blk_drewN ?_ _ | refine blk_drew ?_ | refine blk_alloc ?_ _)); exact BK297.out⟩, ⟨by (try simp only [hl298002_66]); (try simp only [hl298003_66]); (with_reducible repeat (first | refine blk_drewN ?_ _ | refine blk_drew ?_ | refine blk_alloc ?_ _)); exact BK307.out⟩, ⟨by (try simp only [hl298002_66]); (try simp only [hl298003_66]); (with_reducible repeat (first | refine blk_drewN ?_ _ | refine blk_drew ?_ | refine blk_alloc ?_ _)); exact BK343.out⟩, ⟨Zz.rB_ HB.out⟩⟩
             ·
              replace c135 := Bool.eq_false_iff.mpr c135
              subst c135
              have H1 : (laws_FnExactUnpin.j2 kj66 t322 true t298 t299 t323 t324) = some r := by rw [if_neg (show ¬ (false = true) by decide)] at H; exact H
              clear H
              have H := H1
              clear H1
              have H' := Aside0.mk H
              clear H
              have hnb146 := NB343_269.out
              have hnc146 := NB269_343.out
              have hnb147 := NB343_288.out
              have hnc147 := NB288_343.out
              have hnb148 := NB343_297.out
              have hnc148 := NB297_343.out
              have hnb149 := NB343_307.out
              have hnc149 := NB307_343.out
              have hcz150_0 : w126.cell? ⟨gb343, 0, none⟩ = some (.int .i64 0) := (blk_cell BK343.out 0).trans rfl
              have hcz150_1 : w126.cell? ⟨gb343, 1, none⟩ = some (.int .i64 0) := (blk_cell BK343.out 1).trans rfl
              have hcz150_2 : w126.cell? ⟨gb343, 2, none⟩ = some (.slice none 0 0) := (blk_cell BK343.out 2).trans rfl
              have hcz150_3 : w126.cell? ⟨gb343, 3, none⟩ = some (.slice none 0 0) := (blk_cell BK343.out 3).trans rfl
              have hfz150_0 := blk_frozen BK343.out 0
              have hfz150_1 := blk_frozen BK343.out 1
              have hfz150_2 := blk_frozen BK343.out 2
              have hfz150_3 := blk_frozen BK343.out 3
              have hnb151 := NB288_269.out
              have hnc151 := NB269_288.out
              have hnb152 := NB288_297.out
              have hnc152 := NB297_288.out
              have hnb153 := NB288_307.out
              have hnc153 := NB307_288.out
              have hcz154_0 : w126.cell? ⟨gb288, 0, none⟩ = some (.int .i64 t279) := (blk_cell BK288.out 0).trans rfl
              have hcz154_1 : w126.cell? ⟨gb288, 1, none⟩ = some (.int .i64 t280) := (blk_cell BK288.out 1).trans rfl
              have hcz154_2 : w126.cell? ⟨gb288, 2, none⟩ = some (.slice Ao26 t281.length co26) := (blk_cell BK288.out 2).trans rfl
              have hcz154_3 : w126.cell? ⟨gb288, 3, none⟩ = some (.slice Ao27 t284.length co27) := (blk_cell BK288.out 3).trans rfl
              have hfz154_0 := blk_frozen BK288.out 0
              have hfz154_1 := blk_frozen BK288.out 1
              have hfz154_2 := blk_frozen BK288.out 2
              have hfz154_3 := blk_frozen BK288.out 3
              go_wp2_with (first | ((with_reducible refine gate_callee (f := 22) rfl ?_); refine goesL_ (some 89) rfl rfl Try.func22 (by kernel_rfl) rfl #[.agg #[.int .i64 t334, .int .i64 t335, .slice Ao132 t336.length co132, .slice Ao133 t339.length co133], .agg #[.int .i64 t279, .int .i64 t280, .slice Ao26 t281.length co26, .slice Ao27 t284.length co27]] rfl (by (try simp only [List.map_toArray, List.map_cons, List.map_nil]); first | done | rfl | (simp only [List.length_drop, List.length_take]; rfl)) ?_; (with_reducible refine (laws_eqStore.calls kj66 t334 t335 _ _ t336 _ _ t339 t279 t280 _ _ t281 _ _ t284 false _ ?side1 ?side2 ?side3 ?side4 ?side5 ?side6 ?side7 ?side8 A134.out).mono ?_); (case side1 => refine (Kd.R_reads' (e := 92) (base := w.heap.size) (ok := fun k_ => ((((True ∧ some k_ ≠ (.slice Ao26 t281.length co26 : Value).ownBlock) ∧ some k_ ≠ (.slice Ao34 t319.length co34 : Value).ownBlock) ∧ some k_ ≠ (.slice Ao42 t300.length co42 : Value).ownBlock) ∧ some k_ ≠ (.slice Ao123 t328.length co123 : Value).ownBlock)) (n := t336.length) (c := co132) ?_).2.2; exact (by (with_reducible repeat (first | apply Kd.R_alloc | apply Kd.R_drewN | apply Kd.R_drew)); exact (Kd.R_mono (Zz.rF_ gb343 (Kd.R_types HO338.out BK343.out (by decide)) (fun _ hk => hk.2) _ _ _ _) (fun _ h_ => h_.1)))); (case side2 => exact (Kd.R_reads' HO338.out).2.1); (case side3 => refine (Kd.R_reads' (e := 9) (base := w.heap.size) (ok := fun k_ => ((((True ∧ some k_ ≠ (.slice Ao27 t284.length co27 : Value).ownBlock) ∧ some k_ ≠ (.slice Ao35 t320.length co35 : Value).ownBlock) ∧ some k_ ≠ (.slice Ao43 t303.length co43 : Value).ownBlock) ∧ some k_ ≠ (.slice Ao124 t331.length co124 : Value).ownBlock)) (n := t339.length) (c := co133) ?_).2.2; exact (by (with_reducible repeat (first | apply Kd.R_alloc | apply Kd.R_drewN | apply Kd.R_drew)); exact (Kd.R_mono (Zz.rF_ gb343 (Kd.R_types HO341.out BK343.out (by decide)) (fun _ hk => hk.2) _ _ _ _) (fun _ h_ => h_.1)))); (case side4 => exact (Kd.R_reads' HO341.out).2.1); (case side5 => refine (Kd.R_reads' (e := 92) (base := w.heap.size) (ok := fun k_ => (((some k_ ≠ (.slice Ao34 t319.length co34 : Value).ownBlock ∧ some k_ ≠ (.slice Ao42 t300.length co42 : Value).ownBlock) ∧ some k_ ≠ (.slice Ao123 t328.length co123 : Value).ownBlock) ∧ some k_ ≠ (.slice Ao132 t336.length co132 : Value).ownBlock)) (n := t281.length) (c := co26) ?_).2.2; exact (by (with_reducible repeat (first | apply Kd.R_alloc | apply Kd.R_drewN | apply Kd.R_drew)); exact (Kd.R_mono (Zz.rF_ gb343 (Kd.R_types HO_289002.out BK343.out (by decide)) (fun _ hk => hk.2) _ _ _ _) (fun _ h_ => h_.1)))); (case side6 => exact (Kd.R_reads' HO_289002.out).2.1); (case side7 => refine (Kd.R_reads' (e := 9) (base := w.heap.size) (ok := fun k_ => (((some k_ ≠ (.slice Ao35 t320.length co35 : Value).ownBlock ∧ some k_ ≠ (.slice Ao43 t303.length co43 : Value).ownBlock) ∧ some k_ ≠ (.slice Ao124 t331.length co124 : Value).ownBlock) ∧ some k_ ≠ (.slice Ao133 t339.length co133 : Value).ownBlock)) (n := t284.length) (c := co27) ?_).2.2; exact (by (with_reducible repeat (first | apply Kd.R_alloc | apply Kd.R_drewN | apply Kd.R_drew)); exact (Kd.R_mono (Zz.rF_ gb343 (Kd.R_types HO_289003.out BK343.out (by decide)) (fun _ hk => hk.2) _ _ _ _) (fun _ h_ => h_.1)))); (case side8 => exact (Kd.R_reads' HO_289003.out).2.1); rintro e w155 ⟨rfl, hb⟩; refine ⟨_, rfl, ?_⟩; have n0_ := Aside0.mk (Kd.R_below (by (with_reducible repeat (first | apply Kd.R_alloc | apply Kd.R_drewN | apply Kd.R_drew)); exact (Kd.R_mono (Zz.rF_ gb343 (Kd.R_types HO_289002.out BK343.out (by decide)) (fun _ hk => hk.2) _ _ _ _) (fun _ h_ => h_.1))) hb); have n1_ := Aside0.mk (Kd.R_below (by (with_reducible repeat (first | apply Kd.R_alloc | apply Kd.R_drewN | apply Kd.R_drew)); exact (Kd.R_mono (Zz.rF_ gb343 (Kd.R_types HO_289003.out BK343.out (by decide)) (fun _ hk => hk.2) _ _ _ _) (fun _ h_ => h_.1))) hb); have n2_ := Aside0.mk (Kd.R_below (by (with_reducible repeat (first | apply Kd.R_alloc | apply Kd.R_drewN | apply Kd.R_drew)); exact (Kd.R_mono (Zz.rF_ gb343 (Kd.R_types HO_298002.out BK343.out (by decide)) (fun _ hk => hk.2) _ _ _ _) (fun _ h_ => h_.1))) hb); have n3_ := Aside0.mk (Kd.R_below (by (with_reducible repeat (first | apply Kd.R_alloc | apply Kd.R_drewN | apply Kd.R_drew)); exact (Kd.R_mono (Zz.rF_ gb343 (Kd.R_types HO_298003.out BK343.out (by decide)) (fun _ hk => hk.2) _ _ _ _) (fun _ h_ => h_.1))) hb); have n4_ := Aside0.mk (Kd.R_below (by (with_reducible repeat (first | apply Kd.R_alloc | apply Kd.R_drewN | apply Kd.R_drew)); exact (Kd.R_mono (Zz.rF_ gb343 (Kd.R_types HO_308002.out BK343.out (by decide)) (fun _ hk => hk.2) _ _ _ _) (fun _ h_ => h_.1))) hb); have n5_ := Aside0.mk (Kd.R_below (by (with_reducible repeat (first | apply Kd.R_alloc | apply Kd.R_drewN | apply Kd.R_drew)); exact (Kd.R_mono (Zz.rF_ gb343 (Kd.R_types HO_308003.out BK343.out (by decide)) (fun _ hk => hk.2) _ _ _ _) (fun _ h_ => h_.1))) hb); have n6_ := Aside0.mk (Kd.R_below (by (with_reducible repeat (first | apply Kd.R_alloc | apply Kd.R_drewN | apply Kd.R_drew)); exact (Kd.R_mono (Zz.rF_ gb343 (Kd.R_types HO330.out BK343.out (by decide)) (fun _ hk => hk.2) _ _ _ _) (fun _ h_ => h_.1))) hb); have n7_ := Aside0.mk (Kd.R_below (by (with_reducible repeat (first | apply Kd.R_alloc | apply Kd.R_drewN | apply Kd.R_drew)); exact (Kd.R_mono (Zz.rF_ gb343 (Kd.R_types HO333.out BK343.out (by decide)) (fun _ hk => hk.2) _ _ _ _) (fun _ h_ => h_.1))) hb); have n8_ := Aside0.mk (Kd.R_below (by (with_reducible repeat (first | apply Kd.R_alloc | apply Kd.R_drewN | apply Kd.R_drew)); exact (Kd.R_mono (Zz.rF_ gb343 (Kd.R_types HO338.out BK343.out (by decide)) (fun _ hk => hk.2) _ _ _ _) (fun _ h_ => h_.1))) hb); have n9_ := Aside0.mk (Kd.R_below (by (with_reducible repeat (first | apply Kd.R_alloc | apply Kd.R_drewN | apply Kd.R_drew)); exact (Kd.R_mono (Zz.rF_ gb343 (Kd.R_types HO341.out BK343.out (by decide)) (fun _ hk => hk.2) _ _ _ _) (fun _ h_ => h_.1))) hb); have n10_ := Aside0.mk (blk_below (g := gb269) (o := .cells #[.int .i64 a0_0, .int .i64 a0_1, .slice A0_2 l0_2.length c0_2, .slice A0_3 l0_3.length c0_3] 31 (0, 0)) (Zz.rb4_ NB269_343.out BK269.out) hb); have n11_ := Aside0.mk (blk_below (g := gb288) (o := .cells #[.int .i64 t279, .int .i64 t280, .slice Ao26 t281.length co26, .slice Ao27 t284.length co27] 36 (0, 0)) (Zz.rb4_ NB288_343.out BK288.out) hb); have n12_ := Aside0.mk (blk_below (g := gb297) (o := .cells #[.int .i64 t289, .int .i64 t290, .slice Ao34 t319.length co34, .slice Ao35 t320.length co35] 36 (0, 0)) (Zz.rb4_ NB297_343.out BK297.out) hb); have n13_ := Aside0.mk (blk_below (g := gb307) (o := .cells #[.int .i64 t298, .int .i64 t299, .slice Ao42 t300.length co42, .slice Ao43 t303.length co43] 36 (0, 0)) (Zz.rb4_ NB307_343.out BK307.out) hb); have n14_ := Aside0.mk (blk_below (g := gb343) (o := .cells #[.int .i64 t334, .int .i64 t335, .slice Ao132 t336.length co132, .slice Ao133 t339.length co133] 36 (0, 0)) (by (with_reducible repeat (first | refine blk_drewN ?_ _ | refine blk_drew ?_ | refine blk_alloc ?_ _)); refine blk_put (cs := #[.int .i64 t334, .int .i64 t335, .slice Ao132 t336.length co132, .slice none 0 0]) ?_ 3 _ rfl; (with_reducible repeat (first | refine blk_drewN ?_ _ | refine blk_drew ?_ | refine blk_alloc ?_ _)); refine blk_put (cs := #[.int .i64 t334, .int .i64 t335, .slice none 0 0, .slice none 0 0]) ?_ 2 _ rfl; (with_reducible repeat (first | refine blk_drewN ?_ _ | refine blk_drew ?_ | refine blk_alloc ?_ _)); refine blk_put (cs := #[.int .i64 t334, .int .i64 0, .slice none 0 0, .slice none 0 0]) ?_ 1 _ rfl; (with_reducible repeat (first | refine blk_drewN ?_ _ | refine blk_drew ?_ | refine blk_alloc ?_ _)); refine blk_put (cs := #[.int .i64 0, .int .i64 0, .slice none 0 0, .slice none 0 0]) ?_ 0 _ rfl; (with_reducible repeat (first | refine blk_drewN ?_ _ | refine blk_drew ?_ | refine blk_alloc ?_ _)); exact BK343.out) hb); have n15_ := Aside0.mk (below_step (Zz.rB_ HB.out) hb); clear HO_289002; clear HO_289003; clear HO_298002; clear HO_298003; clear HO_308002; clear HO_308003; clear HO330; clear HO333; clear HO338; clear HO341; clear BK269; clear BK288; clear BK297; clear BK307; clear BK343; clear HB; have HO_289002 := n0_; have HO_289003 := n1_; have HO_298002 := n2_; have HO_298003 := n3_; have HO_308002 := n4_; have HO_308003 := n5_; have HO330 := n6_; have HO333 := n7_; have HO338 := n8_; have HO341 := n9_; have BK269 := n10_; have BK288 := n11_; have BK297 := n12_; have BK307 := n13_; have BK343 := n14_; have HB := n15_; clear n0_ n1_ n2_ n3_ n4_ n5_ n6_ n7_ n8_ n9_ n10_ n11_ n12_ n13_ n14_ n15_; (try clear hb); (try clear hb2); (try clear hk); (try clear hi)))
              go_meet
              case rel => exact ⟨_, (true), (by first | rfl | (simp; done) | (simp [*]; done)), H', ⟨by have := HJ13.out; have := HJ66.out; first | omega | exact Nat.le_refl _⟩, ⟨by (try simp only [hl298002_66]); (try simp only [hl298003_66]); (with_reducible repeat (first | apply Kd.R_alloc | apply Kd.R_drewN | apply Kd.R_drew)); exact Kd.R_mono HO_289002.out (fun _ hk => ⟨hk.1.1.1, ⟨hk.1.1.2, hk.2⟩⟩)⟩, ⟨by (try simp only [hl298002_66]); (try simp only [hl298003_66]); (with_reducible repeat (first | apply Kd.R_alloc | apply Kd.R_drewN | apply Kd.R_drew)); exact Kd.R_mono HO_289003.out (fun _ hk => ⟨hk.1.1.1, ⟨hk.1.1.2, hk.2⟩⟩)⟩, ⟨by (try simp only [hl298002_66]); (try simp only [hl298003_66]); (with_reducible repeat (first | apply Kd.R_alloc | apply Kd.R_drewN | apply Kd.R_drew)); exact Kd.R_mono HO_298002.out (fun _ hk => ⟨hk.1.1.1, ⟨hk.1.1.2, hk.2⟩⟩)⟩, ⟨by (try simp only [hl298002_66]); (try simp only [hl298003_66]); (with_reducible repeat (first | apply Kd.R_alloc | apply Kd.R_drewN | apply Kd.R_drew)); exact Kd.R_mono HO_298003.out (fun _ hk => ⟨hk.1.1.1, ⟨hk.1.1.2, hk.2⟩⟩)⟩, ⟨by (try simp only [hl298002_66]); (try simp only [hl298003_66]); (with_reducible repeat (first | apply Kd.R_alloc | apply Kd.R_drewN | apply Kd.R_drew)); exact Kd.R_mono HO_308002.out (fun _ hk => ⟨hk.1.1.1, ⟨hk.1.1.2, hk.2⟩⟩)⟩, ⟨by (try simp only [hl298002_66]); (try simp only [hl298003_66]); (with_reducible repeat (first | apply Kd.R_alloc | apply Kd.R_drewN | apply Kd.R_drew)); exact Kd.R_mono HO_308003.out (fun _ hk => ⟨hk.1.1.1, ⟨hk.1.1.2, hk.2⟩⟩)⟩, ⟨by (try simp only [hl298002_66]); (try simp only [hl298003_66]); (with_reducible repeat (first | apply Kd.R_alloc | apply Kd.R_drewN | apply Kd.R_drew)); exact Kd.R_mono HO338.out (fun _ hk => ⟨hk.1.1.1.2, ⟨hk.1.1.2, hk.1.2⟩⟩)⟩, ⟨by (try simp only [hl298002_66]); (try simp only [hl298003_66]); (with_reducible repeat (first | apply Kd.R_alloc | apply Kd.R_drewN | apply Kd.R_drew)); exact Kd.R_mono HO341.out (fun _ hk => ⟨hk.1.1.1.2, ⟨hk.1.1.2, hk.1.2⟩⟩)⟩, ⟨by (try simp only [hl298002_66]); (try simp only [hl298003_66]); (with_reducible repeat (first | refine blk_drewN ?_ _ | refine blk_drew ?_ | refine blk_alloc ?_ _)); exact BK269.out⟩, ⟨by (try simp only [hl298002_66]); (try simp only [hl298003_66]); (with_reducible repeat (first | refine blk_drewN ?_ _ | refine blk_drew ?_ | refine blk_alloc ?_ _)); exact BK288.out⟩, ⟨by (try simp only [hl298002_66]); (try simp only [hl298003_66]); (with_reducible repeat (first | refine blk_drewN ?_ _ | refine blk_drew ?_ | refine blk_alloc ?_ _)); exact BK297.out⟩, ⟨by (try simp only [hl298002_66]); (try simp only [hl298003_66]); (with_reducible repeat (first | refine blk_drewN ?_ _ | refine blk_drew ?_ | refine blk_alloc ?_ _)); exact BK307.out⟩, ⟨by (try simp only [hl298002_66]); (try simp only [hl298003_66]); (with_reducible repeat (first | refine blk_drewN ?_ _ | refine blk_drew ?_ | refine blk_alloc ?_ _)); exact BK343.out⟩, ⟨Zz.rB_ HB.out⟩⟩
            case rest =>
             clear HC111
             try clear c1
             try clear c2
             try clear p2
             try clear c3
             try clear c3b0
             try clear c3b1
             try clear c4
             try clear c5
             try clear c6
             try clear c6b0
             try clear c7
             try clear c8
             try clear c9
             try clear c10
             try clear c11
             try clear c12
             try clear c13
             try clear c14
             try clear c15
             try clear c18
             try clear c20
             try clear c22
             try clear c24
             try clear c31
             try clear c32
             try clear c38
             try clear c39
             try clear c40
             try clear c41
             try clear c45
             try clear c46
             try clear c47
             try clear c48
             try clear c50
             try clear c51
             try clear c54
             try clear c55
             try clear c56
             try clear c58
             try clear c59
             try clear c62
             try clear c65
             try clear c73
             try clear c74
             try clear c75
             try clear c78
             try clear c78b0
             try clear c80
             try clear c81
             try clear c82
             try clear c83
             try clear c85
             try clear c86
             try clear c89
             try clear c90
             try clear c91
             try clear c93
             try clear c94
             try clear c97
             try clear c100
             try clear c100b0
             try clear c101
             try clear c102
             try clear c103
             try clear c108
             try clear c108b0
             try clear c108b1
             try clear c112
             try clear c113
             try clear c114
             try clear c119
             try clear c120
             try clear c127
             try clear c128
             try clear c129
             try clear c130
             try clear c135
             try clear c136
             try clear c137
             try clear c138
             try clear c139
             try clear c141
             try clear c142
             try clear c143
             try clear c146
             try clear c147
             try clear c148
             try clear c149
             try clear c151
             try clear c152
             try clear c153
             try clear hcz104_0
             try clear hcz104_1
             try clear hcz104_2
             try clear hcz104_3
             try clear hcz106_0
             try clear hcz106_1
             try clear hcz106_2
             try clear hcz106_3
             try clear hcz115_0
             try clear hcz115_1
             try clear hcz115_2
             try clear hcz115_3
             try clear hcz117_0
             try clear hcz117_1
             try clear hcz117_2
             try clear hcz117_3
             try clear hcz121_0
             try clear hcz121_1
             try clear hcz121_2
             try clear hcz121_3
             try clear hcz131_0
             try clear hcz131_1
             try clear hcz131_2
             try clear hcz131_3
             try clear hcz140_0
             try clear hcz140_1
             try clear hcz140_2
             try clear hcz140_3
             try clear hcz144_0
             try clear hcz144_1
             try clear hcz144_2
             try clear hcz144_3
             try clear hcz150_0
             try clear hcz150_1
             try clear hcz150_2
             try clear hcz150_3
             try clear hcz154_0
             try clear hcz154_1
             try clear hcz154_2
             try clear hcz154_3
             try clear hcz16_0
             try clear hcz16_1
             try clear hcz16_2
             try clear hcz16_3
             try clear hcz18_0
             try clear hcz18_1
             try clear hcz18_2
             try clear hcz18_3
             try clear hcz25_0
             try clear hcz25_1
             try clear hcz25_2
             try clear hcz25_3
             try clear hcz28_0
             try clear hcz28_1
             try clear hcz28_2
             try clear hcz28_3
             try clear hcz33_0
             try clear hcz33_1
             try clear hcz33_2
             try clear hcz33_3
             try clear hcz41_0
             try clear hcz41_1
             try clear hcz41_2
             try clear hcz41_3
             try clear hcz49_0
             try clear hcz49_1
             try clear hcz49_2
             try clear hcz49_3
             try clear hcz52_0
             try clear hcz52_1
             try clear hcz52_2
             try clear hcz52_3
             try clear hcz57_0
             try clear hcz57_1
             try clear hcz57_2
             try clear hcz57_3
             try clear hcz60_0
             try clear hcz60_1
             try clear hcz60_2
             try clear hcz60_3
             try clear hcz76_0
             try clear hcz76_1
             try clear hcz76_2
             try clear hcz76_3
             try clear hcz84_0
             try clear hcz84_1
             try clear hcz84_2
             try clear hcz84_3
             try clear hcz87_0
             try clear hcz87_1
             try clear hcz87_2
             try clear hcz87_3
             try clear hcz8_0
             try clear hcz8_1
             try clear hcz8_2
             try clear hcz8_3
             try clear hcz92_0
             try clear hcz92_1
             try clear hcz92_2
             try clear hcz92_3
             try clear hcz95_0
             try clear hcz95_1
             try clear hcz95_2
             try clear hcz95_3
             try clear hfz104_0
             try clear hfz104_1
             try clear hfz104_2
             try clear hfz104_3
             try clear hfz106_0
             try clear hfz106_1
             try clear hfz106_2
             try clear hfz106_3
             try clear hfz115_0
             try clear hfz115_1
             try clear hfz115_2
             try clear hfz115_3
             try clear hfz117_0
             try clear hfz117_1
             try clear hfz117_2
             try clear hfz117_3
             try clear hfz121_0
             try clear hfz121_1
             try clear hfz121_2
             try clear hfz121_3
             try clear hfz131_0
             try clear hfz131_1
             try clear hfz131_2
             try clear hfz131_3
             try clear hfz140_0
             try clear hfz140_1
             try clear hfz140_2
             try clear hfz140_3
             try clear hfz144_0
             try clear hfz144_1
             try clear hfz144_2
             try clear hfz144_3
             try clear hfz150_0
             try clear hfz150_1
             try clear hfz150_2
             try clear hfz150_3
             try clear hfz154_0
             try clear hfz154_1
             try clear hfz154_2
             try clear hfz154_3
             try clear hfz16_0
             try clear hfz16_1
             try clear hfz16_2
             try clear hfz16_3
             try clear hfz18_0
             try clear hfz18_1
             try clear hfz18_2
             try clear hfz18_3
             try clear hfz25_0
             try clear hfz25_1
             try clear hfz25_2
             try clear hfz25_3
             try clear hfz28_0
             try clear hfz28_1
             try clear hfz28_2
             try clear hfz28_3
             try clear hfz33_0
             try clear hfz33_1
             try clear hfz33_2
             try clear hfz33_3
             try clear hfz41_0
             try clear hfz41_1
             try clear hfz41_2
             try clear hfz41_3
             try clear hfz49_0
             try clear hfz49_1
             try clear hfz49_2
             try clear hfz49_3
             try clear hfz52_0
             try clear hfz52_1
             try clear hfz52_2
             try clear hfz52_3
             try clear hfz57_0
             try clear hfz57_1
             try clear hfz57_2
             try clear hfz57_3
             try clear hfz60_0
             try clear hfz60_1
             try clear hfz60_2
             try clear hfz60_3
             try clear hfz76_0
             try clear hfz76_1
             try clear hfz76_2
             try clear hfz76_3
             try clear hfz84_0
             try clear hfz84_1
             try clear hfz84_2
             try clear hfz84_3
             try clear hfz87_0
             try clear hfz87_1
             try clear hfz87_2
             try clear hfz87_3
             try clear hfz8_0
             try clear hfz8_1
             try clear hfz8_2
             try clear hfz8_3
             try clear hfz92_0
             try clear hfz92_1
             try clear hfz92_2
             try clear hfz92_3
             try clear hfz95_0
             try clear hfz95_1
             try clear hfz95_2
             try clear hfz95_3
             try clear p2
             obtain ⟨kq, x95_110, rfl, HA, HJ110, HO_289002, HO_289003, HO_298002, HO_298003, HO_308002, HO_308003, HO_344002, HO_344003, BK269, BK288, BK297, BK307, BK343, HB⟩ := hcut
             have hl308002_110 := (Kd.R_reads' HO_308002.out).1
             rw [hl308002_110] at HO_308002
             (try simp only [hl308002_110])
             (try simp only [hl308002_110] at BK269)
             (try simp only [hl308002_110] at BK288)
             (try simp only [hl308002_110] at BK297)
             (try simp only [hl308002_110] at BK307)
             (try simp only [hl308002_110] at BK343)
             (try simp only [hl308002_110] at HO_289002)
             (try simp only [hl308002_110] at HO_289003)
             (try simp only [hl308002_110] at HO_298002)
             (try simp only [hl308002_110] at HO_298003)
             (try simp only [hl308002_110] at HO_308003)
             (try simp only [hl308002_110] at HO_344002)
             (try simp only [hl308002_110] at HO_344003)
             have hl308003_110 := (Kd.R_reads' HO_308003.out).1
             rw [hl308003_110] at HO_308003
             (try simp only [hl308003_110])
             (try simp only [hl308003_110] at BK269)
             (try simp only [hl308003_110] at BK288)
             (try simp only [hl308003_110] at BK297)
             (try simp only [hl308003_110] at BK307)
             (try simp only [hl308003_110] at BK343)
             (try simp only [hl308003_110] at HO_289002)
             (try simp only [hl308003_110] at HO_289003)
             (try simp only [hl308003_110] at HO_298002)
             (try simp only [hl308003_110] at HO_298003)
             (try simp only [hl308003_110] at HO_308002)
             (try simp only [hl308003_110] at HO_344002)
             (try simp only [hl308003_110] at HO_344003)
             cases kq with
             | zero => exact absurd HA.out (by simp [laws_FnExactUnpin.j2])
             | succ kj110 =>
              have H := HA.out
              clear HA
              simp only [laws_FnExactUnpin.j2] at H
              by_cases c156 : x95_110 = true
              ·
               subst c156
               have H1 : (some false) = some r := by rw [if_pos rfl] at H; exact H
               clear H
               have H := H1
               clear H1
               obtain rfl := Option.some.inj H
               go_wp2
               go_ret
               exact ⟨by first | rfl | (simp [errW_none, errW_some] <;> rfl) | (simp [*, errW_none, errW_some] <;> rfl), by repeat (first | (with_reducible first | exact HB.out | apply below_alloc | apply pw_below_drewN | apply below_drew1 | refine below_set ?_ GE269.out | refine below_set ?_ GE288.out | refine below_set ?_ GE297.out | refine below_set ?_ GE307.out | refine below_set ?_ GE343.out) | exact HB.out)⟩
              ·
               replace c156 := Bool.eq_false_iff.mpr c156
               subst c156
               have H1 : ((laws_heldStore.f kj110 t298 t299 t323 t324 1).bind fun t345 => (if t345 < 0 then (some false) else (if t345 = t322 then (some true) else (some false)))) = some r := by rw [if_neg (show ¬ (false = true) by decide)] at H; exact H
               clear H
               have H := H1
               clear H1
               replace H := Option.bind_eq_some_iff.mp H
               obtain ⟨t345, A1570, H⟩ := H
               replace H : (if t345 < 0 then (some false) else (if t345 = t322 then (some true) else (some false))) = some r := H
               have A157 := Aside0.mk A1570
               clear A1570
               by_cases c158 : t345 < 0
               ·
                rw [if_pos c158] at H
                have c158b0 : decide (t345 < 0) = true := decide_eq_true c158
                clear c158
                obtain rfl := Option.some.inj H
                have hnb159 := NB307_269.out
                have hnc159 := NB269_307.out
                have hnb160 := NB307_288.out
                have hnc160 := NB288_307.out
                have hnb161 := NB307_297.out
                have hnc161 := NB297_307.out
                have hnb162 := NB307_343.out
                have hnc162 := NB343_307.out
                have hcz163_0 : wc.cell? ⟨gb307, 0, none⟩ = some (.int .i64 t298) := (blk_cell BK307.out 0).trans rfl
                have hcz163_1 : wc.cell? ⟨gb307, 1, none⟩ = some (.int .i64 t299) := (blk_cell BK307.out 1).trans rfl
                have hcz163_2 : wc.cell? ⟨gb307, 2, none⟩ = some (.slice Ao42 t323.length co42) := (blk_cell BK307.out 2).trans rfl
                have hcz163_3 : wc.cell? ⟨gb307, 3, none⟩ = some (.slice Ao43 t324.length co43) := (blk_cell BK307.out 3).trans rfl
                have hfz163_0 := blk_frozen BK307.out 0
                have hfz163_1 := blk_frozen BK307.out 1
                have hfz163_2 := blk_frozen BK307.out 2
                have hfz163_3 := blk_frozen BK307.out 3
                go_wp2_with (first | ((with_reducible refine gate_callee (f := 39) rfl ?_); refine goesL_ (some 98) rfl rfl Try.func39 (by kernel_rfl) rfl #[.agg #[.int .i64 t298, .int .i64 t299, .slice Ao42 t323.length co42, .slice Ao43 t324.length co43], .int .i64 1] rfl (by (try simp only [List.map_toArray, List.map_cons, List.map_nil]); first | done | rfl | (simp only [List.length_drop, List.length_take]; rfl)) ?_; (with_reducible refine (laws_heldStore.calls kj110 t298 t299 _ _ t323 _ _ t324 1 t345 _ ?side1 ?side2 ?side3 ?side4 A157.out).mono ?_); (case side1 => repeat (first | exact (Kd.R_reads' HO_308002.out).2.2 | (with_reducible refine Kd.C_alloc ?_ _) | (with_reducible refine Kd.C_drewN ?_ _) | (with_reducible refine Kd.C_drew ?_))); (case side2 => exact (Kd.R_reads' HO_308002.out).2.1); (case side3 => repeat (first | exact (Kd.R_reads' HO_308003.out).2.2 | (with_reducible refine Kd.C_alloc ?_ _) | (with_reducible refine Kd.C_drewN ?_ _) | (with_reducible refine Kd.C_drew ?_))); (case side4 => exact (Kd.R_reads' HO_308003.out).2.1); rintro e w164 ⟨rfl, hb⟩; refine ⟨_, rfl, ?_⟩; have n0_ := Aside0.mk (Kd.R_below (Zz.rR_ HO_289002.out) hb); have n1_ := Aside0.mk (Kd.R_below (Zz.rR_ HO_289003.out) hb); have n2_ := Aside0.mk (Kd.R_below (Zz.rR_ HO_298002.out) hb); have n3_ := Aside0.mk (Kd.R_below (Zz.rR_ HO_298003.out) hb); have n4_ := Aside0.mk (Kd.R_below (Zz.rR_ HO_308002.out) hb); have n5_ := Aside0.mk (Kd.R_below (Zz.rR_ HO_308003.out) hb); have n6_ := Aside0.mk (Kd.R_below (Zz.rR_ HO_344002.out) hb); have n7_ := Aside0.mk (Kd.R_below (Zz.rR_ HO_344003.out) hb); have n8_ := Aside0.mk (blk_below (g := gb269) (o := .cells #[.int .i64 a0_0, .int .i64 a0_1, .slice A0_2 l0_2.length c0_2, .slice A0_3 l0_3.length c0_3] 31 (0, 0)) (Zz.rb_ BK269.out) hb); have n9_ := Aside0.mk (blk_below (g := gb288) (o := .cells #[.int .i64 t279, .int .i64 t280, .slice Ao26 t281.length co26, .slice Ao27 t284.length co27] 36 (0, 0)) (Zz.rb_ BK288.out) hb); have n10_ := Aside0.mk (blk_below (g := gb297) (o := .cells #[.int .i64 t289, .int .i64 t290, .slice Ao34 t319.length co34, .slice Ao35 t320.length co35] 36 (0, 0)) (Zz.rb_ BK297.out) hb); have n11_ := Aside0.mk (blk_below (g := gb307) (o := .cells #[.int .i64 t298, .int .i64 t299, .slice Ao42 t323.length co42, .slice Ao43 t324.length co43] 36 (0, 0)) (Zz.rb_ BK307.out) hb); have n12_ := Aside0.mk (blk_below (g := gb343) (o := .cells #[.int .i64 t334, .int .i64 t335, .slice Ao132 t336.length co132, .slice Ao133 t339.length co133] 36 (0, 0)) (Zz.rb_ BK343.out) hb); have n13_ := Aside0.mk (below_step (Zz.rB_ HB.out) hb); clear HO_289002; clear HO_289003; clear HO_298002; clear HO_298003; clear HO_308002; clear HO_308003; clear HO_344002; clear HO_344003; clear BK269; clear BK288; clear BK297; clear BK307; clear BK343; clear HB; have HO_289002 := n0_; have HO_289003 := n1_; have HO_298002 := n2_; have HO_298003 := n3_; have HO_308002 := n4_; have HO_308003 := n5_; have HO_344002 := n6_; have HO_344003 := n7_; have BK269 := n8_; have BK288 := n9_; have BK297 := n10_; have BK307 := n11_; have BK343 := n12_; have HB := n13_; clear n0_ n1_ n2_ n3_ n4_ n5_ n6_ n7_ n8_ n9_ n10_ n11_ n12_ n13_; (try clear hb); (try clear hb2); (try clear hk); (try clear hi)))
                go_ret
                exact ⟨by first | rfl | (simp [errW_none, errW_some] <;> rfl) | (simp [*, errW_none, errW_some] <;> rfl), by repeat (first | (with_reducible first | exact HB.out | apply below_alloc | apply pw_below_drewN | apply below_drew1 | refine below_set ?_ GE269.out | refine below_set ?_ GE288.out | refine below_set ?_ GE297.out | refine below_set ?_ GE307.out | refine below_set ?_ GE343.out) | exact HB.out)⟩
               ·
                rw [if_neg c158] at H
                have c158b0 : decide (t345 < 0) = false := decide_eq_false c158
                clear c158
                by_cases c165 : t345 = t322
                ·
                 rw [if_pos c165] at H
                 have c165b0 : (t345 == t322) = true := beq_iff_eq.mpr c165
                 have c165b1 : (t345 != t322) = false := bne_eq_false_iff_eq.mpr c165
                 clear c165
                 obtain rfl := Option.some.inj H
                 have hnb166 := NB307_269.out
                 have hnc166 := NB269_307.out
                 have hnb167 := NB307_288.out
                 have hnc167 := NB288_307.out
                 have hnb168 := NB307_297.out
                 have hnc168 := NB297_307.out
                 have hnb169 := NB307_343.out
                 have hnc169 := NB343_307.out
                 have hcz170_0 : wc.cell? ⟨gb307, 0, none⟩ = some (.int .i64 t298) := (blk_cell BK307.out 0).trans rfl
                 have hcz170_1 : wc.cell? ⟨gb307, 1, none⟩ = some (.int .i64 t299) := (blk_cell BK307.out 1).trans rfl
                 have hcz170_2 : wc.cell? ⟨gb307, 2, none⟩ = some (.slice Ao42 t323.length co42) := (blk_cell BK307.out 2).trans rfl
                 have hcz170_3 : wc.cell? ⟨gb307, 3, none⟩ = some (.slice Ao43 t324.length co43) := (blk_cell BK307.out 3).trans rfl
                 have hfz170_0 := blk_frozen BK307.out 0
                 have hfz170_1 := blk_frozen BK307.out 1
                 have hfz170_2 := blk_frozen BK307.out 2
                 have hfz170_3 := blk_frozen BK307.out 3
                 go_wp2_with (first | ((with_reducible refine gate_callee (f := 39) rfl ?_); refine goesL_ (some 98) rfl rfl Try.func39 (by kernel_rfl) rfl #[.agg #[.int .i64 t298, .int .i64 t299, .slice Ao42 t323.length co42, .slice Ao43 t324.length co43], .int .i64 1] rfl (by (try simp only [List.map_toArray, List.map_cons, List.map_nil]); first | done | rfl | (simp only [List.length_drop, List.length_take]; rfl)) ?_; (with_reducible refine (laws_heldStore.calls kj110 t298 t299 _ _ t323 _ _ t324 1 t345 _ ?side1 ?side2 ?side3 ?side4 A157.out).mono ?_); (case side1 => repeat (first | exact (Kd.R_reads' HO_308002.out).2.2 | (with_reducible refine Kd.C_alloc ?_ _) | (with_reducible refine Kd.C_drewN ?_ _) | (with_reducible refine Kd.C_drew ?_))); (case side2 => exact (Kd.R_reads' HO_308002.out).2.1); (case side3 => repeat (first | exact (Kd.R_reads' HO_308003.out).2.2 | (with_reducible refine Kd.C_alloc ?_ _) | (with_reducible refine Kd.C_drewN ?_ _) | (with_reducible refine Kd.C_drew ?_))); (case side4 => exact (Kd.R_reads' HO_308003.out).2.1); rintro e w171 ⟨rfl, hb⟩; refine ⟨_, rfl, ?_⟩; have n0_ := Aside0.mk (Kd.R_below (Zz.rR_ HO_289002.out) hb); have n1_ := Aside0.mk (Kd.R_below (Zz.rR_ HO_289003.out) hb); have n2_ := Aside0.mk (Kd.R_below (Zz.rR_ HO_298002.out) hb); have n3_ := Aside0.mk (Kd.R_below (Zz.rR_ HO_298003.out) hb); have n4_ := Aside0.mk (Kd.R_below (Zz.rR_ HO_308002.out) hb); have n5_ := Aside0.mk (Kd.R_below (Zz.rR_ HO_308003.out) hb); have n6_ := Aside0.mk (Kd.R_below (Zz.rR_ HO_344002.out) hb); have n7_ := Aside0.mk (Kd.R_below (Zz.rR_ HO_344003.out) hb); have n8_ := Aside0.mk (blk_below (g := gb269) (o := .cells #[.int .i64 a0_0, .int .i64 a0_1, .slice A0_2 l0_2.length c0_2, .slice A0_3 l0_3.length c0_3] 31 (0, 0)) (Zz.rb_ BK269.out) hb); have n9_ := Aside0.mk (blk_below (g := gb288) (o := .cells #[.int .i64 t279, .int .i64 t280, .slice Ao26 t281.length co26, .slice Ao27 t284.length co27] 36 (0, 0)) (Zz.rb_ BK288.out) hb); have n10_ := Aside0.mk (blk_below (g := gb297) (o := .cells #[.int .i64 t289, .int .i64 t290, .slice Ao34 t319.length co34, .slice Ao35 t320.length co35] 36 (0, 0)) (Zz.rb_ BK297.out) hb); have n11_ := Aside0.mk (blk_below (g := gb307) (o := .cells #[.int .i64 t298, .int .i64 t299, .slice Ao42 t323.length co42, .slice Ao43 t324.length co43] 36 (0, 0)) (Zz.rb_ BK307.out) hb); have n12_ := Aside0.mk (blk_below (g := gb343) (o := .cells #[.int .i64 t334, .int .i64 t335, .slice Ao132 t336.length co132, .slice Ao133 t339.length co133] 36 (0, 0)) (Zz.rb_ BK343.out) hb); have n13_ := Aside0.mk (below_step (Zz.rB_ HB.out) hb); clear HO_289002; clear HO_289003; clear HO_298002; clear HO_298003; clear HO_308002; clear HO_308003; clear HO_344002; clear HO_344003; clear BK269; clear BK288; clear BK297; clear BK307; clear BK343; clear HB; have HO_289002 := n0_; have HO_289003 := n1_; have HO_298002 := n2_; have HO_298003 := n3_; have HO_308002 := n4_; have HO_308003 := n5_; have HO_344002 := n6_; have HO_344003 := n7_; have BK269 := n8_; have BK288 := n9_; have BK297 := n10_; have BK307 := n11_; have BK343 := n12_; have HB := n13_; clear n0_ n1_ n2_ n3_ n4_ n5_ n6_ n7_ n8_ n9_ n10_ n11_ n12_ n13_; (try clear hb); (try clear hb2); (try clear hk); (try clear hi)))
                 go_ret
                 exact ⟨by first | rfl | (simp [errW_none, errW_some] <;> rfl) | (simp [*, errW_none, errW_some] <;> rfl), by repeat (first | (with_reducible first | exact HB.out | apply below_alloc | apply pw_below_drewN | apply below_drew1 | refine below_set ?_ GE269.out | refine below_set ?_ GE288.out | refine below_set ?_ GE297.out | refine below_set ?_ GE307.out | refine below_set ?_ GE343.out) | exact HB.out)⟩
                ·
                 rw [if_neg c165] at H
                 have c165b0 : (t345 == t322) = false := beq_eq_false_iff_ne.mpr c165
                 have c165b1 : (t345 != t322) = true := bne_iff_ne.mpr c165
                 obtain rfl := Option.some.inj H
                 have hnb172 := NB307_269.out
                 have hnc172 := NB269_307.out
                 have hnb173 := NB307_288.out
                 have hnc173 := NB288_307.out
                 have hnb174 := NB307_297.out
                 have hnc174 := NB297_307.out
                 have hnb175 := NB307_343.out
                 have hnc175 := NB343_307.out
                 have hcz176_0 : wc.cell? ⟨gb307, 0, none⟩ = some (.int .i64 t298) := (blk_cell BK307.out 0).trans rfl
                 have hcz176_1 : wc.cell? ⟨gb307, 1, none⟩ = some (.int .i64 t299) := (blk_cell BK307.out 1).trans rfl
                 have hcz176_2 : wc.cell? ⟨gb307, 2, none⟩ = some (.slice Ao42 t323.length co42) := (blk_cell BK307.out 2).trans rfl
                 have hcz176_3 : wc.cell? ⟨gb307, 3, none⟩ = some (.slice Ao43 t324.length co43) := (blk_cell BK307.out 3).trans rfl
                 have hfz176_0 := blk_frozen BK307.out 0
                 have hfz176_1 := blk_frozen BK307.out 1
                 have hfz176_2 := blk_frozen BK307.out 2
                 have hfz176_3 := blk_frozen BK307.out 3
                 go_wp2_with (first | ((with_reducible refine gate_callee (f := 39) rfl ?_); refine goesL_ (some 98) rfl rfl Try.func39 (by kernel_rfl) rfl #[.agg #[.int .i64 t298, .int .i64 t299, .slice Ao42 t323.length co42, .slice Ao43 t324.length co43], .int .i64 1] rfl (by (try simp only [List.map_toArray, List.map_cons, List.map_nil]); first | done | rfl | (simp only [List.length_drop, List.length_take]; rfl)) ?_; (with_reducible refine (laws_heldStore.calls kj110 t298 t299 _ _ t323 _ _ t324 1 t345 _ ?side1 ?side2 ?side3 ?side4 A157.out).mono ?_); (case side1 => repeat (first | exact (Kd.R_reads' HO_308002.out).2.2 | (with_reducible refine Kd.C_alloc ?_ _) | (with_reducible refine Kd.C_drewN ?_ _) | (with_reducible refine Kd.C_drew ?_))); (case side2 => exact (Kd.R_reads' HO_308002.out).2.1); (case side3 => repeat (first | exact (Kd.R_reads' HO_308003.out).2.2 | (with_reducible refine Kd.C_alloc ?_ _) | (with_reducible refine Kd.C_drewN ?_ _) | (with_reducible refine Kd.C_drew ?_))); (case side4 => exact (Kd.R_reads' HO_308003.out).2.1); rintro e w177 ⟨rfl, hb⟩; refine ⟨_, rfl, ?_⟩; have n0_ := Aside0.mk (Kd.R_below (Zz.rR_ HO_289002.out) hb); have n1_ := Aside0.mk (Kd.R_below (Zz.rR_ HO_289003.out) hb); have n2_ := Aside0.mk (Kd.R_below (Zz.rR_ HO_298002.out) hb); have n3_ := Aside0.mk (Kd.R_below (Zz.rR_ HO_298003.out) hb); have n4_ := Aside0.mk (Kd.R_below (Zz.rR_ HO_308002.out) hb); have n5_ := Aside0.mk (Kd.R_below (Zz.rR_ HO_308003.out) hb); have n6_ := Aside0.mk (Kd.R_below (Zz.rR_ HO_344002.out) hb); have n7_ := Aside0.mk (Kd.R_below (Zz.rR_ HO_344003.out) hb); have n8_ := Aside0.mk (blk_below (g := gb269) (o := .cells #[.int .i64 a0_0, .int .i64 a0_1, .slice A0_2 l0_2.length c0_2, .slice A0_3 l0_3.length c0_3] 31 (0, 0)) (Zz.rb_ BK269.out) hb); have n9_ := Aside0.mk (blk_below (g := gb288) (o := .cells #[.int .i64 t279, .int .i64 t280, .slice Ao26 t281.length co26, .slice Ao27 t284.length co27] 36 (0, 0)) (Zz.rb_ BK288.out) hb); have n10_ := Aside0.mk (blk_below (g := gb297) (o := .cells #[.int .i64 t289, .int .i64 t290, .slice Ao34 t319.length co34, .slice Ao35 t320.length co35] 36 (0, 0)) (Zz.rb_ BK297.out) hb); have n11_ := Aside0.mk (blk_below (g := gb307) (o := .cells #[.int .i64 t298, .int .i64 t299, .slice Ao42 t323.length co42, .slice Ao43 t324.length co43] 36 (0, 0)) (Zz.rb_ BK307.out) hb); have n12_ := Aside0.mk (blk_below (g := gb343) (o := .cells #[.int .i64 t334, .int .i64 t335, .slice Ao132 t336.length co132, .slice Ao133 t339.length co133] 36 (0, 0)) (Zz.rb_ BK343.out) hb); have n13_ := Aside0.mk (below_step (Zz.rB_ HB.out) hb); clear HO_289002; clear HO_289003; clear HO_298002; clear HO_298003; clear HO_308002; clear HO_308003; clear HO_344002; clear HO_344003; clear BK269; clear BK288; clear BK297; clear BK307; clear BK343; clear HB; have HO_289002 := n0_; have HO_289003 := n1_; have HO_298002 := n2_; have HO_298003 := n3_; have HO_308002 := n4_; have HO_308003 := n5_; have HO_344002 := n6_; have HO_344003 := n7_; have BK269 := n8_; have BK288 := n9_; have BK297 := n10_; have BK307 := n11_; have BK343 := n12_; have HB := n13_; clear n0_ n1_ n2_ n3_ n4_ n5_ n6_ n7_ n8_ n9_ n10_ n11_ n12_ n13_; (try clear hb); (try clear hb2); (try clear hk); (try clear hi)))
                 go_ret
                 exact ⟨by first | rfl | (simp [errW_none, errW_some] <;> rfl) | (simp [*, errW_none, errW_some] <;> rfl), by repeat (first | (with_reducible first | exact HB.out | apply below_alloc | apply pw_below_drewN | apply below_drew1 | refine below_set ?_ GE269.out | refine below_set ?_ GE288.out | refine below_set ?_ GE297.out | refine below_set ?_ GE307.out | refine below_set ?_ GE343.out) | exact HB.out)⟩
           ·
            rw [if_neg c108] at H
            have c108b0 : (t325 == t322) = false := beq_eq_false_iff_ne.mpr c108
            have c108b1 : (t325 != t322) = true := bne_iff_ne.mpr c108
            obtain rfl := Option.some.inj H
            have hnb178 := NB307_269.out
            have hnc178 := NB269_307.out
            have hnb179 := NB307_288.out
            have hnc179 := NB288_307.out
            have hnb180 := NB307_297.out
            have hnc180 := NB297_307.out
            have hcz181_0 : wc.cell? ⟨gb307, 0, none⟩ = some (.int .i64 t298) := (blk_cell BK307.out 0).trans rfl
            have hcz181_1 : wc.cell? ⟨gb307, 1, none⟩ = some (.int .i64 t299) := (blk_cell BK307.out 1).trans rfl
            have hcz181_2 : wc.cell? ⟨gb307, 2, none⟩ = some (.slice Ao42 t300.length co42) := (blk_cell BK307.out 2).trans rfl
            have hcz181_3 : wc.cell? ⟨gb307, 3, none⟩ = some (.slice Ao43 t303.length co43) := (blk_cell BK307.out 3).trans rfl
            have hfz181_0 := blk_frozen BK307.out 0
            have hfz181_1 := blk_frozen BK307.out 1
            have hfz181_2 := blk_frozen BK307.out 2
            have hfz181_3 := blk_frozen BK307.out 3
            go_wp2_with (first | ((with_reducible refine gate_callee (f := 38) rfl ?_); refine goesL_ (some 71) rfl rfl Try.func38 (by kernel_rfl) rfl #[.agg #[.int .i64 t298, .int .i64 t299, .slice Ao42 t300.length co42, .slice Ao43 t303.length co43], .int .i64 1] rfl (by (try simp only [List.map_toArray, List.map_cons, List.map_nil]); first | done | rfl | (simp only [List.length_drop, List.length_take]; rfl)) ?_; (with_reducible refine (laws_markStore.calls kj66 t298 t299 (fun k_ => some k_ = (.slice Ao42 t300.length co42 : Value).ownBlock) (.slice Ao42 t300.length co42) t300 (fun k_ => some k_ = (.slice Ao43 t303.length co43 : Value).ownBlock) (.slice Ao43 t303.length co43) t303 1 t322 t323 t324 w _ ?side1 ?side2 ?side3 A98.out).mono ?_); (case side1 => exact Zz.rB_ HB.out); (case side2 => exact Kd.R_tight rfl HO_308002.out); (case side3 => exact Kd.R_tight rfl HO_308003.out); rintro e w182 ⟨rfl, hy0, hy1, hb, hkp⟩; refine ⟨_, rfl, ?_⟩; have n0_ := Aside0.mk (Kd.R_mono (ok' := fun k_ => some k_ ≠ (.slice Ao34 t319.length co34 : Value).ownBlock ∧ some k_ ≠ (.slice Ao42 t300.length co42 : Value).ownBlock) (Kd.R_keptB ((Kd.R_apart' HO_289002.out (Kd.R_typed HO_308003.out) (by decide))) hkp (fun k_ hk_ hs_ => Or.elim hs_ (fun e_ => (hk_.1.2) e_) (fun e_ => (hk_.2) e_))) (fun k_ hk_ => ⟨hk_.1.1.1, hk_.1.1.2⟩)); have n1_ := Aside0.mk (Kd.R_mono (ok' := fun k_ => some k_ ≠ (.slice Ao35 t320.length co35 : Value).ownBlock ∧ some k_ ≠ (.slice Ao43 t303.length co43 : Value).ownBlock) (Kd.R_keptB ((Kd.R_apart' HO_289003.out (Kd.R_typed HO_308002.out) (by decide))) hkp (fun k_ hk_ hs_ => Or.elim hs_ (fun e_ => (hk_.2) e_) (fun e_ => (hk_.1.2) e_))) (fun k_ hk_ => ⟨hk_.1.1.1, hk_.1.1.2⟩)); have n2_ := Aside0.mk (Kd.R_mono (ok' := fun k_ => some k_ ≠ (.slice Ao26 t281.length co26 : Value).ownBlock ∧ some k_ ≠ (.slice Ao42 t300.length co42 : Value).ownBlock) (Kd.R_keptB ((Kd.R_apart' HO_298002.out (Kd.R_typed HO_308003.out) (by decide))) hkp (fun k_ hk_ hs_ => Or.elim hs_ (fun e_ => (hk_.1.2) e_) (fun e_ => (hk_.2) e_))) (fun k_ hk_ => ⟨hk_.1.1.1, hk_.1.1.2⟩)); have n3_ := Aside0.mk (Kd.R_mono (ok' := fun k_ => some k_ ≠ (.slice Ao27 t284.length co27 : Value).ownBlock ∧ some k_ ≠ (.slice Ao43 t303.length co43 : Value).ownBlock) (Kd.R_keptB ((Kd.R_apart' HO_298003.out (Kd.R_typed HO_308002.out) (by decide))) hkp (fun k_ hk_ hs_ => Or.elim hs_ (fun e_ => (hk_.2) e_) (fun e_ => (hk_.1.2) e_))) (fun k_ hk_ => ⟨hk_.1.1.1, hk_.1.1.2⟩)); have n4_ := Aside0.mk (Kd.R_reok rfl hy0 (fun k_ e_ => HO_308002.out.1 k_ e_)); have n5_ := Aside0.mk (Kd.R_reok rfl hy1 (fun k_ e_ => HO_308003.out.1 k_ e_)); have n6_ := Aside0.mk (blk_kept (Zz.rb_ BK269.out) hkp (fun hs_ => Or.elim hs_ (fun e_ => (fun e_ => (Kd.R_ne HO_308002.out BK269.out (by decide)) e_) e_) (fun e_ => (fun e_ => (Kd.R_ne HO_308003.out BK269.out (by decide)) e_) e_))); have n7_ := Aside0.mk (blk_kept (Zz.rb_ BK288.out) hkp (fun hs_ => Or.elim hs_ (fun e_ => (fun e_ => (Kd.R_ne HO_308002.out BK288.out (by decide)) e_) e_) (fun e_ => (fun e_ => (Kd.R_ne HO_308003.out BK288.out (by decide)) e_) e_))); have n8_ := Aside0.mk (blk_kept (Zz.rb_ BK297.out) hkp (fun hs_ => Or.elim hs_ (fun e_ => (fun e_ => (Kd.R_ne HO_308002.out BK297.out (by decide)) e_) e_) (fun e_ => (fun e_ => (Kd.R_ne HO_308003.out BK297.out (by decide)) e_) e_))); have n9_ := Aside0.mk (blk_kept (Zz.rb_ BK307.out) hkp (fun hs_ => Or.elim hs_ (fun e_ => (fun e_ => (Kd.R_ne HO_308002.out BK307.out (by decide)) e_) e_) (fun e_ => (fun e_ => (Kd.R_ne HO_308003.out BK307.out (by decide)) e_) e_))); have n10_ := Aside0.mk (hb); clear HO_289002; clear HO_289003; clear HO_298002; clear HO_298003; clear HO_308002; clear HO_308003; clear BK269; clear BK288; clear BK297; clear BK307; clear HB; have HO_289002 := n0_; have HO_289003 := n1_; have HO_298002 := n2_; have HO_298003 := n3_; have HO_308002 := n4_; have HO_308003 := n5_; have BK269 := n6_; have BK288 := n7_; have BK297 := n8_; have BK307 := n9_; have HB := n10_; clear n0_ n1_ n2_ n3_ n4_ n5_ n6_ n7_ n8_ n9_ n10_; (try clear hb); (try clear hkp); (try clear hy0); (try clear hy1); have hcz183_0 : w182.cell? ⟨gb307, 0, none⟩ = some (.int .i64 t298) := (blk_cell BK307.out 0).trans rfl; have hcz183_1 : w182.cell? ⟨gb307, 1, none⟩ = some (.int .i64 t299) := (blk_cell BK307.out 1).trans rfl; have hcz183_2 : w182.cell? ⟨gb307, 2, none⟩ = some (.slice Ao42 t300.length co42) := (blk_cell BK307.out 2).trans rfl; have hcz183_3 : w182.cell? ⟨gb307, 3, none⟩ = some (.slice Ao43 t303.length co43) := (blk_cell BK307.out 3).trans rfl; have hfz183_0 := blk_frozen BK307.out 0; have hfz183_1 := blk_frozen BK307.out 1; have hfz183_2 := blk_frozen BK307.out 2; have hfz183_3 := blk_frozen BK307.out 3) | ((with_reducible refine gate_callee (f := 39) rfl ?_); refine goesL_ (some 74) rfl rfl Try.func39 (by kernel_rfl) rfl #[.agg #[.int .i64 t298, .int .i64 t299, .slice Ao42 t323.length co42, .slice Ao43 t324.length co43], .int .i64 1] rfl (by (try simp only [List.map_toArray, List.map_cons, List.map_nil]); first | done | (rw [show t323.length = t300.length from (Kd.R_reads' HO_308002.out).1.symm, show t324.length = t303.length from (Kd.R_reads' HO_308003.out).1.symm] <;> rfl) | rfl | (simp only [List.length_drop, List.length_take]; rfl)) ?_; (with_reducible refine (laws_heldStore.calls kj66 t298 t299 _ _ t323 _ _ t324 1 t325 _ ?side1 ?side2 ?side3 ?side4 A99.out).mono ?_); (case side1 => repeat (first | exact (Kd.R_reads' HO_308002.out).2.2 | (with_reducible refine Kd.C_alloc ?_ _) | (with_reducible refine Kd.C_drewN ?_ _) | (with_reducible refine Kd.C_drew ?_))); (case side2 => rw [show t323.length = t300.length from (Kd.R_reads' HO_308002.out).1.symm]; exact (Kd.R_reads' HO_308002.out).2.1); (case side3 => repeat (first | exact (Kd.R_reads' HO_308003.out).2.2 | (with_reducible refine Kd.C_alloc ?_ _) | (with_reducible refine Kd.C_drewN ?_ _) | (with_reducible refine Kd.C_drew ?_))); (case side4 => rw [show t324.length = t303.length from (Kd.R_reads' HO_308003.out).1.symm]; exact (Kd.R_reads' HO_308003.out).2.1); rintro e w184 ⟨rfl, hb⟩; refine ⟨_, rfl, ?_⟩; have n0_ := Aside0.mk (Kd.R_below (Zz.rR_ HO_289002.out) hb); have n1_ := Aside0.mk (Kd.R_below (Zz.rR_ HO_289003.out) hb); have n2_ := Aside0.mk (Kd.R_below (Zz.rR_ HO_298002.out) hb); have n3_ := Aside0.mk (Kd.R_below (Zz.rR_ HO_298003.out) hb); have n4_ := Aside0.mk (Kd.R_below (Zz.rR_ HO_308002.out) hb); have n5_ := Aside0.mk (Kd.R_below (Zz.rR_ HO_308003.out) hb); have n6_ := Aside0.mk (blk_below (g := gb269) (o := .cells #[.int .i64 a0_0, .int .i64 a0_1, .slice A0_2 l0_2.length c0_2, .slice A0_3 l0_3.length c0_3] 31 (0, 0)) (Zz.rb_ BK269.out) hb); have n7_ := Aside0.mk (blk_below (g := gb288) (o := .cells #[.int .i64 t279, .int .i64 t280, .slice Ao26 t281.length co26, .slice Ao27 t284.length co27] 36 (0, 0)) (Zz.rb_ BK288.out) hb); have n8_ := Aside0.mk (blk_below (g := gb297) (o := .cells #[.int .i64 t289, .int .i64 t290, .slice Ao34 t319.length co34, .slice Ao35 t320.length co35] 36 (0, 0)) (Zz.rb_ BK297.out) hb); have n9_ := Aside0.mk (blk_below (g := gb307) (o := .cells #[.int .i64 t298, .int .i64 t299, .slice Ao42 t300.length co42, .slice Ao43 t303.length co43] 36 (0, 0)) (Zz.rb_ BK307.out) hb); have n10_ := Aside0.mk (below_step (Zz.rB_ HB.out) hb); clear HO_289002; clear HO_289003; clear HO_298002; clear HO_298003; clear HO_308002; clear HO_308003; clear BK269; clear BK288; clear BK297; clear BK307; clear HB; have HO_289002 := n0_; have HO_289003 := n1_; have HO_298002 := n2_; have HO_298003 := n3_; have HO_308002 := n4_; have HO_308003 := n5_; have BK269 := n6_; have BK288 := n7_; have BK297 := n8_; have BK307 := n9_; have HB := n10_; clear n0_ n1_ n2_ n3_ n4_ n5_ n6_ n7_ n8_ n9_ n10_; (try clear hb); (try clear hb2); (try clear hk); (try clear hi)))
            go_ret
            exact ⟨by first | rfl | (simp [errW_none, errW_some] <;> rfl) | (simp [*, errW_none, errW_some] <;> rfl), by repeat (first | (with_reducible first | exact HB.out | apply below_alloc | apply pw_below_drewN | apply below_drew1 | refine below_set ?_ GE269.out | refine below_set ?_ GE288.out | refine below_set ?_ GE297.out | refine below_set ?_ GE307.out) | exact HB.out)⟩
      ·
       replace c65 := Bool.eq_false_iff.mpr c65
       subst c65
       have H1 : (some false) = some r := by rw [if_neg (show ¬ (false = true) by decide)] at H; exact H
       clear H
       have H := H1
       clear H1
       obtain rfl := Option.some.inj H
       try go_wp2
       have n0_ := Aside0.mk (Kd.R_drew HO_289002.out)
       have n1_ := Aside0.mk (Kd.R_drew HO_289003.out)
       have n2_ := Aside0.mk (Kd.R_drew HO_298002.out)
       have n3_ := Aside0.mk (Kd.R_drew HO_298003.out)
       have n4_ := Aside0.mk (Kd.R_drew HO_308002.out)
       have n5_ := Aside0.mk (Kd.R_drew HO_308003.out)
       have n6_ := Aside0.mk (blk_drew BK269.out)
       have n7_ := Aside0.mk (blk_drew BK288.out)
       have n8_ := Aside0.mk (blk_drew BK297.out)
       have n9_ := Aside0.mk (blk_drew BK307.out)
       have n10_ := Aside0.mk (below_drew1 HB.out)
       clear HO_289002
       clear HO_289003
       clear HO_298002
       clear HO_298003
       clear HO_308002
       clear HO_308003
       clear BK269
       clear BK288
       clear BK297
       clear BK307
       clear HB
       have HO_289002 := n0_
       have HO_289003 := n1_
       have HO_298002 := n2_
       have HO_298003 := n3_
       have HO_308002 := n4_
       have HO_308003 := n5_
       have BK269 := n6_
       have BK288 := n7_
       have BK297 := n8_
       have BK307 := n9_
       have HB := n10_
       clear n0_ n1_ n2_ n3_ n4_ n5_ n6_ n7_ n8_ n9_ n10_
       refine start_ (n := 5) (S := fun w' => w'.cell? ⟨gb297, 0, none⟩ = some (.int .i64 t289) ∧ w'.cell? ⟨gb297, 1, none⟩ = some (.int .i64 t290) ∧ w'.cell? ⟨gb297, 2, none⟩ = some (.slice Ao34 t291.length co34) ∧ w'.cell? ⟨gb297, 3, none⟩ = some (.slice Ao35 t294.length co35) ∧ w'.cell? ⟨gb269, 0, none⟩ = some (.int .i64 a0_0) ∧ w'.cell? ⟨gb269, 1, none⟩ = some (.int .i64 a0_1) ∧ w'.cell? ⟨gb269, 2, none⟩ = some (.slice A0_2 l0_2.length c0_2) ∧ w'.cell? ⟨gb269, 3, none⟩ = some (.slice A0_3 l0_3.length c0_3)) (ds := []) #[false, false, false, false, false] (by kernel_rfl) rfl rfl ⟨(blk_cell BK297.out 0).trans rfl, (blk_cell BK297.out 1).trans rfl, (blk_cell BK297.out 2).trans rfl, (blk_cell BK297.out 3).trans rfl, (blk_cell BK269.out 0).trans rfl, (blk_cell BK269.out 1).trans rfl, (blk_cell BK269.out 2).trans rfl, (blk_cell BK269.out 3).trans rfl⟩ (fun hHeld => ?_)
       generalize wc.drew = w185 at HO_289002 HO_289003 HO_298002 HO_298003 HO_308002 HO_308003 BK269 BK288 BK297 BK307 HB hHeld ⊢
       refine take_ (i := 0) (N := some 48) (v := ?_) (a' := ?_) #[true, false, false, false, false] rfl rfl (by kernel_rfl) (fun _ _ _ h => h) (Or.inl ⟨by rfl, ?_⟩) hHeld ?_ ?_
       rotate_left
       ·
        rintro w' ⟨s0, s1, s2, s3, s4, s5, s6, s7⟩
        go_simp
        with_reducible rfl
       rotate_left
       ·
        simp only [Act.put, List.setIfInBounds_toArray, List.set_cons_zero, List.set_cons_succ, i64_w, i32_w]
        rfl
       refine take_ (i := 1) (N := some 49) (v := ?_) (a' := ?_) #[true, true, false, false, false] rfl rfl (by kernel_rfl) (fun _ _ _ h => h) (Or.inl ⟨by rfl, ?_⟩) hHeld ?_ ?_
       rotate_left
       ·
        rintro w' ⟨s0, s1, s2, s3, s4, s5, s6, s7⟩
        go_simp
        with_reducible rfl
       rotate_left
       ·
        simp only [Act.put, List.setIfInBounds_toArray, List.set_cons_zero, List.set_cons_succ, i64_w, i32_w]
        rfl
       refine one_ (i := 2) (N := some 50) #[true, true, true, false, false] rfl rfl (by kernel_rfl) (by decide) (fun K hK => ?_)
       refine goes_ Try.func20 (by kernel_rfl) rfl #[.agg #[.int .i64 a0_0, .int .i64 a0_1, .slice A0_2 l0_2.length c0_2, .slice A0_3 l0_3.length c0_3]] (by rfl) rfl rfl (by (try simp only [List.map_toArray, List.map_cons, List.map_nil]); first | done | rfl | (simp only [List.length_drop, List.length_take]; rfl)) ?_
       with_reducible refine (laws_toStore.calls kj13 a0_0 a0_1 _ _ l0_2 _ _ l0_3 t309 t310 t311 t314 _ ?side1 ?side2 ?side3 ?side4 A63.out).mono ?_
       (case side1 => repeat (first | exact (Kd.C_below HR0_2.out HB.out) | (with_reducible refine Kd.C_alloc ?_ _) | (with_reducible refine Kd.C_drewN ?_ _) | (with_reducible refine Kd.C_drew ?_)))
       (case side2 => exact HC0_2.out)
       (case side3 => repeat (first | exact (Kd.C_below HR0_3.out HB.out) | (with_reducible refine Kd.C_alloc ?_ _) | (with_reducible refine Kd.C_drewN ?_ _) | (with_reducible refine Kd.C_drew ?_)))
       (case side4 => exact HC0_3.out)
       rintro e w186 ⟨v312, v315, rfl, ho0, ho1, hb⟩
       refine ⟨_, rfl, ?_⟩
       have n0_ := Aside0.mk (Kd.R_elder' (Zz.rR_ HO_289002.out) (Kd.R_base ho0) hb)
       have n1_ := Aside0.mk (Kd.R_elder' (Zz.rR_ HO_289003.out) (Kd.R_base ho1) hb)
       have n2_ := Aside0.mk (Kd.R_elder' (Zz.rR_ HO_298002.out) (Kd.R_base ho0) hb)
       have n3_ := Aside0.mk (Kd.R_elder' (Zz.rR_ HO_298003.out) (Kd.R_base ho1) hb)
       have n4_ := Aside0.mk (Kd.R_elder' (Zz.rR_ HO_308002.out) (Kd.R_base ho0) hb)
       have n5_ := Aside0.mk (Kd.R_elder' (Zz.rR_ HO_308003.out) (Kd.R_base ho1) hb)
       have n6_ := Aside0.mk (Kd.R_lower (Kd.R_new' (Kd.R_new' (Kd.R_new' ho0 (Kd.R_lt (Zz.rR_ HO_289002.out))) (Kd.R_lt (Zz.rR_ HO_298002.out))) (Kd.R_lt (Zz.rR_ HO_308002.out))) (below_size (Zz.rB_ HB.out)))
       have n7_ := Aside0.mk (Kd.R_lower (Kd.R_new' (Kd.R_new' (Kd.R_new' ho1 (Kd.R_lt (Zz.rR_ HO_289003.out))) (Kd.R_lt (Zz.rR_ HO_298003.out))) (Kd.R_lt (Zz.rR_ HO_308003.out))) (below_size (Zz.rB_ HB.out)))
       have n8_ := Aside0.mk (blk_below (g := gb269) (o := .cells #[.int .i64 a0_0, .int .i64 a0_1, .slice A0_2 l0_2.length c0_2, .slice A0_3 l0_3.length c0_3] 31 (0, 0)) (Zz.rb_ BK269.out) hb)
       have n9_ := Aside0.mk (blk_below (g := gb288) (o := .cells #[.int .i64 t279, .int .i64 t280, .slice Ao26 t281.length co26, .slice Ao27 t284.length co27] 36 (0, 0)) (Zz.rb_ BK288.out) hb)
       have n10_ := Aside0.mk (blk_below (g := gb297) (o := .cells #[.int .i64 t289, .int .i64 t290, .slice Ao34 t291.length co34, .slice Ao35 t294.length co35] 36 (0, 0)) (Zz.rb_ BK297.out) hb)
       have n11_ := Aside0.mk (blk_below (g := gb307) (o := .cells #[.int .i64 t298, .int .i64 t299, .slice Ao42 t300.length co42, .slice Ao43 t303.length co43] 36 (0, 0)) (Zz.rb_ BK307.out) hb)
       have n12_ := Aside0.mk (below_step (Zz.rB_ HB.out) hb)
       clear HO_289002
       clear HO_289003
       clear HO_298002
       clear HO_298003
       clear HO_308002
       clear HO_308003
       clear BK269
       clear BK288
       clear BK297
       clear BK307
       clear HB
       have HO_289002 := n0_
       have HO_289003 := n1_
       have HO_298002 := n2_
       have HO_298003 := n3_
       have HO_308002 := n4_
       have HO_308003 := n5_
       have HO313 := n6_
       have HO316 := n7_
       have BK269 := n8_
       have BK288 := n9_
       have BK297 := n10_
       have BK307 := n11_
       have HB := n12_
       clear n0_ n1_ n2_ n3_ n4_ n5_ n6_ n7_ n8_ n9_ n10_ n11_ n12_
       (try clear hb)
       (try clear hb2)
       (try clear hk)
       (try clear hi)
       (try clear ho0)
       (try clear ho1)
       obtain ⟨Ao187, co187, eo187⟩ := Kd.R_slice HO313.out
       (first | subst eo187 | (injection eo187 with f1_ f2_ f3_; have f4_ := f1_.symm; have f5_ := f3_.symm; clear f1_ f2_ f3_; subst f4_; subst f5_))
       obtain ⟨Ao188, co188, eo188⟩ := Kd.R_slice HO316.out
       (first | subst eo188 | (injection eo188 with f1_ f2_ f3_; have f4_ := f1_.symm; have f5_ := f3_.symm; clear f1_ f2_ f3_; subst f4_; subst f5_))
       refine hK.out _ _ ⟨(blk_cell BK297.out 0).trans rfl, (blk_cell BK297.out 1).trans rfl, (blk_cell BK297.out 2).trans rfl, (blk_cell BK297.out 3).trans rfl, (blk_cell BK269.out 0).trans rfl, (blk_cell BK269.out 1).trans rfl, (blk_cell BK269.out 2).trans rfl, (blk_cell BK269.out 3).trans rfl⟩ (fun hHeld => ?_)
       clear hK K
       refine norm_ (a' := ?_) ?_ ?_
       rotate_left
       ·
        show Act.put _ (some 50) _ = _
        simp only [Act.put, List.setIfInBounds_toArray, List.set_cons_zero, List.set_cons_succ, i64_w, i32_w]
        rfl
       refine one_ (i := 3) (N := some 51) #[true, true, true, true, false] rfl rfl (by kernel_rfl) (by decide) (fun K hK => ?_)
       refine goes_ Try.func22 (by kernel_rfl) rfl #[.agg #[.int .i64 t289, .int .i64 t290, .slice Ao34 t291.length co34, .slice Ao35 t294.length co35], .agg #[.int .i64 t309, .int .i64 t310, .slice Ao187 t311.length co187, .slice Ao188 t314.length co188]] (by rfl) rfl rfl (by (try simp only [List.map_toArray, List.map_cons, List.map_nil]); first | done | rfl | (simp only [List.length_drop, List.length_take]; rfl)) ?_
       with_reducible refine (laws_eqStore.calls kj13 t289 t290 _ _ t291 _ _ t294 t309 t310 _ _ t311 _ _ t314 false _ ?side1 ?side2 ?side3 ?side4 ?side5 ?side6 ?side7 ?side8 A64.out).mono ?_
       (case side1 => repeat (first | exact (Kd.R_reads' HO_298002.out).2.2 | (with_reducible refine Kd.C_alloc ?_ _) | (with_reducible refine Kd.C_drewN ?_ _) | (with_reducible refine Kd.C_drew ?_)))
       (case side2 => exact (Kd.R_reads' HO_298002.out).2.1)
       (case side3 => repeat (first | exact (Kd.R_reads' HO_298003.out).2.2 | (with_reducible refine Kd.C_alloc ?_ _) | (with_reducible refine Kd.C_drewN ?_ _) | (with_reducible refine Kd.C_drew ?_)))
       (case side4 => exact (Kd.R_reads' HO_298003.out).2.1)
       (case side5 => repeat (first | exact (Kd.R_reads' HO313.out).2.2 | (with_reducible refine Kd.C_alloc ?_ _) | (with_reducible refine Kd.C_drewN ?_ _) | (with_reducible refine Kd.C_drew ?_)))
       (case side6 => exact (Kd.R_reads' HO313.out).2.1)
       (case side7 => repeat (first | exact (Kd.R_reads' HO316.out).2.2 | (with_reducible refine Kd.C_alloc ?_ _) | (with_reducible refine Kd.C_drewN ?_ _) | (with_reducible refine Kd.C_drew ?_)))
       (case side8 => exact (Kd.R_reads' HO316.out).2.1)
       rintro e w189 ⟨rfl, hb⟩
       refine ⟨_, rfl, ?_⟩
       have n0_ := Aside0.mk (Kd.R_below (Zz.rR_ HO_289002.out) hb)
       have n1_ := Aside0.mk (Kd.R_below (Zz.rR_ HO_289003.out) hb)
       have n2_ := Aside0.mk (Kd.R_below (Zz.rR_ HO_298002.out) hb)
       have n3_ := Aside0.mk (Kd.R_below (Zz.rR_ HO_298003.out) hb)
       have n4_ := Aside0.mk (Kd.R_below (Zz.rR_ HO_308002.out) hb)
       have n5_ := Aside0.mk (Kd.R_below (Zz.rR_ HO_308003.out) hb)
       have n6_ := Aside0.mk (Kd.R_below (Zz.rR_ HO313.out) hb)
       have n7_ := Aside0.mk (Kd.R_below (Zz.rR_ HO316.out) hb)
       have n8_ := Aside0.mk (blk_below (g := gb269) (o := .cells #[.int .i64 a0_0, .int .i64 a0_1, .slice A0_2 l0_2.length c0_2, .slice A0_3 l0_3.length c0_3] 31 (0, 0)) (Zz.rb_ BK269.out) hb)
       have n9_ := Aside0.mk (blk_below (g := gb288) (o := .cells #[.int .i64 t279, .int .i64 t280, .slice Ao26 t281.length co26, .slice Ao27 t284.length co27] 36 (0, 0)) (Zz.rb_ BK288.out) hb)
       have n10_ := Aside0.mk (blk_below (g := gb297) (o := .cells #[.int .i64 t289, .int .i64 t290, .slice Ao34 t291.length co34, .slice Ao35 t294.length co35] 36 (0, 0)) (Zz.rb_ BK297.out) hb)
       have n11_ := Aside0.mk (blk_below (g := gb307) (o := .cells #[.int .i64 t298, .int .i64 t299, .slice Ao42 t300.length co42, .slice Ao43 t303.length co43] 36 (0, 0)) (Zz.rb_ BK307.out) hb)
       have n12_ := Aside0.mk (below_step (Zz.rB_ HB.out) hb)
       clear HO_289002
       clear HO_289003
       clear HO_298002
       clear HO_298003
       clear HO_308002
       clear HO_308003
       clear HO313
       clear HO316
       clear BK269
       clear BK288
       clear BK297
       clear BK307
       clear HB
       have HO_289002 := n0_
       have HO_289003 := n1_
       have HO_298002 := n2_
       have HO_298003 := n3_
       have HO_308002 := n4_
       have HO_308003 := n5_
       have HO313 := n6_
       have HO316 := n7_
       have BK269 := n8_
       have BK288 := n9_
       have BK297 := n10_
       have BK307 := n11_
       have HB := n12_
       clear n0_ n1_ n2_ n3_ n4_ n5_ n6_ n7_ n8_ n9_ n10_ n11_ n12_
       (try clear hb)
       (try clear hb2)
       (try clear hk)
       (try clear hi)
       refine hK.out _ _ ⟨(blk_cell BK297.out 0).trans rfl, (blk_cell BK297.out 1).trans rfl, (blk_cell BK297.out 2).trans rfl, (blk_cell BK297.out 3).trans rfl, (blk_cell BK269.out 0).trans rfl, (blk_cell BK269.out 1).trans rfl, (blk_cell BK269.out 2).trans rfl, (blk_cell BK269.out 3).trans rfl⟩ (fun hHeld => ?_)
       clear hK K
       refine norm_ (a' := ?_) ?_ ?_
       rotate_left
       ·
        show Act.put _ (some 51) _ = _
        simp only [Act.put, List.setIfInBounds_toArray, List.set_cons_zero, List.set_cons_succ, i64_w, i32_w]
        rfl
       refine pure_ (i := 4) (N := some 52) (v := ?_) (a' := ?_) #[true, true, true, true, true] rfl rfl (by kernel_rfl) (fun _ _ _ h => h) (Or.inl ⟨by rfl, ?_⟩) ?_ ?_
       rotate_left
       ·
        intro w'
        go_simp
        with_reducible rfl
       rotate_left
       ·
        simp only [Act.put, List.setIfInBounds_toArray, List.set_cons_zero, List.set_cons_succ, i64_w, i32_w]
        rfl
       refine done_ (by kernel_rfl) ?_
       try go_wp2
       go_ret
       exact ⟨by first | rfl | (simp [errW_none, errW_some] <;> rfl) | (simp [*, errW_none, errW_some] <;> rfl), by repeat (first | (with_reducible first | exact HB.out | apply below_alloc | apply pw_below_drewN | apply below_drew1 | refine below_set ?_ GE269.out | refine below_set ?_ GE288.out | refine below_set ?_ GE297.out | refine below_set ?_ GE307.out) | exact HB.out)⟩

end Go.Proofs.Ytbhkinfdilngiaa.PFnExactUnpin

-- Walks of printed functions (by wip/gen.py of this session, with the kit's program).
import Derived.Test.YtbhkinfdilngiaaGFnExactValidFetchx0
import Derived.Test.YtbhkinfdilngiaaGFnExactValidFetchx6
namespace Go.Proofs.Ytbhkinfdilngiaa.PFnExactValidFetch
open Go.RowKit Go.Proofs.YtbhkinfdilngiaaW.PrintWords Go.Proofs.YtbhkinfdilngiaaW.PrintLast Go.Proofs.YtbhkinfdilngiaaW.PrintMore
attribute [local go_sem] max2_int min2_int max_two min_two max_three min_three max_four min_four   -- for this text's walks alone
attribute [local go_sem] Go.Proofs.Ytbhkinfdilngiaa.L.str_geq
set_option linter.unusedVariables false
set_option linter.unusedSimpArgs false

/-! ### impl_sum64: function 108 -/
def impl_sum64.l0 : Nat → ByteArray → Int → Int → Option (Int)
 | 0, _, _, _ => none
 | k + 1, x0, x3, x4 => if x4 < (x0.size : Int) then (if 0 ≤ x4 then (impl_sum64.l0 k x0 (IntKind.u64.wrap ((Go.bits .xor .u64 x3 (IntKind.u64.wrap (bt x0 x4))) * 1099511628211)) (wrap64 (x4 + 1))) else (none)) else (some x3)
def impl_sum64.f (k : Nat) (a0 : ByteArray) : Option (Int) := impl_sum64.l0 k a0 14695981039346656037 0
theorem impl_sum64.mono_l : ∀ k, (∀ y0 y1 y2, LeO (impl_sum64.l0 k y0 y1 y2) (impl_sum64.l0 (k + 1) y0 y1 y2))
 | 0 => fun _ _ _ r h => by simp [impl_sum64.l0] at h
 | k + 1 => by
  have ih0 := impl_sum64.mono_l k
  ·
   intro y0 y1 y2
   unfold impl_sum64.l0
   repeat' first
   | (with_reducible exact ih0 _ _ _)
   | (with_reducible exact LeO.refl _)
   | (with_reducible exact LeO.none _)
   | (with_reducible refine LeO.ite ?_ ?_)
   | (with_reducible refine LeO.bind ?_ (fun _ => ?_))
   | exact ih0 _ _ _
   | exact LeO.none _
   | refine LeO.ite ?_ ?_
   | refine LeO.bind ?_ (fun _ => ?_)
theorem impl_sum64.mono : ∀ a0 k, LeO (impl_sum64.f k a0) (impl_sum64.f (k + 1) a0) := by
 intro a0 k
 have ih0 := impl_sum64.mono_l k
 unfold impl_sum64.f
 repeat' first
   | (with_reducible exact ih0 _ _ _)
   | (with_reducible exact LeO.refl _)
   | (with_reducible exact LeO.none _)
   | (with_reducible refine LeO.ite ?_ ?_)
   | (with_reducible refine LeO.bind ?_ (fun _ => ?_))
   | exact ih0 _ _ _
   | exact LeO.none _
   | refine LeO.ite ?_ ?_
   | refine LeO.bind ?_ (fun _ => ?_)
set_option maxHeartbeats 8000000 in
set_option maxRecDepth 100000 in
theorem impl_sum64.calls (k : Nat) (a0 : ByteArray) (r : Int) (w : World) (h : impl_sum64.f k a0 = some r) :
  Calls Try.prog 108 #[.string a0] w fun e w' => e = .returned (.int .u64 r) ∧ Drawn0 w w' := by
 have H : (impl_sum64.l0 k a0 14695981039346656037 0) = some r := h
 clear h
 have H' := Aside0.mk H
 clear H
 go_enter Try.func108, Try.ntmps108
 go_wp2
 go_loopg [3, 4] k (fun kq v3 v4 w' => ∃ (x3_1 : Int) (x4_1 : Int), v3 = .int .u64 x3_1 ∧ v4 = .int .i64 x4_1 ∧ Aside0 (impl_sum64.l0 kq a0 x3_1 x4_1 = some r) ∧ Aside0 (kq ≤ k) ∧ Drawn0 w w')
 case atStart => exact ⟨(14695981039346656037), (0), (by first | rfl | (simp; done) | (simp [*]; done)), (by first | rfl | (simp; done) | (simp [*]; done)), H', ⟨Nat.le_refl _⟩, by repeat (first | exact Drawn0.refl _ | apply Drawn0.step)⟩
 case round =>
  clear H'
  try clear c1
  obtain ⟨x3_1, x4_1, rfl, rfl, HA, HK1, ⟨m1, rfl⟩⟩ := hrel
  cases gk with
  | zero => exact absurd HA.out (by simp [impl_sum64.l0])
  | succ k1 =>
   have H := HA.out
   clear HA
   simp only [impl_sum64.l0] at H
   by_cases c2 : x4_1 < (a0.size : Int)
   ·
    rw [if_pos c2] at H
    have c2b0 : decide (x4_1 < (a0.size : Int)) = true := decide_eq_true c2
    clear c2
    by_cases c3 : 0 ≤ x4_1
    ·
     rw [if_pos c3] at H
     have c3b0 : decide (0 ≤ x4_1) = true := decide_eq_true c3
     clear c3
     have H' := Aside0.mk H
     clear H
     have p4 : 0 ≤ (x4_1 : Int) := Zz.od_
     have q4 : x4_1 < (a0.size : Int) := Zz.od_
     have hx4 := bt_at a0 x4_1
     replace p4 := eq_true p4
     replace q4 := eq_true q4
     go_wp2
     go_roundg k1
     case measure => have := HK1.out; omega
     case rel => exact ⟨(IntKind.u64.wrap ((Go.bits .xor .u64 x3_1 (IntKind.u64.wrap (bt a0 x4_1))) * 1099511628211)), (wrap64 (x4_1 + 1)), (by first | rfl | (simp; done) | (simp [*]; done)), (by first | rfl | (simp; done) | (simp [*]; done)), H', ⟨by have := HK1.out; omega⟩, by repeat (first | exact Drawn0.refl _ | apply Drawn0.step)⟩
    ·
     rw [if_neg c3] at H
     exact absurd H (by simp)
   ·
    rw [if_neg c2] at H
    have c2b0 : decide (x4_1 < (a0.size : Int)) = false := decide_eq_false c2
    clear c2
    obtain rfl := Option.some.inj H
    go_wp2
    go_ret
    exact ⟨by first | rfl | (simp; done) | (simp [*]; done), by repeat (first | exact Drawn0.refl _ | apply Drawn0.step)⟩

/-! ### impl_Sum: function 71 -/
def impl_Sum.l0 : Nat → Int → Int → List Int → Int → Int → Option (ByteArray)
 | 0, _, _, _, _, _ => none
 | k + 1, x1, x5, x6, x16, x17 => if x17 < x16 then (if 0 ≤ (wrap64 (8 * (wrap64 ((wrap64 (x1 - 1)) - x17)))) then (if 0 ≤ x17 then (if x17 < (x6.length : Int) then (impl_Sum.l0 k x1 x5 (x6.set (x17 : Int).toNat ((shr .u64 x5 (wrap64 (8 * (wrap64 ((wrap64 (x1 - 1)) - x17))))) % 256)) x16 (wrap64 (x17 + 1))) else (none)) else (none)) else (none)) else (some (strOfNums x6))
def impl_Sum.f (k : Nat) (a0 : ByteArray) (a1 : Int) : Option (ByteArray) := (impl_widthOk.f a1).bind fun t208 => (if t208 = true then ((impl_sum64.f k a0).bind fun t209 => (if 0 ≤ a1 then (if (a1 : Int).toNat ≤ 281474976710656 then ((some (List.replicate (a1 : Int).toNat 0 : List Int)).bind fun y210 => (impl_Sum.l0 k a1 t209 y210 (y210.length : Int) 0)) else (none)) else (none))) else (some (⟨#[]⟩ : ByteArray)))
theorem impl_Sum.mono_l : ∀ k, (∀ y0 y1 y2 y3 y4, LeO (impl_Sum.l0 k y0 y1 y2 y3 y4) (impl_Sum.l0 (k + 1) y0 y1 y2 y3 y4))
 | 0 => fun _ _ _ _ _ r h => by simp [impl_Sum.l0] at h
 | k + 1 => by
  have ih0 := impl_Sum.mono_l k
  ·
   intro y0 y1 y2 y3 y4
   unfold impl_Sum.l0
   repeat' first
   | (with_reducible exact ih0 _ _ _ _ _)
   | (with_reducible exact impl_sum64.mono _ _)
   | (with_reducible exact LeO.refl _)
   | (with_reducible exact LeO.none _)
   | (with_reducible refine LeO.ite ?_ ?_)
   | (with_reducible refine LeO.bind ?_ (fun _ => ?_))
   | exact ih0 _ _ _ _ _
   | exact impl_sum64.mono _ _
   | exact LeO.none _
   | refine LeO.ite ?_ ?_
   | refine LeO.bind ?_ (fun _ => ?_)
theorem impl_Sum.mono : ∀ a0 a1 k, LeO (impl_Sum.f k a0 a1) (impl_Sum.f (k + 1) a0 a1) := by
 intro a0 a1 k
 have ih0 := impl_Sum.mono_l k
 unfold impl_Sum.f
 repeat' first
   | (with_reducible exact ih0 _ _ _ _ _)
   | (with_reducible exact impl_sum64.mono _ _)
   | (with_reducible exact LeO.refl _)
   | (with_reducible exact LeO.none _)
   | (with_reducible refine LeO.ite ?_ ?_)
   | (with_reducible refine LeO.bind ?_ (fun _ => ?_))
   | exact ih0 _ _ _ _ _
   | exact impl_sum64.mono _ _
   | exact LeO.none _
   | refine LeO.ite ?_ ?_
   | refine LeO.bind ?_ (fun _ => ?_)
set_option maxHeartbeats 8000000 in
set_option maxRecDepth 100000 in
theorem impl_Sum.calls (k : Nat) (a0 : ByteArray) (a1 : Int) (r : ByteArray) (w : World) (h : impl_Sum.f k a0 a1 = some r) :
  Calls Try.prog 71 #[.string a0, .int .i64 a1] w fun e w' => e = .returned (.string r) ∧ Below w.heap.size w w' := by
 have HB := Aside0.mk (Below.refl w.heap.size w)
 have H : ((impl_widthOk.f a1).bind fun t208 => (if t208 = true then ((impl_sum64.f k a0).bind fun t209 => (if 0 ≤ a1 then (if (a1 : Int).toNat ≤ 281474976710656 then ((some (List.replicate (a1 : Int).toNat 0 : List Int)).bind fun y210 => (impl_Sum.l0 k a1 t209 y210 (y210.length : Int) 0)) else (none)) else (none))) else (some (⟨#[]⟩ : ByteArray)))) = some r := h
 clear h
 replace H := Option.bind_eq_some_iff.mp H
 obtain ⟨t208, A30, H⟩ := H
 replace H : (if t208 = true then ((impl_sum64.f k a0).bind fun t209 => (if 0 ≤ a1 then (if (a1 : Int).toNat ≤ 281474976710656 then ((some (List.replicate (a1 : Int).toNat 0 : List Int)).bind fun y210 => (impl_Sum.l0 k a1 t209 y210 (y210.length : Int) 0)) else (none)) else (none))) else (some (⟨#[]⟩ : ByteArray))) = some r := H
 have A3 := Aside0.mk A30
 clear A30
 by_cases c4 : t208 = true
 ·
  subst c4
  have H1 : ((impl_sum64.f k a0).bind fun t209 => (if 0 ≤ a1 then (if (a1 : Int).toNat ≤ 281474976710656 then ((some (List.replicate (a1 : Int).toNat 0 : List Int)).bind fun y210 => (impl_Sum.l0 k a1 t209 y210 (y210.length : Int) 0)) else (none)) else (none))) = some r := by rw [if_pos rfl] at H; exact H
  clear H
  have H := H1
  clear H1
  replace H := Option.bind_eq_some_iff.mp H
  obtain ⟨t209, A50, H⟩ := H
  replace H : (if 0 ≤ a1 then (if (a1 : Int).toNat ≤ 281474976710656 then ((some (List.replicate (a1 : Int).toNat 0 : List Int)).bind fun y210 => (impl_Sum.l0 k a1 t209 y210 (y210.length : Int) 0)) else (none)) else (none)) = some r := H
  have A5 := Aside0.mk A50
  clear A50
  by_cases c6 : 0 ≤ a1
  ·
   rw [if_pos c6] at H
   have c6b0 := eq_true c6
   have c6b1 : decide (0 ≤ a1) = true := decide_eq_true c6
   clear c6
   by_cases c7 : (a1 : Int).toNat ≤ 281474976710656
   ·
    rw [if_pos c7] at H
    have c7b0 := eq_true c7
    have c7b1 : decide ((a1 : Int).toNat ≤ 281474976710656) = true := decide_eq_true c7
    clear c7
    obtain ⟨y210, hy210⟩ : ∃ y_ : List Int, y_ = (List.replicate (a1 : Int).toNat 0) := ⟨_, rfl⟩
    replace H : (impl_Sum.l0 k a1 t209 y210 (y210.length : Int) 0) = some r := by first | (rw [hy210]; with_reducible exact H) | (have H2_ := (Option.bind_some _ _).symm.trans H; rw [hy210]; with_reducible exact H2_) | (have H2_ := (Option.bind_some _ _).symm.trans H; with_reducible exact H2_) | with_reducible exact H | (rw [hy210]; exact H) | exact H
    have Ny210 := Aside0.mk hy210
    clear hy210
    have H' := Aside0.mk H
    clear H
    go_enter Try.func71, Try.ntmps71
    go_wp2_with (first | ((with_reducible refine gate_callee (f := 69) rfl ?_); refine goesL_ (some 9) rfl rfl Try.func69 (by kernel_rfl) rfl #[.int .i64 a1] rfl (by (try simp only [List.map_toArray, List.map_cons, List.map_nil]); first | done | rfl | (simp only [List.length_drop, List.length_take]; rfl)) ?_; (with_reducible refine (impl_widthOk.calls a1 true _ A3.out).mono ?_); rintro e w' ⟨rfl, ⟨nd, rfl⟩⟩; refine ⟨_, rfl, ?_⟩) | ((with_reducible refine gate_callee (f := 108) rfl ?_); refine goesL_ (some 12) rfl rfl Try.func108 (by kernel_rfl) rfl #[.string a0] rfl (by (try simp only [List.map_toArray, List.map_cons, List.map_nil]); first | done | rfl | (simp only [List.length_drop, List.length_take]; rfl)) ?_; (with_reducible refine (impl_sum64.calls k a0 t209 _ A5.out).mono ?_); rintro e w' ⟨rfl, ⟨nd, rfl⟩⟩; refine ⟨_, rfl, ?_⟩) | ((with_reducible refine gate_dst (N := 14) rfl ?_); refine Kd.R_make (Kd.int .u8) _ 5 rfl (N := 14) rfl 102 _ _ rfl a1 rfl rfl Try.underlying102 (.int .u8 0) 1 info5 rfl (by decide) (by omega) 0 (ok := fun _ => True) (okp := fun _ => True) rfl (fun _ hk => hk) trivial Zz.od_ (Nat.le_trans (Nat.mul_le_mul_right _ (Zz.od_ : a1.toNat ≤ 281474976710656)) (by omega)) (Below.refl _ _) (Nat.le_refl _) ?_; intro v211 w8 ho9 hb hg_ hnew_; clear hg_ hnew_; (first | rw [← Ny210.out] at ho9 | (simp only [Int.reduceToNat] at ho9; rw [← Ny210.out] at ho9)); have n0_ := Aside0.mk (Kd.R_lower ho9 (below_size (Zz.rB_ HB.out))); have n1_ := Aside0.mk (below_step (Zz.rB_ HB.out) hb); clear HB; have HO212 := n0_; have HB := n1_; clear n0_ n1_; clear hb ho9; obtain ⟨Ao10, co10, eo10⟩ := Kd.R_slice HO212.out; subst eo10))
    go_loopg [17] k (fun kq v17 w' => ∃ (x6_1 : List Int) (x17_1 : Int), v17 = .int .i64 x17_1 ∧ Aside0 (impl_Sum.l0 kq a1 t209 x6_1 (y210.length : Int) x17_1 = some r) ∧ Aside0 (kq ≤ k) ∧ Aside0 (Kd.R (Kd.int .u8) 5 w' w.heap.size (fun _ => True) (.slice Ao10 y210.length co10) x6_1) ∧ Aside0 (Below w.heap.size w w'))
    case atStart => exact ⟨(y210), (0), (by first | rfl | (simp; done) | (simp [*]; done)), H', ⟨Nat.le_refl _⟩, ⟨Zz.rR_ HO212.out⟩, ⟨Zz.rB_ HB.out⟩⟩
    case round =>
     clear H'
     try clear c1
     try clear p2
     try clear c4
     try clear c6
     try clear c6b0
     try clear c6b1
     try clear c7
     try clear c7b0
     try clear c7b1
     try clear c10
     obtain ⟨x6_1, x17_1, rfl, HA, HK1, HO_6, HB⟩ := hrel
     have hl6_1 := (Kd.R_reads' HO_6.out).1
     rw [hl6_1] at HO_6
     (try simp only [hl6_1])
     cases gk with
     | zero => exact absurd HA.out (by simp [impl_Sum.l0])
     | succ k1 =>
      have H := HA.out
      clear HA
      simp only [impl_Sum.l0] at H
      by_cases c11 : x17_1 < (y210.length : Int)
      ·
       rw [if_pos c11] at H
       have c11b0 : decide (x17_1 < (y210.length : Int)) = true := decide_eq_true c11
       clear c11
       obtain ⟨ji12, hji12⟩ : ∃ j_ : Int, (wrap64 (8 * (wrap64 ((wrap64 (a1 - 1)) - x17_1)))) = j_ := ⟨_, rfl⟩
       replace H : (if 0 ≤ (ji12) then (if 0 ≤ x17_1 then (if x17_1 < (x6_1.length : Int) then (impl_Sum.l0 k1 a1 t209 (x6_1.set (x17_1 : Int).toNat ((shr .u64 t209 (ji12)) % 256)) (y210.length : Int) (wrap64 (x17_1 + 1))) else (none)) else (none)) else (none)) = some r := by first | (rw [hji12] at H; exact H) | (simp only [hji12] at H ⊢; exact H)
       (try rw [hji12] at c11b0)
       have hji12w : (IntKind.i64.wrap (8 * (wrap64 ((wrap64 (a1 - 1)) - x17_1)))) = ji12 := (i64_w _).trans hji12
       by_cases c13 : 0 ≤ (ji12)
       ·
        rw [if_pos c13] at H
        have c13b0 := eq_true c13
        have c13b1 : decide (0 ≤ (ji12)) = true := decide_eq_true c13
        clear c13
        obtain ⟨ji14, hji14⟩ : ∃ j_ : Int, (shr .u64 t209 (ji12)) = j_ := ⟨_, rfl⟩
        replace H : (if 0 ≤ x17_1 then (if x17_1 < (x6_1.length : Int) then (impl_Sum.l0 k1 a1 t209 (x6_1.set (x17_1 : Int).toNat ((ji14) % 256)) (y210.length : Int) (wrap64 (x17_1 + 1))) else (none)) else (none)) = some r := by first | (rw [hji14] at H; exact H) | (simp only [hji14] at H ⊢; exact H)
        (try rw [hji14] at c11b0)
        have hji14_ : (t209 / 2 ^ min (ji12).toNat 64) = ji14 := hji14
        have hji14z : (ji12) ≤ 64 → (t209 / 2 ^ (ji12).toNat) = ji14 := shr_small hji14
        by_cases c15 : 0 ≤ x17_1
        ·
         rw [if_pos c15] at H
         have c15b0 : decide (0 ≤ x17_1) = true := decide_eq_true c15
         clear c15
         by_cases c16 : x17_1 < (x6_1.length : Int)
         ·
          rw [if_pos c16] at H
          have c16b0 : decide (x17_1 < (x6_1.length : Int)) = true := decide_eq_true c16
          clear c16
          obtain ⟨y213, hy213⟩ : ∃ y_ : List Int, y_ = (x6_1.set (x17_1 : Int).toNat ((ji14) % 256)) := ⟨_, rfl⟩
          replace H : (impl_Sum.l0 k1 a1 t209 y213 (y210.length : Int) (wrap64 (x17_1 + 1))) = some r := by first | (rw [hy213]; with_reducible exact H) | (have H2_ := (Option.bind_some _ _).symm.trans H; rw [hy213]; with_reducible exact H2_) | (have H2_ := (Option.bind_some _ _).symm.trans H; with_reducible exact H2_) | with_reducible exact H | (rw [hy213]; exact H) | exact H
          have Ny213 := Aside0.mk hy213
          clear hy213
          have H' := Aside0.mk H
          clear H
          have p17 : 0 ≤ (x17_1 : Int) := Zz.od_
          have q17 : (x17_1 : Int) < ((x6_1.length : Int) : Int) := Zz.od_
          obtain ⟨go17, co17, eo17, gb17, gl17, cl17, HG17⟩ := Kd.R_form HO_6.out (by omega)
          (first | cases eo17 | (injection eo17 with ea_ en_ ec_; (first | subst ea_ | (injection ea_ with ea_; subst ea_)); subst ec_; clear en_))
          have GB17 := Aside0.mk gb17
          have GG17 := Aside0.mk HG17
          clear gb17 gl17 HG17
          obtain ⟨hx17_0, hf17_0⟩ := Kd.R_celln 0 HO_6.out (x17_1 : Int) p17 q17
          replace p17 := eq_true p17
          replace q17 := eq_true q17
          have HP18 := Kd.R_putg HO_6.out (x17_1 : Int) ((ji14) % 256)
          go_wp2_with (first | ((with_reducible refine gate_store (t := 5) (p := 30) rfl ?_); refine store_event (t := 5) (p := 30) (v := ?vo_w19) (w1 := (wr.setCell ⟨go17, (x17_1 : Int).toNat, none⟩ (.int .u8 ((ji14) % 256)))) ?hg ?ho ?hn ?hr ?_; (case ho => rfl); (case hg => rfl); (case hn => rfl); (case hr => first | (go_simp; done) | (go_simp; rfl)); intro w19 hw; have hg : wr.grownBy w19 (some go17) := (by rw [hw]; exact HP18.2); have hp_ : Kd.R (Kd.int .u8) 5 w19 w.heap.size (fun _ => True) (.slice (some ⟨go17, 0, none⟩) x6_1.length co10) y213 := (by rw [hw, Ny213.out]; exact HP18.1); clear HP18; have n0_ := Aside0.mk (hp_); have n1_ := Aside0.mk ((by rw [hw]; exact below_set (HB.out) GB17.out : Below w.heap.size w w19)); clear HO_6; clear HB; have HO_6 := n0_; have HB := n1_; clear n0_ n1_; clear hg hw hp_))
          (try simp only [← hl6_1])
          go_roundg k1
          case measure => have := HK1.out; omega
          case rel => exact ⟨(y213), (wrap64 (x17_1 + 1)), (by first | rfl | (simp; done) | (simp [*]; done)), H', ⟨by have := HK1.out; omega⟩, ⟨by (try simp only [hl6_1]); (with_reducible repeat (first | apply Kd.R_alloc | apply Kd.R_drewN | apply Kd.R_drew)); exact HO_6.out⟩, ⟨Zz.rB_ HB.out⟩⟩
         ·
          rw [if_neg c16] at H
          exact absurd H (by simp)
        ·
         rw [if_neg c15] at H
         exact absurd H (by simp)
       ·
        rw [if_neg c13] at H
        exact absurd H (by simp)
      ·
       rw [if_neg c11] at H
       have c11b0 : decide (x17_1 < (y210.length : Int)) = false := decide_eq_false c11
       (try (have c11b9_hl6_1 := c11b0; rw [hl6_1] at c11b9_hl6_1))
       clear c11
       obtain rfl := Option.some.inj H
       have hcv20 := own_string (P := Try.prog) Try.underlying102 Try.underlying5 Try.underlying9 (Kd.own_of_R HO_6.out)
       go_wp2
       go_ret
       exact ⟨by first | rfl | (simp [errW_none, errW_some] <;> rfl) | (simp [*, errW_none, errW_some] <;> rfl), by repeat (first | (with_reducible first | exact HB.out | apply below_alloc | apply pw_below_drewN | apply below_drew1) | exact HB.out)⟩
   ·
    rw [if_neg c7] at H
    exact absurd H (by simp)
  ·
   rw [if_neg c6] at H
   exact absurd H (by simp)
 ·
  replace c4 := Bool.eq_false_iff.mpr c4
  subst c4
  have H1 : (some (⟨#[]⟩ : ByteArray)) = some r := by rw [if_neg (show ¬ (false = true) by decide)] at H; exact H
  clear H
  have H := H1
  clear H1
  obtain rfl := Option.some.inj H
  go_enter Try.func71, Try.ntmps71
  go_wp2_with (first | ((with_reducible refine gate_callee (f := 69) rfl ?_); refine goesL_ (some 9) rfl rfl Try.func69 (by kernel_rfl) rfl #[.int .i64 a1] rfl (by (try simp only [List.map_toArray, List.map_cons, List.map_nil]); first | done | rfl | (simp only [List.length_drop, List.length_take]; rfl)) ?_; (with_reducible refine (impl_widthOk.calls a1 false _ A3.out).mono ?_); rintro e w' ⟨rfl, ⟨nd, rfl⟩⟩; refine ⟨_, rfl, ?_⟩))
  go_ret
  exact ⟨by first | rfl | (simp [errW_none, errW_some] <;> rfl) | (simp [*, errW_none, errW_some] <;> rfl), by repeat (first | (with_reducible first | exact HB.out | apply below_alloc | apply pw_below_drewN | apply below_drew1) | exact HB.out)⟩

/-! ### impl_ValidStore: function 21 -/
mutual
def impl_ValidStore.j0 : Nat → Bool → Int → Int → List (S92) → List ByteArray → Option (Bool)
 | 0, _, _, _, _, _ => none
 | k + 1, x41, x215000, x215001, x215002, x215003 => if x41 = true then (some false) else (impl_ValidStore.l0 k 0 (⟨#[]⟩ : ByteArray) x215002 (x215002.length : Int) 0 x215000 x215001 x215002 x215003)
def impl_ValidStore.l0 : Nat → Int → ByteArray → List (S92) → Int → Int → Int → Int → List (S92) → List ByteArray → Option (Bool)
 | 0, _, _, _, _, _, _, _, _, _ => none
 | k + 1, x3, x4, x43, x44, x45, x215000, x215001, x215002, x215003 => if x45 < x44 then (if 0 ≤ x45 then (if x45 < (x43.length : Int) then ((impl_Sum.f k ((rd_T92 x43 x45).f0) x215000).bind fun t219 => (if (((rd_T92 x43 x45).f0).size : Int) < 1 then (some false) else (if (((rd_T92 x43 x45).f0).size : Int) > 7000 then (some false) else (if ((rd_T92 x43 x45).f1) < 0 then (some false) else (if ((rd_T92 x43 x45).f1) > 1000000 then (some false) else (if x45 > 0 then (if ((Op.bytesLess x4.toList t219.toList) = true) then (impl_ValidStore.l0 k (wrap64 (x3 + (((rd_T92 x43 x45).f0).size : Int))) t219 x43 x44 (wrap64 (x45 + 1)) x215000 x215001 x215002 x215003) else (some false)) else (impl_ValidStore.l0 k (wrap64 (x3 + (((rd_T92 x43 x45).f0).size : Int))) t219 x43 x44 (wrap64 (x45 + 1)) x215000 x215001 x215002 x215003))))))) else (none)) else (none)) else (some (decide (x3 ≤ x215001)))
end
def impl_ValidStore.f (k : Nat) (a0_0 : Int) (a0_1 : Int) (l0_2 : List (S92)) (l0_3 : List ByteArray) : Option (Bool) := (impl_widthOk.f a0_0).bind fun t215 => (if t215 = true then (if a0_1 < 0 then (impl_ValidStore.j0 k true a0_0 a0_1 l0_2 l0_3) else (if a0_1 > 60000 then (impl_ValidStore.j0 k true a0_0 a0_1 l0_2 l0_3) else (if (l0_2.length : Int) > 1000 then (impl_ValidStore.j0 k true a0_0 a0_1 l0_2 l0_3) else (if (l0_3.length : Int) > 10 then (impl_ValidStore.j0 k true a0_0 a0_1 l0_2 l0_3) else ((impl_ascending.f k l0_3 a0_0).bind fun t216 => (impl_ValidStore.j0 k (!t216) a0_0 a0_1 l0_2 l0_3)))))) else (impl_ValidStore.j0 k true a0_0 a0_1 l0_2 l0_3))
theorem impl_ValidStore.mono_l : ∀ k, (∀ y0 y1 y2 y3 y4, LeO (impl_ValidStore.j0 k y0 y1 y2 y3 y4) (impl_ValidStore.j0 (k + 1) y0 y1 y2 y3 y4)) ∧ (∀ y0 y1 y2 y3 y4 y5 y6 y7 y8, LeO (impl_ValidStore.l0 k y0 y1 y2 y3 y4 y5 y6 y7 y8) (impl_ValidStore.l0 (k + 1) y0 y1 y2 y3 y4 y5 y6 y7 y8))
 | 0 => ⟨fun _ _ _ _ _ r h => by simp [impl_ValidStore.j0] at h, fun _ _ _ _ _ _ _ _ _ r h => by simp [impl_ValidStore.l0] at h⟩
 | k + 1 => by
  obtain ⟨ih0, ih1⟩ := impl_ValidStore.mono_l k
  refine ⟨?_, ?_⟩
  ·
   intro y0 y1 y2 y3 y4
   unfold impl_ValidStore.j0
   repeat' first
   | (with_reducible exact ih0 _ _ _ _ _)
   | (with_reducible exact ih1 _ _ _ _ _ _ _ _ _)
   | (with_reducible exact impl_Sum.mono _ _ _)
   | (with_reducible exact impl_ascending.mono _ _ _)
   | (with_reducible exact LeO.refl _)
   | (with_reducible exact LeO.none _)
   | (with_reducible refine LeO.ite ?_ ?_)
   | (with_reducible refine LeO.bind ?_ (fun _ => ?_))
   | exact ih0 _ _ _ _ _
   | exact ih1 _ _ _ _ _ _ _ _ _
   | exact impl_Sum.mono _ _ _
   | exact impl_ascending.mono _ _ _
   | exact LeO.none _
   | refine LeO.ite ?_ ?_
   | refine LeO.bind ?_ (fun _ => ?_)
  ·
   intro y0 y1 y2 y3 y4 y5 y6 y7 y8
   unfold impl_ValidStore.l0
   repeat' first
   | (with_reducible exact ih0 _ _ _ _ _)
   | (with_reducible exact ih1 _ _ _ _ _ _ _ _ _)
   | (with_reducible exact impl_Sum.mono _ _ _)
   | (with_reducible exact impl_ascending.mono _ _ _)
   | (with_reducible exact LeO.refl _)
   | (with_reducible exact LeO.none _)
   | (with_reducible refine LeO.ite ?_ ?_)
   | (with_reducible refine LeO.bind ?_ (fun _ => ?_))
   | exact ih0 _ _ _ _ _
   | exact ih1 _ _ _ _ _ _ _ _ _
   | exact impl_Sum.mono _ _ _
   | exact impl_ascending.mono _ _ _
   | exact LeO.none _
   | refine LeO.ite ?_ ?_
   | refine LeO.bind ?_ (fun _ => ?_)
theorem impl_ValidStore.mono : ∀ a0 a1 a2 a3 k, LeO (impl_ValidStore.f k a0 a1 a2 a3) (impl_ValidStore.f (k + 1) a0 a1 a2 a3) := by
 intro a0 a1 a2 a3 k
 obtain ⟨ih0, ih1⟩ := impl_ValidStore.mono_l k
 unfold impl_ValidStore.f
 repeat' first
   | (with_reducible exact ih0 _ _ _ _ _)
   | (with_reducible exact ih1 _ _ _ _ _ _ _ _ _)
   | (with_reducible exact impl_Sum.mono _ _ _)
   | (with_reducible exact impl_ascending.mono _ _ _)
   | (with_reducible exact LeO.refl _)
   | (with_reducible exact LeO.none _)
   | (with_reducible refine LeO.ite ?_ ?_)
   | (with_reducible refine LeO.bind ?_ (fun _ => ?_))
   | exact ih0 _ _ _ _ _
   | exact ih1 _ _ _ _ _ _ _ _ _
   | exact impl_Sum.mono _ _ _
   | exact impl_ascending.mono _ _ _
   | exact LeO.none _
   | refine LeO.ite ?_ ?_
   | refine LeO.bind ?_ (fun _ => ?_)
set_option maxHeartbeats 8000000 in
set_option maxRecDepth 100000 in
theorem impl_ValidStore.calls (k : Nat) (a0_0 : Int) (a0_1 : Int) (A0_2 : Option Addr) (c0_2 : Nat) (l0_2 : List (S92)) (A0_3 : Option Addr) (c0_3 : Nat) (l0_3 : List ByteArray) (r : Bool) (w : World) (hr0_2 : Kd.C k92 w A0_2 l0_2.length l0_2) (hc0_2 : l0_2.length ≤ c0_2) (hr0_3 : Kd.C Kd.string w A0_3 l0_3.length l0_3) (hc0_3 : l0_3.length ≤ c0_3) (h : impl_ValidStore.f k a0_0 a0_1 l0_2 l0_3 = some r) :
  Calls Try.prog 21 #[.agg #[.int .i64 a0_0, .int .i64 a0_1, .slice A0_2 l0_2.length c0_2, .slice A0_3 l0_3.length c0_3]] w fun e w' => e = .returned (.bool r) ∧ Below w.heap.size w w' := by
 have hu36 := Try.underlying36
 have hu92 := Try.underlying92
 have HR0_2 := Aside0.mk hr0_2
 have HC0_2 := Aside0.mk hc0_2
 clear hr0_2 hc0_2
 have HR0_3 := Aside0.mk hr0_3
 have HC0_3 := Aside0.mk hc0_3
 clear hr0_3 hc0_3
 have HB := Aside0.mk (Below.refl w.heap.size w)
 have H : ((impl_widthOk.f a0_0).bind fun t215 => (if t215 = true then (if a0_1 < 0 then (impl_ValidStore.j0 k true a0_0 a0_1 l0_2 l0_3) else (if a0_1 > 60000 then (impl_ValidStore.j0 k true a0_0 a0_1 l0_2 l0_3) else (if (l0_2.length : Int) > 1000 then (impl_ValidStore.j0 k true a0_0 a0_1 l0_2 l0_3) else (if (l0_3.length : Int) > 10 then (impl_ValidStore.j0 k true a0_0 a0_1 l0_2 l0_3) else ((impl_ascending.f k l0_3 a0_0).bind fun t216 => (impl_ValidStore.j0 k (!t216) a0_0 a0_1 l0_2 l0_3)))))) else (impl_ValidStore.j0 k true a0_0 a0_1 l0_2 l0_3))) = some r := h
 clear h
 have HC2 := Aside0.mk H
 clear H
 go_enter Try.func21, Try.ntmps21
 go_upto_region 1 with (first | ((with_reducible refine gate_dst (N := 1) rfl ?_); (try (refine gate_guard (by rfl) ?_; dsimp only)); refine box_event ?hg (N := 1) ?hd (cs := #[.int .i64 a0_0, .int .i64 a0_1, .slice A0_2 l0_2.length c0_2, .slice A0_3 l0_3.length c0_3]) (t := 36) ?hr ?_; (case hd => rfl); (case hg => rfl); (case hr => first | (go_simp; done) | (go_simp; rfl)); intro gb214 hg w3 hbox hb; have n0_ := Aside0.mk (below_step (Zz.rB_ HB.out) hb); have n1_ := Aside0.mk (hbox); have n2_ := Aside0.mk ((by rw [hg]; exact (below_size (Zz.rB_ HB.out)) : w.heap.size ≤ gb214)); have n3_ := Aside0.mk ((by rw [hg]; exact (below_size (Zz.rB_ HB.out)) : w.heap.size ≤ gb214)); clear HB; have HB := n0_; have BK214 := n1_; have GW214 := n2_; have GE214 := n3_; clear n0_ n1_ n2_ n3_; clear hb hbox hg))
 (try simp only [Act.put, List.setIfInBounds_toArray, List.set_cons_zero, List.set_cons_succ])
 go_cut [41] (fun v41 wc => ∃ (kq : Nat) (x41_1 : Bool), v41 = .bool x41_1 ∧ Aside0 (impl_ValidStore.j0 kq x41_1 a0_0 a0_1 l0_2 l0_3 = some r) ∧ Aside0 (kq ≤ k) ∧ Aside0 (wc.heap[gb214]? = some (.cells #[.int .i64 a0_0, .int .i64 a0_1, (.slice A0_2 l0_2.length c0_2), (.slice A0_3 l0_3.length c0_3)] 36 (0, 0))) ∧ Aside0 (Below w.heap.size w wc))
 case first =>
  have H := HC2.out
  clear HC2
  replace H := Option.bind_eq_some_iff.mp H
  obtain ⟨t215, A40, H⟩ := H
  replace H : (if t215 = true then (if a0_1 < 0 then (impl_ValidStore.j0 k true a0_0 a0_1 l0_2 l0_3) else (if a0_1 > 60000 then (impl_ValidStore.j0 k true a0_0 a0_1 l0_2 l0_3) else (if (l0_2.length : Int) > 1000 then (impl_ValidStore.j0 k true a0_0 a0_1 l0_2 l0_3) else (if (l0_3.length : Int) > 10 then (impl_ValidStore.j0 k true a0_0 a0_1 l0_2 l0_3) else ((impl_ascending.f k l0_3 a0_0).bind fun t216 => (impl_ValidStore.j0 k (!t216) a0_0 a0_1 l0_2 l0_3)))))) else (impl_ValidStore.j0 k true a0_0 a0_1 l0_2 l0_3)) = some r := H
  have A4 := Aside0.mk A40
  clear A40
  by_cases c5 : t215 = true
  ·
   subst c5
   have H1 : (if a0_1 < 0 then (impl_ValidStore.j0 k true a0_0 a0_1 l0_2 l0_3) else (if a0_1 > 60000 then (impl_ValidStore.j0 k true a0_0 a0_1 l0_2 l0_3) else (if (l0_2.length : Int) > 1000 then (impl_ValidStore.j0 k true a0_0 a0_1 l0_2 l0_3) else (if (l0_3.length : Int) > 10 then (impl_ValidStore.j0 k true a0_0 a0_1 l0_2 l0_3) else ((impl_ascending.f k l0_3 a0_0).bind fun t216 => (impl_ValidStore.j0 k (!t216) a0_0 a0_1 l0_2 l0_3)))))) = some r := by rw [if_pos rfl] at H; exact H
   clear H
   have H := H1
   clear H1
   by_cases c6 : a0_1 < 0
   ·
    rw [if_pos c6] at H
    have c6b0 : decide (a0_1 < 0) = true := decide_eq_true c6
    clear c6
    (first | rw [c6b0] | (simp only [i64_w, i32_w]; rw [c6b0]) | skip)
    have H' := Aside0.mk H
    clear H
    have hcz7_0 : w3.cell? ⟨gb214, 0, none⟩ = some (.int .i64 a0_0) := (blk_cell BK214.out 0).trans rfl
    have hcz7_1 : w3.cell? ⟨gb214, 1, none⟩ = some (.int .i64 a0_1) := (blk_cell BK214.out 1).trans rfl
    have hcz7_2 : w3.cell? ⟨gb214, 2, none⟩ = some (.slice A0_2 l0_2.length c0_2) := (blk_cell BK214.out 2).trans rfl
    have hcz7_3 : w3.cell? ⟨gb214, 3, none⟩ = some (.slice A0_3 l0_3.length c0_3) := (blk_cell BK214.out 3).trans rfl
    have hfz7_0 := blk_frozen BK214.out 0
    have hfz7_1 := blk_frozen BK214.out 1
    have hfz7_2 := blk_frozen BK214.out 2
    have hfz7_3 := blk_frozen BK214.out 3
    go_wp2_with (first | ((with_reducible refine gate_callee (f := 69) rfl ?_); refine goesL_ (some 10) rfl rfl Try.func69 (by kernel_rfl) rfl #[.int .i64 a0_0] rfl (by (try simp only [List.map_toArray, List.map_cons, List.map_nil]); first | done | rfl | (simp only [List.length_drop, List.length_take]; rfl)) ?_; (with_reducible refine (impl_widthOk.calls a0_0 true _ A4.out).mono ?_); rintro e w' ⟨rfl, ⟨nd, rfl⟩⟩; refine ⟨_, rfl, ?_⟩))
    go_meet
    case rel => exact ⟨_, (true), (by first | rfl | (simp; done) | (simp [*]; done)), H', ⟨by first | omega | exact Nat.le_refl _⟩, ⟨Zz.rb_ BK214.out⟩, ⟨Zz.rB_ HB.out⟩⟩
   ·
    rw [if_neg c6] at H
    have c6b0 : decide (a0_1 < 0) = false := decide_eq_false c6
    clear c6
    (first | rw [c6b0] | (simp only [i64_w, i32_w]; rw [c6b0]) | skip)
    by_cases c8 : a0_1 > 60000
    ·
     rw [if_pos c8] at H
     have c8b0 : decide (60000 < a0_1) = true := decide_eq_true c8
     clear c8
     have H' := Aside0.mk H
     clear H
     have hcz9_0 : w3.cell? ⟨gb214, 0, none⟩ = some (.int .i64 a0_0) := (blk_cell BK214.out 0).trans rfl
     have hcz9_1 : w3.cell? ⟨gb214, 1, none⟩ = some (.int .i64 a0_1) := (blk_cell BK214.out 1).trans rfl
     have hcz9_2 : w3.cell? ⟨gb214, 2, none⟩ = some (.slice A0_2 l0_2.length c0_2) := (blk_cell BK214.out 2).trans rfl
     have hcz9_3 : w3.cell? ⟨gb214, 3, none⟩ = some (.slice A0_3 l0_3.length c0_3) := (blk_cell BK214.out 3).trans rfl
     have hfz9_0 := blk_frozen BK214.out 0
     have hfz9_1 := blk_frozen BK214.out 1
     have hfz9_2 := blk_frozen BK214.out 2
     have hfz9_3 := blk_frozen BK214.out 3
     go_wp2_with (first | ((with_reducible refine gate_callee (f := 69) rfl ?_); refine goesL_ (some 10) rfl rfl Try.func69 (by kernel_rfl) rfl #[.int .i64 a0_0] rfl (by (try simp only [List.map_toArray, List.map_cons, List.map_nil]); first | done | rfl | (simp only [List.length_drop, List.length_take]; rfl)) ?_; (with_reducible refine (impl_widthOk.calls a0_0 true _ A4.out).mono ?_); rintro e w' ⟨rfl, ⟨nd, rfl⟩⟩; refine ⟨_, rfl, ?_⟩))
     go_meet
     case rel => exact ⟨_, (true), (by first | rfl | (simp; done) | (simp [*]; done)), H', ⟨by first | omega | exact Nat.le_refl _⟩, ⟨Zz.rb_ BK214.out⟩, ⟨Zz.rB_ HB.out⟩⟩
    ·
     rw [if_neg c8] at H
     have c8b0 : decide (60000 < a0_1) = false := decide_eq_false c8
     clear c8
     by_cases c10 : (l0_2.length : Int) > 1000
     ·
      rw [if_pos c10] at H
      have c10b0 : decide (1000 < (l0_2.length : Int)) = true := decide_eq_true c10
      have c10b1 : decide (1000 < l0_2.length) = true := decide_eq_true (by omega)
      clear c10
      have H' := Aside0.mk H
      clear H
      have hcz11_0 : w3.cell? ⟨gb214, 0, none⟩ = some (.int .i64 a0_0) := (blk_cell BK214.out 0).trans rfl
      have hcz11_1 : w3.cell? ⟨gb214, 1, none⟩ = some (.int .i64 a0_1) := (blk_cell BK214.out 1).trans rfl
      have hcz11_2 : w3.cell? ⟨gb214, 2, none⟩ = some (.slice A0_2 l0_2.length c0_2) := (blk_cell BK214.out 2).trans rfl
      have hcz11_3 : w3.cell? ⟨gb214, 3, none⟩ = some (.slice A0_3 l0_3.length c0_3) := (blk_cell BK214.out 3).trans rfl
      have hfz11_0 := blk_frozen BK214.out 0
      have hfz11_1 := blk_frozen BK214.out 1
      have hfz11_2 := blk_frozen BK214.out 2
      have hfz11_3 := blk_frozen BK214.out 3
      go_wp2_with (first | ((with_reducible refine gate_callee (f := 69) rfl ?_); refine goesL_ (some 10) rfl rfl Try.func69 (by kernel_rfl) rfl #[.int .i64 a0_0] rfl (by (try simp only [List.map_toArray, List.map_cons, List.map_nil]); first | done | rfl | (simp only [List.length_drop, List.length_take]; rfl)) ?_; (with_reducible refine (impl_widthOk.calls a0_0 true _ A4.out).mono ?_); rintro e w' ⟨rfl, ⟨nd, rfl⟩⟩; refine ⟨_, rfl, ?_⟩))
      go_meet
      case rel => exact ⟨_, (true), (by first | rfl | (simp; done) | (simp [*]; done)), H', ⟨by first | omega | exact Nat.le_refl _⟩, ⟨Zz.rb_ BK214.out⟩, ⟨Zz.rB_ HB.out⟩⟩
     ·
      rw [if_neg c10] at H
      have c10b0 : decide (1000 < (l0_2.length : Int)) = false := decide_eq_false c10
      have c10b1 : decide (1000 < l0_2.length) = false := decide_eq_false (by omega)
      clear c10
      by_cases c12 : (l0_3.length : Int) > 10
      ·
       rw [if_pos c12] at H
       have c12b0 : decide (10 < (l0_3.length : Int)) = true := decide_eq_true c12
       have c12b1 : decide (10 < l0_3.length) = true := decide_eq_true (by omega)
       clear c12
       have H' := Aside0.mk H
       clear H
       have hcz13_0 : w3.cell? ⟨gb214, 0, none⟩ = some (.int .i64 a0_0) := (blk_cell BK214.out 0).trans rfl
       have hcz13_1 : w3.cell? ⟨gb214, 1, none⟩ = some (.int .i64 a0_1) := (blk_cell BK214.out 1).trans rfl
       have hcz13_2 : w3.cell? ⟨gb214, 2, none⟩ = some (.slice A0_2 l0_2.length c0_2) := (blk_cell BK214.out 2).trans rfl
       have hcz13_3 : w3.cell? ⟨gb214, 3, none⟩ = some (.slice A0_3 l0_3.length c0_3) := (blk_cell BK214.out 3).trans rfl
       have hfz13_0 := blk_frozen BK214.out 0
       have hfz13_1 := blk_frozen BK214.out 1
       have hfz13_2 := blk_frozen BK214.out 2
       have hfz13_3 := blk_frozen BK214.out 3
       go_wp2_with (first | ((with_reducible refine gate_callee (f := 69) rfl ?_); refine goesL_ (some 10) rfl rfl Try.func69 (by kernel_rfl) rfl #[.int .i64 a0_0] rfl (by (try simp only [List.map_toArray, List.map_cons, List.map_nil]); first | done | rfl | (simp only [List.length_drop, List.length_take]; rfl)) ?_; (with_reducible refine (impl_widthOk.calls a0_0 true _ A4.out).mono ?_); rintro e w' ⟨rfl, ⟨nd, rfl⟩⟩; refine ⟨_, rfl, ?_⟩))
       go_meet
       case rel => exact ⟨_, (true), (by first | rfl | (simp; done) | (simp [*]; done)), H', ⟨by first | omega | exact Nat.le_refl _⟩, ⟨Zz.rb_ BK214.out⟩, ⟨Zz.rB_ HB.out⟩⟩
      ·
       rw [if_neg c12] at H
       have c12b0 : decide (10 < (l0_3.length : Int)) = false := decide_eq_false c12
       have c12b1 : decide (10 < l0_3.length) = false := decide_eq_false (by omega)
       clear c12
       replace H := Option.bind_eq_some_iff.mp H
       obtain ⟨t216, A140, H⟩ := H
       replace H : (impl_ValidStore.j0 k (!t216) a0_0 a0_1 l0_2 l0_3) = some r := H
       have A14 := Aside0.mk A140
       clear A140
       have H' := Aside0.mk H
       clear H
       have hcz15_0 : w3.cell? ⟨gb214, 0, none⟩ = some (.int .i64 a0_0) := (blk_cell BK214.out 0).trans rfl
       have hcz15_1 : w3.cell? ⟨gb214, 1, none⟩ = some (.int .i64 a0_1) := (blk_cell BK214.out 1).trans rfl
       have hcz15_2 : w3.cell? ⟨gb214, 2, none⟩ = some (.slice A0_2 l0_2.length c0_2) := (blk_cell BK214.out 2).trans rfl
       have hcz15_3 : w3.cell? ⟨gb214, 3, none⟩ = some (.slice A0_3 l0_3.length c0_3) := (blk_cell BK214.out 3).trans rfl
       have hfz15_0 := blk_frozen BK214.out 0
       have hfz15_1 := blk_frozen BK214.out 1
       have hfz15_2 := blk_frozen BK214.out 2
       have hfz15_3 := blk_frozen BK214.out 3
       go_wp2_with (first | ((with_reducible refine gate_callee (f := 69) rfl ?_); refine goesL_ (some 10) rfl rfl Try.func69 (by kernel_rfl) rfl #[.int .i64 a0_0] rfl (by (try simp only [List.map_toArray, List.map_cons, List.map_nil]); first | done | rfl | (simp only [List.length_drop, List.length_take]; rfl)) ?_; (with_reducible refine (impl_widthOk.calls a0_0 true _ A4.out).mono ?_); rintro e w' ⟨rfl, ⟨nd, rfl⟩⟩; refine ⟨_, rfl, ?_⟩) | (go_at_call 70; (with_reducible refine (impl_ascending.calls k _ _ l0_3 a0_0 t216 _ ?side1 ?side2 A14.out).mono ?_); (case side1 => repeat (first | exact (Kd.C_below HR0_3.out (Zz.rB_ HB.out)) | (with_reducible refine Kd.C_alloc ?_ _) | (with_reducible refine Kd.C_drewN ?_ _) | (with_reducible refine Kd.C_drew ?_))); (case side2 => exact HC0_3.out); rintro e w' ⟨rfl, ⟨nd, rfl⟩⟩))
       go_meet
       case rel => exact ⟨_, (!t216), (by first | rfl | (simp; done) | (simp [*]; done)), H', ⟨by first | omega | exact Nat.le_refl _⟩, ⟨Zz.rb_ BK214.out⟩, ⟨Zz.rB_ HB.out⟩⟩
  ·
   replace c5 := Bool.eq_false_iff.mpr c5
   subst c5
   have H1 : (impl_ValidStore.j0 k true a0_0 a0_1 l0_2 l0_3) = some r := by rw [if_neg (show ¬ (false = true) by decide)] at H; exact H
   clear H
   have H := H1
   clear H1
   have H' := Aside0.mk H
   clear H
   have hcz16_0 : w3.cell? ⟨gb214, 0, none⟩ = some (.int .i64 a0_0) := (blk_cell BK214.out 0).trans rfl
   have hcz16_1 : w3.cell? ⟨gb214, 1, none⟩ = some (.int .i64 a0_1) := (blk_cell BK214.out 1).trans rfl
   have hcz16_2 : w3.cell? ⟨gb214, 2, none⟩ = some (.slice A0_2 l0_2.length c0_2) := (blk_cell BK214.out 2).trans rfl
   have hcz16_3 : w3.cell? ⟨gb214, 3, none⟩ = some (.slice A0_3 l0_3.length c0_3) := (blk_cell BK214.out 3).trans rfl
   have hfz16_0 := blk_frozen BK214.out 0
   have hfz16_1 := blk_frozen BK214.out 1
   have hfz16_2 := blk_frozen BK214.out 2
   have hfz16_3 := blk_frozen BK214.out 3
   go_wp2_with (first | ((with_reducible refine gate_callee (f := 69) rfl ?_); refine goesL_ (some 10) rfl rfl Try.func69 (by kernel_rfl) rfl #[.int .i64 a0_0] rfl (by (try simp only [List.map_toArray, List.map_cons, List.map_nil]); first | done | rfl | (simp only [List.length_drop, List.length_take]; rfl)) ?_; (with_reducible refine (impl_widthOk.calls a0_0 false _ A4.out).mono ?_); rintro e w' ⟨rfl, ⟨nd, rfl⟩⟩; refine ⟨_, rfl, ?_⟩))
   go_meet
   case rel => exact ⟨_, (true), (by first | rfl | (simp; done) | (simp [*]; done)), H', ⟨by first | omega | exact Nat.le_refl _⟩, ⟨Zz.rb_ BK214.out⟩, ⟨Zz.rB_ HB.out⟩⟩
 case rest =>
  clear HC2
  try clear c1
  try clear c2
  try clear p2
  try clear c5
  try clear c6
  try clear c6b0
  try clear c8
  try clear c8b0
  try clear c10
  try clear c10b0
  try clear c10b1
  try clear c12
  try clear c12b0
  try clear c12b1
  try clear hcz11_0
  try clear hcz11_1
  try clear hcz11_2
  try clear hcz11_3
  try clear hcz13_0
  try clear hcz13_1
  try clear hcz13_2
  try clear hcz13_3
  try clear hcz15_0
  try clear hcz15_1
  try clear hcz15_2
  try clear hcz15_3
  try clear hcz16_0
  try clear hcz16_1
  try clear hcz16_2
  try clear hcz16_3
  try clear hcz7_0
  try clear hcz7_1
  try clear hcz7_2
  try clear hcz7_3
  try clear hcz9_0
  try clear hcz9_1
  try clear hcz9_2
  try clear hcz9_3
  try clear hfz11_0
  try clear hfz11_1
  try clear hfz11_2
  try clear hfz11_3
  try clear hfz13_0
  try clear hfz13_1
  try clear hfz13_2
  try clear hfz13_3
  try clear hfz15_0
  try clear hfz15_1
  try clear hfz15_2
  try clear hfz15_3
  try clear hfz16_0
  try clear hfz16_1
  try clear hfz16_2
  try clear hfz16_3
  try clear hfz7_0
  try clear hfz7_1
  try clear hfz7_2
  try clear hfz7_3
  try clear hfz9_0
  try clear hfz9_1
  try clear hfz9_2
  try clear hfz9_3
  obtain ⟨kq, x41_1, rfl, HA, HJ1, BK214, HB⟩ := hcut
  cases kq with
  | zero => exact absurd HA.out (by simp [impl_ValidStore.j0])
  | succ kj1 =>
   have H := HA.out
   clear HA
   simp only [impl_ValidStore.j0] at H
   by_cases c17 : x41_1 = true
   ·
    subst c17
    have H1 : (some false) = some r := by rw [if_pos rfl] at H; exact H
    clear H
    have H := H1
    clear H1
    obtain rfl := Option.some.inj H
    go_wp2
    go_ret
    exact ⟨by first | rfl | (simp [errW_none, errW_some] <;> rfl) | (simp [*, errW_none, errW_some] <;> rfl), by repeat (first | (with_reducible first | exact HB.out | apply below_alloc | apply pw_below_drewN | apply below_drew1 | refine below_set ?_ GE214.out) | exact HB.out)⟩
   ·
    replace c17 := Bool.eq_false_iff.mpr c17
    subst c17
    have H1 : (impl_ValidStore.l0 kj1 0 (⟨#[]⟩ : ByteArray) l0_2 (l0_2.length : Int) 0 a0_0 a0_1 l0_2 l0_3) = some r := by rw [if_neg (show ¬ (false = true) by decide)] at H; exact H
    clear H
    have H := H1
    clear H1
    have H' := Aside0.mk H
    clear H
    have hcz18_0 : wc.cell? ⟨gb214, 0, none⟩ = some (.int .i64 a0_0) := (blk_cell BK214.out 0).trans rfl
    have hcz18_1 : wc.cell? ⟨gb214, 1, none⟩ = some (.int .i64 a0_1) := (blk_cell BK214.out 1).trans rfl
    have hcz18_2 : wc.cell? ⟨gb214, 2, none⟩ = some (.slice A0_2 l0_2.length c0_2) := (blk_cell BK214.out 2).trans rfl
    have hcz18_3 : wc.cell? ⟨gb214, 3, none⟩ = some (.slice A0_3 l0_3.length c0_3) := (blk_cell BK214.out 3).trans rfl
    have hfz18_0 := blk_frozen BK214.out 0
    have hfz18_1 := blk_frozen BK214.out 1
    have hfz18_2 := blk_frozen BK214.out 2
    have hfz18_3 := blk_frozen BK214.out 3
    go_wp2
    go_loopg [3, 4, 45] kj1 (fun kq v3 v4 v45 w' => ∃ (x3_2 : Int) (x4_2 : ByteArray) (x45_2 : Int), v3 = .int .i64 x3_2 ∧ v4 = .string x4_2 ∧ v45 = .int .i64 x45_2 ∧ Aside0 (impl_ValidStore.l0 kq x3_2 x4_2 l0_2 (l0_2.length : Int) x45_2 a0_0 a0_1 l0_2 l0_3 = some r) ∧ Aside0 (kq ≤ kj1) ∧ Aside0 (w'.heap[gb214]? = some (.cells #[.int .i64 a0_0, .int .i64 a0_1, (.slice A0_2 l0_2.length c0_2), (.slice A0_3 l0_3.length c0_3)] 36 (0, 0))) ∧ Aside0 (Below w.heap.size w w'))
    case atStart => exact ⟨(0), ((⟨#[]⟩ : ByteArray)), (0), (by first | rfl | (simp; done) | (simp [*]; done)), (by first | rfl | (simp; done) | (simp [*]; done)), (by first | rfl | (simp; done) | (simp [*]; done)), H', ⟨Nat.le_refl _⟩, ⟨Zz.rb_ BK214.out⟩, ⟨Zz.rB_ HB.out⟩⟩
    case round =>
     clear H'
     try clear c1
     try clear c2
     try clear p2
     try clear c5
     try clear c6
     try clear c6b0
     try clear c8
     try clear c8b0
     try clear c10
     try clear c10b0
     try clear c10b1
     try clear c12
     try clear c12b0
     try clear c12b1
     try clear c17
     try clear hcz11_0
     try clear hcz11_1
     try clear hcz11_2
     try clear hcz11_3
     try clear hcz13_0
     try clear hcz13_1
     try clear hcz13_2
     try clear hcz13_3
     try clear hcz15_0
     try clear hcz15_1
     try clear hcz15_2
     try clear hcz15_3
     try clear hcz16_0
     try clear hcz16_1
     try clear hcz16_2
     try clear hcz16_3
     try clear hcz18_0
     try clear hcz18_1
     try clear hcz18_2
     try clear hcz18_3
     try clear hcz7_0
     try clear hcz7_1
     try clear hcz7_2
     try clear hcz7_3
     try clear hcz9_0
     try clear hcz9_1
     try clear hcz9_2
     try clear hcz9_3
     try clear hfz11_0
     try clear hfz11_1
     try clear hfz11_2
     try clear hfz11_3
     try clear hfz13_0
     try clear hfz13_1
     try clear hfz13_2
     try clear hfz13_3
     try clear hfz15_0
     try clear hfz15_1
     try clear hfz15_2
     try clear hfz15_3
     try clear hfz16_0
     try clear hfz16_1
     try clear hfz16_2
     try clear hfz16_3
     try clear hfz18_0
     try clear hfz18_1
     try clear hfz18_2
     try clear hfz18_3
     try clear hfz7_0
     try clear hfz7_1
     try clear hfz7_2
     try clear hfz7_3
     try clear hfz9_0
     try clear hfz9_1
     try clear hfz9_2
     try clear hfz9_3
     try clear p2
     obtain ⟨x3_2, x4_2, x45_2, rfl, rfl, rfl, HA, HK2, BK214, HB⟩ := hrel
     cases gk with
     | zero => exact absurd HA.out (by simp [impl_ValidStore.l0])
     | succ k2 =>
      have H := HA.out
      clear HA
      simp only [impl_ValidStore.l0] at H
      by_cases c19 : x45_2 < (l0_2.length : Int)
      ·
       rw [if_pos c19] at H
       have c19b0 : decide (x45_2 < (l0_2.length : Int)) = true := decide_eq_true c19
       clear c19
       by_cases c20 : 0 ≤ x45_2
       ·
        rw [if_pos c20] at H
        have c20b0 : decide (0 ≤ x45_2) = true := decide_eq_true c20
        clear c20
        by_cases c21 : x45_2 < (l0_2.length : Int)
        ·
         rw [if_pos c21] at H
         have c21b0 : decide (x45_2 < (l0_2.length : Int)) = true := decide_eq_true c21
         clear c21
         replace H := Option.bind_eq_some_iff.mp H
         obtain ⟨t219, A220, H⟩ := H
         replace H : (if (((rd_T92 l0_2 x45_2).f0).size : Int) < 1 then (some false) else (if (((rd_T92 l0_2 x45_2).f0).size : Int) > 7000 then (some false) else (if ((rd_T92 l0_2 x45_2).f1) < 0 then (some false) else (if ((rd_T92 l0_2 x45_2).f1) > 1000000 then (some false) else (if x45_2 > 0 then (if ((Op.bytesLess x4_2.toList t219.toList) = true) then (impl_ValidStore.l0 k2 (wrap64 (x3_2 + (((rd_T92 l0_2 x45_2).f0).size : Int))) t219 l0_2 (l0_2.length : Int) (wrap64 (x45_2 + 1)) a0_0 a0_1 l0_2 l0_3) else (some false)) else (impl_ValidStore.l0 k2 (wrap64 (x3_2 + (((rd_T92 l0_2 x45_2).f0).size : Int))) t219 l0_2 (l0_2.length : Int) (wrap64 (x45_2 + 1)) a0_0 a0_1 l0_2 l0_3)))))) = some r := H
         have A22 := Aside0.mk A220
         clear A220
         by_cases c23 : (((rd_T92 l0_2 x45_2).f0).size : Int) < 1
         ·
          rw [if_pos c23] at H
          have c23b0 : decide ((((rd_T92 l0_2 x45_2).f0).size : Int) < 1) = true := decide_eq_true c23
          have c23b1 : decide (((rd_T92 l0_2 x45_2).f0).size < 1) = true := decide_eq_true (by omega)
          clear c23
          obtain rfl := Option.some.inj H
          have p217 : 0 ≤ (x45_2 : Int) := Zz.od_
          have q217 : x45_2 < (l0_2.length : Int) := Zz.od_
          obtain ⟨ad217, e217, hx217_0, hx217_1⟩ := at_T92 HR0_2.out x45_2 p217 q217
          cases e217
          replace hx217_0 := (HB.out.cell (World.block_lt_of_cell? w _ hx217_0)).trans hx217_0
          replace hx217_1 := (HB.out.cell (World.block_lt_of_cell? w _ hx217_1)).trans hx217_1
          replace p217 := eq_true p217
          replace q217 := eq_true q217
          go_wp2_with (first | ((with_reducible refine gate_dst (N := 6) rfl ?_); (try (refine gate_guard (by rfl) ?_; dsimp only)); refine box_event ?hg (N := 6) ?hd (cs := #[.string (⟨#[]⟩ : ByteArray), .int .i64 0]) (t := 92) ?hr ?_; (case hd => rfl); (case hg => rfl); (case hr => first | (go_simp; done) | (go_simp; rfl)); intro gb218 hg w24 hbox hb; have n0_ := Aside0.mk (blk_below (g := gb214) (o := .cells #[.int .i64 a0_0, .int .i64 a0_1, .slice (some ad217) l0_2.length c0_2, .slice A0_3 l0_3.length c0_3] 36 (0, 0)) (Zz.rb_ BK214.out) hb); have n1_ := Aside0.mk (below_step (Zz.rB_ HB.out) hb); have n2_ := Aside0.mk (hbox); have n3_ := Aside0.mk ((by rw [hg]; exact (below_size (Zz.rB_ HB.out)) : w.heap.size ≤ gb218)); have n4_ := Aside0.mk ((by rw [hg]; exact (below_size (Zz.rB_ HB.out)) : w.heap.size ≤ gb218)); have n5_ := Aside0.mk ((by rw [hg]; exact Nat.ne_of_lt (blk_lt (g := gb214) (o := .cells #[.int .i64 a0_0, .int .i64 a0_1, .slice (some ad217) l0_2.length c0_2, .slice A0_3 l0_3.length c0_3] 36 (0, 0)) (Zz.rb_ BK214.out)) : gb214 ≠ gb218)); have n6_ := Aside0.mk ((by rw [hg]; exact Nat.ne_of_gt (blk_lt (g := gb214) (o := .cells #[.int .i64 a0_0, .int .i64 a0_1, .slice (some ad217) l0_2.length c0_2, .slice A0_3 l0_3.length c0_3] 36 (0, 0)) (Zz.rb_ BK214.out)) : gb218 ≠ gb214)); clear BK214; clear HB; have BK214 := n0_; have HB := n1_; have BK218 := n2_; have GW218 := n3_; have GE218 := n4_; have NB214_218 := n5_; have NB218_214 := n6_; clear n0_ n1_ n2_ n3_ n4_ n5_ n6_; clear hb hbox hg; have hnb25 := NB218_214.out; have hnc25 := NB214_218.out; have hcz26_0 : w24.cell? ⟨gb218, 0, none⟩ = some (.string (⟨#[]⟩ : ByteArray)) := (blk_cell BK218.out 0).trans rfl; have hcz26_1 : w24.cell? ⟨gb218, 1, none⟩ = some (.int .i64 0) := (blk_cell BK218.out 1).trans rfl; have hfz26_0 := blk_frozen BK218.out 0; have hfz26_1 := blk_frozen BK218.out 1; have hcz27_0 : w24.cell? ⟨gb214, 0, none⟩ = some (.int .i64 a0_0) := (blk_cell BK214.out 0).trans rfl; have hcz27_1 : w24.cell? ⟨gb214, 1, none⟩ = some (.int .i64 a0_1) := (blk_cell BK214.out 1).trans rfl; have hcz27_2 : w24.cell? ⟨gb214, 2, none⟩ = some (.slice (some ad217) l0_2.length c0_2) := (blk_cell BK214.out 2).trans rfl; have hcz27_3 : w24.cell? ⟨gb214, 3, none⟩ = some (.slice A0_3 l0_3.length c0_3) := (blk_cell BK214.out 3).trans rfl; have hfz27_0 := blk_frozen BK214.out 0; have hfz27_1 := blk_frozen BK214.out 1; have hfz27_2 := blk_frozen BK214.out 2; have hfz27_3 := blk_frozen BK214.out 3) | ((with_reducible refine gate_callee (f := 71) rfl ?_); refine goesL_ (some 54) rfl rfl Try.func71 (by kernel_rfl) rfl #[.string ((rd_T92 l0_2 x45_2).f0), .int .i64 a0_0] rfl (by (try simp only [List.map_toArray, List.map_cons, List.map_nil]); first | done | rfl | (simp only [List.length_drop, List.length_take]; rfl)) ?_; (with_reducible refine (impl_Sum.calls k2 ((rd_T92 l0_2 x45_2).f0) a0_0 t219 _ A22.out).mono ?_); rintro e w28 ⟨rfl, hb⟩; refine ⟨_, rfl, ?_⟩; have n0_ := Aside0.mk (blk_below (g := gb214) (o := .cells #[.int .i64 a0_0, .int .i64 a0_1, .slice (some ad217) l0_2.length c0_2, .slice A0_3 l0_3.length c0_3] 36 (0, 0)) (by (with_reducible repeat (first | refine blk_drewN ?_ _ | refine blk_drew ?_ | refine blk_alloc ?_ _)); refine blk_far ?_ NB214_218.out _; (with_reducible repeat (first | refine blk_drewN ?_ _ | refine blk_drew ?_ | refine blk_alloc ?_ _)); refine blk_far ?_ NB214_218.out _; (with_reducible repeat (first | refine blk_drewN ?_ _ | refine blk_drew ?_ | refine blk_alloc ?_ _)); exact BK214.out) hb); have n1_ := Aside0.mk (blk_below (g := gb218) (o := .cells #[.string ((rd_T92 l0_2 x45_2).f0), .int .i64 ((rd_T92 l0_2 x45_2).f1)] 92 (0, 0)) (by (with_reducible repeat (first | refine blk_drewN ?_ _ | refine blk_drew ?_ | refine blk_alloc ?_ _)); refine blk_put (cs := #[.string ((rd_T92 l0_2 x45_2).f0), .int .i64 0]) ?_ 1 _ rfl; (with_reducible repeat (first | refine blk_drewN ?_ _ | refine blk_drew ?_ | refine blk_alloc ?_ _)); refine blk_put (cs := #[.string (⟨#[]⟩ : ByteArray), .int .i64 0]) ?_ 0 _ rfl; (with_reducible repeat (first | refine blk_drewN ?_ _ | refine blk_drew ?_ | refine blk_alloc ?_ _)); exact BK218.out) hb); have n2_ := Aside0.mk (below_step (Zz.rB_ HB.out) hb); clear BK214; clear BK218; clear HB; have BK214 := n0_; have BK218 := n1_; have HB := n2_; clear n0_ n1_ n2_; (try clear hb); (try clear hb2); (try clear hk); (try clear hi); have hcz29_0 : w28.cell? ⟨gb218, 0, none⟩ = some (.string ((rd_T92 l0_2 x45_2).f0)) := (blk_cell BK218.out 0).trans rfl; have hcz29_1 : w28.cell? ⟨gb218, 1, none⟩ = some (.int .i64 ((rd_T92 l0_2 x45_2).f1)) := (blk_cell BK218.out 1).trans rfl; have hfz29_0 := blk_frozen BK218.out 0; have hfz29_1 := blk_frozen BK218.out 1))
          go_ret
          exact ⟨by first | rfl | (simp [errW_none, errW_some] <;> rfl) | (simp [*, errW_none, errW_some] <;> rfl), by repeat (first | (with_reducible first | exact HB.out | apply below_alloc | apply pw_below_drewN | apply below_drew1 | refine below_set ?_ GE214.out | refine below_set ?_ GE218.out) | exact HB.out)⟩
         ·
          rw [if_neg c23] at H
          have c23b0 : decide ((((rd_T92 l0_2 x45_2).f0).size : Int) < 1) = false := decide_eq_false c23
          have c23b1 : decide (((rd_T92 l0_2 x45_2).f0).size < 1) = false := decide_eq_false (by omega)
          clear c23
          by_cases c30 : (((rd_T92 l0_2 x45_2).f0).size : Int) > 7000
          ·
           rw [if_pos c30] at H
           have c30b0 : decide (7000 < (((rd_T92 l0_2 x45_2).f0).size : Int)) = true := decide_eq_true c30
           have c30b1 : decide (7000 < ((rd_T92 l0_2 x45_2).f0).size) = true := decide_eq_true (by omega)
           clear c30
           obtain rfl := Option.some.inj H
           have p217 : 0 ≤ (x45_2 : Int) := Zz.od_
           have q217 : x45_2 < (l0_2.length : Int) := Zz.od_
           obtain ⟨ad217, e217, hx217_0, hx217_1⟩ := at_T92 HR0_2.out x45_2 p217 q217
           cases e217
           replace hx217_0 := (HB.out.cell (World.block_lt_of_cell? w _ hx217_0)).trans hx217_0
           replace hx217_1 := (HB.out.cell (World.block_lt_of_cell? w _ hx217_1)).trans hx217_1
           replace p217 := eq_true p217
           replace q217 := eq_true q217
           go_wp2_with (first | ((with_reducible refine gate_dst (N := 6) rfl ?_); (try (refine gate_guard (by rfl) ?_; dsimp only)); refine box_event ?hg (N := 6) ?hd (cs := #[.string (⟨#[]⟩ : ByteArray), .int .i64 0]) (t := 92) ?hr ?_; (case hd => rfl); (case hg => rfl); (case hr => first | (go_simp; done) | (go_simp; rfl)); intro gb218 hg w31 hbox hb; have n0_ := Aside0.mk (blk_below (g := gb214) (o := .cells #[.int .i64 a0_0, .int .i64 a0_1, .slice (some ad217) l0_2.length c0_2, .slice A0_3 l0_3.length c0_3] 36 (0, 0)) (Zz.rb_ BK214.out) hb); have n1_ := Aside0.mk (below_step (Zz.rB_ HB.out) hb); have n2_ := Aside0.mk (hbox); have n3_ := Aside0.mk ((by rw [hg]; exact (below_size (Zz.rB_ HB.out)) : w.heap.size ≤ gb218)); have n4_ := Aside0.mk ((by rw [hg]; exact (below_size (Zz.rB_ HB.out)) : w.heap.size ≤ gb218)); have n5_ := Aside0.mk ((by rw [hg]; exact Nat.ne_of_lt (blk_lt (g := gb214) (o := .cells #[.int .i64 a0_0, .int .i64 a0_1, .slice (some ad217) l0_2.length c0_2, .slice A0_3 l0_3.length c0_3] 36 (0, 0)) (Zz.rb_ BK214.out)) : gb214 ≠ gb218)); have n6_ := Aside0.mk ((by rw [hg]; exact Nat.ne_of_gt (blk_lt (g := gb214) (o := .cells #[.int .i64 a0_0, .int .i64 a0_1, .slice (some ad217) l0_2.length c0_2, .slice A0_3 l0_3.length c0_3] 36 (0, 0)) (Zz.rb_ BK214.out)) : gb218 ≠ gb214)); clear BK214; clear HB; have BK214 := n0_; have HB := n1_; have BK218 := n2_; have GW218 := n3_; have GE218 := n4_; have NB214_218 := n5_; have NB218_214 := n6_; clear n0_ n1_ n2_ n3_ n4_ n5_ n6_; clear hb hbox hg; have hnb32 := NB218_214.out; have hnc32 := NB214_218.out; have hcz33_0 : w31.cell? ⟨gb218, 0, none⟩ = some (.string (⟨#[]⟩ : ByteArray)) := (blk_cell BK218.out 0).trans rfl; have hcz33_1 : w31.cell? ⟨gb218, 1, none⟩ = some (.int .i64 0) := (blk_cell BK218.out 1).trans rfl; have hfz33_0 := blk_frozen BK218.out 0; have hfz33_1 := blk_frozen BK218.out 1; have hcz34_0 : w31.cell? ⟨gb214, 0, none⟩ = some (.int .i64 a0_0) := (blk_cell BK214.out 0).trans rfl; have hcz34_1 : w31.cell? ⟨gb214, 1, none⟩ = some (.int .i64 a0_1) := (blk_cell BK214.out 1).trans rfl; have hcz34_2 : w31.cell? ⟨gb214, 2, none⟩ = some (.slice (some ad217) l0_2.length c0_2) := (blk_cell BK214.out 2).trans rfl; have hcz34_3 : w31.cell? ⟨gb214, 3, none⟩ = some (.slice A0_3 l0_3.length c0_3) := (blk_cell BK214.out 3).trans rfl; have hfz34_0 := blk_frozen BK214.out 0; have hfz34_1 := blk_frozen BK214.out 1; have hfz34_2 := blk_frozen BK214.out 2; have hfz34_3 := blk_frozen BK214.out 3) | ((with_reducible refine gate_callee (f := 71) rfl ?_); refine goesL_ (some 54) rfl rfl Try.func71 (by kernel_rfl) rfl #[.string ((rd_T92 l0_2 x45_2).f0), .int .i64 a0_0] rfl (by (try simp only [List.map_toArray, List.map_cons, List.map_nil]); first | done | rfl | (simp only [List.length_drop, List.length_take]; rfl)) ?_; (with_reducible refine (impl_Sum.calls k2 ((rd_T92 l0_2 x45_2).f0) a0_0 t219 _ A22.out).mono ?_); rintro e w35 ⟨rfl, hb⟩; refine ⟨_, rfl, ?_⟩; have n0_ := Aside0.mk (blk_below (g := gb214) (o := .cells #[.int .i64 a0_0, .int .i64 a0_1, .slice (some ad217) l0_2.length c0_2, .slice A0_3 l0_3.length c0_3] 36 (0, 0)) (by (with_reducible repeat (first | refine blk_drewN ?_ _ | refine blk_drew ?_ | refine blk_alloc ?_ _)); refine blk_far ?_ NB214_218.out _; (with_reducible repeat (first | refine blk_drewN ?_ _ | refine blk_drew ?_ | refine blk_alloc ?_ _)); refine blk_far ?_ NB214_218.out _; (with_reducible repeat (first | refine blk_drewN ?_ _ | refine blk_drew ?_ | refine blk_alloc ?_ _)); exact BK214.out) hb); have n1_ := Aside0.mk (blk_below (g := gb218) (o := .cells #[.string ((rd_T92 l0_2 x45_2).f0), .int .i64 ((rd_T92 l0_2 x45_2).f1)] 92 (0, 0)) (by (with_reducible repeat (first | refine blk_drewN ?_ _ | refine blk_drew ?_ | refine blk_alloc ?_ _)); refine blk_put (cs := #[.string ((rd_T92 l0_2 x45_2).f0), .int .i64 0]) ?_ 1 _ rfl; (with_reducible repeat (first | refine blk_drewN ?_ _ | refine blk_drew ?_ | refine blk_alloc ?_ _)); refine blk_put (cs := #[.string (⟨#[]⟩ : ByteArray), .int .i64 0]) ?_ 0 _ rfl; (with_reducible repeat (first | refine blk_drewN ?_ _ | refine blk_drew ?_ | refine blk_alloc ?_ _)); exact BK218.out) hb); have n2_ := Aside0.mk (below_step (Zz.rB_ HB.out) hb); clear BK214; clear BK218; clear HB; have BK214 := n0_; have BK218 := n1_; have HB := n2_; clear n0_ n1_ n2_; (try clear hb); (try clear hb2); (try clear hk); (try clear hi); have hcz36_0 : w35.cell? ⟨gb218, 0, none⟩ = some (.string ((rd_T92 l0_2 x45_2).f0)) := (blk_cell BK218.out 0).trans rfl; have hcz36_1 : w35.cell? ⟨gb218, 1, none⟩ = some (.int .i64 ((rd_T92 l0_2 x45_2).f1)) := (blk_cell BK218.out 1).trans rfl; have hfz36_0 := blk_frozen BK218.out 0; have hfz36_1 := blk_frozen BK218.out 1))
           go_ret
           exact ⟨by first | rfl | (simp [errW_none, errW_some] <;> rfl) | (simp [*, errW_none, errW_some] <;> rfl), by repeat (first | (with_reducible first | exact HB.out | apply below_alloc | apply pw_below_drewN | apply below_drew1 | refine below_set ?_ GE214.out | refine below_set ?_ GE218.out) | exact HB.out)⟩
          ·
           rw [if_neg c30] at H
           have c30b0 : decide (7000 < (((rd_T92 l0_2 x45_2).f0).size : Int)) = false := decide_eq_false c30
           have c30b1 : decide (7000 < ((rd_T92 l0_2 x45_2).f0).size) = false := decide_eq_false (by omega)
           clear c30
           by_cases c37 : ((rd_T92 l0_2 x45_2).f1) < 0
           ·
            rw [if_pos c37] at H
            have c37b0 : decide (((rd_T92 l0_2 x45_2).f1) < 0) = true := decide_eq_true c37
            clear c37
            obtain rfl := Option.some.inj H
            have p217 : 0 ≤ (x45_2 : Int) := Zz.od_
            have q217 : x45_2 < (l0_2.length : Int) := Zz.od_
            obtain ⟨ad217, e217, hx217_0, hx217_1⟩ := at_T92 HR0_2.out x45_2 p217 q217
            cases e217
            replace hx217_0 := (HB.out.cell (World.block_lt_of_cell? w _ hx217_0)).trans hx217_0
            replace hx217_1 := (HB.out.cell (World.block_lt_of_cell? w _ hx217_1)).trans hx217_1
            replace p217 := eq_true p217
            replace q217 := eq_true q217
            go_wp2_with (first | ((with_reducible refine gate_dst (N := 6) rfl ?_); (try (refine gate_guard (by rfl) ?_; dsimp only)); refine box_event ?hg (N := 6) ?hd (cs := #[.string (⟨#[]⟩ : ByteArray), .int .i64 0]) (t := 92) ?hr ?_; (case hd => rfl); (case hg => rfl); (case hr => first | (go_simp; done) | (go_simp; rfl)); intro gb218 hg w38 hbox hb; have n0_ := Aside0.mk (blk_below (g := gb214) (o := .cells #[.int .i64 a0_0, .int .i64 a0_1, .slice (some ad217) l0_2.length c0_2, .slice A0_3 l0_3.length c0_3] 36 (0, 0)) (Zz.rb_ BK214.out) hb); have n1_ := Aside0.mk (below_step (Zz.rB_ HB.out) hb); have n2_ := Aside0.mk (hbox); have n3_ := Aside0.mk ((by rw [hg]; exact (below_size (Zz.rB_ HB.out)) : w.heap.size ≤ gb218)); have n4_ := Aside0.mk ((by rw [hg]; exact (below_size (Zz.rB_ HB.out)) : w.heap.size ≤ gb218)); have n5_ := Aside0.mk ((by rw [hg]; exact Nat.ne_of_lt (blk_lt (g := gb214) (o := .cells #[.int .i64 a0_0, .int .i64 a0_1, .slice (some ad217) l0_2.length c0_2, .slice A0_3 l0_3.length c0_3] 36 (0, 0)) (Zz.rb_ BK214.out)) : gb214 ≠ gb218)); have n6_ := Aside0.mk ((by rw [hg]; exact Nat.ne_of_gt (blk_lt (g := gb214) (o := .cells #[.int .i64 a0_0, .int .i64 a0_1, .slice (some ad217) l0_2.length c0_2, .slice A0_3 l0_3.length c0_3] 36 (0, 0)) (Zz.rb_ BK214.out)) : gb218 ≠ gb214)); clear BK214; clear HB; have BK214 := n0_; have HB := n1_; have BK218 := n2_; have GW218 := n3_; have GE218 := n4_; have NB214_218 := n5_; have NB218_214 := n6_; clear n0_ n1_ n2_ n3_ n4_ n5_ n6_; clear hb hbox hg; have hnb39 := NB218_214.out; have hnc39 := NB214_218.out; have hcz40_0 : w38.cell? ⟨gb218, 0, none⟩ = some (.string (⟨#[]⟩ : ByteArray)) := (blk_cell BK218.out 0).trans rfl; have hcz40_1 : w38.cell? ⟨gb218, 1, none⟩ = some (.int .i64 0) := (blk_cell BK218.out 1).trans rfl; have hfz40_0 := blk_frozen BK218.out 0; have hfz40_1 := blk_frozen BK218.out 1; have hcz41_0 : w38.cell? ⟨gb214, 0, none⟩ = some (.int .i64 a0_0) := (blk_cell BK214.out 0).trans rfl; have hcz41_1 : w38.cell? ⟨gb214, 1, none⟩ = some (.int .i64 a0_1) := (blk_cell BK214.out 1).trans rfl; have hcz41_2 : w38.cell? ⟨gb214, 2, none⟩ = some (.slice (some ad217) l0_2.length c0_2) := (blk_cell BK214.out 2).trans rfl; have hcz41_3 : w38.cell? ⟨gb214, 3, none⟩ = some (.slice A0_3 l0_3.length c0_3) := (blk_cell BK214.out 3).trans rfl; have hfz41_0 := blk_frozen BK214.out 0; have hfz41_1 := blk_frozen BK214.out 1; have hfz41_2 := blk_frozen BK214.out 2; have hfz41_3 := blk_frozen BK214.out 3) | ((with_reducible refine gate_callee (f := 71) rfl ?_); refine goesL_ (some 54) rfl rfl Try.func71 (by kernel_rfl) rfl #[.string ((rd_T92 l0_2 x45_2).f0), .int .i64 a0_0] rfl (by (try simp only [List.map_toArray, List.map_cons, List.map_nil]); first | done | rfl | (simp only [List.length_drop, List.length_take]; rfl)) ?_; (with_reducible refine (impl_Sum.calls k2 ((rd_T92 l0_2 x45_2).f0) a0_0 t219 _ A22.out).mono ?_); rintro e w42 ⟨rfl, hb⟩; refine ⟨_, rfl, ?_⟩; have n0_ := Aside0.mk (blk_below (g := gb214) (o := .cells #[.int .i64 a0_0, .int .i64 a0_1, .slice (some ad217) l0_2.length c0_2, .slice A0_3 l0_3.length c0_3] 36 (0, 0)) (by (with_reducible repeat (first | refine blk_drewN ?_ _ | refine blk_drew ?_ | refine blk_alloc ?_ _)); refine blk_far ?_ NB214_218.out _; (with_reducible repeat (first | refine blk_drewN ?_ _ | refine blk_drew ?_ | refine blk_alloc ?_ _)); refine blk_far ?_ NB214_218.out _; (with_reducible repeat (first | refine blk_drewN ?_ _ | refine blk_drew ?_ | refine blk_alloc ?_ _)); exact BK214.out) hb); have n1_ := Aside0.mk (blk_below (g := gb218) (o := .cells #[.string ((rd_T92 l0_2 x45_2).f0), .int .i64 ((rd_T92 l0_2 x45_2).f1)] 92 (0, 0)) (by (with_reducible repeat (first | refine blk_drewN ?_ _ | refine blk_drew ?_ | refine blk_alloc ?_ _)); refine blk_put (cs := #[.string ((rd_T92 l0_2 x45_2).f0), .int .i64 0]) ?_ 1 _ rfl; (with_reducible repeat (first | refine blk_drewN ?_ _ | refine blk_drew ?_ | refine blk_alloc ?_ _)); refine blk_put (cs := #[.string (⟨#[]⟩ : ByteArray), .int .i64 0]) ?_ 0 _ rfl; (with_reducible repeat (first | refine blk_drewN ?_ _ | refine blk_drew ?_ | refine blk_alloc ?_ _)); exact BK218.out) hb); have n2_ := Aside0.mk (below_step (Zz.rB_ HB.out) hb); clear BK214; clear BK218; clear HB; have BK214 := n0_; have BK218 := n1_; have HB := n2_; clear n0_ n1_ n2_; (try clear hb); (try clear hb2); (try clear hk); (try clear hi); have hcz43_0 : w42.cell? ⟨gb218, 0, none⟩ = some (.string ((rd_T92 l0_2 x45_2).f0)) := (blk_cell BK218.out 0).trans rfl; have hcz43_1 : w42.cell? ⟨gb218, 1, none⟩ = some (.int .i64 ((rd_T92 l0_2 x45_2).f1)) := (blk_cell BK218.out 1).trans rfl; have hfz43_0 := blk_frozen BK218.out 0; have hfz43_1 := blk_frozen BK218.out 1))
            go_ret
            exact ⟨by first | rfl | (simp [errW_none, errW_some] <;> rfl) | (simp [*, errW_none, errW_some] <;> rfl), by repeat (first | (with_reducible first | exact HB.out | apply below_alloc | apply pw_below_drewN | apply below_drew1 | refine below_set ?_ GE214.out | refine below_set ?_ GE218.out) | exact HB.out)⟩
           ·
            rw [if_neg c37] at H
            have c37b0 : decide (((rd_T92 l0_2 x45_2).f1) < 0) = false := decide_eq_false c37
            clear c37
            by_cases c44 : ((rd_T92 l0_2 x45_2).f1) > 1000000
            ·
             rw [if_pos c44] at H
             have c44b0 : decide (1000000 < ((rd_T92 l0_2 x45_2).f1)) = true := decide_eq_true c44
             clear c44
             obtain rfl := Option.some.inj H
             have p217 : 0 ≤ (x45_2 : Int) := Zz.od_
             have q217 : x45_2 < (l0_2.length : Int) := Zz.od_
             obtain ⟨ad217, e217, hx217_0, hx217_1⟩ := at_T92 HR0_2.out x45_2 p217 q217
             cases e217
             replace hx217_0 := (HB.out.cell (World.block_lt_of_cell? w _ hx217_0)).trans hx217_0
             replace hx217_1 := (HB.out.cell (World.block_lt_of_cell? w _ hx217_1)).trans hx217_1
             replace p217 := eq_true p217
             replace q217 := eq_true q217
             go_wp2_with (first | ((with_reducible refine gate_dst (N := 6) rfl ?_); (try (refine gate_guard (by rfl) ?_; dsimp only)); refine box_event ?hg (N := 6) ?hd (cs := #[.string (⟨#[]⟩ : ByteArray), .int .i64 0]) (t := 92) ?hr ?_; (case hd => rfl); (case hg => rfl); (case hr => first | (go_simp; done) | (go_simp; rfl)); intro gb218 hg w45 hbox hb; have n0_ := Aside0.mk (blk_below (g := gb214) (o := .cells #[.int .i64 a0_0, .int .i64 a0_1, .slice (some ad217) l0_2.length c0_2, .slice A0_3 l0_3.length c0_3] 36 (0, 0)) (Zz.rb_ BK214.out) hb); have n1_ := Aside0.mk (below_step (Zz.rB_ HB.out) hb); have n2_ := Aside0.mk (hbox); have n3_ := Aside0.mk ((by rw [hg]; exact (below_size (Zz.rB_ HB.out)) : w.heap.size ≤ gb218)); have n4_ := Aside0.mk ((by rw [hg]; exact (below_size (Zz.rB_ HB.out)) : w.heap.size ≤ gb218)); have n5_ := Aside0.mk ((by rw [hg]; exact Nat.ne_of_lt (blk_lt (g := gb214) (o := .cells #[.int .i64 a0_0, .int .i64 a0_1, .slice (some ad217) l0_2.length c0_2, .slice A0_3 l0_3.length c0_3] 36 (0, 0)) (Zz.rb_ BK214.out)) : gb214 ≠ gb218)); have n6_ := Aside0.mk ((by rw [hg]; exact Nat.ne_of_gt (blk_lt (g := gb214) (o := .cells #[.int .i64 a0_0, .int .i64 a0_1, .slice (some ad217) l0_2.length c0_2, .slice A0_3 l0_3.length c0_3] 36 (0, 0)) (Zz.rb_ BK214.out)) : gb218 ≠ gb214)); clear BK214; clear HB; have BK214 := n0_; have HB := n1_; have BK218 := n2_; have GW218 := n3_; have GE218 := n4_; have NB214_218 := n5_; have NB218_214 := n6_; clear n0_ n1_ n2_ n3_ n4_ n5_ n6_; clear hb hbox hg; have hnb46 := NB218_214.out; have hnc46 := NB214_218.out; have hcz47_0 : w45.cell? ⟨gb218, 0, none⟩ = some (.string (⟨#[]⟩ : ByteArray)) := (blk_cell BK218.out 0).trans rfl; have hcz47_1 : w45.cell? ⟨gb218, 1, none⟩ = some (.int .i64 0) := (blk_cell BK218.out 1).trans rfl; have hfz47_0 := blk_frozen BK218.out 0; have hfz47_1 := blk_frozen BK218.out 1; have hcz48_0 : w45.cell? ⟨gb214, 0, none⟩ = some (.int .i64 a0_0) := (blk_cell BK214.out 0).trans rfl; have hcz48_1 : w45.cell? ⟨gb214, 1, none⟩ = some (.int .i64 a0_1) := (blk_cell BK214.out 1).trans rfl; have hcz48_2 : w45.cell? ⟨gb214, 2, none⟩ = some (.slice (some ad217) l0_2.length c0_2) := (blk_cell BK214.out 2).trans rfl; have hcz48_3 : w45.cell? ⟨gb214, 3, none⟩ = some (.slice A0_3 l0_3.length c0_3) := (blk_cell BK214.out 3).trans rfl; have hfz48_0 := blk_frozen BK214.out 0; have hfz48_1 := blk_frozen BK214.out 1; have hfz48_2 := blk_frozen BK214.out 2; have hfz48_3 := blk_frozen BK214.out 3) | ((with_reducible refine gate_callee (f := 71) rfl ?_); refine goesL_ (some 54) rfl rfl Try.func71 (by kernel_rfl) rfl #[.string ((rd_T92 l0_2 x45_2).f0), .int .i64 a0_0] rfl (by (try simp only [List.map_toArray, List.map_cons, List.map_nil]); first | done | rfl | (simp only [List.length_drop, List.length_take]; rfl)) ?_; (with_reducible refine (impl_Sum.calls k2 ((rd_T92 l0_2 x45_2).f0) a0_0 t219 _ A22.out).mono ?_); rintro e w49 ⟨rfl, hb⟩; refine ⟨_, rfl, ?_⟩; have n0_ := Aside0.mk (blk_below (g := gb214) (o := .cells #[.int .i64 a0_0, .int .i64 a0_1, .slice (some ad217) l0_2.length c0_2, .slice A0_3 l0_3.length c0_3] 36 (0, 0)) (by (with_reducible repeat (first | refine blk_drewN ?_ _ | refine blk_drew ?_ | refine blk_alloc ?_ _)); refine blk_far ?_ NB214_218.out _; (with_reducible repeat (first | refine blk_drewN ?_ _ | refine blk_drew ?_ | refine blk_alloc ?_ _)); refine blk_far ?_ NB214_218.out _; (with_reducible repeat (first | refine blk_drewN ?_ _ | refine blk_drew ?_ | refine blk_alloc ?_ _)); exact BK214.out) hb); have n1_ := Aside0.mk (blk_below (g := gb218) (o := .cells #[.string ((rd_T92 l0_2 x45_2).f0), .int .i64 ((rd_T92 l0_2 x45_2).f1)] 92 (0, 0)) (by (with_reducible repeat (first | refine blk_drewN ?_ _ | refine blk_drew ?_ | refine blk_alloc ?_ _)); refine blk_put (cs := #[.string ((rd_T92 l0_2 x45_2).f0), .int .i64 0]) ?_ 1 _ rfl; (with_reducible repeat (first | refine blk_drewN ?_ _ | refine blk_drew ?_ | refine blk_alloc ?_ _)); refine blk_put (cs := #[.string (⟨#[]⟩ : ByteArray), .int .i64 0]) ?_ 0 _ rfl; (with_reducible repeat (first | refine blk_drewN ?_ _ | refine blk_drew ?_ | refine blk_alloc ?_ _)); exact BK218.out) hb); have n2_ := Aside0.mk (below_step (Zz.rB_ HB.out) hb); clear BK214; clear BK218; clear HB; have BK214 := n0_; have BK218 := n1_; have HB := n2_; clear n0_ n1_ n2_; (try clear hb); (try clear hb2); (try clear hk); (try clear hi); have hcz50_0 : w49.cell? ⟨gb218, 0, none⟩ = some (.string ((rd_T92 l0_2 x45_2).f0)) := (blk_cell BK218.out 0).trans rfl; have hcz50_1 : w49.cell? ⟨gb218, 1, none⟩ = some (.int .i64 ((rd_T92 l0_2 x45_2).f1)) := (blk_cell BK218.out 1).trans rfl; have hfz50_0 := blk_frozen BK218.out 0; have hfz50_1 := blk_frozen BK218.out 1))
             go_ret
             exact ⟨by first | rfl | (simp [errW_none, errW_some] <;> rfl) | (simp [*, errW_none, errW_some] <;> rfl), by repeat (first | (with_reducible first | exact HB.out | apply below_alloc | apply pw_below_drewN | apply below_drew1 | refine below_set ?_ GE214.out | refine below_set ?_ GE218.out) | exact HB.out)⟩
            ·
             rw [if_neg c44] at H
             have c44b0 : decide (1000000 < ((rd_T92 l0_2 x45_2).f1)) = false := decide_eq_false c44
             clear c44
             by_cases c51 : x45_2 > 0
             ·
              rw [if_pos c51] at H
              have c51b0 : decide (0 < x45_2) = true := decide_eq_true c51
              clear c51
              by_cases c52 : ((Op.bytesLess x4_2.toList t219.toList) = true)
              ·
               rw [if_pos c52] at H
               have c52b0 : (Op.bytesLess x4_2.toList t219.toList) = true := c52
               clear c52
               have H' := Aside0.mk H
               clear H
               have p217 : 0 ≤ (x45_2 : Int) := Zz.od_
               have q217 : x45_2 < (l0_2.length : Int) := Zz.od_
               obtain ⟨ad217, e217, hx217_0, hx217_1⟩ := at_T92 HR0_2.out x45_2 p217 q217
               cases e217
               replace hx217_0 := (HB.out.cell (World.block_lt_of_cell? w _ hx217_0)).trans hx217_0
               replace hx217_1 := (HB.out.cell (World.block_lt_of_cell? w _ hx217_1)).trans hx217_1
               replace p217 := eq_true p217
               replace q217 := eq_true q217
               go_wp2_with (first | ((with_reducible refine gate_dst (N := 6) rfl ?_); (try (refine gate_guard (by rfl) ?_; dsimp only)); refine box_event ?hg (N := 6) ?hd (cs := #[.string (⟨#[]⟩ : ByteArray), .int .i64 0]) (t := 92) ?hr ?_; (case hd => rfl); (case hg => rfl); (case hr => first | (go_simp; done) | (go_simp; rfl)); intro gb218 hg w53 hbox hb; have n0_ := Aside0.mk (blk_below (g := gb214) (o := .cells #[.int .i64 a0_0, .int .i64 a0_1, .slice (some ad217) l0_2.length c0_2, .slice A0_3 l0_3.length c0_3] 36 (0, 0)) (Zz.rb_ BK214.out) hb); have n1_ := Aside0.mk (below_step (Zz.rB_ HB.out) hb); have n2_ := Aside0.mk (hbox); have n3_ := Aside0.mk ((by rw [hg]; exact (below_size (Zz.rB_ HB.out)) : w.heap.size ≤ gb218)); have n4_ := Aside0.mk ((by rw [hg]; exact (below_size (Zz.rB_ HB.out)) : w.heap.size ≤ gb218)); have n5_ := Aside0.mk ((by rw [hg]; exact Nat.ne_of_lt (blk_lt (g := gb214) (o := .cells #[.int .i64 a0_0, .int .i64 a0_1, .slice (some ad217) l0_2.length c0_2, .slice A0_3 l0_3.length c0_3] 36 (0, 0)) (Zz.rb_ BK214.out)) : gb214 ≠ gb218)); have n6_ := Aside0.mk ((by rw [hg]; exact Nat.ne_of_gt (blk_lt (g := gb214) (o := .cells #[.int .i64 a0_0, .int .i64 a0_1, .slice (some ad217) l0_2.length c0_2, .slice A0_3 l0_3.length c0_3] 36 (0, 0)) (Zz.rb_ BK214.out)) : gb218 ≠ gb214)); clear BK214; clear HB; have BK214 := n0_; have HB := n1_; have BK218 := n2_; have GW218 := n3_; have GE218 := n4_; have NB214_218 := n5_; have NB218_214 := n6_; clear n0_ n1_ n2_ n3_ n4_ n5_ n6_; clear hb hbox hg; have hnb54 := NB218_214.out; have hnc54 := NB214_218.out; have hcz55_0 : w53.cell? ⟨gb218, 0, none⟩ = some (.string (⟨#[]⟩ : ByteArray)) := (blk_cell BK218.out 0).trans rfl; have hcz55_1 : w53.cell? ⟨gb218, 1, none⟩ = some (.int .i64 0) := (blk_cell BK218.out 1).trans rfl; have hfz55_0 := blk_frozen BK218.out 0; have hfz55_1 := blk_frozen BK218.out 1; have hcz56_0 : w53.cell? ⟨gb214, 0, none⟩ = some (.int .i64 a0_0) := (blk_cell BK214.out 0).trans rfl; have hcz56_1 : w53.cell? ⟨gb214, 1, none⟩ = some (.int .i64 a0_1) := (blk_cell BK214.out 1).trans rfl; have hcz56_2 : w53.cell? ⟨gb214, 2, none⟩ = some (.slice (some ad217) l0_2.length c0_2) := (blk_cell BK214.out 2).trans rfl; have hcz56_3 : w53.cell? ⟨gb214, 3, none⟩ = some (.slice A0_3 l0_3.length c0_3) := (blk_cell BK214.out 3).trans rfl; have hfz56_0 := blk_frozen BK214.out 0; have hfz56_1 := blk_frozen BK214.out 1; have hfz56_2 := blk_frozen BK214.out 2; have hfz56_3 := blk_frozen BK214.out 3) | ((with_reducible refine gate_callee (f := 71) rfl ?_); refine goesL_ (some 54) rfl rfl Try.func71 (by kernel_rfl) rfl #[.string ((rd_T92 l0_2 x45_2).f0), .int .i64 a0_0] rfl (by (try simp only [List.map_toArray, List.map_cons, List.map_nil]); first | done | rfl | (simp only [List.length_drop, List.length_take]; rfl)) ?_; (with_reducible refine (impl_Sum.calls k2 ((rd_T92 l0_2 x45_2).f0) a0_0 t219 _ A22.out).mono ?_); rintro e w57 ⟨rfl, hb⟩; refine ⟨_, rfl, ?_⟩; have n0_ := Aside0.mk (blk_below (g := gb214) (o := .cells #[.int .i64 a0_0, .int .i64 a0_1, .slice (some ad217) l0_2.length c0_2, .slice A0_3 l0_3.length c0_3] 36 (0, 0)) (by (with_reducible repeat (first | refine blk_drewN ?_ _ | refine blk_drew ?_ | refine blk_alloc ?_ _)); refine blk_far ?_ NB214_218.out _; (with_reducible repeat (first | refine blk_drewN ?_ _ | refine blk_drew ?_ | refine blk_alloc ?_ _)); refine blk_far ?_ NB214_218.out _; (with_reducible repeat (first | refine blk_drewN ?_ _ | refine blk_drew ?_ | refine blk_alloc ?_ _)); exact BK214.out) hb); have n1_ := Aside0.mk (blk_below (g := gb218) (o := .cells #[.string ((rd_T92 l0_2 x45_2).f0), .int .i64 ((rd_T92 l0_2 x45_2).f1)] 92 (0, 0)) (by (with_reducible repeat (first | refine blk_drewN ?_ _ | refine blk_drew ?_ | refine blk_alloc ?_ _)); refine blk_put (cs := #[.string ((rd_T92 l0_2 x45_2).f0), .int .i64 0]) ?_ 1 _ rfl; (with_reducible repeat (first | refine blk_drewN ?_ _ | refine blk_drew ?_ | refine blk_alloc ?_ _)); refine blk_put (cs := #[.string (⟨#[]⟩ : ByteArray), .int .i64 0]) ?_ 0 _ rfl; (with_reducible repeat (first | refine blk_drewN ?_ _ | refine blk_drew ?_ | refine blk_alloc ?_ _)); exact BK218.out) hb); have n2_ := Aside0.mk (below_step (Zz.rB_ HB.out) hb); clear BK214; clear BK218; clear HB; have BK214 := n0_; have BK218 := n1_; have HB := n2_; clear n0_ n1_ n2_; (try clear hb); (try clear hb2); (try clear hk); (try clear hi); have hcz58_0 : w57.cell? ⟨gb218, 0, none⟩ = some (.string ((rd_T92 l0_2 x45_2).f0)) := (blk_cell BK218.out 0).trans rfl; have hcz58_1 : w57.cell? ⟨gb218, 1, none⟩ = some (.int .i64 ((rd_T92 l0_2 x45_2).f1)) := (blk_cell BK218.out 1).trans rfl; have hfz58_0 := blk_frozen BK218.out 0; have hfz58_1 := blk_frozen BK218.out 1))
               go_roundg k2
               case measure => have := HJ1.out; have := HK2.out; omega
               case rel => exact ⟨(wrap64 (x3_2 + (((rd_T92 l0_2 x45_2).f0).size : Int))), (t219), (wrap64 (x45_2 + 1)), (by first | rfl | (simp; done) | (simp [*]; done)), (by first | rfl | (simp; done) | (simp [*]; done)), (by first | rfl | (simp; done) | (simp [*]; done)), H', ⟨by have := HJ1.out; have := HK2.out; omega⟩, ⟨Zz.rb_ BK214.out⟩, ⟨Zz.rB_ HB.out⟩⟩
              ·
               rw [if_neg c52] at H
               have c52b0 : (Op.bytesLess x4_2.toList t219.toList) = false := by simpa using c52
               clear c52
               obtain rfl := Option.some.inj H
               have p217 : 0 ≤ (x45_2 : Int) := Zz.od_
               have q217 : x45_2 < (l0_2.length : Int) := Zz.od_
               obtain ⟨ad217, e217, hx217_0, hx217_1⟩ := at_T92 HR0_2.out x45_2 p217 q217
               cases e217
               replace hx217_0 := (HB.out.cell (World.block_lt_of_cell? w _ hx217_0)).trans hx217_0
               replace hx217_1 := (HB.out.cell (World.block_lt_of_cell? w _ hx217_1)).trans hx217_1
               replace p217 := eq_true p217
               replace q217 := eq_true q217
               go_wp2_with (first | ((with_reducible refine gate_dst (N := 6) rfl ?_); (try (refine gate_guard (by rfl) ?_; dsimp only)); refine box_event ?hg (N := 6) ?hd (cs := #[.string (⟨#[]⟩ : ByteArray), .int .i64 0]) (t := 92) ?hr ?_; (case hd => rfl); (case hg => rfl); (case hr => first | (go_simp; done) | (go_simp; rfl)); intro gb218 hg w59 hbox hb; have n0_ := Aside0.mk (blk_below (g := gb214) (o := .cells #[.int .i64 a0_0, .int .i64 a0_1, .slice (some ad217) l0_2.length c0_2, .slice A0_3 l0_3.length c0_3] 36 (0, 0)) (Zz.rb_ BK214.out) hb); have n1_ := Aside0.mk (below_step (Zz.rB_ HB.out) hb); have n2_ := Aside0.mk (hbox); have n3_ := Aside0.mk ((by rw [hg]; exact (below_size (Zz.rB_ HB.out)) : w.heap.size ≤ gb218)); have n4_ := Aside0.mk ((by rw [hg]; exact (below_size (Zz.rB_ HB.out)) : w.heap.size ≤ gb218)); have n5_ := Aside0.mk ((by rw [hg]; exact Nat.ne_of_lt (blk_lt (g := gb214) (o := .cells #[.int .i64 a0_0, .int .i64 a0_1, .slice (some ad217) l0_2.length c0_2, .slice A0_3 l0_3.length c0_3] 36 (0, 0)) (Zz.rb_ BK214.out)) : gb214 ≠ gb218)); have n6_ := Aside0.mk ((by rw [hg]; exact Nat.ne_of_gt (blk_lt (g := gb214) (o := .cells #[.int .i64 a0_0, .int .i64 a0_1, .slice (some ad217) l0_2.length c0_2, .slice A0_3 l0_3.length c0_3] 36 (0, 0)) (Zz.rb_ BK214.out)) : gb218 ≠ gb214)); clear BK214; clear HB; have BK214 := n0_; have HB := n1_; have BK218 := n2_; have GW218 := n3_; have GE218 := n4_; have NB214_218 := n5_; have NB218_214 := n6_; clear n0_ n1_ n2_ n3_ n4_ n5_ n6_; clear hb hbox hg; have hnb60 := NB218_214.out; have hnc60 := NB214_218.out; have hcz61_0 : w59.cell? ⟨gb218, 0, none⟩ = some (.string (⟨#[]⟩ : ByteArray)) := (blk_cell BK218.out 0).trans rfl; have hcz61_1 : w59.cell? ⟨gb218, 1, none⟩ = some (.int .i64 0) := (blk_cell BK218.out 1).trans rfl; have hfz61_0 := blk_frozen BK218.out 0; have hfz61_1 := blk_frozen BK218.out 1; have hcz62_0 : w59.cell? ⟨gb214, 0, none⟩ = some (.int .i64 a0_0) := (blk_cell BK214.out 0).trans rfl; have hcz62_1 : w59.cell? ⟨gb214, 1, none⟩ = some (.int .i64 a0_1) := (blk_cell BK214.out 1).trans rfl; have hcz62_2 : w59.cell? ⟨gb214, 2, none⟩ = some (.slice (some ad217) l0_2.length c0_2) := (blk_cell BK214.out 2).trans rfl; have hcz62_3 : w59.cell? ⟨gb214, 3, none⟩ = some (.slice A0_3 l0_3.length c0_3) := (blk_cell BK214.out 3).trans rfl; have hfz62_0 := blk_frozen BK214.out 0; have hfz62_1 := blk_frozen BK214.out 1; have hfz62_2 := blk_frozen BK214.out 2; have hfz62_3 := blk_frozen BK214.out 3) | ((with_reducible refine gate_callee (f := 71) rfl ?_); refine goesL_ (some 54) rfl rfl Try.func71 (by kernel_rfl) rfl #[.string ((rd_T92 l0_2 x45_2).f0), .int .i64 a0_0] rfl (by (try simp only [List.map_toArray, List.map_cons, List.map_nil]); first | done | rfl | (simp only [List.length_drop, List.length_take]; rfl)) ?_; (with_reducible refine (impl_Sum.calls k2 ((rd_T92 l0_2 x45_2).f0) a0_0 t219 _ A22.out).mono ?_); rintro e w63 ⟨rfl, hb⟩; refine ⟨_, rfl, ?_⟩; have n0_ := Aside0.mk (blk_below (g := gb214) (o := .cells #[.int .i64 a0_0, .int .i64 a0_1, .slice (some ad217) l0_2.length c0_2, .slice A0_3 l0_3.length c0_3] 36 (0, 0)) (by (with_reducible repeat (first | refine blk_drewN ?_ _ | refine blk_drew ?_ | refine blk_alloc ?_ _)); refine blk_far ?_ NB214_218.out _; (with_reducible repeat (first | refine blk_drewN ?_ _ | refine blk_drew ?_ | refine blk_alloc ?_ _)); refine blk_far ?_ NB214_218.out _; (with_reducible repeat (first | refine blk_drewN ?_ _ | refine blk_drew ?_ | refine blk_alloc ?_ _)); exact BK214.out) hb); have n1_ := Aside0.mk (blk_below (g := gb218) (o := .cells #[.string ((rd_T92 l0_2 x45_2).f0), .int .i64 ((rd_T92 l0_2 x45_2).f1)] 92 (0, 0)) (by (with_reducible repeat (first | refine blk_drewN ?_ _ | refine blk_drew ?_ | refine blk_alloc ?_ _)); refine blk_put (cs := #[.string ((rd_T92 l0_2 x45_2).f0), .int .i64 0]) ?_ 1 _ rfl; (with_reducible repeat (first | refine blk_drewN ?_ _ | refine blk_drew ?_ | refine blk_alloc ?_ _)); refine blk_put (cs := #[.string (⟨#[]⟩ : ByteArray), .int .i64 0]) ?_ 0 _ rfl; (with_reducible repeat (first | refine blk_drewN ?_ _ | refine blk_drew ?_ | refine blk_alloc ?_ _)); exact BK218.out) hb); have n2_ := Aside0.mk (below_step (Zz.rB_ HB.out) hb); clear BK214; clear BK218; clear HB; have BK214 := n0_; have BK218 := n1_; have HB := n2_; clear n0_ n1_ n2_; (try clear hb); (try clear hb2); (try clear hk); (try clear hi); have hcz64_0 : w63.cell? ⟨gb218, 0, none⟩ = some (.string ((rd_T92 l0_2 x45_2).f0)) := (blk_cell BK218.out 0).trans rfl; have hcz64_1 : w63.cell? ⟨gb218, 1, none⟩ = some (.int .i64 ((rd_T92 l0_2 x45_2).f1)) := (blk_cell BK218.out 1).trans rfl; have hfz64_0 := blk_frozen BK218.out 0; have hfz64_1 := blk_frozen BK218.out 1))
               go_ret
               exact ⟨by first | rfl | (simp [errW_none, errW_some] <;> rfl) | (simp [*, errW_none, errW_some] <;> rfl), by repeat (first | (with_reducible first | exact HB.out | apply below_alloc | apply pw_below_drewN | apply below_drew1 | refine below_set ?_ GE214.out | refine below_set ?_ GE218.out) | exact HB.out)⟩
             ·
              rw [if_neg c51] at H
              have c51b0 : decide (0 < x45_2) = false := decide_eq_false c51
              clear c51
              have H' := Aside0.mk H
              clear H
              have p217 : 0 ≤ (x45_2 : Int) := Zz.od_
              have q217 : x45_2 < (l0_2.length : Int) := Zz.od_
              obtain ⟨ad217, e217, hx217_0, hx217_1⟩ := at_T92 HR0_2.out x45_2 p217 q217
              cases e217
              replace hx217_0 := (HB.out.cell (World.block_lt_of_cell? w _ hx217_0)).trans hx217_0
              replace hx217_1 := (HB.out.cell (World.block_lt_of_cell? w _ hx217_1)).trans hx217_1
              replace p217 := eq_true p217
              replace q217 := eq_true q217
              go_wp2_with (first | ((with_reducible refine gate_dst (N := 6) rfl ?_); (try (refine gate_guard (by rfl) ?_; dsimp only)); refine box_event ?hg (N := 6) ?hd (cs := #[.string (⟨#[]⟩ : ByteArray), .int .i64 0]) (t := 92) ?hr ?_; (case hd => rfl); (case hg => rfl); (case hr => first | (go_simp; done) | (go_simp; rfl)); intro gb218 hg w65 hbox hb; have n0_ := Aside0.mk (blk_below (g := gb214) (o := .cells #[.int .i64 a0_0, .int .i64 a0_1, .slice (some ad217) l0_2.length c0_2, .slice A0_3 l0_3.length c0_3] 36 (0, 0)) (Zz.rb_ BK214.out) hb); have n1_ := Aside0.mk (below_step (Zz.rB_ HB.out) hb); have n2_ := Aside0.mk (hbox); have n3_ := Aside0.mk ((by rw [hg]; exact (below_size (Zz.rB_ HB.out)) : w.heap.size ≤ gb218)); have n4_ := Aside0.mk ((by rw [hg]; exact (below_size (Zz.rB_ HB.out)) : w.heap.size ≤ gb218)); have n5_ := Aside0.mk ((by rw [hg]; exact Nat.ne_of_lt (blk_lt (g := gb214) (o := .cells #[.int .i64 a0_0, .int .i64 a0_1, .slice (some ad217) l0_2.length c0_2, .slice A0_3 l0_3.length c0_3] 36 (0, 0)) (Zz.rb_ BK214.out)) : gb214 ≠ gb218)); have n6_ := Aside0.mk ((by rw [hg]; exact Nat.ne_of_gt (blk_lt (g := gb214) (o := .cells #[.int .i64 a0_0, .int .i64 a0_1, .slice (some ad217) l0_2.length c0_2, .slice A0_3 l0_3.length c0_3] 36 (0, 0)) (Zz.rb_ BK214.out)) : gb218 ≠ gb214)); clear BK214; clear HB; have BK214 := n0_; have HB := n1_; have BK218 := n2_; have GW218 := n3_; have GE218 := n4_; have NB214_218 := n5_; have NB218_214 := n6_; clear n0_ n1_ n2_ n3_ n4_ n5_ n6_; clear hb hbox hg; have hnb66 := NB218_214.out; have hnc66 := NB214_218.out; have hcz67_0 : w65.cell? ⟨gb218, 0, none⟩ = some (.string (⟨#[]⟩ : ByteArray)) := (blk_cell BK218.out 0).trans rfl; have hcz67_1 : w65.cell? ⟨gb218, 1, none⟩ = some (.int .i64 0) := (blk_cell BK218.out 1).trans rfl; have hfz67_0 := blk_frozen BK218.out 0; have hfz67_1 := blk_frozen BK218.out 1; have hcz68_0 : w65.cell? ⟨gb214, 0, none⟩ = some (.int .i64 a0_0) := (blk_cell BK214.out 0).trans rfl; have hcz68_1 : w65.cell? ⟨gb214, 1, none⟩ = some (.int .i64 a0_1) := (blk_cell BK214.out 1).trans rfl; have hcz68_2 : w65.cell? ⟨gb214, 2, none⟩ = some (.slice (some ad217) l0_2.length c0_2) := (blk_cell BK214.out 2).trans rfl; have hcz68_3 : w65.cell? ⟨gb214, 3, none⟩ = some (.slice A0_3 l0_3.length c0_3) := (blk_cell BK214.out 3).trans rfl; have hfz68_0 := blk_frozen BK214.out 0; have hfz68_1 := blk_frozen BK214.out 1; have hfz68_2 := blk_frozen BK214.out 2; have hfz68_3 := blk_frozen BK214.out 3) | ((with_reducible refine gate_callee (f := 71) rfl ?_); refine goesL_ (some 54) rfl rfl Try.func71 (by kernel_rfl) rfl #[.string ((rd_T92 l0_2 x45_2).f0), .int .i64 a0_0] rfl (by (try simp only [List.map_toArray, List.map_cons, List.map_nil]); first | done | rfl | (simp only [List.length_drop, List.length_take]; rfl)) ?_; (with_reducible refine (impl_Sum.calls k2 ((rd_T92 l0_2 x45_2).f0) a0_0 t219 _ A22.out).mono ?_); rintro e w69 ⟨rfl, hb⟩; refine ⟨_, rfl, ?_⟩; have n0_ := Aside0.mk (blk_below (g := gb214) (o := .cells #[.int .i64 a0_0, .int .i64 a0_1, .slice (some ad217) l0_2.length c0_2, .slice A0_3 l0_3.length c0_3] 36 (0, 0)) (by (with_reducible repeat (first | refine blk_drewN ?_ _ | refine blk_drew ?_ | refine blk_alloc ?_ _)); refine blk_far ?_ NB214_218.out _; (with_reducible repeat (first | refine blk_drewN ?_ _ | refine blk_drew ?_ | refine blk_alloc ?_ _)); refine blk_far ?_ NB214_218.out _; (with_reducible repeat (first | refine blk_drewN ?_ _ | refine blk_drew ?_ | refine blk_alloc ?_ _)); exact BK214.out) hb); have n1_ := Aside0.mk (blk_below (g := gb218) (o := .cells #[.string ((rd_T92 l0_2 x45_2).f0), .int .i64 ((rd_T92 l0_2 x45_2).f1)] 92 (0, 0)) (by (with_reducible repeat (first | refine blk_drewN ?_ _ | refine blk_drew ?_ | refine blk_alloc ?_ _)); refine blk_put (cs := #[.string ((rd_T92 l0_2 x45_2).f0), .int .i64 0]) ?_ 1 _ rfl; (with_reducible repeat (first | refine blk_drewN ?_ _ | refine blk_drew ?_ | refine blk_alloc ?_ _)); refine blk_put (cs := #[.string (⟨#[]⟩ : ByteArray), .int .i64 0]) ?_ 0 _ rfl; (with_reducible repeat (first | refine blk_drewN ?_ _ | refine blk_drew ?_ | refine blk_alloc ?_ _)); exact BK218.out) hb); have n2_ := Aside0.mk (below_step (Zz.rB_ HB.out) hb); clear BK214; clear BK218; clear HB; have BK214 := n0_; have BK218 := n1_; have HB := n2_; clear n0_ n1_ n2_; (try clear hb); (try clear hb2); (try clear hk); (try clear hi); have hcz70_0 : w69.cell? ⟨gb218, 0, none⟩ = some (.string ((rd_T92 l0_2 x45_2).f0)) := (blk_cell BK218.out 0).trans rfl; have hcz70_1 : w69.cell? ⟨gb218, 1, none⟩ = some (.int .i64 ((rd_T92 l0_2 x45_2).f1)) := (blk_cell BK218.out 1).trans rfl; have hfz70_0 := blk_frozen BK218.out 0; have hfz70_1 := blk_frozen BK218.out 1))
              go_roundg k2
              case measure => have := HJ1.out; have := HK2.out; omega
              case rel => exact ⟨(wrap64 (x3_2 + (((rd_T92 l0_2 x45_2).f0).size : Int))), (t219), (wrap64 (x45_2 + 1)), (by first | rfl | (simp; done) | (simp [*]; done)), (by first | rfl | (simp; done) | (simp [*]; done)), (by first | rfl | (simp; done) | (simp [*]; done)), H', ⟨by have := HJ1.out; have := HK2.out; omega⟩, ⟨Zz.rb_ BK214.out⟩, ⟨Zz.rB_ HB.out⟩⟩
        ·
         rw [if_neg c21] at H
         exact absurd H (by simp)
       ·
        rw [if_neg c20] at H
        exact absurd H (by simp)
      ·
       rw [if_neg c19] at H
       have c19b0 : decide (x45_2 < (l0_2.length : Int)) = false := decide_eq_false c19
       clear c19
       obtain rfl := Option.some.inj H
       have hcz71_0 : wr.cell? ⟨gb214, 0, none⟩ = some (.int .i64 a0_0) := (blk_cell BK214.out 0).trans rfl
       have hcz71_1 : wr.cell? ⟨gb214, 1, none⟩ = some (.int .i64 a0_1) := (blk_cell BK214.out 1).trans rfl
       have hcz71_2 : wr.cell? ⟨gb214, 2, none⟩ = some (.slice A0_2 l0_2.length c0_2) := (blk_cell BK214.out 2).trans rfl
       have hcz71_3 : wr.cell? ⟨gb214, 3, none⟩ = some (.slice A0_3 l0_3.length c0_3) := (blk_cell BK214.out 3).trans rfl
       have hfz71_0 := blk_frozen BK214.out 0
       have hfz71_1 := blk_frozen BK214.out 1
       have hfz71_2 := blk_frozen BK214.out 2
       have hfz71_3 := blk_frozen BK214.out 3
       go_wp2
       go_ret
       exact ⟨by first | rfl | (simp [errW_none, errW_some] <;> rfl) | (simp [*, errW_none, errW_some] <;> rfl), by repeat (first | (with_reducible first | exact HB.out | apply below_alloc | apply pw_below_drewN | apply below_drew1 | refine below_set ?_ GE214.out) | exact HB.out)⟩

end Go.Proofs.Ytbhkinfdilngiaa.PFnExactValidFetch

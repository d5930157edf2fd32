-- Walks of printed functions (by wip/gen.py of this session, with the kit's program).
import Derived.Test.YtbmldafgipimbaaGFnPiecesx0
import Derived.Test.YtbmldafgipimbaaGFnPiecesx1
import Derived.Test.YtbmldafgipimbaaGFnPiecesx2
namespace Go.Proofs.Ytbmldafgipimbaa.PFnPieces
open Go.RowKit Go.Proofs.YtbmldafgipimbaaW.PrintWords Go.Proofs.YtbmldafgipimbaaW.PrintLast Go.Proofs.YtbmldafgipimbaaW.PrintMore
attribute [local go_sem] max2_int min2_int max_two min_two max_three min_three max_four min_four   -- for this text's walks alone
set_option linter.unusedVariables false
set_option linter.unusedSimpArgs false

/-! ### spec_l2Near: function 37 -/
def spec_l2Near.f (k : Nat) (s0_0 : List Int) (s0_1 : Int) (a1 : ByteArray) : Option (ByteArray × Int) := (spec_l1Rd_pick.f k s0_0 s0_1 256).bind fun bt153 => ((spec_l1Rd_pick.f k s0_0 bt153.2 4).bind fun bt155 => (if bt155.1 = 0 then (if 0 ≤ (wrap64 (Int.tdiv (wrap64 (bt153.1 * (wrap64 ((a1.size : Int) + 1)))) 256)) then (if (wrap64 (Int.tdiv (wrap64 (bt153.1 * (wrap64 ((a1.size : Int) + 1)))) 256)) ≤ (a1.size : Int) then (if (a1.extract 0 ((wrap64 (Int.tdiv (wrap64 (bt153.1 * (wrap64 ((a1.size : Int) + 1)))) 256)) : Int).toNat).size + 3 ≤ 9223372036854775807 then (if ((a1.extract 0 ((wrap64 (Int.tdiv (wrap64 (bt153.1 * (wrap64 ((a1.size : Int) + 1)))) 256)) : Int).toNat) ++ (⟨#[110, 101, 119]⟩ : ByteArray)).size + (a1.extract ((wrap64 (Int.tdiv (wrap64 (bt153.1 * (wrap64 ((a1.size : Int) + 1)))) 256)) : Int).toNat a1.size).size ≤ 9223372036854775807 then (some (((a1.extract 0 ((wrap64 (Int.tdiv (wrap64 (bt153.1 * (wrap64 ((a1.size : Int) + 1)))) 256)) : Int).toNat) ++ (⟨#[110, 101, 119]⟩ : ByteArray)) ++ (a1.extract ((wrap64 (Int.tdiv (wrap64 (bt153.1 * (wrap64 ((a1.size : Int) + 1)))) 256)) : Int).toNat a1.size), bt155.2)) else (none)) else (none)) else (none)) else (none)) else (if bt155.1 = 1 then ((spec_l1Rd_pick.f k s0_0 bt155.2 20).bind fun bt157 => (if (wrap64 ((wrap64 (Int.tdiv (wrap64 (bt153.1 * (wrap64 ((a1.size : Int) + 1)))) 256)) + bt157.1)) < (a1.size : Int) then (if 0 ≤ (wrap64 (Int.tdiv (wrap64 (bt153.1 * (wrap64 ((a1.size : Int) + 1)))) 256)) then (if (wrap64 (Int.tdiv (wrap64 (bt153.1 * (wrap64 ((a1.size : Int) + 1)))) 256)) ≤ (a1.size : Int) then (if 0 ≤ (wrap64 ((wrap64 (Int.tdiv (wrap64 (bt153.1 * (wrap64 ((a1.size : Int) + 1)))) 256)) + bt157.1)) then (if (wrap64 ((wrap64 (Int.tdiv (wrap64 (bt153.1 * (wrap64 ((a1.size : Int) + 1)))) 256)) + bt157.1)) ≤ (a1.size : Int) then (if (a1.extract 0 ((wrap64 (Int.tdiv (wrap64 (bt153.1 * (wrap64 ((a1.size : Int) + 1)))) 256)) : Int).toNat).size + (a1.extract ((wrap64 ((wrap64 (Int.tdiv (wrap64 (bt153.1 * (wrap64 ((a1.size : Int) + 1)))) 256)) + bt157.1)) : Int).toNat a1.size).size ≤ 9223372036854775807 then (some ((a1.extract 0 ((wrap64 (Int.tdiv (wrap64 (bt153.1 * (wrap64 ((a1.size : Int) + 1)))) 256)) : Int).toNat) ++ (a1.extract ((wrap64 ((wrap64 (Int.tdiv (wrap64 (bt153.1 * (wrap64 ((a1.size : Int) + 1)))) 256)) + bt157.1)) : Int).toNat a1.size), bt157.2)) else (none)) else (none)) else (none)) else (none)) else (none)) else ((spec_l2Thing.f k s0_0 bt157.2).bind fun bt159 => (if 0 ≤ (wrap64 (Int.tdiv (wrap64 (bt153.1 * (wrap64 ((a1.size : Int) + 1)))) 256)) then (if (wrap64 (Int.tdiv (wrap64 (bt153.1 * (wrap64 ((a1.size : Int) + 1)))) 256)) ≤ (a1.size : Int) then (if bt159.1.size + (a1.extract ((wrap64 (Int.tdiv (wrap64 (bt153.1 * (wrap64 ((a1.size : Int) + 1)))) 256)) : Int).toNat a1.size).size ≤ 9223372036854775807 then (some (bt159.1 ++ (a1.extract ((wrap64 (Int.tdiv (wrap64 (bt153.1 * (wrap64 ((a1.size : Int) + 1)))) 256)) : Int).toNat a1.size), bt159.2)) else (none)) else (none)) else (none))))) else (if bt155.1 = 2 then ((spec_l2Thing.f k s0_0 bt155.2).bind fun bt161 => (if a1.size + bt161.1.size ≤ 9223372036854775807 then (some (a1 ++ bt161.1, bt161.2)) else (none))) else ((spec_l2Thing.f k s0_0 bt155.2).bind fun bt163 => (if 0 ≤ (wrap64 (Int.tdiv (wrap64 (bt153.1 * (wrap64 ((a1.size : Int) + 1)))) 256)) then (if (wrap64 (Int.tdiv (wrap64 (bt153.1 * (wrap64 ((a1.size : Int) + 1)))) 256)) ≤ (a1.size : Int) then (if bt163.1.size + (a1.extract ((wrap64 (Int.tdiv (wrap64 (bt153.1 * (wrap64 ((a1.size : Int) + 1)))) 256)) : Int).toNat a1.size).size ≤ 9223372036854775807 then (some (bt163.1 ++ (a1.extract ((wrap64 (Int.tdiv (wrap64 (bt153.1 * (wrap64 ((a1.size : Int) + 1)))) 256)) : Int).toNat a1.size), bt163.2)) else (none)) else (none)) else (none)))))))
theorem spec_l2Near.mono : ∀ a0 a1 a2 k, LeO (spec_l2Near.f k a0 a1 a2) (spec_l2Near.f (k + 1) a0 a1 a2) := by
  intro a0 a1 a2 k
  unfold spec_l2Near.f
  repeat' first
      | (with_reducible exact spec_l1Rd_pick.mono _ _ _ _)
      | (with_reducible exact spec_l2Thing.mono _ _ _)
      | (with_reducible exact LeO.refl _)
      | (with_reducible exact LeO.none _)
      | (with_reducible refine LeO.ite ?_ ?_)
      | (with_reducible refine LeO.bind ?_ (fun _ => ?_))
      | exact spec_l1Rd_pick.mono _ _ _ _
      | exact spec_l2Thing.mono _ _ _
      | exact LeO.none _
      | refine LeO.ite ?_ ?_
      | refine LeO.bind ?_ (fun _ => ?_)
def spec_l2Near.T4 : Bool × List (List Nat × List Nat) := (true, [([], []), ([], []), ([0, 1], [0, 1]), ([2], [2]), ([], []), ([], []), ([4, 5], [4, 5]), ([3, 6], [3, 6]), ([7, 0, 1, 2, 3, 4, 5, 6, 7], [7])])
def spec_l2Near.B4 : List Nat := [0, 0, 3, 7, 0, 0, 48, 127, 255]
theorem spec_l2Near.tab4 : rtab .any (opsOf Try.f37 4) = spec_l2Near.T4 := by kernel_rfl
theorem spec_l2Near.bits4 : waitsOk spec_l2Near.T4.2 spec_l2Near.B4 = true := by kernel_rfl
def spec_l2Near.T8 : Bool × List (List Nat × List Nat) := (true, [([], []), ([], []), ([0, 1], [0, 1]), ([], []), ([], []), ([3, 4], [3, 4]), ([2, 5], [2, 5]), ([6, 0, 1, 2, 3, 4, 5, 6], [6])])
def spec_l2Near.B8 : List Nat := [0, 0, 3, 0, 0, 24, 63, 127]
theorem spec_l2Near.tab8 : rtab .any (opsOf Try.f37 8) = spec_l2Near.T8 := by kernel_rfl
theorem spec_l2Near.bits8 : waitsOk spec_l2Near.T8.2 spec_l2Near.B8 = true := by kernel_rfl
set_option maxHeartbeats 8000000 in
set_option maxRecDepth 100000 in
theorem spec_l2Near.calls (k : Nat) (g : Nat) (s0_0 : List Int) (s0_1 : Int) (a1 : ByteArray) (r1 : ByteArray) (r2 : Int) (w0 w : World) (hI : IsS58 w0 w g s0_0 s0_1) (hB : Below w0.heap.size w0 w) (h : spec_l2Near.f k s0_0 s0_1 a1 = some (r1, r2)) :
    Calls Try.prog 37 #[.pointer (some ⟨g, 0, none⟩), .string a1] w fun e w' => e = .returned (.string r1) ∧ IsS58 w0 w' g s0_0 r2 ∧ Below w0.heap.size w0 w' ∧ KeepBut w w' g none := by
  have HI0 := Aside0.mk hI
  have HK := Aside0.mk (KeepBut.refl w g none)
  have HL := Aside0.mk hB.size
  clear hI
  have HW0 := Aside0.mk hB.size
  have HB := Aside0.mk hB
  clear hB
  have H : ((spec_l1Rd_pick.f k s0_0 s0_1 256).bind fun bt153 => ((spec_l1Rd_pick.f k s0_0 bt153.2 4).bind fun bt155 => (if bt155.1 = 0 then (if 0 ≤ (wrap64 (Int.tdiv (wrap64 (bt153.1 * (wrap64 ((a1.size : Int) + 1)))) 256)) then (if (wrap64 (Int.tdiv (wrap64 (bt153.1 * (wrap64 ((a1.size : Int) + 1)))) 256)) ≤ (a1.size : Int) then (if (a1.extract 0 ((wrap64 (Int.tdiv (wrap64 (bt153.1 * (wrap64 ((a1.size : Int) + 1)))) 256)) : Int).toNat).size + 3 ≤ 9223372036854775807 then (if ((a1.extract 0 ((wrap64 (Int.tdiv (wrap64 (bt153.1 * (wrap64 ((a1.size : Int) + 1)))) 256)) : Int).toNat) ++ (⟨#[110, 101, 119]⟩ : ByteArray)).size + (a1.extract ((wrap64 (Int.tdiv (wrap64 (bt153.1 * (wrap64 ((a1.size : Int) + 1)))) 256)) : Int).toNat a1.size).size ≤ 9223372036854775807 then (some (((a1.extract 0 ((wrap64 (Int.tdiv (wrap64 (bt153.1 * (wrap64 ((a1.size : Int) + 1)))) 256)) : Int).toNat) ++ (⟨#[110, 101, 119]⟩ : ByteArray)) ++ (a1.extract ((wrap64 (Int.tdiv (wrap64 (bt153.1 * (wrap64 ((a1.size : Int) + 1)))) 256)) : Int).toNat a1.size), bt155.2)) else (none)) else (none)) else (none)) else (none)) else (if bt155.1 = 1 then ((spec_l1Rd_pick.f k s0_0 bt155.2 20).bind fun bt157 => (if (wrap64 ((wrap64 (Int.tdiv (wrap64 (bt153.1 * (wrap64 ((a1.size : Int) + 1)))) 256)) + bt157.1)) < (a1.size : Int) then (if 0 ≤ (wrap64 (Int.tdiv (wrap64 (bt153.1 * (wrap64 ((a1.size : Int) + 1)))) 256)) then (if (wrap64 (Int.tdiv (wrap64 (bt153.1 * (wrap64 ((a1.size : Int) + 1)))) 256)) ≤ (a1.size : Int) then (if 0 ≤ (wrap64 ((wrap64 (Int.tdiv (wrap64 (bt153.1 * (wrap64 ((a1.size : Int) + 1)))) 256)) + bt157.1)) then (if (wrap64 ((wrap64 (Int.tdiv (wrap64 (bt153.1 * (wrap64 ((a1.size : Int) + 1)))) 256)) + bt157.1)) ≤ (a1.size : Int) then (if (a1.extract 0 ((wrap64 (Int.tdiv (wrap64 (bt153.1 * (wrap64 ((a1.size : Int) + 1)))) 256)) : Int).toNat).size + (a1.extract ((wrap64 ((wrap64 (Int.tdiv (wrap64 (bt153.1 * (wrap64 ((a1.size : Int) + 1)))) 256)) + bt157.1)) : Int).toNat a1.size).size ≤ 9223372036854775807 then (some ((a1.extract 0 ((wrap64 (Int.tdiv (wrap64 (bt153.1 * (wrap64 ((a1.size : Int) + 1)))) 256)) : Int).toNat) ++ (a1.extract ((wrap64 ((wrap64 (Int.tdiv (wrap64 (bt153.1 * (wrap64 ((a1.size : Int) + 1)))) 256)) + bt157.1)) : Int).toNat a1.size), bt157.2)) else (none)) else (none)) else (none)) else (none)) else (none)) else ((spec_l2Thing.f k s0_0 bt157.2).bind fun bt159 => (if 0 ≤ (wrap64 (Int.tdiv (wrap64 (bt153.1 * (wrap64 ((a1.size : Int) + 1)))) 256)) then (if (wrap64 (Int.tdiv (wrap64 (bt153.1 * (wrap64 ((a1.size : Int) + 1)))) 256)) ≤ (a1.size : Int) then (if bt159.1.size + (a1.extract ((wrap64 (Int.tdiv (wrap64 (bt153.1 * (wrap64 ((a1.size : Int) + 1)))) 256)) : Int).toNat a1.size).size ≤ 9223372036854775807 then (some (bt159.1 ++ (a1.extract ((wrap64 (Int.tdiv (wrap64 (bt153.1 * (wrap64 ((a1.size : Int) + 1)))) 256)) : Int).toNat a1.size), bt159.2)) else (none)) else (none)) else (none))))) else (if bt155.1 = 2 then ((spec_l2Thing.f k s0_0 bt155.2).bind fun bt161 => (if a1.size + bt161.1.size ≤ 9223372036854775807 then (some (a1 ++ bt161.1, bt161.2)) else (none))) else ((spec_l2Thing.f k s0_0 bt155.2).bind fun bt163 => (if 0 ≤ (wrap64 (Int.tdiv (wrap64 (bt153.1 * (wrap64 ((a1.size : Int) + 1)))) 256)) then (if (wrap64 (Int.tdiv (wrap64 (bt153.1 * (wrap64 ((a1.size : Int) + 1)))) 256)) ≤ (a1.size : Int) then (if bt163.1.size + (a1.extract ((wrap64 (Int.tdiv (wrap64 (bt153.1 * (wrap64 ((a1.size : Int) + 1)))) 256)) : Int).toNat a1.size).size ≤ 9223372036854775807 then (some (bt163.1 ++ (a1.extract ((wrap64 (Int.tdiv (wrap64 (bt153.1 * (wrap64 ((a1.size : Int) + 1)))) 256)) : Int).toNat a1.size), bt163.2)) else (none)) else (none)) else (none)))))))) = some (r1, r2) := h
  clear h
  replace H := Option.bind_eq_some_iff.mp H
  obtain ⟨⟨t153, t154⟩, A30, H⟩ := H
  replace H : ((spec_l1Rd_pick.f k s0_0 t154 4).bind fun bt155 => (if bt155.1 = 0 then (if 0 ≤ (wrap64 (Int.tdiv (wrap64 (t153 * (wrap64 ((a1.size : Int) + 1)))) 256)) then (if (wrap64 (Int.tdiv (wrap64 (t153 * (wrap64 ((a1.size : Int) + 1)))) 256)) ≤ (a1.size : Int) then (if (a1.extract 0 ((wrap64 (Int.tdiv (wrap64 (t153 * (wrap64 ((a1.size : Int) + 1)))) 256)) : Int).toNat).size + 3 ≤ 9223372036854775807 then (if ((a1.extract 0 ((wrap64 (Int.tdiv (wrap64 (t153 * (wrap64 ((a1.size : Int) + 1)))) 256)) : Int).toNat) ++ (⟨#[110, 101, 119]⟩ : ByteArray)).size + (a1.extract ((wrap64 (Int.tdiv (wrap64 (t153 * (wrap64 ((a1.size : Int) + 1)))) 256)) : Int).toNat a1.size).size ≤ 9223372036854775807 then (some (((a1.extract 0 ((wrap64 (Int.tdiv (wrap64 (t153 * (wrap64 ((a1.size : Int) + 1)))) 256)) : Int).toNat) ++ (⟨#[110, 101, 119]⟩ : ByteArray)) ++ (a1.extract ((wrap64 (Int.tdiv (wrap64 (t153 * (wrap64 ((a1.size : Int) + 1)))) 256)) : Int).toNat a1.size), bt155.2)) else (none)) else (none)) else (none)) else (none)) else (if bt155.1 = 1 then ((spec_l1Rd_pick.f k s0_0 bt155.2 20).bind fun bt157 => (if (wrap64 ((wrap64 (Int.tdiv (wrap64 (t153 * (wrap64 ((a1.size : Int) + 1)))) 256)) + bt157.1)) < (a1.size : Int) then (if 0 ≤ (wrap64 (Int.tdiv (wrap64 (t153 * (wrap64 ((a1.size : Int) + 1)))) 256)) then (if (wrap64 (Int.tdiv (wrap64 (t153 * (wrap64 ((a1.size : Int) + 1)))) 256)) ≤ (a1.size : Int) then (if 0 ≤ (wrap64 ((wrap64 (Int.tdiv (wrap64 (t153 * (wrap64 ((a1.size : Int) + 1)))) 256)) + bt157.1)) then (if (wrap64 ((wrap64 (Int.tdiv (wrap64 (t153 * (wrap64 ((a1.size : Int) + 1)))) 256)) + bt157.1)) ≤ (a1.size : Int) then (if (a1.extract 0 ((wrap64 (Int.tdiv (wrap64 (t153 * (wrap64 ((a1.size : Int) + 1)))) 256)) : Int).toNat).size + (a1.extract ((wrap64 ((wrap64 (Int.tdiv (wrap64 (t153 * (wrap64 ((a1.size : Int) + 1)))) 256)) + bt157.1)) : Int).toNat a1.size).size ≤ 9223372036854775807 then (some ((a1.extract 0 ((wrap64 (Int.tdiv (wrap64 (t153 * (wrap64 ((a1.size : Int) + 1)))) 256)) : Int).toNat) ++ (a1.extract ((wrap64 ((wrap64 (Int.tdiv (wrap64 (t153 * (wrap64 ((a1.size : Int) + 1)))) 256)) + bt157.1)) : Int).toNat a1.size), bt157.2)) else (none)) else (none)) else (none)) else (none)) else (none)) else ((spec_l2Thing.f k s0_0 bt157.2).bind fun bt159 => (if 0 ≤ (wrap64 (Int.tdiv (wrap64 (t153 * (wrap64 ((a1.size : Int) + 1)))) 256)) then (if (wrap64 (Int.tdiv (wrap64 (t153 * (wrap64 ((a1.size : Int) + 1)))) 256)) ≤ (a1.size : Int) then (if bt159.1.size + (a1.extract ((wrap64 (Int.tdiv (wrap64 (t153 * (wrap64 ((a1.size : Int) + 1)))) 256)) : Int).toNat a1.size).size ≤ 9223372036854775807 then (some (bt159.1 ++ (a1.extract ((wrap64 (Int.tdiv (wrap64 (t153 * (wrap64 ((a1.size : Int) + 1)))) 256)) : Int).toNat a1.size), bt159.2)) else (none)) else (none)) else (none))))) else (if bt155.1 = 2 then ((spec_l2Thing.f k s0_0 bt155.2).bind fun bt161 => (if a1.size + bt161.1.size ≤ 9223372036854775807 then (some (a1 ++ bt161.1, bt161.2)) else (none))) else ((spec_l2Thing.f k s0_0 bt155.2).bind fun bt163 => (if 0 ≤ (wrap64 (Int.tdiv (wrap64 (t153 * (wrap64 ((a1.size : Int) + 1)))) 256)) then (if (wrap64 (Int.tdiv (wrap64 (t153 * (wrap64 ((a1.size : Int) + 1)))) 256)) ≤ (a1.size : Int) then (if bt163.1.size + (a1.extract ((wrap64 (Int.tdiv (wrap64 (t153 * (wrap64 ((a1.size : Int) + 1)))) 256)) : Int).toNat a1.size).size ≤ 9223372036854775807 then (some (bt163.1 ++ (a1.extract ((wrap64 (Int.tdiv (wrap64 (t153 * (wrap64 ((a1.size : Int) + 1)))) 256)) : Int).toNat a1.size), bt163.2)) else (none)) else (none)) else (none))))))) = some (r1, r2) := H
  have A3 := Aside0.mk A30
  clear A30
  replace H := Option.bind_eq_some_iff.mp H
  obtain ⟨⟨t155, t156⟩, A40, H⟩ := H
  replace H : (if t155 = 0 then (if 0 ≤ (wrap64 (Int.tdiv (wrap64 (t153 * (wrap64 ((a1.size : Int) + 1)))) 256)) then (if (wrap64 (Int.tdiv (wrap64 (t153 * (wrap64 ((a1.size : Int) + 1)))) 256)) ≤ (a1.size : Int) then (if (a1.extract 0 ((wrap64 (Int.tdiv (wrap64 (t153 * (wrap64 ((a1.size : Int) + 1)))) 256)) : Int).toNat).size + 3 ≤ 9223372036854775807 then (if ((a1.extract 0 ((wrap64 (Int.tdiv (wrap64 (t153 * (wrap64 ((a1.size : Int) + 1)))) 256)) : Int).toNat) ++ (⟨#[110, 101, 119]⟩ : ByteArray)).size + (a1.extract ((wrap64 (Int.tdiv (wrap64 (t153 * (wrap64 ((a1.size : Int) + 1)))) 256)) : Int).toNat a1.size).size ≤ 9223372036854775807 then (some (((a1.extract 0 ((wrap64 (Int.tdiv (wrap64 (t153 * (wrap64 ((a1.size : Int) + 1)))) 256)) : Int).toNat) ++ (⟨#[110, 101, 119]⟩ : ByteArray)) ++ (a1.extract ((wrap64 (Int.tdiv (wrap64 (t153 * (wrap64 ((a1.size : Int) + 1)))) 256)) : Int).toNat a1.size), t156)) else (none)) else (none)) else (none)) else (none)) else (if t155 = 1 then ((spec_l1Rd_pick.f k s0_0 t156 20).bind fun bt157 => (if (wrap64 ((wrap64 (Int.tdiv (wrap64 (t153 * (wrap64 ((a1.size : Int) + 1)))) 256)) + bt157.1)) < (a1.size : Int) then (if 0 ≤ (wrap64 (Int.tdiv (wrap64 (t153 * (wrap64 ((a1.size : Int) + 1)))) 256)) then (if (wrap64 (Int.tdiv (wrap64 (t153 * (wrap64 ((a1.size : Int) + 1)))) 256)) ≤ (a1.size : Int) then (if 0 ≤ (wrap64 ((wrap64 (Int.tdiv (wrap64 (t153 * (wrap64 ((a1.size : Int) + 1)))) 256)) + bt157.1)) then (if (wrap64 ((wrap64 (Int.tdiv (wrap64 (t153 * (wrap64 ((a1.size : Int) + 1)))) 256)) + bt157.1)) ≤ (a1.size : Int) then (if (a1.extract 0 ((wrap64 (Int.tdiv (wrap64 (t153 * (wrap64 ((a1.size : Int) + 1)))) 256)) : Int).toNat).size + (a1.extract ((wrap64 ((wrap64 (Int.tdiv (wrap64 (t153 * (wrap64 ((a1.size : Int) + 1)))) 256)) + bt157.1)) : Int).toNat a1.size).size ≤ 9223372036854775807 then (some ((a1.extract 0 ((wrap64 (Int.tdiv (wrap64 (t153 * (wrap64 ((a1.size : Int) + 1)))) 256)) : Int).toNat) ++ (a1.extract ((wrap64 ((wrap64 (Int.tdiv (wrap64 (t153 * (wrap64 ((a1.size : Int) + 1)))) 256)) + bt157.1)) : Int).toNat a1.size), bt157.2)) else (none)) else (none)) else (none)) else (none)) else (none)) else ((spec_l2Thing.f k s0_0 bt157.2).bind fun bt159 => (if 0 ≤ (wrap64 (Int.tdiv (wrap64 (t153 * (wrap64 ((a1.size : Int) + 1)))) 256)) then (if (wrap64 (Int.tdiv (wrap64 (t153 * (wrap64 ((a1.size : Int) + 1)))) 256)) ≤ (a1.size : Int) then (if bt159.1.size + (a1.extract ((wrap64 (Int.tdiv (wrap64 (t153 * (wrap64 ((a1.size : Int) + 1)))) 256)) : Int).toNat a1.size).size ≤ 9223372036854775807 then (some (bt159.1 ++ (a1.extract ((wrap64 (Int.tdiv (wrap64 (t153 * (wrap64 ((a1.size : Int) + 1)))) 256)) : Int).toNat a1.size), bt159.2)) else (none)) else (none)) else (none))))) else (if t155 = 2 then ((spec_l2Thing.f k s0_0 t156).bind fun bt161 => (if a1.size + bt161.1.size ≤ 9223372036854775807 then (some (a1 ++ bt161.1, bt161.2)) else (none))) else ((spec_l2Thing.f k s0_0 t156).bind fun bt163 => (if 0 ≤ (wrap64 (Int.tdiv (wrap64 (t153 * (wrap64 ((a1.size : Int) + 1)))) 256)) then (if (wrap64 (Int.tdiv (wrap64 (t153 * (wrap64 ((a1.size : Int) + 1)))) 256)) ≤ (a1.size : Int) then (if bt163.1.size + (a1.extract ((wrap64 (Int.tdiv (wrap64 (t153 * (wrap64 ((a1.size : Int) + 1)))) 256)) : Int).toNat a1.size).size ≤ 9223372036854775807 then (some (bt163.1 ++ (a1.extract ((wrap64 (Int.tdiv (wrap64 (t153 * (wrap64 ((a1.size : Int) + 1)))) 256)) : Int).toNat a1.size), bt163.2)) else (none)) else (none)) else (none)))))) = some (r1, r2) := H
  have A4 := Aside0.mk A40
  clear A40
  by_cases c5 : t155 = 0
  · rw [if_pos c5] at H
    have c5b0 : (t155 == 0) = true := beq_iff_eq.mpr c5
    have c5b1 : (t155 != 0) = false := bne_eq_false_iff_eq.mpr c5
    clear c5
    obtain ⟨ji6, hji6⟩ : ∃ j_ : Int, (wrap64 (Int.tdiv (wrap64 (t153 * (wrap64 ((a1.size : Int) + 1)))) 256)) = j_ := ⟨_, rfl⟩
    replace H : (if 0 ≤ (ji6) then (if (ji6) ≤ (a1.size : Int) then (if (a1.extract 0 ((ji6) : Int).toNat).size + 3 ≤ 9223372036854775807 then (if ((a1.extract 0 ((ji6) : Int).toNat) ++ (⟨#[110, 101, 119]⟩ : ByteArray)).size + (a1.extract ((ji6) : Int).toNat a1.size).size ≤ 9223372036854775807 then (some (((a1.extract 0 ((ji6) : Int).toNat) ++ (⟨#[110, 101, 119]⟩ : ByteArray)) ++ (a1.extract ((ji6) : Int).toNat a1.size), t156)) else (none)) else (none)) else (none)) else (none)) = some (r1, r2) := by first | (rw [hji6] at H; exact H) | (simp only [hji6] at H ⊢; exact H)
    (try rw [hji6] at A3)
    (try rw [hji6] at A4)
    have hji6w : (IntKind.i64.wrap (Int.tdiv (wrap64 (t153 * (wrap64 ((a1.size : Int) + 1)))) 256)) = ji6 := (i64_w _).trans hji6
    by_cases c7 : 0 ≤ (ji6)
    · rw [if_pos c7] at H
      have c7b0 := eq_true c7
      have c7b1 : decide (0 ≤ (ji6)) = true := decide_eq_true c7
      clear c7
      by_cases c8 : (ji6) ≤ (a1.size : Int)
      · rw [if_pos c8] at H
        have c8b0 := eq_true c8
        have c8b1 : decide ((ji6) ≤ (a1.size : Int)) = true := decide_eq_true c8
        clear c8
        by_cases c9 : (a1.extract 0 ((ji6) : Int).toNat).size + 3 ≤ 9223372036854775807
        · rw [if_pos c9] at H
          have c9b0 := eq_true c9
          have c9b1 : decide ((a1.extract 0 ((ji6) : Int).toNat).size + 3 ≤ 9223372036854775807) = true := decide_eq_true c9
          try have c9b2 : (9223372036854775807 < (a1.extract 0 ((ji6) : Int).toNat).size + 3) = False := eq_false (Nat.not_lt.2 c9)
          try have c9b3 : (9223372036854775807 < ji6.toNat + 3) = False := eq_false (by have z_ := c9; simp only [ByteArray.size_extract, ByteArray.size_append] at z_; have u0_ : ji6 ≤ (a1.size : Int) := of_decide_eq_true (by first | (with_reducible assumption) | assumption); omega)
          have c10b0 := eq_true (of_decide_eq_true (by first | (with_reducible assumption) | assumption) : 0 ≤ (ji6))
          have c11b0 := eq_true (of_decide_eq_true (by first | (with_reducible assumption) | assumption) : (ji6) ≤ (a1.size : Int))
          by_cases c12 : ((a1.extract 0 ((ji6) : Int).toNat) ++ (⟨#[110, 101, 119]⟩ : ByteArray)).size + (a1.extract ((ji6) : Int).toNat a1.size).size ≤ 9223372036854775807
          · rw [if_pos c12] at H
            have c12b0 := eq_true c12
            have c12b1 : decide (((a1.extract 0 ((ji6) : Int).toNat) ++ (⟨#[110, 101, 119]⟩ : ByteArray)).size + (a1.extract ((ji6) : Int).toNat a1.size).size ≤ 9223372036854775807) = true := decide_eq_true c12
            try have c12b2 : (9223372036854775807 < ((a1.extract 0 ((ji6) : Int).toNat) ++ (⟨#[110, 101, 119]⟩ : ByteArray)).size + (a1.extract ((ji6) : Int).toNat a1.size).size) = False := eq_false (Nat.not_lt.2 c12)
            try have c12b3 : (9223372036854775807 < ji6.toNat + 3 + (a1.size - ji6.toNat)) = False := eq_false (by have z_ := c12; simp only [ByteArray.size_extract, ByteArray.size_append] at z_; have l0_ : (⟨#[110, 101, 119]⟩ : ByteArray).size = 3 := rfl; have u0_ : ji6 ≤ (a1.size : Int) := of_decide_eq_true (by first | (with_reducible assumption) | assumption); omega)
            simp only [Option.some.injEq, Prod.mk.injEq] at H
            obtain ⟨rfl, rfl⟩ := H
            go_enter Try.func37, Try.ntmps37
            try go_wp2_with (first | ((with_reducible refine gate_callee (f := 35) rfl ?_); refine goesL_ (some 8) rfl rfl Try.func35 (by kernel_rfl) rfl #[.pointer (some ⟨g, 0, none⟩), .int .i64 256] rfl (by (try simp only [List.map_toArray, List.map_cons, List.map_nil]); first | done | rfl | (simp only [List.length_drop, List.length_take]; rfl)) ?_; (with_reducible refine (spec_l1Rd_pick.calls k g s0_0 s0_1 256 t153 t154 w0 _ ?side1 ?side2 A3.out).mono ?_); (case side1 => repeat (first | (with_reducible first | exact HI0.out | apply IsS58.alloc | apply IsS58.drewN | apply IsS58.drew | apply IsS58.set_1) | exact HI0.out)); (case side2 => repeat (first | (with_reducible first | exact HB.out | apply below_alloc | apply pw_below_drewN | apply below_drew1 | refine below_set ?_ (IsS58.ge HI0.out)) | exact HB.out)); rintro e w13 ⟨rfl, hi, hb, hk⟩; refine ⟨_, rfl, ?_⟩; have n0_ := Aside0.mk (KeepBut.trans (by repeat (first | (with_reducible first | exact HK.out | apply KeepBut.set_ | apply keep_drewN | apply keep_drew | apply keep_alloc) | exact HK.out)) hk (.inl rfl)); have n1_ := Aside0.mk (hb); have n2_ := Aside0.mk (hi); clear HK; clear HB; clear HI0; have HK := n0_; have HB := n1_; have HI0 := n2_; clear n0_ n1_ n2_; (try clear hb); (try clear hb2); (try clear hk); (try clear hi)) | ((with_reducible refine gate_callee (f := 35) rfl ?_); refine goesL_ (some 15) rfl rfl Try.func35 (by kernel_rfl) rfl #[.pointer (some ⟨g, 0, none⟩), .int .i64 4] rfl (by (try simp only [List.map_toArray, List.map_cons, List.map_nil]); first | done | rfl | (simp only [List.length_drop, List.length_take]; rfl)) ?_; (with_reducible refine (spec_l1Rd_pick.calls k g s0_0 t154 4 t155 t156 w0 _ ?side1 ?side2 A4.out).mono ?_); (case side1 => repeat (first | (with_reducible first | exact HI0.out | apply IsS58.alloc | apply IsS58.drewN | apply IsS58.drew | apply IsS58.set_1) | exact HI0.out)); (case side2 => repeat (first | (with_reducible first | exact HB.out | apply below_alloc | apply pw_below_drewN | apply below_drew1 | refine below_set ?_ (IsS58.ge HI0.out)) | exact HB.out)); rintro e w14 ⟨rfl, hi, hb, hk⟩; refine ⟨_, rfl, ?_⟩; have n0_ := Aside0.mk (KeepBut.trans (by repeat (first | (with_reducible first | exact HK.out | apply KeepBut.set_ | apply keep_drewN | apply keep_drew | apply keep_alloc) | exact HK.out)) hk (.inl rfl)); have n1_ := Aside0.mk (hb); have n2_ := Aside0.mk (hi); clear HK; clear HB; clear HI0; have HK := n0_; have HB := n1_; have HI0 := n2_; clear n0_ n1_ n2_; (try clear hb); (try clear hb2); (try clear hk); (try clear hi)))
            have n0_ := Aside0.mk (IsS58.drew HI0.out)
            have n1_ := Aside0.mk (keep_drew HK.out)
            have n2_ := Aside0.mk (below_drew1 HB.out)
            clear HI0
            clear HK
            clear HB
            have HI0 := n0_
            have HK := n1_
            have HB := n2_
            clear n0_ n1_ n2_
            refine start_ (n := 9) (S := fun w' => True) (ds := []) #[false, false, false, false, false, false, false, false, false] (by kernel_rfl) rfl rfl trivial (fun hHeld => ?_); refine with_tabW spec_l2Near.tab4 spec_l2Near.bits4 (fun HT_ HW_ => ?_)
            generalize w14.drew = w15 at HI0 HK HB hHeld ⊢
            refine pure_ (i := 0) (N := some 18) (v := ?_) (a' := ?_) #[true, false, false, false, false, false, false, false, false] rfl rfl (any_of HT_.out (by kernel_rfl)) (fun _ _ _ h => h) (Or.inl ⟨by rfl, ?_⟩) ?_ ?_
            rotate_left
            · intro w'
              go_simp
              with_reducible rfl
            rotate_left
            · simp only [Act.put, List.setIfInBounds_toArray, List.set_cons_zero, List.set_cons_succ, i64_w, i32_w]
              rfl
            refine pure_ (i := 1) (N := some 19) (v := ?_) (a' := ?_) #[true, true, false, false, false, false, false, false, false] rfl rfl (any_of HT_.out (by kernel_rfl)) (fun _ _ _ h => h) (Or.inl ⟨by rfl, ?_⟩) ?_ ?_
            rotate_left
            · intro w'
              go_simp
              with_reducible rfl
            rotate_left
            · simp only [Act.put, List.setIfInBounds_toArray, List.set_cons_zero, List.set_cons_succ, i64_w, i32_w]
              rfl
            refine pure_ (i := 2) (N := some 20) (v := ?_) (a' := ?_) #[true, true, true, false, false, false, false, false, false] rfl rfl (any_of HT_.out (by kernel_rfl)) (fun _ _ _ h => h) (Or.inl ⟨by rfl, ?_⟩) ?_ ?_
            rotate_left
            · intro w'
              go_simp
              with_reducible rfl
            rotate_left
            · simp only [Act.put, List.setIfInBounds_toArray, List.set_cons_zero, List.set_cons_succ, i64_w, i32_w]
              rfl
            refine pure_ (i := 3) (N := some 21) (v := ?_) (a' := ?_) #[true, true, true, true, false, false, false, false, false] rfl rfl (any_of HT_.out (by kernel_rfl)) (fun _ _ _ h => h) (Or.inl ⟨by rfl, ?_⟩) ?_ ?_
            rotate_left
            · intro w'
              go_simp
              with_reducible rfl
            rotate_left
            · simp only [Act.put, List.setIfInBounds_toArray, List.set_cons_zero, List.set_cons_succ, i64_w, i32_w]
              rfl
            refine pure_ (i := 4) (N := some 22) (v := ?_) (a' := ?_) #[true, true, true, true, true, false, false, false, false] rfl rfl (any_of HT_.out (by kernel_rfl)) (fun _ _ _ h => h) (Or.inl ⟨by rfl, ?_⟩) ?_ ?_
            rotate_left
            · intro w'
              go_simp
              with_reducible rfl
            rotate_left
            · simp only [Act.put, List.setIfInBounds_toArray, List.set_cons_zero, List.set_cons_succ, i64_w, i32_w]
              rfl
            refine pure_ (i := 5) (N := some 23) (v := ?_) (a' := ?_) #[true, true, true, true, true, true, false, false, false] rfl rfl (any_of HT_.out (by kernel_rfl)) (fun _ _ _ h => h) (Or.inl ⟨by rfl, ?_⟩) ?_ ?_
            rotate_left
            · intro w'
              go_simp
              with_reducible rfl
            rotate_left
            · simp only [Act.put, List.setIfInBounds_toArray, List.set_cons_zero, List.set_cons_succ, i64_w, i32_w]
              rfl
            refine pure_ (i := 6) (N := some 24) (v := ?_) (a' := ?_) #[true, true, true, true, true, true, true, false, false] rfl rfl (any_of HT_.out (by kernel_rfl)) (fun _ _ _ h => h) (Or.inl ⟨by rfl, ?_⟩) ?_ ?_
            rotate_left
            · intro w'
              go_simp
              with_reducible rfl
            rotate_left
            · simp only [Act.put, List.setIfInBounds_toArray, List.set_cons_zero, List.set_cons_succ, i64_w, i32_w]
              rfl
            refine pure_ (i := 7) (N := some 25) (v := ?_) (a' := ?_) #[true, true, true, true, true, true, true, true, false] rfl rfl (any_of HT_.out (by kernel_rfl)) (fun _ _ _ h => h) (Or.inl ⟨by rfl, ?_⟩) ?_ ?_
            rotate_left
            · intro w'
              go_simp
              with_reducible rfl
            rotate_left
            · simp only [Act.put, List.setIfInBounds_toArray, List.set_cons_zero, List.set_cons_succ, i64_w, i32_w]
              rfl
            refine pure_ (i := 8) (N := some 4) (v := ?_) (a' := ?_) #[true, true, true, true, true, true, true, true, true] rfl rfl (any_of HT_.out (by kernel_rfl)) (fun _ _ _ h => h) (Or.inl ⟨by rfl, ?_⟩) ?_ ?_
            rotate_left
            · intro w'
              go_simp
              with_reducible rfl
            rotate_left
            · simp only [Act.put, List.setIfInBounds_toArray, List.set_cons_zero, List.set_cons_succ, i64_w, i32_w]
              rfl
            refine done_ (done_of HT_.out (by kernel_rfl)) ?_
            try go_wp2
            go_ret
            exact ⟨by first | rfl | (simp [errW_none, errW_some] <;> rfl) | (simp only [← hji6]; first | rfl | (simp [errW_none, errW_some] <;> rfl)) | (simp [*, errW_none, errW_some] <;> rfl), by repeat (first | (with_reducible first | exact HI0.out | apply IsS58.alloc | apply IsS58.drewN | apply IsS58.drew | apply IsS58.set_1) | exact HI0.out), by repeat (first | (with_reducible first | exact HB.out | apply below_alloc | apply pw_below_drewN | apply below_drew1 | refine below_set ?_ (IsS58.ge HI0.out)) | exact HB.out), by repeat (first | (with_reducible first | exact HK.out | apply KeepBut.set_ | apply keep_drewN | apply keep_drew | apply keep_alloc) | exact HK.out)⟩
          · rw [if_neg c12] at H
            exact absurd H (by simp)
        · rw [if_neg c9] at H
          exact absurd H (by simp)
      · rw [if_neg c8] at H
        exact absurd H (by simp)
    · rw [if_neg c7] at H
      exact absurd H (by simp)
  · rw [if_neg c5] at H
    have c5b0 : (t155 == 0) = false := beq_eq_false_iff_ne.mpr c5
    have c5b1 : (t155 != 0) = true := bne_iff_ne.mpr c5
    by_cases c16 : t155 = 1
    · rw [if_pos c16] at H
      have c16b0 : (t155 == 1) = true := beq_iff_eq.mpr c16
      have c16b1 : (t155 != 1) = false := bne_eq_false_iff_eq.mpr c16
      clear c16
      replace H := Option.bind_eq_some_iff.mp H
      obtain ⟨⟨t157, t158⟩, A170, H⟩ := H
      replace H : (if (wrap64 ((wrap64 (Int.tdiv (wrap64 (t153 * (wrap64 ((a1.size : Int) + 1)))) 256)) + t157)) < (a1.size : Int) then (if 0 ≤ (wrap64 (Int.tdiv (wrap64 (t153 * (wrap64 ((a1.size : Int) + 1)))) 256)) then (if (wrap64 (Int.tdiv (wrap64 (t153 * (wrap64 ((a1.size : Int) + 1)))) 256)) ≤ (a1.size : Int) then (if 0 ≤ (wrap64 ((wrap64 (Int.tdiv (wrap64 (t153 * (wrap64 ((a1.size : Int) + 1)))) 256)) + t157)) then (if (wrap64 ((wrap64 (Int.tdiv (wrap64 (t153 * (wrap64 ((a1.size : Int) + 1)))) 256)) + t157)) ≤ (a1.size : Int) then (if (a1.extract 0 ((wrap64 (Int.tdiv (wrap64 (t153 * (wrap64 ((a1.size : Int) + 1)))) 256)) : Int).toNat).size + (a1.extract ((wrap64 ((wrap64 (Int.tdiv (wrap64 (t153 * (wrap64 ((a1.size : Int) + 1)))) 256)) + t157)) : Int).toNat a1.size).size ≤ 9223372036854775807 then (some ((a1.extract 0 ((wrap64 (Int.tdiv (wrap64 (t153 * (wrap64 ((a1.size : Int) + 1)))) 256)) : Int).toNat) ++ (a1.extract ((wrap64 ((wrap64 (Int.tdiv (wrap64 (t153 * (wrap64 ((a1.size : Int) + 1)))) 256)) + t157)) : Int).toNat a1.size), t158)) else (none)) else (none)) else (none)) else (none)) else (none)) else ((spec_l2Thing.f k s0_0 t158).bind fun bt159 => (if 0 ≤ (wrap64 (Int.tdiv (wrap64 (t153 * (wrap64 ((a1.size : Int) + 1)))) 256)) then (if (wrap64 (Int.tdiv (wrap64 (t153 * (wrap64 ((a1.size : Int) + 1)))) 256)) ≤ (a1.size : Int) then (if bt159.1.size + (a1.extract ((wrap64 (Int.tdiv (wrap64 (t153 * (wrap64 ((a1.size : Int) + 1)))) 256)) : Int).toNat a1.size).size ≤ 9223372036854775807 then (some (bt159.1 ++ (a1.extract ((wrap64 (Int.tdiv (wrap64 (t153 * (wrap64 ((a1.size : Int) + 1)))) 256)) : Int).toNat a1.size), bt159.2)) else (none)) else (none)) else (none)))) = some (r1, r2) := H
      have A17 := Aside0.mk A170
      clear A170
      by_cases c18 : (wrap64 ((wrap64 (Int.tdiv (wrap64 (t153 * (wrap64 ((a1.size : Int) + 1)))) 256)) + t157)) < (a1.size : Int)
      · rw [if_pos c18] at H
        have c18b0 : decide ((wrap64 ((wrap64 (Int.tdiv (wrap64 (t153 * (wrap64 ((a1.size : Int) + 1)))) 256)) + t157)) < (a1.size : Int)) = true := decide_eq_true c18
        clear c18
        obtain ⟨ji19, hji19⟩ : ∃ j_ : Int, (wrap64 (Int.tdiv (wrap64 (t153 * (wrap64 ((a1.size : Int) + 1)))) 256)) = j_ := ⟨_, rfl⟩
        replace H : (if 0 ≤ (ji19) then (if (ji19) ≤ (a1.size : Int) then (if 0 ≤ (wrap64 ((ji19) + t157)) then (if (wrap64 ((ji19) + t157)) ≤ (a1.size : Int) then (if (a1.extract 0 ((ji19) : Int).toNat).size + (a1.extract ((wrap64 ((ji19) + t157)) : Int).toNat a1.size).size ≤ 9223372036854775807 then (some ((a1.extract 0 ((ji19) : Int).toNat) ++ (a1.extract ((wrap64 ((ji19) + t157)) : Int).toNat a1.size), t158)) else (none)) else (none)) else (none)) else (none)) else (none)) = some (r1, r2) := by first | (rw [hji19] at H; exact H) | (simp only [hji19] at H ⊢; exact H)
        (try rw [hji19] at c18b0)
        (try rw [hji19] at c18b0)
        (try rw [hji19] at A3)
        (try rw [hji19] at A4)
        (try rw [hji19] at A17)
        have hji19w : (IntKind.i64.wrap (Int.tdiv (wrap64 (t153 * (wrap64 ((a1.size : Int) + 1)))) 256)) = ji19 := (i64_w _).trans hji19
        by_cases c20 : 0 ≤ (ji19)
        · rw [if_pos c20] at H
          have c20b0 := eq_true c20
          have c20b1 : decide (0 ≤ (ji19)) = true := decide_eq_true c20
          clear c20
          by_cases c21 : (ji19) ≤ (a1.size : Int)
          · rw [if_pos c21] at H
            have c21b0 := eq_true c21
            have c21b1 : decide ((ji19) ≤ (a1.size : Int)) = true := decide_eq_true c21
            clear c21
            obtain ⟨ji22, hji22⟩ : ∃ j_ : Int, (wrap64 ((ji19) + t157)) = j_ := ⟨_, rfl⟩
            replace H : (if 0 ≤ (ji22) then (if (ji22) ≤ (a1.size : Int) then (if (a1.extract 0 ((ji19) : Int).toNat).size + (a1.extract ((ji22) : Int).toNat a1.size).size ≤ 9223372036854775807 then (some ((a1.extract 0 ((ji19) : Int).toNat) ++ (a1.extract ((ji22) : Int).toNat a1.size), t158)) else (none)) else (none)) else (none)) = some (r1, r2) := by first | (rw [hji22] at H; exact H) | (simp only [hji22] at H ⊢; exact H)
            (try rw [hji22] at c18b0)
            (try rw [hji22] at A3)
            (try rw [hji22] at A4)
            (try rw [hji22] at A17)
            have hji22w : (IntKind.i64.wrap ((ji19) + t157)) = ji22 := (i64_w _).trans hji22
            by_cases c23 : 0 ≤ (ji22)
            · rw [if_pos c23] at H
              have c23b0 := eq_true c23
              have c23b1 : decide (0 ≤ (ji22)) = true := decide_eq_true c23
              clear c23
              by_cases c24 : (ji22) ≤ (a1.size : Int)
              · rw [if_pos c24] at H
                have c24b0 := eq_true c24
                have c24b1 : decide ((ji22) ≤ (a1.size : Int)) = true := decide_eq_true c24
                clear c24
                by_cases c25 : (a1.extract 0 ((ji19) : Int).toNat).size + (a1.extract ((ji22) : Int).toNat a1.size).size ≤ 9223372036854775807
                · rw [if_pos c25] at H
                  have c25b0 := eq_true c25
                  have c25b1 : decide ((a1.extract 0 ((ji19) : Int).toNat).size + (a1.extract ((ji22) : Int).toNat a1.size).size ≤ 9223372036854775807) = true := decide_eq_true c25
                  try have c25b2 : (9223372036854775807 < (a1.extract 0 ((ji19) : Int).toNat).size + (a1.extract ((ji22) : Int).toNat a1.size).size) = False := eq_false (Nat.not_lt.2 c25)
                  try have c25b3 : (9223372036854775807 < ji19.toNat + (a1.size - ji22.toNat)) = False := eq_false (by have z_ := c25; simp only [ByteArray.size_extract, ByteArray.size_append] at z_; have u0_ : ji19 ≤ (a1.size : Int) := of_decide_eq_true (by first | (with_reducible assumption) | assumption); omega)
                  simp only [Option.some.injEq, Prod.mk.injEq] at H
                  obtain ⟨rfl, rfl⟩ := H
                  go_enter Try.func37, Try.ntmps37
                  try go_wp2_with (first | ((with_reducible refine gate_callee (f := 35) rfl ?_); refine goesL_ (some 8) rfl rfl Try.func35 (by kernel_rfl) rfl #[.pointer (some ⟨g, 0, none⟩), .int .i64 256] rfl (by (try simp only [List.map_toArray, List.map_cons, List.map_nil]); first | done | rfl | (simp only [List.length_drop, List.length_take]; rfl)) ?_; (with_reducible refine (spec_l1Rd_pick.calls k g s0_0 s0_1 256 t153 t154 w0 _ ?side1 ?side2 A3.out).mono ?_); (case side1 => repeat (first | (with_reducible first | exact HI0.out | apply IsS58.alloc | apply IsS58.drewN | apply IsS58.drew | apply IsS58.set_1) | exact HI0.out)); (case side2 => repeat (first | (with_reducible first | exact HB.out | apply below_alloc | apply pw_below_drewN | apply below_drew1 | refine below_set ?_ (IsS58.ge HI0.out)) | exact HB.out)); rintro e w26 ⟨rfl, hi, hb, hk⟩; refine ⟨_, rfl, ?_⟩; have n0_ := Aside0.mk (KeepBut.trans (by repeat (first | (with_reducible first | exact HK.out | apply KeepBut.set_ | apply keep_drewN | apply keep_drew | apply keep_alloc) | exact HK.out)) hk (.inl rfl)); have n1_ := Aside0.mk (hb); have n2_ := Aside0.mk (hi); clear HK; clear HB; clear HI0; have HK := n0_; have HB := n1_; have HI0 := n2_; clear n0_ n1_ n2_; (try clear hb); (try clear hb2); (try clear hk); (try clear hi)) | ((with_reducible refine gate_callee (f := 35) rfl ?_); refine goesL_ (some 15) rfl rfl Try.func35 (by kernel_rfl) rfl #[.pointer (some ⟨g, 0, none⟩), .int .i64 4] rfl (by (try simp only [List.map_toArray, List.map_cons, List.map_nil]); first | done | rfl | (simp only [List.length_drop, List.length_take]; rfl)) ?_; (with_reducible refine (spec_l1Rd_pick.calls k g s0_0 t154 4 t155 t156 w0 _ ?side1 ?side2 A4.out).mono ?_); (case side1 => repeat (first | (with_reducible first | exact HI0.out | apply IsS58.alloc | apply IsS58.drewN | apply IsS58.drew | apply IsS58.set_1) | exact HI0.out)); (case side2 => repeat (first | (with_reducible first | exact HB.out | apply below_alloc | apply pw_below_drewN | apply below_drew1 | refine below_set ?_ (IsS58.ge HI0.out)) | exact HB.out)); rintro e w27 ⟨rfl, hi, hb, hk⟩; refine ⟨_, rfl, ?_⟩; have n0_ := Aside0.mk (KeepBut.trans (by repeat (first | (with_reducible first | exact HK.out | apply KeepBut.set_ | apply keep_drewN | apply keep_drew | apply keep_alloc) | exact HK.out)) hk (.inl rfl)); have n1_ := Aside0.mk (hb); have n2_ := Aside0.mk (hi); clear HK; clear HB; clear HI0; have HK := n0_; have HB := n1_; have HI0 := n2_; clear n0_ n1_ n2_; (try clear hb); (try clear hb2); (try clear hk); (try clear hi)) | ((with_reducible refine gate_callee (f := 35) rfl ?_); refine goesL_ (some 30) rfl rfl Try.func35 (by kernel_rfl) rfl #[.pointer (some ⟨g, 0, none⟩), .int .i64 20] rfl (by (try simp only [List.map_toArray, List.map_cons, List.map_nil]); first | done | rfl | (simp only [List.length_drop, List.length_take]; rfl)) ?_; (with_reducible refine (spec_l1Rd_pick.calls k g s0_0 t156 20 t157 t158 w0 _ ?side1 ?side2 A17.out).mono ?_); (case side1 => repeat (first | (with_reducible first | exact HI0.out | apply IsS58.alloc | apply IsS58.drewN | apply IsS58.drew | apply IsS58.set_1) | exact HI0.out)); (case side2 => repeat (first | (with_reducible first | exact HB.out | apply below_alloc | apply pw_below_drewN | apply below_drew1 | refine below_set ?_ (IsS58.ge HI0.out)) | exact HB.out)); rintro e w28 ⟨rfl, hi, hb, hk⟩; refine ⟨_, rfl, ?_⟩; have n0_ := Aside0.mk (KeepBut.trans (by repeat (first | (with_reducible first | exact HK.out | apply KeepBut.set_ | apply keep_drewN | apply keep_drew | apply keep_alloc) | exact HK.out)) hk (.inl rfl)); have n1_ := Aside0.mk (hb); have n2_ := Aside0.mk (hi); clear HK; clear HB; clear HI0; have HK := n0_; have HB := n1_; have HI0 := n2_; clear n0_ n1_ n2_; (try clear hb); (try clear hb2); (try clear hk); (try clear hi)))
                  have n0_ := Aside0.mk (IsS58.drew HI0.out)
                  have n1_ := Aside0.mk (keep_drew HK.out)
                  have n2_ := Aside0.mk (below_drew1 HB.out)
                  clear HI0
                  clear HK
                  clear HB
                  have HI0 := n0_
                  have HK := n1_
                  have HB := n2_
                  clear n0_ n1_ n2_
                  refine start_ (n := 8) (S := fun w' => True) (ds := []) #[false, false, false, false, false, false, false, false] (by kernel_rfl) rfl rfl trivial (fun hHeld => ?_); refine with_tabW spec_l2Near.tab8 spec_l2Near.bits8 (fun HT_ HW_ => ?_)
                  generalize w28.drew = w29 at HI0 HK HB hHeld ⊢
                  refine pure_ (i := 0) (N := some 36) (v := ?_) (a' := ?_) #[true, false, false, false, false, false, false, false] rfl rfl (any_of HT_.out (by kernel_rfl)) (fun _ _ _ h => h) (Or.inl ⟨by rfl, ?_⟩) ?_ ?_
                  rotate_left
                  · intro w'
                    go_simp
                    with_reducible rfl
                  rotate_left
                  · simp only [Act.put, List.setIfInBounds_toArray, List.set_cons_zero, List.set_cons_succ, i64_w, i32_w]
                    rfl
                  refine pure_ (i := 1) (N := some 37) (v := ?_) (a' := ?_) #[true, true, false, false, false, false, false, false] rfl rfl (any_of HT_.out (by kernel_rfl)) (fun _ _ _ h => h) (Or.inl ⟨by rfl, ?_⟩) ?_ ?_
                  rotate_left
                  · intro w'
                    go_simp
                    with_reducible rfl
                  rotate_left
                  · simp only [Act.put, List.setIfInBounds_toArray, List.set_cons_zero, List.set_cons_succ, i64_w, i32_w]
                    rfl
                  refine pure_ (i := 2) (N := some 38) (v := ?_) (a' := ?_) #[true, true, true, false, false, false, false, false] rfl rfl (any_of HT_.out (by kernel_rfl)) (fun _ _ _ h => h) (Or.inl ⟨by rfl, ?_⟩) ?_ ?_
                  rotate_left
                  · intro w'
                    go_simp
                    with_reducible rfl
                  rotate_left
                  · simp only [Act.put, List.setIfInBounds_toArray, List.set_cons_zero, List.set_cons_succ, i64_w, i32_w]
                    rfl
                  refine pure_ (i := 3) (N := some 39) (v := ?_) (a' := ?_) #[true, true, true, true, false, false, false, false] rfl rfl (any_of HT_.out (by kernel_rfl)) (fun _ _ _ h => h) (Or.inl ⟨by rfl, ?_⟩) ?_ ?_
                  rotate_left
                  · intro w'
                    go_simp
                    with_reducible rfl
                  rotate_left
                  · simp only [Act.put, List.setIfInBounds_toArray, List.set_cons_zero, List.set_cons_succ, i64_w, i32_w]
                    rfl
                  refine pure_ (i := 4) (N := some 40) (v := ?_) (a' := ?_) #[true, true, true, true, true, false, false, false] rfl rfl (any_of HT_.out (by kernel_rfl)) (fun _ _ _ h => h) (Or.inl ⟨by rfl, ?_⟩) ?_ ?_
                  rotate_left
                  · intro w'
                    go_simp
                    with_reducible rfl
                  rotate_left
                  · simp only [Act.put, List.setIfInBounds_toArray, List.set_cons_zero, List.set_cons_succ, i64_w, i32_w]
                    rfl
                  refine pure_ (i := 5) (N := some 41) (v := ?_) (a' := ?_) #[true, true, true, true, true, true, false, false] rfl rfl (any_of HT_.out (by kernel_rfl)) (fun _ _ _ h => h) (Or.inl ⟨by rfl, ?_⟩) ?_ ?_
                  rotate_left
                  · intro w'
                    go_simp
                    with_reducible rfl
                  rotate_left
                  · simp only [Act.put, List.setIfInBounds_toArray, List.set_cons_zero, List.set_cons_succ, i64_w, i32_w]
                    rfl
                  refine pure_ (i := 6) (N := some 42) (v := ?_) (a' := ?_) #[true, true, true, true, true, true, true, false] rfl rfl (any_of HT_.out (by kernel_rfl)) (fun _ _ _ h => h) (Or.inl ⟨by rfl, ?_⟩) ?_ ?_
                  rotate_left
                  · intro w'
                    go_simp
                    with_reducible rfl
                  rotate_left
                  · simp only [Act.put, List.setIfInBounds_toArray, List.set_cons_zero, List.set_cons_succ, i64_w, i32_w]
                    rfl
                  refine pure_ (i := 7) (N := some 4) (v := ?_) (a' := ?_) #[true, true, true, true, true, true, true, true] rfl rfl (any_of HT_.out (by kernel_rfl)) (fun _ _ _ h => h) (Or.inl ⟨by rfl, ?_⟩) ?_ ?_
                  rotate_left
                  · intro w'
                    go_simp
                    with_reducible rfl
                  rotate_left
                  · simp only [Act.put, List.setIfInBounds_toArray, List.set_cons_zero, List.set_cons_succ, i64_w, i32_w]
                    rfl
                  refine done_ (done_of HT_.out (by kernel_rfl)) ?_
                  try go_wp2
                  go_ret
                  exact ⟨by first | rfl | (simp [errW_none, errW_some] <;> rfl) | (simp only [← hji19, ← hji22]; first | rfl | (simp [errW_none, errW_some] <;> rfl)) | (simp [*, errW_none, errW_some] <;> rfl), by repeat (first | (with_reducible first | exact HI0.out | apply IsS58.alloc | apply IsS58.drewN | apply IsS58.drew | apply IsS58.set_1) | exact HI0.out), by repeat (first | (with_reducible first | exact HB.out | apply below_alloc | apply pw_below_drewN | apply below_drew1 | refine below_set ?_ (IsS58.ge HI0.out)) | exact HB.out), by repeat (first | (with_reducible first | exact HK.out | apply KeepBut.set_ | apply keep_drewN | apply keep_drew | apply keep_alloc) | exact HK.out)⟩
                · rw [if_neg c25] at H
                  exact absurd H (by simp)
              · rw [if_neg c24] at H
                exact absurd H (by simp)
            · rw [if_neg c23] at H
              exact absurd H (by simp)
          · rw [if_neg c21] at H
            exact absurd H (by simp)
        · rw [if_neg c20] at H
          exact absurd H (by simp)
      · rw [if_neg c18] at H
        have c18b0 : decide ((wrap64 ((wrap64 (Int.tdiv (wrap64 (t153 * (wrap64 ((a1.size : Int) + 1)))) 256)) + t157)) < (a1.size : Int)) = false := decide_eq_false c18
        clear c18
        replace H := Option.bind_eq_some_iff.mp H
        obtain ⟨⟨t159, t160⟩, A300, H⟩ := H
        replace H : (if 0 ≤ (wrap64 (Int.tdiv (wrap64 (t153 * (wrap64 ((a1.size : Int) + 1)))) 256)) then (if (wrap64 (Int.tdiv (wrap64 (t153 * (wrap64 ((a1.size : Int) + 1)))) 256)) ≤ (a1.size : Int) then (if t159.size + (a1.extract ((wrap64 (Int.tdiv (wrap64 (t153 * (wrap64 ((a1.size : Int) + 1)))) 256)) : Int).toNat a1.size).size ≤ 9223372036854775807 then (some (t159 ++ (a1.extract ((wrap64 (Int.tdiv (wrap64 (t153 * (wrap64 ((a1.size : Int) + 1)))) 256)) : Int).toNat a1.size), t160)) else (none)) else (none)) else (none)) = some (r1, r2) := H
        have A30 := Aside0.mk A300
        clear A300
        obtain ⟨ji31, hji31⟩ : ∃ j_ : Int, (wrap64 (Int.tdiv (wrap64 (t153 * (wrap64 ((a1.size : Int) + 1)))) 256)) = j_ := ⟨_, rfl⟩
        replace H : (if 0 ≤ (ji31) then (if (ji31) ≤ (a1.size : Int) then (if t159.size + (a1.extract ((ji31) : Int).toNat a1.size).size ≤ 9223372036854775807 then (some (t159 ++ (a1.extract ((ji31) : Int).toNat a1.size), t160)) else (none)) else (none)) else (none)) = some (r1, r2) := by first | (rw [hji31] at H; exact H) | (simp only [hji31] at H ⊢; exact H)
        (try rw [hji31] at c18b0)
        (try rw [hji31] at c18b0)
        (try rw [hji31] at A3)
        (try rw [hji31] at A4)
        (try rw [hji31] at A17)
        (try rw [hji31] at A30)
        have hji31w : (IntKind.i64.wrap (Int.tdiv (wrap64 (t153 * (wrap64 ((a1.size : Int) + 1)))) 256)) = ji31 := (i64_w _).trans hji31
        by_cases c32 : 0 ≤ (ji31)
        · rw [if_pos c32] at H
          have c32b0 := eq_true c32
          have c32b1 : decide (0 ≤ (ji31)) = true := decide_eq_true c32
          clear c32
          by_cases c33 : (ji31) ≤ (a1.size : Int)
          · rw [if_pos c33] at H
            have c33b0 := eq_true c33
            have c33b1 : decide ((ji31) ≤ (a1.size : Int)) = true := decide_eq_true c33
            clear c33
            by_cases c34 : t159.size + (a1.extract ((ji31) : Int).toNat a1.size).size ≤ 9223372036854775807
            · rw [if_pos c34] at H
              have c34b0 := eq_true c34
              have c34b1 : decide (t159.size + (a1.extract ((ji31) : Int).toNat a1.size).size ≤ 9223372036854775807) = true := decide_eq_true c34
              try have c34b2 : (9223372036854775807 < t159.size + (a1.extract ((ji31) : Int).toNat a1.size).size) = False := eq_false (Nat.not_lt.2 c34)
              try have c34b3 : (9223372036854775807 < t159.size + (a1.size - ji31.toNat)) = False := eq_false (by have z_ := c34; simp only [ByteArray.size_extract, ByteArray.size_append] at z_; omega)
              simp only [Option.some.injEq, Prod.mk.injEq] at H
              obtain ⟨rfl, rfl⟩ := H
              go_enter Try.func37, Try.ntmps37
              try go_wp2_with (first | ((with_reducible refine gate_callee (f := 35) rfl ?_); refine goesL_ (some 8) rfl rfl Try.func35 (by kernel_rfl) rfl #[.pointer (some ⟨g, 0, none⟩), .int .i64 256] rfl (by (try simp only [List.map_toArray, List.map_cons, List.map_nil]); first | done | rfl | (simp only [List.length_drop, List.length_take]; rfl)) ?_; (with_reducible refine (spec_l1Rd_pick.calls k g s0_0 s0_1 256 t153 t154 w0 _ ?side1 ?side2 A3.out).mono ?_); (case side1 => repeat (first | (with_reducible first | exact HI0.out | apply IsS58.alloc | apply IsS58.drewN | apply IsS58.drew | apply IsS58.set_1) | exact HI0.out)); (case side2 => repeat (first | (with_reducible first | exact HB.out | apply below_alloc | apply pw_below_drewN | apply below_drew1 | refine below_set ?_ (IsS58.ge HI0.out)) | exact HB.out)); rintro e w35 ⟨rfl, hi, hb, hk⟩; refine ⟨_, rfl, ?_⟩; have n0_ := Aside0.mk (KeepBut.trans (by repeat (first | (with_reducible first | exact HK.out | apply KeepBut.set_ | apply keep_drewN | apply keep_drew | apply keep_alloc) | exact HK.out)) hk (.inl rfl)); have n1_ := Aside0.mk (hb); have n2_ := Aside0.mk (hi); clear HK; clear HB; clear HI0; have HK := n0_; have HB := n1_; have HI0 := n2_; clear n0_ n1_ n2_; (try clear hb); (try clear hb2); (try clear hk); (try clear hi)) | ((with_reducible refine gate_callee (f := 35) rfl ?_); refine goesL_ (some 15) rfl rfl Try.func35 (by kernel_rfl) rfl #[.pointer (some ⟨g, 0, none⟩), .int .i64 4] rfl (by (try simp only [List.map_toArray, List.map_cons, List.map_nil]); first | done | rfl | (simp only [List.length_drop, List.length_take]; rfl)) ?_; (with_reducible refine (spec_l1Rd_pick.calls k g s0_0 t154 4 t155 t156 w0 _ ?side1 ?side2 A4.out).mono ?_); (case side1 => repeat (first | (with_reducible first | exact HI0.out | apply IsS58.alloc | apply IsS58.drewN | apply IsS58.drew | apply IsS58.set_1) | exact HI0.out)); (case side2 => repeat (first | (with_reducible first | exact HB.out | apply below_alloc | apply pw_below_drewN | apply below_drew1 | refine below_set ?_ (IsS58.ge HI0.out)) | exact HB.out)); rintro e w36 ⟨rfl, hi, hb, hk⟩; refine ⟨_, rfl, ?_⟩; have n0_ := Aside0.mk (KeepBut.trans (by repeat (first | (with_reducible first | exact HK.out | apply KeepBut.set_ | apply keep_drewN | apply keep_drew | apply keep_alloc) | exact HK.out)) hk (.inl rfl)); have n1_ := Aside0.mk (hb); have n2_ := Aside0.mk (hi); clear HK; clear HB; clear HI0; have HK := n0_; have HB := n1_; have HI0 := n2_; clear n0_ n1_ n2_; (try clear hb); (try clear hb2); (try clear hk); (try clear hi)) | ((with_reducible refine gate_callee (f := 35) rfl ?_); refine goesL_ (some 30) rfl rfl Try.func35 (by kernel_rfl) rfl #[.pointer (some ⟨g, 0, none⟩), .int .i64 20] rfl (by (try simp only [List.map_toArray, List.map_cons, List.map_nil]); first | done | rfl | (simp only [List.length_drop, List.length_take]; rfl)) ?_; (with_reducible refine (spec_l1Rd_pick.calls k g s0_0 t156 20 t157 t158 w0 _ ?side1 ?side2 A17.out).mono ?_); (case side1 => repeat (first | (with_reducible first | exact HI0.out | apply IsS58.alloc | apply IsS58.drewN | apply IsS58.drew | apply IsS58.set_1) | exact HI0.out)); (case side2 => repeat (first | (with_reducible first | exact HB.out | apply below_alloc | apply pw_below_drewN | apply below_drew1 | refine below_set ?_ (IsS58.ge HI0.out)) | exact HB.out)); rintro e w37 ⟨rfl, hi, hb, hk⟩; refine ⟨_, rfl, ?_⟩; have n0_ := Aside0.mk (KeepBut.trans (by repeat (first | (with_reducible first | exact HK.out | apply KeepBut.set_ | apply keep_drewN | apply keep_drew | apply keep_alloc) | exact HK.out)) hk (.inl rfl)); have n1_ := Aside0.mk (hb); have n2_ := Aside0.mk (hi); clear HK; clear HB; clear HI0; have HK := n0_; have HB := n1_; have HI0 := n2_; clear n0_ n1_ n2_; (try clear hb); (try clear hb2); (try clear hk); (try clear hi)))
              have n0_ := Aside0.mk (IsS58.drew HI0.out)
              have n1_ := Aside0.mk (keep_drew HK.out)
              have n2_ := Aside0.mk (below_drew1 HB.out)
              clear HI0
              clear HK
              clear HB
              have HI0 := n0_
              have HK := n1_
              have HB := n2_
              clear n0_ n1_ n2_
              refine start_ (n := 7) (S := fun w' => True) (ds := []) #[false, false, false, false, false, false, false] (by kernel_rfl) rfl rfl trivial (fun hHeld => ?_)
              generalize w37.drew = w38 at HI0 HK HB hHeld ⊢
              refine pure_ (i := 0) (N := some 49) (v := ?_) (a' := ?_) #[true, false, false, false, false, false, false] rfl rfl (by kernel_rfl) (fun _ _ _ h => h) (Or.inl ⟨by rfl, ?_⟩) ?_ ?_
              rotate_left
              · intro w'
                go_simp
                with_reducible rfl
              rotate_left
              · simp only [Act.put, List.setIfInBounds_toArray, List.set_cons_zero, List.set_cons_succ, i64_w, i32_w]
                rfl
              refine pure_ (i := 2) (N := some 51) (v := ?_) (a' := ?_) #[true, false, true, false, false, false, false] rfl rfl (by kernel_rfl) (fun _ _ _ h => h) (Or.inl ⟨by rfl, ?_⟩) ?_ ?_
              rotate_left
              · intro w'
                go_simp
                with_reducible rfl
              rotate_left
              · simp only [Act.put, List.setIfInBounds_toArray, List.set_cons_zero, List.set_cons_succ, i64_w, i32_w]
                rfl
              refine pure_ (i := 3) (N := some 52) (v := ?_) (a' := ?_) #[true, false, true, true, false, false, false] rfl rfl (by kernel_rfl) (fun _ _ _ h => h) (Or.inl ⟨by rfl, ?_⟩) ?_ ?_
              rotate_left
              · intro w'
                go_simp
                with_reducible rfl
              rotate_left
              · simp only [Act.put, List.setIfInBounds_toArray, List.set_cons_zero, List.set_cons_succ, i64_w, i32_w]
                rfl
              refine pure_ (i := 4) (N := some 53) (v := ?_) (a' := ?_) #[true, false, true, true, true, false, false] rfl rfl (by kernel_rfl) (fun _ _ _ h => h) (Or.inl ⟨by rfl, ?_⟩) ?_ ?_
              rotate_left
              · intro w'
                go_simp
                with_reducible rfl
              rotate_left
              · simp only [Act.put, List.setIfInBounds_toArray, List.set_cons_zero, List.set_cons_succ, i64_w, i32_w]
                rfl
              refine one_ (i := 1) (N := some 50) #[true, true, true, true, true, false, false] rfl rfl (by kernel_rfl) (by decide) (fun K hK => ?_)
              refine goes_ Try.func36 (by kernel_rfl) rfl #[.pointer (some ⟨g, 0, none⟩)] (by rfl) rfl rfl (by (try simp only [List.map_toArray, List.map_cons, List.map_nil]); first | done | rfl | (simp only [List.length_drop, List.length_take]; rfl)) ?_
              with_reducible refine (spec_l2Thing.calls k g s0_0 t158 t159 t160 w0 _ ?side1 ?side2 A30.out).mono ?_
              (case side1 => repeat (first | (with_reducible first | exact HI0.out | apply IsS58.alloc | apply IsS58.drewN | apply IsS58.drew | apply IsS58.set_1) | exact HI0.out))
              (case side2 => repeat (first | (with_reducible first | exact HB.out | apply below_alloc | apply pw_below_drewN | apply below_drew1 | refine below_set ?_ (IsS58.ge HI0.out)) | exact HB.out))
              rintro e w39 ⟨rfl, hi, hb, hk⟩
              refine ⟨_, rfl, ?_⟩
              have n0_ := Aside0.mk (KeepBut.trans (by repeat (first | (with_reducible first | exact HK.out | apply KeepBut.set_ | apply keep_drewN | apply keep_drew | apply keep_alloc) | exact HK.out)) hk (.inl rfl))
              have n1_ := Aside0.mk (hb)
              have n2_ := Aside0.mk (hi)
              clear HK
              clear HB
              clear HI0
              have HK := n0_
              have HB := n1_
              have HI0 := n2_
              clear n0_ n1_ n2_
              (try clear hb)
              (try clear hb2)
              (try clear hk)
              (try clear hi)
              refine hK.out _ _ trivial (fun hHeld => ?_)
              clear hK K
              refine norm_ (a' := ?_) ?_ ?_
              rotate_left
              · show Act.put _ (some 50) _ = _
                simp only [Act.put, List.setIfInBounds_toArray, List.set_cons_zero, List.set_cons_succ, i64_w, i32_w]
                rfl
              refine pure_ (i := 5) (N := some 54) (v := ?_) (a' := ?_) #[true, true, true, true, true, true, false] rfl rfl (by kernel_rfl) (fun _ _ _ h => h) (Or.inl ⟨by rfl, ?_⟩) ?_ ?_
              rotate_left
              · intro w'
                go_simp
                with_reducible rfl
              rotate_left
              · simp only [Act.put, List.setIfInBounds_toArray, List.set_cons_zero, List.set_cons_succ, i64_w, i32_w]
                rfl
              refine pure_ (i := 6) (N := some 4) (v := ?_) (a' := ?_) #[true, true, true, true, true, true, true] rfl rfl (by kernel_rfl) (fun _ _ _ h => h) (Or.inl ⟨by rfl, ?_⟩) ?_ ?_
              rotate_left
              · intro w'
                go_simp
                with_reducible rfl
              rotate_left
              · simp only [Act.put, List.setIfInBounds_toArray, List.set_cons_zero, List.set_cons_succ, i64_w, i32_w]
                rfl
              refine done_ (by kernel_rfl) ?_
              try go_wp2
              go_ret
              exact ⟨by first | rfl | (simp [errW_none, errW_some] <;> rfl) | (simp only [← hji31]; first | rfl | (simp [errW_none, errW_some] <;> rfl)) | (simp [*, errW_none, errW_some] <;> rfl), by repeat (first | (with_reducible first | exact HI0.out | apply IsS58.alloc | apply IsS58.drewN | apply IsS58.drew | apply IsS58.set_1) | exact HI0.out), by repeat (first | (with_reducible first | exact HB.out | apply below_alloc | apply pw_below_drewN | apply below_drew1 | refine below_set ?_ (IsS58.ge HI0.out)) | exact HB.out), by repeat (first | (with_reducible first | exact HK.out | apply KeepBut.set_ | apply keep_drewN | apply keep_drew | apply keep_alloc) | exact HK.out)⟩
            · rw [if_neg c34] at H
              exact absurd H (by simp)
          · rw [if_neg c33] at H
            exact absurd H (by simp)
        · rw [if_neg c32] at H
          exact absurd H (by simp)
    · rw [if_neg c16] at H
      have c16b0 : (t155 == 1) = false := beq_eq_false_iff_ne.mpr c16
      have c16b1 : (t155 != 1) = true := bne_iff_ne.mpr c16
      by_cases c40 : t155 = 2
      · rw [if_pos c40] at H
        have c40b0 : (t155 == 2) = true := beq_iff_eq.mpr c40
        have c40b1 : (t155 != 2) = false := bne_eq_false_iff_eq.mpr c40
        clear c40
        replace H := Option.bind_eq_some_iff.mp H
        obtain ⟨⟨t161, t162⟩, A410, H⟩ := H
        replace H : (if a1.size + t161.size ≤ 9223372036854775807 then (some (a1 ++ t161, t162)) else (none)) = some (r1, r2) := H
        have A41 := Aside0.mk A410
        clear A410
        by_cases c42 : a1.size + t161.size ≤ 9223372036854775807
        · rw [if_pos c42] at H
          have c42b0 := eq_true c42
          have c42b1 : decide (a1.size + t161.size ≤ 9223372036854775807) = true := decide_eq_true c42
          try have c42b2 : (9223372036854775807 < a1.size + t161.size) = False := eq_false (Nat.not_lt.2 c42)
          simp only [Option.some.injEq, Prod.mk.injEq] at H
          obtain ⟨rfl, rfl⟩ := H
          go_enter Try.func37, Try.ntmps37
          go_wp2_with (first | ((with_reducible refine gate_callee (f := 35) rfl ?_); refine goesL_ (some 8) rfl rfl Try.func35 (by kernel_rfl) rfl #[.pointer (some ⟨g, 0, none⟩), .int .i64 256] rfl (by (try simp only [List.map_toArray, List.map_cons, List.map_nil]); first | done | rfl | (simp only [List.length_drop, List.length_take]; rfl)) ?_; (with_reducible refine (spec_l1Rd_pick.calls k g s0_0 s0_1 256 t153 t154 w0 _ ?side1 ?side2 A3.out).mono ?_); (case side1 => repeat (first | (with_reducible first | exact HI0.out | apply IsS58.alloc | apply IsS58.drewN | apply IsS58.drew | apply IsS58.set_1) | exact HI0.out)); (case side2 => repeat (first | (with_reducible first | exact HB.out | apply below_alloc | apply pw_below_drewN | apply below_drew1 | refine below_set ?_ (IsS58.ge HI0.out)) | exact HB.out)); rintro e w43 ⟨rfl, hi, hb, hk⟩; refine ⟨_, rfl, ?_⟩; have n0_ := Aside0.mk (KeepBut.trans (by repeat (first | (with_reducible first | exact HK.out | apply KeepBut.set_ | apply keep_drewN | apply keep_drew | apply keep_alloc) | exact HK.out)) hk (.inl rfl)); have n1_ := Aside0.mk (hb); have n2_ := Aside0.mk (hi); clear HK; clear HB; clear HI0; have HK := n0_; have HB := n1_; have HI0 := n2_; clear n0_ n1_ n2_; (try clear hb); (try clear hb2); (try clear hk); (try clear hi)) | ((with_reducible refine gate_callee (f := 35) rfl ?_); refine goesL_ (some 15) rfl rfl Try.func35 (by kernel_rfl) rfl #[.pointer (some ⟨g, 0, none⟩), .int .i64 4] rfl (by (try simp only [List.map_toArray, List.map_cons, List.map_nil]); first | done | rfl | (simp only [List.length_drop, List.length_take]; rfl)) ?_; (with_reducible refine (spec_l1Rd_pick.calls k g s0_0 t154 4 t155 t156 w0 _ ?side1 ?side2 A4.out).mono ?_); (case side1 => repeat (first | (with_reducible first | exact HI0.out | apply IsS58.alloc | apply IsS58.drewN | apply IsS58.drew | apply IsS58.set_1) | exact HI0.out)); (case side2 => repeat (first | (with_reducible first | exact HB.out | apply below_alloc | apply pw_below_drewN | apply below_drew1 | refine below_set ?_ (IsS58.ge HI0.out)) | exact HB.out)); rintro e w44 ⟨rfl, hi, hb, hk⟩; refine ⟨_, rfl, ?_⟩; have n0_ := Aside0.mk (KeepBut.trans (by repeat (first | (with_reducible first | exact HK.out | apply KeepBut.set_ | apply keep_drewN | apply keep_drew | apply keep_alloc) | exact HK.out)) hk (.inl rfl)); have n1_ := Aside0.mk (hb); have n2_ := Aside0.mk (hi); clear HK; clear HB; clear HI0; have HK := n0_; have HB := n1_; have HI0 := n2_; clear n0_ n1_ n2_; (try clear hb); (try clear hb2); (try clear hk); (try clear hi)) | ((with_reducible refine gate_callee (f := 36) rfl ?_); refine goesL_ (some 47) rfl rfl Try.func36 (by kernel_rfl) rfl #[.pointer (some ⟨g, 0, none⟩)] rfl (by (try simp only [List.map_toArray, List.map_cons, List.map_nil]); first | done | rfl | (simp only [List.length_drop, List.length_take]; rfl)) ?_; (with_reducible refine (spec_l2Thing.calls k g s0_0 t156 t161 t162 w0 _ ?side1 ?side2 A41.out).mono ?_); (case side1 => repeat (first | (with_reducible first | exact HI0.out | apply IsS58.alloc | apply IsS58.drewN | apply IsS58.drew | apply IsS58.set_1) | exact HI0.out)); (case side2 => repeat (first | (with_reducible first | exact HB.out | apply below_alloc | apply pw_below_drewN | apply below_drew1 | refine below_set ?_ (IsS58.ge HI0.out)) | exact HB.out)); rintro e w45 ⟨rfl, hi, hb, hk⟩; refine ⟨_, rfl, ?_⟩; have n0_ := Aside0.mk (KeepBut.trans (by repeat (first | (with_reducible first | exact HK.out | apply KeepBut.set_ | apply keep_drewN | apply keep_drew | apply keep_alloc) | exact HK.out)) hk (.inl rfl)); have n1_ := Aside0.mk (hb); have n2_ := Aside0.mk (hi); clear HK; clear HB; clear HI0; have HK := n0_; have HB := n1_; have HI0 := n2_; clear n0_ n1_ n2_; (try clear hb); (try clear hb2); (try clear hk); (try clear hi)))
          go_ret
          exact ⟨by first | rfl | (simp [errW_none, errW_some] <;> rfl) | (simp [*, errW_none, errW_some] <;> rfl), by repeat (first | (with_reducible first | exact HI0.out | apply IsS58.alloc | apply IsS58.drewN | apply IsS58.drew | apply IsS58.set_1) | exact HI0.out), by repeat (first | (with_reducible first | exact HB.out | apply below_alloc | apply pw_below_drewN | apply below_drew1 | refine below_set ?_ (IsS58.ge HI0.out)) | exact HB.out), by repeat (first | (with_reducible first | exact HK.out | apply KeepBut.set_ | apply keep_drewN | apply keep_drew | apply keep_alloc) | exact HK.out)⟩
        · rw [if_neg c42] at H
          exact absurd H (by simp)
      · rw [if_neg c40] at H
        have c40b0 : (t155 == 2) = false := beq_eq_false_iff_ne.mpr c40
        have c40b1 : (t155 != 2) = true := bne_iff_ne.mpr c40
        replace H := Option.bind_eq_some_iff.mp H
        obtain ⟨⟨t163, t164⟩, A460, H⟩ := H
        replace H : (if 0 ≤ (wrap64 (Int.tdiv (wrap64 (t153 * (wrap64 ((a1.size : Int) + 1)))) 256)) then (if (wrap64 (Int.tdiv (wrap64 (t153 * (wrap64 ((a1.size : Int) + 1)))) 256)) ≤ (a1.size : Int) then (if t163.size + (a1.extract ((wrap64 (Int.tdiv (wrap64 (t153 * (wrap64 ((a1.size : Int) + 1)))) 256)) : Int).toNat a1.size).size ≤ 9223372036854775807 then (some (t163 ++ (a1.extract ((wrap64 (Int.tdiv (wrap64 (t153 * (wrap64 ((a1.size : Int) + 1)))) 256)) : Int).toNat a1.size), t164)) else (none)) else (none)) else (none)) = some (r1, r2) := H
        have A46 := Aside0.mk A460
        clear A460
        obtain ⟨ji47, hji47⟩ : ∃ j_ : Int, (wrap64 (Int.tdiv (wrap64 (t153 * (wrap64 ((a1.size : Int) + 1)))) 256)) = j_ := ⟨_, rfl⟩
        replace H : (if 0 ≤ (ji47) then (if (ji47) ≤ (a1.size : Int) then (if t163.size + (a1.extract ((ji47) : Int).toNat a1.size).size ≤ 9223372036854775807 then (some (t163 ++ (a1.extract ((ji47) : Int).toNat a1.size), t164)) else (none)) else (none)) else (none)) = some (r1, r2) := by first | (rw [hji47] at H; exact H) | (simp only [hji47] at H ⊢; exact H)
        (try rw [hji47] at A3)
        (try rw [hji47] at A4)
        (try rw [hji47] at A46)
        have hji47w : (IntKind.i64.wrap (Int.tdiv (wrap64 (t153 * (wrap64 ((a1.size : Int) + 1)))) 256)) = ji47 := (i64_w _).trans hji47
        by_cases c48 : 0 ≤ (ji47)
        · rw [if_pos c48] at H
          have c48b0 := eq_true c48
          have c48b1 : decide (0 ≤ (ji47)) = true := decide_eq_true c48
          clear c48
          by_cases c49 : (ji47) ≤ (a1.size : Int)
          · rw [if_pos c49] at H
            have c49b0 := eq_true c49
            have c49b1 : decide ((ji47) ≤ (a1.size : Int)) = true := decide_eq_true c49
            clear c49
            by_cases c50 : t163.size + (a1.extract ((ji47) : Int).toNat a1.size).size ≤ 9223372036854775807
            · rw [if_pos c50] at H
              have c50b0 := eq_true c50
              have c50b1 : decide (t163.size + (a1.extract ((ji47) : Int).toNat a1.size).size ≤ 9223372036854775807) = true := decide_eq_true c50
              try have c50b2 : (9223372036854775807 < t163.size + (a1.extract ((ji47) : Int).toNat a1.size).size) = False := eq_false (Nat.not_lt.2 c50)
              try have c50b3 : (9223372036854775807 < t163.size + (a1.size - ji47.toNat)) = False := eq_false (by have z_ := c50; simp only [ByteArray.size_extract, ByteArray.size_append] at z_; omega)
              simp only [Option.some.injEq, Prod.mk.injEq] at H
              obtain ⟨rfl, rfl⟩ := H
              go_enter Try.func37, Try.ntmps37
              try go_wp2_with (first | ((with_reducible refine gate_callee (f := 35) rfl ?_); refine goesL_ (some 8) rfl rfl Try.func35 (by kernel_rfl) rfl #[.pointer (some ⟨g, 0, none⟩), .int .i64 256] rfl (by (try simp only [List.map_toArray, List.map_cons, List.map_nil]); first | done | rfl | (simp only [List.length_drop, List.length_take]; rfl)) ?_; (with_reducible refine (spec_l1Rd_pick.calls k g s0_0 s0_1 256 t153 t154 w0 _ ?side1 ?side2 A3.out).mono ?_); (case side1 => repeat (first | (with_reducible first | exact HI0.out | apply IsS58.alloc | apply IsS58.drewN | apply IsS58.drew | apply IsS58.set_1) | exact HI0.out)); (case side2 => repeat (first | (with_reducible first | exact HB.out | apply below_alloc | apply pw_below_drewN | apply below_drew1 | refine below_set ?_ (IsS58.ge HI0.out)) | exact HB.out)); rintro e w51 ⟨rfl, hi, hb, hk⟩; refine ⟨_, rfl, ?_⟩; have n0_ := Aside0.mk (KeepBut.trans (by repeat (first | (with_reducible first | exact HK.out | apply KeepBut.set_ | apply keep_drewN | apply keep_drew | apply keep_alloc) | exact HK.out)) hk (.inl rfl)); have n1_ := Aside0.mk (hb); have n2_ := Aside0.mk (hi); clear HK; clear HB; clear HI0; have HK := n0_; have HB := n1_; have HI0 := n2_; clear n0_ n1_ n2_; (try clear hb); (try clear hb2); (try clear hk); (try clear hi)) | ((with_reducible refine gate_callee (f := 35) rfl ?_); refine goesL_ (some 15) rfl rfl Try.func35 (by kernel_rfl) rfl #[.pointer (some ⟨g, 0, none⟩), .int .i64 4] rfl (by (try simp only [List.map_toArray, List.map_cons, List.map_nil]); first | done | rfl | (simp only [List.length_drop, List.length_take]; rfl)) ?_; (with_reducible refine (spec_l1Rd_pick.calls k g s0_0 t154 4 t155 t156 w0 _ ?side1 ?side2 A4.out).mono ?_); (case side1 => repeat (first | (with_reducible first | exact HI0.out | apply IsS58.alloc | apply IsS58.drewN | apply IsS58.drew | apply IsS58.set_1) | exact HI0.out)); (case side2 => repeat (first | (with_reducible first | exact HB.out | apply below_alloc | apply pw_below_drewN | apply below_drew1 | refine below_set ?_ (IsS58.ge HI0.out)) | exact HB.out)); rintro e w52 ⟨rfl, hi, hb, hk⟩; refine ⟨_, rfl, ?_⟩; have n0_ := Aside0.mk (KeepBut.trans (by repeat (first | (with_reducible first | exact HK.out | apply KeepBut.set_ | apply keep_drewN | apply keep_drew | apply keep_alloc) | exact HK.out)) hk (.inl rfl)); have n1_ := Aside0.mk (hb); have n2_ := Aside0.mk (hi); clear HK; clear HB; clear HI0; have HK := n0_; have HB := n1_; have HI0 := n2_; clear n0_ n1_ n2_; (try clear hb); (try clear hb2); (try clear hk); (try clear hi)))
              have n0_ := Aside0.mk (IsS58.drew HI0.out)
              have n1_ := Aside0.mk (keep_drew HK.out)
              have n2_ := Aside0.mk (below_drew1 HB.out)
              clear HI0
              clear HK
              clear HB
              have HI0 := n0_
              have HK := n1_
              have HB := n2_
              clear n0_ n1_ n2_
              refine start_ (n := 7) (S := fun w' => True) (ds := []) #[false, false, false, false, false, false, false] (by kernel_rfl) rfl rfl trivial (fun hHeld => ?_)
              generalize w52.drew = w53 at HI0 HK HB hHeld ⊢
              refine pure_ (i := 0) (N := some 49) (v := ?_) (a' := ?_) #[true, false, false, false, false, false, false] rfl rfl (by kernel_rfl) (fun _ _ _ h => h) (Or.inl ⟨by rfl, ?_⟩) ?_ ?_
              rotate_left
              · intro w'
                go_simp
                with_reducible rfl
              rotate_left
              · simp only [Act.put, List.setIfInBounds_toArray, List.set_cons_zero, List.set_cons_succ, i64_w, i32_w]
                rfl
              refine pure_ (i := 2) (N := some 51) (v := ?_) (a' := ?_) #[true, false, true, false, false, false, false] rfl rfl (by kernel_rfl) (fun _ _ _ h => h) (Or.inl ⟨by rfl, ?_⟩) ?_ ?_
              rotate_left
              · intro w'
                go_simp
                with_reducible rfl
              rotate_left
              · simp only [Act.put, List.setIfInBounds_toArray, List.set_cons_zero, List.set_cons_succ, i64_w, i32_w]
                rfl
              refine pure_ (i := 3) (N := some 52) (v := ?_) (a' := ?_) #[true, false, true, true, false, false, false] rfl rfl (by kernel_rfl) (fun _ _ _ h => h) (Or.inl ⟨by rfl, ?_⟩) ?_ ?_
              rotate_left
              · intro w'
                go_simp
                with_reducible rfl
              rotate_left
              · simp only [Act.put, List.setIfInBounds_toArray, List.set_cons_zero, List.set_cons_succ, i64_w, i32_w]
                rfl
              refine pure_ (i := 4) (N := some 53) (v := ?_) (a' := ?_) #[true, false, true, true, true, false, false] rfl rfl (by kernel_rfl) (fun _ _ _ h => h) (Or.inl ⟨by rfl, ?_⟩) ?_ ?_
              rotate_left
              · intro w'
                go_simp
                with_reducible rfl
              rotate_left
              · simp only [Act.put, List.setIfInBounds_toArray, List.set_cons_zero, List.set_cons_succ, i64_w, i32_w]
                rfl
              refine one_ (i := 1) (N := some 50) #[true, true, true, true, true, false, false] rfl rfl (by kernel_rfl) (by decide) (fun K hK => ?_)
              refine goes_ Try.func36 (by kernel_rfl) rfl #[.pointer (some ⟨g, 0, none⟩)] (by rfl) rfl rfl (by (try simp only [List.map_toArray, List.map_cons, List.map_nil]); first | done | rfl | (simp only [List.length_drop, List.length_take]; rfl)) ?_
              with_reducible refine (spec_l2Thing.calls k g s0_0 t156 t163 t164 w0 _ ?side1 ?side2 A46.out).mono ?_
              (case side1 => repeat (first | (with_reducible first | exact HI0.out | apply IsS58.alloc | apply IsS58.drewN | apply IsS58.drew | apply IsS58.set_1) | exact HI0.out))
              (case side2 => repeat (first | (with_reducible first | exact HB.out | apply below_alloc | apply pw_below_drewN | apply below_drew1 | refine below_set ?_ (IsS58.ge HI0.out)) | exact HB.out))
              rintro e w54 ⟨rfl, hi, hb, hk⟩
              refine ⟨_, rfl, ?_⟩
              have n0_ := Aside0.mk (KeepBut.trans (by repeat (first | (with_reducible first | exact HK.out | apply KeepBut.set_ | apply keep_drewN | apply keep_drew | apply keep_alloc) | exact HK.out)) hk (.inl rfl))
              have n1_ := Aside0.mk (hb)
              have n2_ := Aside0.mk (hi)
              clear HK
              clear HB
              clear HI0
              have HK := n0_
              have HB := n1_
              have HI0 := n2_
              clear n0_ n1_ n2_
              (try clear hb)
              (try clear hb2)
              (try clear hk)
              (try clear hi)
              refine hK.out _ _ trivial (fun hHeld => ?_)
              clear hK K
              refine norm_ (a' := ?_) ?_ ?_
              rotate_left
              · show Act.put _ (some 50) _ = _
                simp only [Act.put, List.setIfInBounds_toArray, List.set_cons_zero, List.set_cons_succ, i64_w, i32_w]
                rfl
              refine pure_ (i := 5) (N := some 54) (v := ?_) (a' := ?_) #[true, true, true, true, true, true, false] rfl rfl (by kernel_rfl) (fun _ _ _ h => h) (Or.inl ⟨by rfl, ?_⟩) ?_ ?_
              rotate_left
              · intro w'
                go_simp
                with_reducible rfl
              rotate_left
              · simp only [Act.put, List.setIfInBounds_toArray, List.set_cons_zero, List.set_cons_succ, i64_w, i32_w]
                rfl
              refine pure_ (i := 6) (N := some 4) (v := ?_) (a' := ?_) #[true, true, true, true, true, true, true] rfl rfl (by kernel_rfl) (fun _ _ _ h => h) (Or.inl ⟨by rfl, ?_⟩) ?_ ?_
              rotate_left
              · intro w'
                go_simp
                with_reducible rfl
              rotate_left
              · simp only [Act.put, List.setIfInBounds_toArray, List.set_cons_zero, List.set_cons_succ, i64_w, i32_w]
                rfl
              refine done_ (by kernel_rfl) ?_
              try go_wp2
              go_ret
              exact ⟨by first | rfl | (simp [errW_none, errW_some] <;> rfl) | (simp only [← hji47]; first | rfl | (simp [errW_none, errW_some] <;> rfl)) | (simp [*, errW_none, errW_some] <;> rfl), by repeat (first | (with_reducible first | exact HI0.out | apply IsS58.alloc | apply IsS58.drewN | apply IsS58.drew | apply IsS58.set_1) | exact HI0.out), by repeat (first | (with_reducible first | exact HB.out | apply below_alloc | apply pw_below_drewN | apply below_drew1 | refine below_set ?_ (IsS58.ge HI0.out)) | exact HB.out), by repeat (first | (with_reducible first | exact HK.out | apply KeepBut.set_ | apply keep_drewN | apply keep_drew | apply keep_alloc) | exact HK.out)⟩
            · rw [if_neg c50] at H
              exact absurd H (by simp)
          · rw [if_neg c49] at H
            exact absurd H (by simp)
        · rw [if_neg c48] at H
          exact absurd H (by simp)

/-! ### spec_DrawShared: function 24 -/
def spec_DrawShared.f (k : Nat) (l0 : List Int) : Option (ByteArray × ByteArray) := (spec_l1Open.f l0).bind fun bt165 => ((spec_l2Thing.f k bt165.1 bt165.2).bind fun bt168 => ((spec_l2Near.f k bt165.1 bt168.2 bt168.1).bind fun bt170 => (some (bt168.1, bt170.1))))
theorem spec_DrawShared.mono : ∀ a0 k, LeO (spec_DrawShared.f k a0) (spec_DrawShared.f (k + 1) a0) := by
  intro a0 k
  unfold spec_DrawShared.f
  repeat' first
      | (with_reducible exact spec_l2Near.mono _ _ _ _)
      | (with_reducible exact spec_l2Thing.mono _ _ _)
      | (with_reducible exact LeO.refl _)
      | (with_reducible exact LeO.none _)
      | (with_reducible refine LeO.ite ?_ ?_)
      | (with_reducible refine LeO.bind ?_ (fun _ => ?_))
      | exact spec_l2Near.mono _ _ _ _
      | exact spec_l2Thing.mono _ _ _
      | exact LeO.none _
      | refine LeO.ite ?_ ?_
      | refine LeO.bind ?_ (fun _ => ?_)
set_option maxHeartbeats 8000000 in
set_option maxRecDepth 100000 in
theorem spec_DrawShared.calls (k : Nat) (A0 : Option Addr) (c0 : Nat) (l0 : List Int) (r1 : ByteArray) (r2 : ByteArray) (w : World) (hr0 : Kd.C (Kd.int .u8) w A0 l0.length l0) (hc0 : l0.length ≤ c0) (h : spec_DrawShared.f k l0 = some (r1, r2)) :
    Calls Try.prog 24 #[.slice A0 l0.length c0] w fun e w' => e = .returned (.tuple #[.string r1, .string r2]) ∧ Below w.heap.size w w' := by
  have HR0 := Aside0.mk hr0
  have HC0 := Aside0.mk hc0
  clear hr0 hc0
  have HB := Aside0.mk (Below.refl w.heap.size w)
  have H : ((spec_l1Open.f l0).bind fun bt165 => ((spec_l2Thing.f k bt165.1 bt165.2).bind fun bt168 => ((spec_l2Near.f k bt165.1 bt168.2 bt168.1).bind fun bt170 => (some (bt168.1, bt170.1))))) = some (r1, r2) := h
  clear h
  replace H := Option.bind_eq_some_iff.mp H
  obtain ⟨⟨t165, t166⟩, A20, H⟩ := H
  replace H : ((spec_l2Thing.f k t165 t166).bind fun bt168 => ((spec_l2Near.f k t165 bt168.2 bt168.1).bind fun bt170 => (some (bt168.1, bt170.1)))) = some (r1, r2) := H
  have A2 := Aside0.mk A20
  clear A20
  replace H := Option.bind_eq_some_iff.mp H
  obtain ⟨⟨t168, t169⟩, A30, H⟩ := H
  replace H : ((spec_l2Near.f k t165 t169 t168).bind fun bt170 => (some (t168, bt170.1))) = some (r1, r2) := H
  have A3 := Aside0.mk A30
  clear A30
  replace H := Option.bind_eq_some_iff.mp H
  obtain ⟨⟨t170, t171⟩, A40, H⟩ := H
  replace H : (some (t168, t170)) = some (r1, r2) := H
  have A4 := Aside0.mk A40
  clear A40
  simp only [Option.some.injEq, Prod.mk.injEq] at H
  obtain ⟨rfl, rfl⟩ := H
  go_enter Try.func24, Try.ntmps24
  go_wp2_with (first | ((with_reducible refine gate_callee (f := 34) rfl ?_); refine goesL_ (some 7) rfl rfl Try.func34 (by kernel_rfl) rfl #[.slice A0 l0.length c0] rfl (by (try simp only [List.map_toArray, List.map_cons, List.map_nil]); first | done | rfl | (simp only [List.length_drop, List.length_take]; rfl)) ?_; (with_reducible refine (spec_l1Open.calls _ _ l0 t165 t166 w _ ?side1 ?side2 ?side3 A2.out).mono ?_); (case side1 => repeat (first | (with_reducible first | exact HB.out | apply below_alloc | apply pw_below_drewN | apply below_drew1) | exact HB.out)); (case side2 => exact HR0.out); (case side3 => exact HC0.out); rintro e w5 ⟨g167, rfl, hi, hb, hb2⟩; refine ⟨_, rfl, ?_⟩; have n0_ := Aside0.mk (hb); have n1_ := Aside0.mk (hi); clear HB; have HB := n0_; have HI167 := n1_; clear n0_ n1_; (try clear hb); (try clear hb2); (try clear hk); (try clear hi)) | ((with_reducible refine gate_callee (f := 36) rfl ?_); refine goesL_ (some 9) rfl rfl Try.func36 (by kernel_rfl) rfl #[.pointer (some ⟨g167, 0, none⟩)] rfl (by (try simp only [List.map_toArray, List.map_cons, List.map_nil]); first | done | rfl | (simp only [List.length_drop, List.length_take]; rfl)) ?_; (with_reducible refine (spec_l2Thing.calls k g167 t165 t166 t168 t169 w _ ?side1 ?side2 A3.out).mono ?_); (case side1 => repeat (first | (with_reducible first | exact HI167.out | apply IsS58.alloc | apply IsS58.drewN | apply IsS58.drew | apply IsS58.set_1) | exact HI167.out)); (case side2 => repeat (first | (with_reducible first | exact HB.out | apply below_alloc | apply pw_below_drewN | apply below_drew1 | refine below_set ?_ (IsS58.ge HI167.out)) | exact HB.out)); rintro e w6 ⟨rfl, hi, hb, hk⟩; refine ⟨_, rfl, ?_⟩; have n0_ := Aside0.mk (hb); have n1_ := Aside0.mk (hi); clear HB; clear HI167; have HB := n0_; have HI167 := n1_; clear n0_ n1_; (try clear hb); (try clear hb2); (try clear hk); (try clear hi)) | ((with_reducible refine gate_callee (f := 37) rfl ?_); refine goesL_ (some 13) rfl rfl Try.func37 (by kernel_rfl) rfl #[.pointer (some ⟨g167, 0, none⟩), .string t168] rfl (by (try simp only [List.map_toArray, List.map_cons, List.map_nil]); first | done | rfl | (simp only [List.length_drop, List.length_take]; rfl)) ?_; (with_reducible refine (spec_l2Near.calls k g167 t165 t169 t168 t170 t171 w _ ?side1 ?side2 A4.out).mono ?_); (case side1 => repeat (first | (with_reducible first | exact HI167.out | apply IsS58.alloc | apply IsS58.drewN | apply IsS58.drew | apply IsS58.set_1) | exact HI167.out)); (case side2 => repeat (first | (with_reducible first | exact HB.out | apply below_alloc | apply pw_below_drewN | apply below_drew1 | refine below_set ?_ (IsS58.ge HI167.out)) | exact HB.out)); rintro e w7 ⟨rfl, hi, hb, hk⟩; refine ⟨_, rfl, ?_⟩; have n0_ := Aside0.mk (hb); have n1_ := Aside0.mk (hi); clear HB; clear HI167; have HB := n0_; have HI167 := n1_; clear n0_ n1_; (try clear hb); (try clear hb2); (try clear hk); (try clear hi)))
  go_ret2
  exact ⟨by first | rfl | (simp [errW_none, errW_some] <;> rfl) | (simp [*, errW_none, errW_some] <;> rfl), by repeat (first | (with_reducible first | exact HB.out | apply below_alloc | apply pw_below_drewN | apply below_drew1 | refine below_set ?_ (IsS58.ge HI167.out)) | exact HB.out)⟩

/-! ### laws_wTexts: function 25 -/
def laws_wTexts.l0 : Nat → List ByteArray → List ByteArray → Int → Option (Bool)
  | 0, _, _, _ => none
  | k + 1, x0, x1, x5 => if x5 < (x0.length : Int) then (if 0 ≤ x5 then (if x5 < (x1.length : Int) then (if (rdOf ByteArray.empty x0 x5).toList = (rdOf ByteArray.empty x1 x5).toList then (laws_wTexts.l0 k x0 x1 (wrap64 (x5 + 1))) else (some false)) else (none)) else (none)) else (some true)
def laws_wTexts.f (k : Nat) (l0 : List ByteArray) (l1 : List ByteArray) : Option (Bool) := if (l0.length : Int) = (l1.length : Int) then (laws_wTexts.l0 k l0 l1 0) else (some false)
theorem laws_wTexts.mono_l : ∀ k, (∀ y0 y1 y2, LeO (laws_wTexts.l0 k y0 y1 y2) (laws_wTexts.l0 (k + 1) y0 y1 y2))
  | 0 => fun _ _ _ r h => by simp [laws_wTexts.l0] at h
  | k + 1 => by
    have ih0 := laws_wTexts.mono_l k
    · intro y0 y1 y2
      unfold laws_wTexts.l0
      repeat' first
      | (with_reducible exact ih0 _ _ _)
      | (with_reducible exact LeO.refl _)
      | (with_reducible exact LeO.none _)
      | (with_reducible refine LeO.ite ?_ ?_)
      | (with_reducible refine LeO.bind ?_ (fun _ => ?_))
      | exact ih0 _ _ _
      | exact LeO.none _
      | refine LeO.ite ?_ ?_
      | refine LeO.bind ?_ (fun _ => ?_)
theorem laws_wTexts.mono : ∀ a0 a1 k, LeO (laws_wTexts.f k a0 a1) (laws_wTexts.f (k + 1) a0 a1) := by
  intro a0 a1 k
  have ih0 := laws_wTexts.mono_l k
  unfold laws_wTexts.f
  repeat' first
      | (with_reducible exact ih0 _ _ _)
      | (with_reducible exact LeO.refl _)
      | (with_reducible exact LeO.none _)
      | (with_reducible refine LeO.ite ?_ ?_)
      | (with_reducible refine LeO.bind ?_ (fun _ => ?_))
      | exact ih0 _ _ _
      | exact LeO.none _
      | refine LeO.ite ?_ ?_
      | refine LeO.bind ?_ (fun _ => ?_)
set_option maxHeartbeats 8000000 in
set_option maxRecDepth 100000 in
theorem laws_wTexts.calls (k : Nat) (A0 : Option Addr) (c0 : Nat) (l0 : List ByteArray) (A1 : Option Addr) (c1 : Nat) (l1 : List ByteArray) (r : Bool) (w : World) (hr0 : Kd.C Kd.string w A0 l0.length l0) (hc0 : l0.length ≤ c0) (hr1 : Kd.C Kd.string w A1 l1.length l1) (hc1 : l1.length ≤ c1) (h : laws_wTexts.f k l0 l1 = some r) :
    Calls Try.prog 25 #[.slice A0 l0.length c0, .slice A1 l1.length c1] w fun e w' => e = .returned (.bool r) ∧ Drawn0 w w' := by
  have HR0 := Aside0.mk hr0
  have HC0 := Aside0.mk hc0
  clear hr0 hc0
  have HR1 := Aside0.mk hr1
  have HC1 := Aside0.mk hc1
  clear hr1 hc1
  have H : (if (l0.length : Int) = (l1.length : Int) then (laws_wTexts.l0 k l0 l1 0) else (some false)) = some r := h
  clear h
  by_cases c3 : (l0.length : Int) = (l1.length : Int)
  · rw [if_pos c3] at H
    have c3b0 : ((l0.length : Int) == (l1.length : Int)) = true := beq_iff_eq.mpr c3
    have c3b1 : ((l0.length : Int) != (l1.length : Int)) = false := bne_eq_false_iff_eq.mpr c3
    have c3b2 : (l0.length == l1.length) = true := by first | simpa using c3 | (simp at c3 ⊢; omega)
    clear c3
    have H' := Aside0.mk H
    clear H
    go_enter Try.func25, Try.ntmps25
    go_wp2
    repeat (go_quiet (fail); try go_wp2)
    go_loopg [5] k (fun kq v5 w' => ∃ (x5_1 : Int), v5 = .int .i64 x5_1 ∧ Aside0 (laws_wTexts.l0 kq l0 l1 x5_1 = some r) ∧ Aside0 (kq ≤ k) ∧ Drawn0 w w')
    case atStart => exact ⟨(0), (by first | rfl | (simp; done) | (simp [*]; done)), H', ⟨Nat.le_refl _⟩, by repeat (first | exact Drawn0.refl _ | apply Drawn0.step)⟩
    case round =>
      clear H'
      try clear c1
      try clear c2
      try clear p2
      try clear c3
      try clear c3b0
      try clear c3b1
      try clear c3b2
      obtain ⟨x5_1, rfl, HA, HK1, ⟨m1, rfl⟩⟩ := hrel
      cases gk with
      | zero => exact absurd HA.out (by simp [laws_wTexts.l0])
      | succ k1 =>
        have H := HA.out
        clear HA
        simp only [laws_wTexts.l0] at H
        by_cases c4 : x5_1 < (l0.length : Int)
        · rw [if_pos c4] at H
          have c4b0 : decide (x5_1 < (l0.length : Int)) = true := decide_eq_true c4
          clear c4
          by_cases c5 : 0 ≤ x5_1
          · rw [if_pos c5] at H
            have c5b0 : decide (0 ≤ x5_1) = true := decide_eq_true c5
            clear c5
            by_cases c6 : x5_1 < (l1.length : Int)
            · rw [if_pos c6] at H
              have c6b0 : decide (x5_1 < (l1.length : Int)) = true := decide_eq_true c6
              clear c6
              by_cases c7 : (rdOf ByteArray.empty l0 x5_1).toList = (rdOf ByteArray.empty l1 x5_1).toList
              · rw [if_pos c7] at H
                have c7b0 : ((rdOf ByteArray.empty l0 x5_1).toList == (rdOf ByteArray.empty l1 x5_1).toList) = true := beq_iff_eq.mpr c7
                have c7b1 : ((rdOf ByteArray.empty l0 x5_1).toList != (rdOf ByteArray.empty l1 x5_1).toList) = false := bne_eq_false_iff_eq.mpr c7
                clear c7
                have H' := Aside0.mk H
                clear H
                have p172 : 0 ≤ (x5_1 : Int) := of_decide_eq_true (by first | (with_reducible assumption) | assumption)
                have q172 : x5_1 < (l0.length : Int) := of_decide_eq_true (by first | (with_reducible assumption) | assumption)
                obtain ⟨ad172, e172, hx172_0⟩ := Kd.at_string HR0.out x5_1 p172 q172
                cases e172
                replace p172 := eq_true p172
                replace q172 := eq_true q172
                have p173 : 0 ≤ (x5_1 : Int) := of_decide_eq_true (by first | (with_reducible assumption) | assumption)
                have q173 : x5_1 < (l1.length : Int) := of_decide_eq_true (by first | (with_reducible assumption) | assumption)
                obtain ⟨ad173, e173, hx173_0⟩ := Kd.at_string HR1.out x5_1 p173 q173
                cases e173
                replace p173 := eq_true p173
                replace q173 := eq_true q173
                go_wp2
                repeat (go_quiet (fail); try go_wp2)
                go_roundg k1
                case measure => have := HK1.out; omega
                case rel => exact ⟨(wrap64 (x5_1 + 1)), (by first | rfl | (simp; done) | (simp [*]; done)), H', ⟨by have := HK1.out; omega⟩, by repeat (first | exact Drawn0.refl _ | apply Drawn0.step)⟩
              · rw [if_neg c7] at H
                have c7b0 : ((rdOf ByteArray.empty l0 x5_1).toList == (rdOf ByteArray.empty l1 x5_1).toList) = false := beq_eq_false_iff_ne.mpr c7
                have c7b1 : ((rdOf ByteArray.empty l0 x5_1).toList != (rdOf ByteArray.empty l1 x5_1).toList) = true := bne_iff_ne.mpr c7
                obtain rfl := Option.some.inj H
                have p172 : 0 ≤ (x5_1 : Int) := of_decide_eq_true (by first | (with_reducible assumption) | assumption)
                have q172 : x5_1 < (l0.length : Int) := of_decide_eq_true (by first | (with_reducible assumption) | assumption)
                obtain ⟨ad172, e172, hx172_0⟩ := Kd.at_string HR0.out x5_1 p172 q172
                cases e172
                replace p172 := eq_true p172
                replace q172 := eq_true q172
                have p173 : 0 ≤ (x5_1 : Int) := of_decide_eq_true (by first | (with_reducible assumption) | assumption)
                have q173 : x5_1 < (l1.length : Int) := of_decide_eq_true (by first | (with_reducible assumption) | assumption)
                obtain ⟨ad173, e173, hx173_0⟩ := Kd.at_string HR1.out x5_1 p173 q173
                cases e173
                replace p173 := eq_true p173
                replace q173 := eq_true q173
                go_wp2
                repeat (go_quiet (fail); try go_wp2)
                go_ret
                exact ⟨by first | rfl | (simp; done) | (simp [*]; done), by repeat (first | exact Drawn0.refl _ | apply Drawn0.step)⟩
            · rw [if_neg c6] at H
              exact absurd H (by simp)
          · rw [if_neg c5] at H
            exact absurd H (by simp)
        · rw [if_neg c4] at H
          have c4b0 : decide (x5_1 < (l0.length : Int)) = false := decide_eq_false c4
          clear c4
          obtain rfl := Option.some.inj H
          go_wp2
          repeat (go_quiet (fail); try go_wp2)
          go_ret
          exact ⟨by first | rfl | (simp; done) | (simp [*]; done), by repeat (first | exact Drawn0.refl _ | apply Drawn0.step)⟩
  · rw [if_neg c3] at H
    have c3b0 : ((l0.length : Int) == (l1.length : Int)) = false := beq_eq_false_iff_ne.mpr c3
    have c3b1 : ((l0.length : Int) != (l1.length : Int)) = true := bne_iff_ne.mpr c3
    have c3b2 : (l0.length == l1.length) = false := by first | simpa using c3 | (simp at c3 ⊢; omega)
    obtain rfl := Option.some.inj H
    go_enter Try.func25, Try.ntmps25
    go_wp2
    repeat (go_quiet (fail); try go_wp2)
    go_ret
    exact ⟨by first | rfl | (simp; done) | (simp [*]; done), by repeat (first | exact Drawn0.refl _ | apply Drawn0.step)⟩

end Go.Proofs.Ytbmldafgipimbaa.PFnPieces

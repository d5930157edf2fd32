/- Steps that the walks take often, by name: they make the texts shorter. No condition. -/
import Derived.Test.YtbhkinfdilngiaaL
namespace Go.Proofs.Ytbhkinfdilngiaa.Zz
open Go.RowKit
/-! ### Steps that the walks take often, by name -/
open Go.Proofs.YtbhkinfdilngiaaW.PrintWords in
theorem rR_ {p q : Prop} (h : p) (f : p → q := by intro z_; (with_reducible repeat (first | apply Kd.R_alloc | apply Kd.R_drewN | apply Kd.R_drew)); exact z_) : q := f h
open Go.Proofs.YtbhkinfdilngiaaW.PrintWords in
theorem rb_ {p q : Prop} (h : p) (f : p → q := by intro z_; (with_reducible repeat (first | refine blk_drewN ?_ _ | refine blk_drew ?_ | refine blk_alloc ?_ _)); exact z_) : q := f h
open Go.Proofs.YtbhkinfdilngiaaW.PrintWords in
theorem rb4_ {n p q : Prop} (hn : n) (h : p) (f : n → p → q := by intro n_ z_; (with_reducible repeat (first | refine blk_drewN ?_ _ | refine blk_drew ?_ | refine blk_alloc ?_ _)); refine blk_far ?_ n_ _; (with_reducible repeat (first | refine blk_drewN ?_ _ | refine blk_drew ?_ | refine blk_alloc ?_ _)); refine blk_far ?_ n_ _; (with_reducible repeat (first | refine blk_drewN ?_ _ | refine blk_drew ?_ | refine blk_alloc ?_ _)); refine blk_far ?_ n_ _; (with_reducible repeat (first | refine blk_drewN ?_ _ | refine blk_drew ?_ | refine blk_alloc ?_ _)); refine blk_far ?_ n_ _; (with_reducible repeat (first | refine blk_drewN ?_ _ | refine blk_drew ?_ | refine blk_alloc ?_ _)); exact z_) : q := f hn h
open Go.Proofs.YtbhkinfdilngiaaW.PrintWords in
theorem rB_ {p q : Prop} (h : p) (f : p → q := by intro z_; repeat (first | (with_reducible first | exact z_ | apply below_alloc | apply pw_below_drewN | apply below_drew1 | refine below_set ?_ (Aside0.out (by assumption))) | exact z_)) : q := f h
theorem od_ {p : Prop} [Decidable p] (h : decide p = true := by first | (with_reducible assumption) | assumption) : p := of_decide_eq_true h
open Go.Proofs.YtbhkinfdilngiaaW.PrintWords in
theorem rF_ {α : Type} {d : Kd α} {e : Nat} {w : World} {base : Nat} {ok : Nat → Prop} {v : Value} {xs : List α} (g : Nat) (h : Kd.R d e w base ok v xs) (hok : ∀ k, ok k → k ≠ g) (x0 x1 x2 x3 : Value) :
    Kd.R d e ((((w.setCell ⟨g, 0, none⟩ x0).setCell ⟨g, 1, none⟩ x1).setCell ⟨g, 2, none⟩ x2).setCell ⟨g, 3, none⟩ x3) base ok v xs :=
  Kd.R_far (p := ⟨g, 3, none⟩) (Kd.R_far (p := ⟨g, 2, none⟩) (Kd.R_far (p := ⟨g, 1, none⟩) (Kd.R_far (p := ⟨g, 0, none⟩) h hok x0) hok x1) hok x2) hok x3
end Go.Proofs.Ytbhkinfdilngiaa.Zz


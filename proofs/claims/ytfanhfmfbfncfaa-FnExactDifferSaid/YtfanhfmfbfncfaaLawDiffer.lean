/- Of the given program: the law FnExactDiffer returns true for all arguments, and each argument reads behind the call as before. No condition. -/
import Derived.WalkKit
import Derived.ProofKit
import Derived.OpenShut
import Derived.ShutString
import Derived.ChangeOld
import Derived.Below
import Derived.SizedLaws
import Derived.Carry
import Derived.Deep.Slices
import Derived.ChangeArms
import Derived.WideShapes
import Derived.Test.YtfanhfmfbfncfaaRows
import Derived.Test.YtfanhfmfbfncfaaDifferXah
import Derived.Test.YtfanhfmfbfncfaaDifferXan
namespace Go.Proofs.Ytfanhfmfbfncfaa.Mx.fnExactDiffer
set_option linter.all false
open Go Go.RowKit Go.Proofs Go.Proofs.Ytfanhfmfbfncfaa Go.ChangeShapes Go.WideShapes Go.ChangeAt
open Go.ChangeMaps (open_string shut_string)
set_option linter.unusedVariables false
theorem own : ownKnob Try.prog.godebug = none := by kernel_rfl
theorem laidOut : laidOutB Try.prog = true := by kernel_rfl
set_option maxRecDepth 100000 in
theorem lifted (os : Os) (started : os.Started) (H : Type) (enc : TypeId × Value → H) :
    ReturnsInHanded {} Try.checked os 7 .any (Rows.fnExactDifferSpec.pre6 enc Try.prog Try.f7 Rows.fnExactDifferRow.domain false) (Rows.fnExactDifferSpec.post enc Try.prog Try.f7 false true false false) := by
  refine returnsInHanded_of_change_sized (C := Try.checked) own started (by kernel_rfl) Try.func7
    (ChangeSpec.witness6 (enc := enc) (C := Try.checked) false ⟨#[], #[.slice none 0 0, .slice none 0 0, .int .i64 0], []⟩ 8 (by kernel_rfl) (by kernel_rfl) (by kernel_rfl) (by kernel_rfl)) ?_
  intro W base args ds gs before hval0 hW hcnd hsz0 _
  have hval : ∀ (j : Nat) t v, Try.f7.params[j]? = some t → args[j]? = some v → Value.okWide Try.prog W .any base t v := hval0
  have hW' := hW
  obtain ⟨p, q, hA0, hV, rfl, hfz, hnd⟩ := hW
  have hA : DataW.TrodAll enc Try.prog W 0 (fun _ => true) true Try.f7.params.toList args.toList ds p := hA0
  rw [Try.params7] at hA hval
  obtain ⟨v0, vs0, d0, ds0, p0, q0, hargs, rfl, rfl, h0, r0⟩ := trodAll_cons hA
  obtain ⟨v1, vs1, d1, ds1, p1, q1, rfl, rfl, rfl, h1, r1⟩ := trodAll_cons r0
  obtain ⟨v2, vs2, d2, ds2, p2, q2, rfl, rfl, rfl, h2, r2⟩ := trodAll_cons r1
  obtain ⟨rfl, rfl, rfl⟩ := trodAll_nil r2
  obtain rfl : args = #[v0, v1, v2] := by cases args; simp_all
  obtain ⟨rfl, rfl⟩ := trodVars_none hV
  have lt0 : ∀ x ∈ p0, x.block < W.heap.size := by obtain ⟨m, hm⟩ := h0; exact DataW.trod_lt m _ _ _ hm
  have tr0 := fun (W2 : Go.World) (bel : Below W.heap.size W W2) => Below.trod laidOut (by kernel_rfl) (of_decide_eq_true (by kernel_rfl)) h0 bel lt0
  obtain ⟨y0, k0, g0⟩ := arg_slice Try.underlying23 (hval 0 23 v0 rfl rfl) h0 (opn_slice (f := strR) (z := 1) Try.underlying23 (by kernel_rfl) (by decide) (fun _ => rfl) (opn_string Try.underlying9))
  have lt1 : ∀ x ∈ p1, x.block < W.heap.size := by obtain ⟨m, hm⟩ := h1; exact DataW.trod_lt m _ _ _ hm
  have tr1 := fun (W2 : Go.World) (bel : Below W.heap.size W W2) => Below.trod laidOut (by kernel_rfl) (of_decide_eq_true (by kernel_rfl)) h1 bel lt1
  obtain ⟨y1, k1, g1⟩ := arg_slice Try.underlying23 (hval 1 23 v1 rfl rfl) h1 (opn_slice (f := strR) (z := 1) Try.underlying23 (by kernel_rfl) (by decide) (fun _ => rfl) (opn_string Try.underlying9))
  have lt2 : ∀ x ∈ p2, x.block < W.heap.size := by obtain ⟨m, hm⟩ := h2; exact DataW.trod_lt m _ _ _ hm
  have tr2 := fun (W2 : Go.World) (bel : Below W.heap.size W W2) => Below.trod laidOut (by kernel_rfl) (of_decide_eq_true (by kernel_rfl)) h2 bel lt2
  obtain ⟨y2, rfl, rfl, rfl, g2⟩ := open_int Try.underlying3 (hval 2 3 v2 rfl rfl) h2
  have k2 : OwnA W (fun b => b < W.heap.size) (fun _ => False) (.int .i64 y2) (.sc (.int .i64 y2)) := Own.rd _ _ _ (by intro z r h; cases h) (by intro c h; cases h) (.sc _ rfl)
  have run := does_calls (fnExactDiffer y0 y1 y2 g0 g1) Try.func7 rfl rfl (W := W) (args := [v0, v1, .int .i64 y2]) rfl (by
    intro i v x hv hx
    match i, hv, hx with
    | 0, hv, hx => cases hv; cases hx; exact k0
    | 1, hv, hx => cases hv; cases hx; exact k1
    | 2, hv, hx => cases hv; cases hx; exact k2
    | i + 3, hv, hx => simp at hv)
  refine run.mono fun e W' ⟨he, bel0⟩ => ?_
  have bel : Below W.heap.size W W' := bel0
  subst he
  exact ⟨_, rfl, _, _, _, [], _, [], hW', trodAll_mk1 (shut_bool Try.underlying4 _), (trodAll_cons_mk (tr0 _ bel) (trodAll_cons_mk (tr1 _ bel) (trodAll_cons_mk (tr2 _ bel) trodAll_mk0))), rfl, bel.frame _, fun h => by cases h⟩
theorem over : Rows.fnExactDifferRow.holds Try.pinned (OpenSpec.ofChange Rows.fnExactDifferSpec) :=
  OpenClaim.holds_of_wide 7 Try.f7 rfl rfl rfl rfl rfl rfl rfl ⟨rfl, rfl, rfl, rfl, rfl⟩ rfl rfl rfl rfl rfl (by kernel_rfl) Try.func7 (by kernel_rfl)
    (of_decide_eq_true (by kernel_rfl)) (by unfold Func.isWrapper; first | (rw [if_pos (by decide +kernel)]; kernel_rfl) | (rw [if_neg (by decide +kernel)]; exact ⟨rfl, rfl⟩))
    (fun os started H enc _ => lifted os started H enc)
theorem proved : Rows.FnExactDifferSaid := over
#print axioms proved
end Go.Proofs.Ytfanhfmfbfncfaa.Mx.fnExactDiffer
namespace Go.Proofs.Ytfanhfmfbfncfaa
set_option linter.all false
/-- The row, under a short name, for the claim. -/
theorem fnExactDiffer_holds : Rows.FnExactDifferSaid := Go.Proofs.Ytfanhfmfbfncfaa.Mx.fnExactDiffer.proved
end Go.Proofs.Ytfanhfmfbfncfaa

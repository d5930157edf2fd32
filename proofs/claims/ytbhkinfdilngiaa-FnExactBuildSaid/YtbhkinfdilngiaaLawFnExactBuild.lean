-- The row of the law loop.example/kilnpass/laws.FnExactBuild, out of its pure statement and its walk (by wip/gen.py of this session).
import Derived.Test.YtbhkinfdilngiaaRows
import Derived.Test.YtbhkinfdilngiaaGFnExactBuildx9
import Derived.Test.YtbhkinfdilngiaaGFnExactBuildx9
import Derived.Test.YtbhkinfdilngiaaO
import Derived.Test.YtbhkinfdilngiaaPureFnExactBuild
import Derived.WalkKit
import Derived.ProofKit
import Derived.OpenShut
import Derived.ShutString
import Derived.ChangeOld
import Derived.Below
import Derived.SizedLaws
import Derived.Carry
namespace Go.Proofs.Ytbhkinfdilngiaa.fnExactBuild
open Go.ChangeShapes Go.WideShapes Go.ChangeAt Go.RowKit Go.Proofs.Ytbhkinfdilngiaa.O Go.Proofs.Ytbhkinfdilngiaa.PFnExactBuild Go.Proofs.YtbhkinfdilngiaaW.PrintWords
open Go.ChangeMaps (open_string shut_string)
set_option linter.unusedVariables false
theorem own : ownKnob Try.prog.godebug = none := by kernel_rfl
theorem laidOut : laidOutB Try.prog = true := by kernel_rfl
set_option maxRecDepth 100000 in
theorem lifted (os : Os) (started : os.Started) (H : Type) (enc : TypeId × Value → H) :
    ReturnsInHanded {} Try.checked os 6 .any (Rows.fnExactBuildSpec.pre6 enc Try.prog Try.f6 Rows.fnExactBuildRow.domain false) (Rows.fnExactBuildSpec.post enc Try.prog Try.f6 false true false false) := by
  refine returnsInHanded_of_change_sized (C := Try.checked) own started (by kernel_rfl) Try.func6
    (ChangeSpec.witness6 (enc := enc) (C := Try.checked) false ⟨#[], #[.agg #[.int .i64 0, .slice none 0 0], .slice none 0 0, .int .i64 0], []⟩ 8 (by kernel_rfl) (by kernel_rfl) (by kernel_rfl) (by kernel_rfl)) ?_
  intro W base args ds gs before hval0 hW hcnd hsz0 _
  have hval : ∀ (j : Nat) t v, Try.f6.params[j]? = some t → args[j]? = some v → Value.okWide Try.prog W .any base t v := hval0
  have hW' := hW
  obtain ⟨p, q, hA0, hV, rfl, hfz, hnd⟩ := hW
  have hA : DataW.TrodAll enc Try.prog W 0 (fun _ => true) true Try.f6.params.toList args.toList ds p := hA0
  rw [Try.params6] at hA hval
  obtain ⟨v0, vs0, d0, ds0, p0, q0, hargs, rfl, rfl, h0, r0⟩ := trodAll_cons hA
  obtain ⟨v1, vs1, d1, ds1, p1, q1, rfl, rfl, rfl, h1, r1⟩ := trodAll_cons r0
  obtain ⟨v2, vs2, d2, ds2, p2, q2, rfl, rfl, rfl, h2, r2⟩ := trodAll_cons r1
  obtain ⟨rfl, rfl, rfl⟩ := trodAll_nil r2
  obtain rfl : args = #[v0, v1, v2] := by cases args; simp_all
  obtain ⟨rfl, rfl⟩ := trodVars_none hV
  have lt0 : ∀ x ∈ p0, x.block < W.heap.size := by obtain ⟨m, hm⟩ := h0; exact DataW.trod_lt m _ _ _ hm
  have tr0 := fun (W2 : World) (bel : Below W.heap.size W W2) => Below.trod laidOut (by kernel_rfl) (of_decide_eq_true (by kernel_rfl)) h0 bel lt0
  obtain ⟨y0, cs0, rfl, ky0, gy0⟩ := arg_struct Try.underlying49 (hval 0 49 v0 rfl rfl) h0 (opn_struct Try.underlying49 (by kernel_rfl) rfl (opnF_cons (opn_int Try.underlying3) (opnF_one (opn_slice Try.underlying22 (by kernel_rfl) (opn_string Try.underlying9)))))
  obtain ⟨a0_0, l0_1⟩ := y0
  obtain ⟨_, _, rfl, rfl, ⟨A0_1, c0_1, rfl, hc0_1, hr0_1⟩⟩ := ky0
  obtain ⟨g0_0, g0_1⟩ := gy0
  have lt1 : ∀ x ∈ p1, x.block < W.heap.size := by obtain ⟨m, hm⟩ := h1; exact DataW.trod_lt m _ _ _ hm
  have tr1 := fun (W2 : World) (bel : Below W.heap.size W W2) => Below.trod laidOut (by kernel_rfl) (of_decide_eq_true (by kernel_rfl)) h1 bel lt1
  obtain ⟨A1, c1, l1, rfl, hc1, hr1, g1⟩ := arg_slice Try.underlying22 (hval 1 22 v1 rfl rfl) h1 (opn_slice Try.underlying22 (by kernel_rfl) (opn_string Try.underlying9))
  have lt2 : ∀ x ∈ p2, x.block < W.heap.size := by obtain ⟨m, hm⟩ := h2; exact DataW.trod_lt m _ _ _ hm
  have tr2 := fun (W2 : World) (bel : Below W.heap.size W W2) => Below.trod laidOut (by kernel_rfl) (of_decide_eq_true (by kernel_rfl)) h2 bel lt2
  obtain ⟨a2, rfl, rfl, rfl, g2⟩ := open_int Try.underlying3 (hval 2 3 v2 rfl rfl) h2
  obtain ⟨k, hk⟩ := Pure.FnExactBuild a0_0 l0_1 l1 a2 g0_0 g0_1 g1 g2
  refine (laws_FnExactBuild.calls (k := k) (h := hk) (hr0_1 := hr0_1) (hc0_1 := hc0_1) (hr1 := hr1) (hc1 := hc1) (w := W)).mono fun e W' ⟨he, bel0⟩ => ?_
  have bel : Below W.heap.size W W' := bel0
  subst he
  exact ⟨_, rfl, _, _, _, [], _, [], hW', trodAll_mk1 (shut_bool Try.underlying4 _), (trodAll_cons_mk (tr0 _ bel) (trodAll_cons_mk (tr1 _ bel) (trodAll_cons_mk (tr2 _ bel) trodAll_mk0))), rfl, bel.frame _, fun h => by cases h⟩
theorem over : Rows.fnExactBuildRow.holds Try.pinned (OpenSpec.ofChange Rows.fnExactBuildSpec) :=
  OpenClaim.holds_of_wide 6 Try.f6 rfl rfl rfl rfl rfl rfl rfl ⟨rfl, rfl, rfl, rfl, rfl⟩ rfl rfl rfl rfl rfl (by kernel_rfl) Try.func6 (by kernel_rfl)
    (of_decide_eq_true (by kernel_rfl)) (by unfold Func.isWrapper; first | (rw [if_pos (by decide +kernel)]; kernel_rfl) | (rw [if_neg (by decide +kernel)]; exact ⟨rfl, rfl⟩))
    (fun os started H enc _ => lifted os started H enc)
theorem proved : Rows.FnExactBuildSaid := over
#print axioms proved
end Go.Proofs.Ytbhkinfdilngiaa.fnExactBuild
namespace Go.Proofs.Ytbhkinfdilngiaa
/-- The row, under a short name, for the claim. -/
theorem fnExactBuild_holds : Rows.FnExactBuildSaid := fnExactBuild.proved
end Go.Proofs.Ytbhkinfdilngiaa

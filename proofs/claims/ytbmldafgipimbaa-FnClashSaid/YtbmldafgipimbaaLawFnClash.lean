-- The row of the law loop.example/kilnpass/laws.FnClash, out of its pure statement and its walk (by wip/gen.py of this session).
import Derived.Test.YtbmldafgipimbaaRows
import Derived.Test.YtbmldafgipimbaaGFnClashx5
import Derived.Test.YtbmldafgipimbaaGFnClashx5
import Derived.Test.YtbmldafgipimbaaO
import Derived.Test.YtbmldafgipimbaaPureFnClash
import Derived.WalkKit
import Derived.ProofKit
import Derived.OpenShut
import Derived.ShutString
import Derived.ChangeOld
import Derived.Below
import Derived.SizedLaws
import Derived.Carry
namespace Go.Proofs.Ytbmldafgipimbaa.fnClash
open Go.ChangeShapes Go.WideShapes Go.ChangeAt Go.RowKit Go.Proofs.Ytbmldafgipimbaa.O Go.Proofs.Ytbmldafgipimbaa.PFnClash Go.Proofs.YtbmldafgipimbaaW.PrintWords
open Go.ChangeMaps (open_string shut_string)
set_option linter.unusedVariables false
theorem own : ownKnob Try.prog.godebug = none := by kernel_rfl
theorem laidOut : laidOutB Try.prog = true := by kernel_rfl
set_option maxRecDepth 100000 in
theorem lifted (os : Os) (started : os.Started) (H : Type) (enc : TypeId × Value → H) :
    ReturnsInHanded {} Try.checked os 8 .any (Rows.fnClashSpec.pre6 enc Try.prog Try.f8 Rows.fnClashRow.domain false) (Rows.fnClashSpec.post enc Try.prog Try.f8 false true false false) := by
  refine returnsInHanded_of_change_sized (C := Try.checked) own started (by kernel_rfl) Try.func8
    (ChangeSpec.witness6 (enc := enc) (C := Try.checked) false ⟨#[], #[.slice none 0 0], []⟩ 8 (by kernel_rfl) (by kernel_rfl) (by kernel_rfl) (by kernel_rfl)) ?_
  intro W base args ds gs before hval0 hW hcnd hsz0 _
  have hval : ∀ (j : Nat) t v, Try.f8.params[j]? = some t → args[j]? = some v → Value.okWide Try.prog W .any base t v := hval0
  have hW' := hW
  obtain ⟨p, q, hA0, hV, rfl, hfz, hnd⟩ := hW
  have hA : DataW.TrodAll enc Try.prog W 0 (fun _ => true) true Try.f8.params.toList args.toList ds p := hA0
  rw [Try.params8] at hA hval
  obtain ⟨v0, vs0, d0, ds0, p0, q0, hargs, rfl, rfl, h0, r0⟩ := trodAll_cons hA
  obtain ⟨rfl, rfl, rfl⟩ := trodAll_nil r0
  obtain rfl : args = #[v0] := by cases args; simp_all
  obtain ⟨rfl, rfl⟩ := trodVars_none hV
  have lt0 : ∀ x ∈ p0, x.block < W.heap.size := by obtain ⟨m, hm⟩ := h0; exact DataW.trod_lt m _ _ _ hm
  have tr0 := fun (W2 : World) (bel : Below W.heap.size W W2) => Below.trod laidOut (by kernel_rfl) (of_decide_eq_true (by kernel_rfl)) h0 bel lt0
  obtain ⟨A0, c0, l0, rfl, hc0, hr0, g0⟩ := arg_slice Try.underlying36 (hval 0 36 v0 rfl rfl) h0 (opn_slice Try.underlying36 (by kernel_rfl) (opn_int Try.underlying5))
  obtain ⟨k, hk⟩ := Pure.FnClash l0 g0
  refine (laws_FnClash.calls (k := k) (h := hk) (hr0 := hr0) (hc0 := hc0) (w := W)).mono fun e W' ⟨he, bel0⟩ => ?_
  have bel : Below W.heap.size W W' := bel0
  subst he
  exact ⟨_, rfl, _, _, _, [], _, [], hW', trodAll_mk1 (shut_bool Try.underlying4 _), (trodAll_cons_mk (tr0 _ bel) trodAll_mk0), rfl, bel.frame _, fun h => by cases h⟩
theorem over : Rows.fnClashRow.holds Try.pinned (OpenSpec.ofChange Rows.fnClashSpec) :=
  OpenClaim.holds_of_wide 8 Try.f8 rfl rfl rfl rfl rfl rfl rfl ⟨rfl, rfl, rfl, rfl, rfl⟩ rfl rfl rfl rfl rfl (by kernel_rfl) Try.func8 (by kernel_rfl)
    (of_decide_eq_true (by kernel_rfl)) (by unfold Func.isWrapper; first | (rw [if_pos (by decide +kernel)]; kernel_rfl) | (rw [if_neg (by decide +kernel)]; exact ⟨rfl, rfl⟩))
    (fun os started H enc _ => lifted os started H enc)
theorem proved : Rows.FnClashSaid := over
#print axioms proved
end Go.Proofs.Ytbmldafgipimbaa.fnClash
namespace Go.Proofs.Ytbmldafgipimbaa
/-- The row, under a short name, for the claim. -/
theorem fnClash_holds : Rows.FnClashSaid := fnClash.proved
end Go.Proofs.Ytbmldafgipimbaa

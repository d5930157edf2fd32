-- The row of the law loop.example/kilnpass/laws.FnExactUnpin, out of its pure statement and its walk (by wip/gen.py of this session).
import Derived.Test.YtbhkinfdilngiaaRows
import Derived.Test.YtbhkinfdilngiaaGFnExactUnpinx12
import Derived.Test.YtbhkinfdilngiaaGFnExactUnpinx11
import Derived.Test.YtbhkinfdilngiaaO
import Derived.Test.YtbhkinfdilngiaaPureFnExactUnpin
import Derived.WalkKit
import Derived.ProofKit
import Derived.OpenShut
import Derived.ShutString
import Derived.ChangeOld
import Derived.Below
import Derived.SizedLaws
import Derived.Carry
namespace Go.Proofs.Ytbhkinfdilngiaa.fnExactUnpin
open Go.ChangeShapes Go.WideShapes Go.ChangeAt Go.RowKit Go.Proofs.Ytbhkinfdilngiaa.O Go.Proofs.Ytbhkinfdilngiaa.PFnExactUnpin Go.Proofs.YtbhkinfdilngiaaW.PrintWords
open Go.ChangeMaps (open_string shut_string)
set_option linter.unusedVariables false
theorem own : ownKnob Try.prog.godebug = none := by kernel_rfl
theorem laidOut : laidOutB Try.prog = true := by kernel_rfl
theorem o123 : Opn Try.prog k123 123 Good123 :=
  opn_imp (opn_iso (fun x : S123 => (x.f0, x.f1)) (fun y => ⟨y.1, y.2⟩) (fun _ => rfl) (opn_struct Try.underlying123 (by kernel_rfl) rfl (opnF_cons (opn_string Try.underlying9) (opnF_one (opn_int Try.underlying3))))) (fun x h => h)
set_option maxRecDepth 100000 in
theorem lifted (os : Os) (started : os.Started) (H : Type) (enc : TypeId × Value → H) :
    ReturnsInHanded {} Try.checked os 8 .any (Rows.fnExactUnpinSpec.pre6 enc Try.prog Try.f8 Rows.fnExactUnpinRow.domain false) (Rows.fnExactUnpinSpec.post enc Try.prog Try.f8 false true false false) := by
  refine returnsInHanded_of_change_sized (C := Try.checked) own started (by kernel_rfl) Try.func8
    (ChangeSpec.witness6 (enc := enc) (C := Try.checked) false ⟨#[], #[.agg #[.int .i64 0, .int .i64 0, .slice none 0 0, .slice none 0 0], .string ByteArray.empty], []⟩ 8 (by kernel_rfl) (by kernel_rfl) (by kernel_rfl) (by kernel_rfl)) ?_
  intro W base args ds gs before hval0 hW hcnd hsz0 _
  have hval : ∀ (j : Nat) t v, Try.f8.params[j]? = some t → args[j]? = some v → Value.okWide Try.prog W .any base t v := hval0
  have hW' := hW
  obtain ⟨p, q, hA0, hV, rfl, hfz, hnd⟩ := hW
  have hA : DataW.TrodAll enc Try.prog W 0 (fun _ => true) true Try.f8.params.toList args.toList ds p := hA0
  rw [Try.params8] at hA hval
  obtain ⟨v0, vs0, d0, ds0, p0, q0, hargs, rfl, rfl, h0, r0⟩ := trodAll_cons hA
  obtain ⟨v1, vs1, d1, ds1, p1, q1, rfl, rfl, rfl, h1, r1⟩ := trodAll_cons r0
  obtain ⟨rfl, rfl, rfl⟩ := trodAll_nil r1
  obtain rfl : args = #[v0, v1] := by cases args; simp_all
  obtain ⟨rfl, rfl⟩ := trodVars_none hV
  have lt0 : ∀ x ∈ p0, x.block < W.heap.size := by obtain ⟨m, hm⟩ := h0; exact DataW.trod_lt m _ _ _ hm
  have tr0 := fun (W2 : World) (bel : Below W.heap.size W W2) => Below.trod laidOut (by kernel_rfl) (of_decide_eq_true (by kernel_rfl)) h0 bel lt0
  obtain ⟨y0, cs0, rfl, ky0, gy0⟩ := arg_struct Try.underlying31 (hval 0 31 v0 rfl rfl) h0 (opn_struct Try.underlying31 (by kernel_rfl) rfl (opnF_cons (opn_int Try.underlying3) (opnF_cons (opn_int Try.underlying3) (opnF_cons (opn_slice Try.underlying29 (by kernel_rfl) o123) (opnF_one (opn_slice Try.underlying22 (by kernel_rfl) (opn_string Try.underlying9)))))))
  obtain ⟨a0_0, a0_1, l0_2, l0_3⟩ := y0
  obtain ⟨_, _, rfl, rfl, ⟨_, _, rfl, rfl, ⟨_, _, rfl, ⟨A0_2, c0_2, rfl, hc0_2, hr0_2⟩, ⟨A0_3, c0_3, rfl, hc0_3, hr0_3⟩⟩⟩⟩ := ky0
  obtain ⟨g0_0, g0_1, g0_2, g0_3⟩ := gy0
  have lt1 : ∀ x ∈ p1, x.block < W.heap.size := by obtain ⟨m, hm⟩ := h1; exact DataW.trod_lt m _ _ _ hm
  have tr1 := fun (W2 : World) (bel : Below W.heap.size W W2) => Below.trod laidOut (by kernel_rfl) (of_decide_eq_true (by kernel_rfl)) h1 bel lt1
  obtain ⟨a1, rfl, rfl, rfl, g1⟩ := open_string Try.underlying9 (hval 1 9 v1 rfl rfl) h1
  obtain ⟨k, hk⟩ := Pure.FnExactUnpin a0_0 a0_1 l0_2 l0_3 a1 g0_0 g0_1 g0_2 g0_3 g1
  refine (laws_FnExactUnpin.calls (k := k) (h := hk) (hr0_2 := hr0_2) (hc0_2 := hc0_2) (hr0_3 := hr0_3) (hc0_3 := hc0_3) (w := W)).mono fun e W' ⟨he, bel0⟩ => ?_
  have bel : Below W.heap.size W W' := bel0
  subst he
  exact ⟨_, rfl, _, _, _, [], _, [], hW', trodAll_mk1 (shut_bool Try.underlying4 _), (trodAll_cons_mk (tr0 _ bel) (trodAll_cons_mk (tr1 _ bel) trodAll_mk0)), rfl, bel.frame _, fun h => by cases h⟩
theorem over : Rows.fnExactUnpinRow.holds Try.pinned (OpenSpec.ofChange Rows.fnExactUnpinSpec) :=
  OpenClaim.holds_of_wide 8 Try.f8 rfl rfl rfl rfl rfl rfl rfl ⟨rfl, rfl, rfl, rfl, rfl⟩ rfl rfl rfl rfl rfl (by kernel_rfl) Try.func8 (by kernel_rfl)
    (of_decide_eq_true (by kernel_rfl)) (by unfold Func.isWrapper; first | (rw [if_pos (by decide +kernel)]; kernel_rfl) | (rw [if_neg (by decide +kernel)]; exact ⟨rfl, rfl⟩))
    (fun os started H enc _ => lifted os started H enc)
theorem proved : Rows.FnExactUnpinSaid := over
#print axioms proved
end Go.Proofs.Ytbhkinfdilngiaa.fnExactUnpin
namespace Go.Proofs.Ytbhkinfdilngiaa
/-- The row, under a short name, for the claim. -/
theorem fnExactUnpin_holds : Rows.FnExactUnpinSaid := fnExactUnpin.proved
end Go.Proofs.Ytbhkinfdilngiaa

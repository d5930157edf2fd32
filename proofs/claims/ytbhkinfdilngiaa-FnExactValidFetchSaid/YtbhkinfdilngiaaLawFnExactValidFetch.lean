-- The row of the law loop.example/kilnpass/laws.FnExactValidFetch, out of its pure statement and its walk (by wip/gen.py of this session).
import Derived.Test.YtbhkinfdilngiaaRows
import Derived.Test.YtbhkinfdilngiaaGFnExactValidFetchx12
import Derived.Test.YtbhkinfdilngiaaGFnExactValidFetchx12
import Derived.Test.YtbhkinfdilngiaaO
import Derived.Test.YtbhkinfdilngiaaPureFnExactValidFetch
import Derived.WalkKit
import Derived.ProofKit
import Derived.OpenShut
import Derived.ShutString
import Derived.ChangeOld
import Derived.Below
import Derived.SizedLaws
import Derived.Carry
namespace Go.Proofs.Ytbhkinfdilngiaa.fnExactValidFetch
open Go.ChangeShapes Go.WideShapes Go.ChangeAt Go.RowKit Go.Proofs.Ytbhkinfdilngiaa.O Go.Proofs.Ytbhkinfdilngiaa.PFnExactValidFetch Go.Proofs.YtbhkinfdilngiaaW.PrintWords
open Go.ChangeMaps (open_string shut_string)
set_option linter.unusedVariables false
theorem own : ownKnob Try.prog.godebug = none := by kernel_rfl
theorem laidOut : laidOutB Try.prog = true := by kernel_rfl
theorem o123 : Opn Try.prog k123 123 Good123 :=
  opn_imp (opn_iso (fun x : S123 => (x.f0, x.f1)) (fun y => ⟨y.1, y.2⟩) (fun _ => rfl) (opn_struct Try.underlying123 (by kernel_rfl) rfl (opnF_cons (opn_string Try.underlying9) (opnF_one (opn_int Try.underlying3))))) (fun x h => h)
theorem o137 : Opn Try.prog k137 137 Good137 :=
  opn_imp (opn_iso (fun x : S137 => (x.f0, x.f1, x.f2, x.f3, x.f4)) (fun y => ⟨y.1, y.2.1, y.2.2.1, y.2.2.2.1, y.2.2.2.2⟩) (fun _ => rfl) (opn_struct Try.underlying137 (by kernel_rfl) rfl (opnF_cons (opn_int Try.underlying3) (opnF_cons (opn_int Try.underlying3) (opnF_cons (opn_int Try.underlying3) (opnF_cons (opn_string Try.underlying9) (opnF_one (opn_slice Try.underlying22 (by kernel_rfl) (opn_string Try.underlying9))))))))) (fun x h => h)
set_option maxRecDepth 100000 in
theorem lifted (os : Os) (started : os.Started) (H : Type) (enc : TypeId × Value → H) :
    ReturnsInHanded {} Try.checked os 10 .any (Rows.fnExactValidFetchSpec.pre6 enc Try.prog Try.f10 Rows.fnExactValidFetchRow.domain false) (Rows.fnExactValidFetchSpec.post enc Try.prog Try.f10 false true false false) := by
  refine returnsInHanded_of_change_sized (C := Try.checked) own started (by kernel_rfl) Try.func10
    (ChangeSpec.witness6 (enc := enc) (C := Try.checked) false ⟨#[], #[.agg #[.string ByteArray.empty, .int .i64 0, .bool false, .int .i64 0, .int .i64 0, .slice none 0 0, .slice none 0 0, .slice none 0 0]], []⟩ 8 (by kernel_rfl) (by kernel_rfl) (by kernel_rfl) (by kernel_rfl)) ?_
  intro W base args ds gs before hval0 hW hcnd hsz0 _
  have hval : ∀ (j : Nat) t v, Try.f10.params[j]? = some t → args[j]? = some v → Value.okWide Try.prog W .any base t v := hval0
  have hW' := hW
  obtain ⟨p, q, hA0, hV, rfl, hfz, hnd⟩ := hW
  have hA : DataW.TrodAll enc Try.prog W 0 (fun _ => true) true Try.f10.params.toList args.toList ds p := hA0
  rw [Try.params10] at hA hval
  obtain ⟨v0, vs0, d0, ds0, p0, q0, hargs, rfl, rfl, h0, r0⟩ := trodAll_cons hA
  obtain ⟨rfl, rfl, rfl⟩ := trodAll_nil r0
  obtain rfl : args = #[v0] := by cases args; simp_all
  obtain ⟨rfl, rfl⟩ := trodVars_none hV
  have lt0 : ∀ x ∈ p0, x.block < W.heap.size := by obtain ⟨m, hm⟩ := h0; exact DataW.trod_lt m _ _ _ hm
  have tr0 := fun (W2 : World) (bel : Below W.heap.size W W2) => Below.trod laidOut (by kernel_rfl) (of_decide_eq_true (by kernel_rfl)) h0 bel lt0
  obtain ⟨y0, cs0, rfl, ky0, gy0⟩ := arg_struct Try.underlying64 (hval 0 64 v0 rfl rfl) h0 (opn_struct Try.underlying64 (by kernel_rfl) rfl (opnF_cons (opn_string Try.underlying9) (opnF_cons (opn_int Try.underlying3) (opnF_cons (opn_bool Try.underlying4) (opnF_cons (opn_struct Try.underlying31 (by kernel_rfl) rfl (opnF_cons (opn_int Try.underlying3) (opnF_cons (opn_int Try.underlying3) (opnF_cons (opn_slice Try.underlying29 (by kernel_rfl) o123) (opnF_one (opn_slice Try.underlying22 (by kernel_rfl) (opn_string Try.underlying9))))))) (opnF_one (opn_slice Try.underlying62 (by kernel_rfl) o137)))))))
  obtain ⟨a0_0, a0_1, a0_2, ⟨a0_3, a0_4, l0_5, l0_6⟩, l0_7⟩ := y0
  obtain ⟨_, _, rfl, rfl, ⟨_, _, rfl, rfl, ⟨_, _, rfl, rfl, ⟨_, _, rfl, ⟨_, _, rfl, rfl, ⟨_, _, rfl, rfl, ⟨_, _, rfl, ⟨A0_5, c0_5, rfl, hc0_5, hr0_5⟩, ⟨A0_6, c0_6, rfl, hc0_6, hr0_6⟩⟩⟩⟩, ⟨A0_7, c0_7, rfl, hc0_7, hr0_7⟩⟩⟩⟩⟩ := ky0
  obtain ⟨g0_0, g0_1, g0_2, ⟨g0_3, g0_4, g0_5, g0_6⟩, g0_7⟩ := gy0
  obtain ⟨k, hk⟩ := Pure.FnExactValidFetch a0_0 a0_1 a0_2 a0_3 a0_4 l0_5 l0_6 l0_7 g0_0 g0_1 g0_2 g0_3 g0_4 g0_5 g0_6 g0_7
  refine (laws_FnExactValidFetch.calls (k := k) (h := hk) (hr0_5 := hr0_5) (hc0_5 := hc0_5) (hr0_6 := hr0_6) (hc0_6 := hc0_6) (hr0_7 := hr0_7) (hc0_7 := hc0_7) (w := W)).mono fun e W' ⟨he, bel0⟩ => ?_
  have bel : Below W.heap.size W W' := bel0
  subst he
  exact ⟨_, rfl, _, _, _, [], _, [], hW', trodAll_mk1 (shut_bool Try.underlying4 _), (trodAll_cons_mk (tr0 _ bel) trodAll_mk0), rfl, bel.frame _, fun h => by cases h⟩
theorem over : Rows.fnExactValidFetchRow.holds Try.pinned (OpenSpec.ofChange Rows.fnExactValidFetchSpec) :=
  OpenClaim.holds_of_wide 10 Try.f10 rfl rfl rfl rfl rfl rfl rfl ⟨rfl, rfl, rfl, rfl, rfl⟩ rfl rfl rfl rfl rfl (by kernel_rfl) Try.func10 (by kernel_rfl)
    (of_decide_eq_true (by kernel_rfl)) (by unfold Func.isWrapper; first | (rw [if_pos (by decide +kernel)]; kernel_rfl) | (rw [if_neg (by decide +kernel)]; exact ⟨rfl, rfl⟩))
    (fun os started H enc _ => lifted os started H enc)
theorem proved : Rows.FnExactValidFetchSaid := over
#print axioms proved
end Go.Proofs.Ytbhkinfdilngiaa.fnExactValidFetch
namespace Go.Proofs.Ytbhkinfdilngiaa
/-- The row, under a short name, for the claim. -/
theorem fnExactValidFetch_holds : Rows.FnExactValidFetchSaid := fnExactValidFetch.proved
end Go.Proofs.Ytbhkinfdilngiaa

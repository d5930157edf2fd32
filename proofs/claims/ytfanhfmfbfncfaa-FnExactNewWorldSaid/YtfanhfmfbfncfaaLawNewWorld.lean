/- Of the given program: the law FnExactNewWorld returns true for all arguments, and each argument reads behind the call as before. No condition. -/
import Derived.WalkKit
import Derived.ProofKit
import Derived.OpenShut
import Derived.ShutString
import Derived.ChangeOld
import Derived.Below
import Derived.SizedLaws
import Derived.Carry
import Derived.Deep.Slices
import Derived.ChangeArms
import Derived.WideShapes
import Derived.Test.YtfanhfmfbfncfaaRows
import Derived.Test.YtfanhfmfbfncfaaNewWorldXah
import Derived.Test.YtfanhfmfbfncfaaNewWorldXap
namespace Go.Proofs.Ytfanhfmfbfncfaa.Mx.fnExactNewWorld
set_option linter.all false
open Go Go.RowKit Go.Proofs Go.Proofs.Ytfanhfmfbfncfaa Go.ChangeShapes Go.WideShapes Go.ChangeAt
open Go.ChangeMaps (open_string shut_string)
set_option linter.unusedVariables false
theorem own : ownKnob Try.prog.godebug = none := by kernel_rfl
theorem laidOut : laidOutB Try.prog = true := by kernel_rfl
theorem o_Item : OpnA Try.prog (itemC false) 141 bdItem :=
  opn_struct (to := fun x => (⟨x.1, x.2⟩ : Item)) Try.underlying141 (by kernel_rfl) rfl (opnF_cons (opn_string Try.underlying9) (opnF_one (opn_int Try.underlying3))) (fun x => rfl) (fun x h => h.1)
theorem o_Store : OpnA Try.prog (storeC false) 25 bdStore :=
  opn_struct (to := fun x => (⟨x.1, x.2.1, x.2.2.1, x.2.2.2⟩ : Store)) Try.underlying25 (by kernel_rfl) rfl (opnF_cons (opn_int Try.underlying3) (opnF_cons (opn_int Try.underlying3) (opnF_cons (opn_slice (f := (itemC false)) (z := 2) Try.underlying22 (by kernel_rfl) (by decide) (fun _ => rfl) o_Item) (opnF_one (opn_slice (f := strR) (z := 1) Try.underlying23 (by kernel_rfl) (by decide) (fun _ => rfl) (opn_string Try.underlying9)))))) (fun x => rfl) (fun x h => ⟨h.2.2.1, h.2.2.2⟩)
theorem o_Peer : OpnA Try.prog (peerC false) 160 bdPeer :=
  opn_struct (to := fun x => (⟨x.1, x.2.1, x.2.2.1, x.2.2.2.1, x.2.2.2.2⟩ : Peer)) Try.underlying160 (by kernel_rfl) rfl (opnF_cons (opn_int Try.underlying3) (opnF_cons (opn_int Try.underlying3) (opnF_cons (opn_int Try.underlying3) (opnF_cons (opn_string Try.underlying9) (opnF_one (opn_slice (f := strR) (z := 1) Try.underlying23 (by kernel_rfl) (by decide) (fun _ => rfl) (opn_string Try.underlying9))))))) (fun x => rfl) (fun x h => ⟨h.2.2.2.1, h.2.2.2.2⟩)
theorem o_Fetch : OpnA Try.prog (fetchC false) 61 bdFetch :=
  opn_struct (to := fun x => (⟨x.1, x.2.1, x.2.2.1, x.2.2.2.1, x.2.2.2.2⟩ : Fetch)) Try.underlying61 (by kernel_rfl) rfl (opnF_cons (opn_string Try.underlying9) (opnF_cons (opn_int Try.underlying3) (opnF_cons (opn_bool Try.underlying4) (opnF_cons o_Store (opnF_one (opn_slice (f := (peerC false)) (z := 5) Try.underlying59 (by kernel_rfl) (by decide) (fun _ => rfl) o_Peer)))))) (fun x => rfl) (fun x h => ⟨h.1, h.2.2.2.1, h.2.2.2.2⟩)
set_option maxRecDepth 100000 in
theorem lifted (os : Os) (started : os.Started) (H : Type) (enc : TypeId × Value → H) :
    ReturnsInHanded {} Try.checked os 9 .any (Rows.fnExactNewWorldSpec.pre6 enc Try.prog Try.f9 Rows.fnExactNewWorldRow.domain false) (Rows.fnExactNewWorldSpec.post enc Try.prog Try.f9 false true false false) := by
  refine returnsInHanded_of_change_sized (C := Try.checked) own started (by kernel_rfl) Try.func9
    (ChangeSpec.witness6 (enc := enc) (C := Try.checked) false ⟨#[], #[.agg #[.string ByteArray.empty, .int .i64 0, .bool false, .int .i64 0, .int .i64 0, .slice none 0 0, .slice none 0 0, .slice none 0 0], .slice none 0 0], []⟩ 8 (by kernel_rfl) (by kernel_rfl) (by kernel_rfl) (by kernel_rfl)) ?_
  intro W base args ds gs before hval0 hW hcnd hsz0 _
  have hval : ∀ (j : Nat) t v, Try.f9.params[j]? = some t → args[j]? = some v → Value.okWide Try.prog W .any base t v := hval0
  have hW' := hW
  obtain ⟨p, q, hA0, hV, rfl, hfz, hnd⟩ := hW
  have hA : DataW.TrodAll enc Try.prog W 0 (fun _ => true) true Try.f9.params.toList args.toList ds p := hA0
  rw [Try.params9] at hA hval
  obtain ⟨v0, vs0, d0, ds0, p0, q0, hargs, rfl, rfl, h0, r0⟩ := trodAll_cons hA
  obtain ⟨v1, vs1, d1, ds1, p1, q1, rfl, rfl, rfl, h1, r1⟩ := trodAll_cons r0
  obtain ⟨rfl, rfl, rfl⟩ := trodAll_nil r1
  obtain rfl : args = #[v0, v1] := by cases args; simp_all
  obtain ⟨rfl, rfl⟩ := trodVars_none hV
  have lt0 : ∀ x ∈ p0, x.block < W.heap.size := by obtain ⟨m, hm⟩ := h0; exact DataW.trod_lt m _ _ _ hm
  have tr0 := fun (W2 : Go.World) (bel : Below W.heap.size W W2) => Below.trod laidOut (by kernel_rfl) (of_decide_eq_true (by kernel_rfl)) h0 bel lt0
  obtain ⟨y0, k0, g0⟩ := arg_struct Try.underlying61 (hval 0 61 v0 rfl rfl) h0 o_Fetch
  have lt1 : ∀ x ∈ p1, x.block < W.heap.size := by obtain ⟨m, hm⟩ := h1; exact DataW.trod_lt m _ _ _ hm
  have tr1 := fun (W2 : Go.World) (bel : Below W.heap.size W W2) => Below.trod laidOut (by kernel_rfl) (of_decide_eq_true (by kernel_rfl)) h1 bel lt1
  obtain ⟨y1, k1, g1⟩ := arg_slice Try.underlying63 (hval 1 63 v1 rfl rfl) h1 (opn_slice (f := (storeC false)) (z := 4) Try.underlying63 (by kernel_rfl) (by decide) (fun _ => rfl) o_Store)
  have run := does_calls (fnExactNewWorld y0 y1 g0 g1) Try.func9 rfl rfl (W := W) (args := [v0, v1]) rfl (by
    intro i v x hv hx
    match i, hv, hx with
    | 0, hv, hx => cases hv; cases hx; exact k0
    | 1, hv, hx => cases hv; cases hx; exact k1
    | i + 2, hv, hx => simp at hv)
  refine run.mono fun e W' ⟨he, bel0⟩ => ?_
  have bel : Below W.heap.size W W' := bel0
  subst he
  exact ⟨_, rfl, _, _, _, [], _, [], hW', trodAll_mk1 (shut_bool Try.underlying4 _), (trodAll_cons_mk (tr0 _ bel) (trodAll_cons_mk (tr1 _ bel) trodAll_mk0)), rfl, bel.frame _, fun h => by cases h⟩
theorem over : Rows.fnExactNewWorldRow.holds Try.pinned (OpenSpec.ofChange Rows.fnExactNewWorldSpec) :=
  OpenClaim.holds_of_wide 9 Try.f9 rfl rfl rfl rfl rfl rfl rfl ⟨rfl, rfl, rfl, rfl, rfl⟩ rfl rfl rfl rfl rfl (by kernel_rfl) Try.func9 (by kernel_rfl)
    (of_decide_eq_true (by kernel_rfl)) (by unfold Func.isWrapper; first | (rw [if_pos (by decide +kernel)]; kernel_rfl) | (rw [if_neg (by decide +kernel)]; exact ⟨rfl, rfl⟩))
    (fun os started H enc _ => lifted os started H enc)
theorem proved : Rows.FnExactNewWorldSaid := over
#print axioms proved
end Go.Proofs.Ytfanhfmfbfncfaa.Mx.fnExactNewWorld
namespace Go.Proofs.Ytfanhfmfbfncfaa
set_option linter.all false
/-- The row, under a short name, for the claim. -/
theorem fnExactNewWorld_holds : Rows.FnExactNewWorldSaid := Go.Proofs.Ytfanhfmfbfncfaa.Mx.fnExactNewWorld.proved
end Go.Proofs.Ytfanhfmfbfncfaa

/- Of the given program: the law FnFetch returns true for all arguments, and each argument reads behind the call as before; the variables that the row lists start as the program's text lays them: tied. -/
import Derived.WalkKit
import Derived.ProofKit
import Derived.OpenShut
import Derived.ShutString
import Derived.ChangeOld
import Derived.Below
import Derived.SizedLaws
import Derived.Carry
import Derived.Deep.Slices
import Derived.ChangeArms
import Derived.WideShapes
import Derived.LaidMore
import Derived.Stop.Joined
import Derived.Lib.LaidTab
import Derived.SevenTiedAt
import Derived.Test.YtkkmgjhfjhcdmaaGreatDoorRows
import Derived.Test.YtkkmgjhfjhcdmaaGreatDoorCards
import Derived.Test.YtkkmgjhfjhcdmaaGreatDoorTie
import Derived.Test.YtkkmgjhfjhcdmaaGreatDoorFnFetchXaj
import Derived.Test.YtkkmgjhfjhcdmaaGreatDoorFnFetchXas
import Derived.Test.YtkkmgjhfjhcdmaaGreatDoorFnFetchXat
set_option linter.all false
namespace Go.Proofs.YtkkmgjhfjhcdmaaGreatDoor.Mx.fnFetch
open Go Go.RowKit Go.Proofs Go.Proofs.YtkkmgjhfjhcdmaaGreatDoor Go.ChangeShapes Go.WideShapes Go.ChangeAt
open Go.ChangeMaps (open_string shut_string)
set_option linter.unusedVariables false
theorem own : ownKnob Tryz.prog.godebug = none := by kernel_rfl
theorem laidOut : laidOutB Tryz.prog = true := by kernel_rfl
noncomputable def wit (os : Os) : Go.World := { World.doorLaid Tryz.prog 400 os with heap := match (World.doorLaid Tryz.prog 400 os).heap.toList with | a :: b :: c :: d :: e :: .cells _ t fr :: r => (a :: b :: c :: d :: e :: .cells (Go.Pinned.utf8FirstZ.map fun (z : Nat) => Value.int .u8 z).toArray t fr :: r).toArray | l => l.toArray }
theorem door_met (os : Os) (args : Array Value) : laidMetH Tryz.prog Rows.fnFetchRow.laid ((wit os).forCall (fun _ _ => 0) ⟨#[], args, []⟩).memory :=
  laidMetH_of_parts3 (fuel := 8) (laidMet_of_run' 8 (by kernel_rfl) (by kernel_rfl)) (by kernel_rfl) (by kernel_rfl)
set_option maxRecDepth 100000 in
theorem lifted (os : Os) (started : os.Started) (H : Type) (enc : TypeId × Value → H) :
    ReturnsInHanded {} Tryz.checked os 7 .any (fun w args => (Rows.fnFetchSpec.pre enc Tryz.prog Tryz.f7 [] false w args ∧ laidMetH Tryz.prog Rows.fnFetchRow.laid w) ∧ sizedMet enc Tryz.prog Tryz.f7 (OpenSpec.ofChange Rows.fnFetchSpec) false w args)
      (Rows.fnFetchSpec.post enc Tryz.prog Tryz.f7 false true false false) := by
  refine rih_shaped (C := Tryz.checked) (X := fun w _ => laidMetH Tryz.prog Rows.fnFetchRow.laid w) (fun _ _ _ hh h => h.of_heap hh) own started (by kernel_rfl) Tryz.func7
    (ChangeSpec.witness_shaped (enc := enc) (C := Tryz.checked) (os := os) (X := fun w _ => laidMetH Tryz.prog Rows.fnFetchRow.laid w) false (wit os) #[.slice none 0 0] 8 rfl (World.shaped_of_RefB (by kernel_rfl) (by kernel_rfl)) (by kernel_rfl) (by kernel_rfl) (by kernel_rfl) (door_met os _)) ?_
  intro W base args ds gs before hval0 hW hL hsh
  have hval : ∀ (j : Nat) t v, Tryz.f7.params[j]? = some t → args[j]? = some v → Value.okWide Tryz.prog W .any base t v := hval0
  have hW' := hW
  obtain ⟨p, q, hA0, hV, rfl, hfz, hnd⟩ := hW
  have hA : DataW.TrodAll enc Tryz.prog W 0 (fun _ => true) true Tryz.f7.params.toList args.toList ds p := hA0
  rw [Tryz.params7] at hA hval
  obtain ⟨v0, vs0, d0, ds0, p0, q0, hargs, rfl, rfl, h0, r0⟩ := trodAll_cons hA
  obtain ⟨rfl, rfl, rfl⟩ := trodAll_nil r0
  obtain rfl : args = #[v0] := by cases args; simp_all
  obtain ⟨rfl, rfl⟩ := trodVars_none hV
  obtain ⟨hNG, hGP⟩ := gp_of_laid hL (by kernel_rfl) hsh
  have lt0 : ∀ x ∈ p0, x.block < W.heap.size := by obtain ⟨m, hm⟩ := h0; exact DataW.trod_lt m _ _ _ hm
  have tr0 := fun (W2 : Go.World) (bel : Below W.heap.size W W2) => Below.trod laidOut (by kernel_rfl) (of_decide_eq_true (by kernel_rfl)) h0 bel lt0
  obtain ⟨y0, k0, g0⟩ := arg_slice Tryz.underlying22 (hval 0 22 v0 rfl rfl) h0 (opn_slice (f := numR) (z := 1) Tryz.underlying22 (by kernel_rfl) (by decide) (fun _ => rfl) (opn_u8 Tryz.underlying5))
  have run := does_calls (fnFetch y0 g0.1 g0.2) Tryz.func7 rfl rfl (W := W) (args := [v0]) hNG hGP rfl (by
    intro i v x hv hx
    match i, hv, hx with
    | 0, hv, hx => cases hv; cases hx; exact k0
    | i + 1, hv, hx => simp at hv)
  refine run.mono fun e W' ⟨he, bel0⟩ => ?_
  have bel : Below W.heap.size W W' := bel0
  subst he
  exact ⟨_, rfl, _, _, _, [], _, [], hW', trodAll_mk1 (shut_bool Tryz.underlying4 _), (trodAll_cons_mk (tr0 _ bel) trodAll_mk0), rfl, bel.frame _, fun h => by cases h⟩
theorem over : Rows.fnFetchRow.holds Tryz.pinned (OpenSpec.ofChange Rows.fnFetchSpec) :=
  OpenClaim.holds_of_wide 7 Tryz.f7 rfl rfl rfl rfl rfl rfl rfl ⟨rfl, rfl, rfl, rfl, rfl⟩ rfl rfl rfl rfl rfl named Tryz.func7 closed
    inst (by unfold Func.isWrapper; first | (rw [if_pos (by decide +kernel)]; kernel_rfl) | (rw [if_neg (by decide +kernel)]; exact ⟨rfl, rfl⟩))
    (fun os started H enc _ => lifted os started H enc)
theorem card_holds : Claim7.holds Tryz.pinned (.plain (OpenSpec.ofChange Rows.fnFetchSpec)) Rows.fnFetchCard :=
  Claim7.holds_tied_plain_at .later [] [.data, .data, .data, .data, .sentinel, .sentinel, .sentinel, .pinned] true (true, "7932f7b06ab67128e2be16296df474a96ad45539ed470a59c293482d243e8b07") true
    over (fun _ h => by cases h) (by as_aux_lemma => kernel_rfl) (fun _ h => by cases h) fnFetch_row_tie rfl ⟨rfl, rfl⟩ (by as_aux_lemma => kernel_rfl) rfl
    (fun f fn hf hfn => by
      obtain rfl : f = 7 := Option.some.inj ((show Tryz.prog.funcNamed "loop.example/kilnpass/laws.FnFetch" = some 7 by as_aux_lemma => kernel_rfl).symm.trans hf) |>.symm
      obtain rfl : fn = Tryz.f7 := (Option.some.inj (Tryz.func7.symm.trans hfn)).symm
      exact ⟨by as_aux_lemma => kernel_rfl, fun j t ht => by
        rw [Tryz.params7] at ht
        have hm : t ∈ ([22] : List Nat) := by simpa using Array.mem_of_getElem? ht
        have hall : (([22] : List Nat).all fun u => !Tryz.prog.wantsStandIn u) = true := by as_aux_lemma => kernel_rfl
        exact (show Tryz.prog.wantsStandIn t = false by simpa using List.all_eq_true.1 hall t hm)⟩)
    (by as_aux_lemma => kernel_rfl)
theorem proved : Rows.FnFetchCardSaid := card_holds
#print axioms proved
end Go.Proofs.YtkkmgjhfjhcdmaaGreatDoor.Mx.fnFetch
namespace Go.Proofs.YtkkmgjhfjhcdmaaGreatDoor
/-- The card, under a short name, for the claim. -/
theorem fnFetch_holds : Rows.FnFetchCardSaid := Go.Proofs.YtkkmgjhfjhcdmaaGreatDoor.Mx.fnFetch.proved
end Go.Proofs.YtkkmgjhfjhcdmaaGreatDoor

/- A machine over values for Go functions, proved sound, and functions run on it: texts CFnFetch. -/
import Derived.WalkKit
import Derived.ProofKit
import Derived.OpenShut
import Derived.ShutString
import Derived.ChangeOld
import Derived.Below
import Derived.SizedLaws
import Derived.Carry
import Derived.Deep.Slices
import Derived.ChangeArms
import Derived.WideShapes
import Derived.LaidMore
import Derived.Stop.Joined
import Derived.Lib.LaidTab
import Derived.SevenTiedAt
import Derived.Test.YtkkmgjhfjhcdmaaGreatDoorRows
import Derived.Test.YtkkmgjhfjhcdmaaGreatDoorCards
import Derived.Test.YtkkmgjhfjhcdmaaGreatDoorTie
set_option linter.all false
namespace Go.Proofs.YtkkmgjhfjhcdmaaGreatDoor.Mx.fnFetch
open Go Go.RowKit Go.Proofs Go.Proofs.YtkkmgjhfjhcdmaaGreatDoor Go.ChangeShapes Go.WideShapes Go.ChangeAt
open Go.ChangeMaps (open_string shut_string)
set_option maxHeartbeats 20000000 in
theorem closed : joinedFacts Tryz.pinned.checked.prog 7 Tryz.f7 Rows.fnFetchSpec Rows.fnFetchRow = true := by
  unfold joinedFacts
  repeat (first | (with_reducible rw [Bool.and_eq_true]; refine ⟨?_, ?_⟩) | fail)
  all_goals as_aux_lemma => kernel_rfl
theorem named : Tryz.pinned.checked.prog.funcNamed Rows.fnFetchRow.func = some 7 := by kernel_rfl
theorem inst : Tryz.f7.isInstance Tryz.pinned.checked.prog Rows.fnFetchRow.origin Rows.fnFetchRow.targs := of_decide_eq_true (by kernel_rfl)
end Go.Proofs.YtkkmgjhfjhcdmaaGreatDoor.Mx.fnFetch

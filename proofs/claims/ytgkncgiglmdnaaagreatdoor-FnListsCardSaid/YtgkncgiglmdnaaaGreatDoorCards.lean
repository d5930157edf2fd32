/-
  DERIVED. GIVEN WITH THE SEED: THE CARDS: each row of YtgkncgiglmdnaaaGreatDoorRows.lean that lists a variable, with what it lists TIED to the program's text (the seventh form; the later family's looks); each row that meets fmt, with fmt's text TOLD by the authors' own Lean function (tested against real Go, not proved from fmt's source: count such statements apart). THE CARD IS WHAT COUNTS. Prove the row's statement (the work); the ties are given (YtgkncgiglmdnaaaGreatDoorTie.lean); close each card by the builder's one call (the guide's Derived/Test/ToyasCard.lean, 'card_holds'). Laid BY PROGRAM, IN A SANDBOX (cutbox-door.mjs). By AI agents, Wed Nov 11 2026. No macro, syntax, notation, axiom, sorry.
-/
import Derived.Test.YtgkncgiglmdnaaaGreatDoorRows
import GoSem.ClaimSeven
namespace Go.Proofs.YtgkncgiglmdnaaaGreatDoor
namespace Rows

/-- THE TIED CARD OF 'laws.FnLists'. -/
def fnListsCard : Claim7 := { stood := { row := fnListsRow, standIns := [], harness := (true, "6cc4fac05a04a88d67080ffb0becb6b68dc46b3dfba46a27ff496b8dd6a3b622"), looks := true }, kinds := [], alts := [], laidByText := true, laidKinds := [.data, .data, .data, .data, .sentinel, .sentinel, .sentinel, .pinned], laidTests := true, laidLooks := .later }
def FnListsCardSaid : Prop := Claim7.holds Tryz.pinned (.plain (OpenSpec.ofChange fnListsSpec)) fnListsCard

/-- THE TIED CARD OF 'laws.FnExactLoad'. -/
def fnExactLoadCard : Claim7 := { stood := { row := fnExactLoadRow, standIns := [], harness := (true, "6cc4fac05a04a88d67080ffb0becb6b68dc46b3dfba46a27ff496b8dd6a3b622"), looks := true }, kinds := [], alts := [], laidByText := true, laidKinds := [.data, .data, .data, .data, .sentinel, .sentinel, .sentinel, .pinned], laidTests := true, laidLooks := .later }
def FnExactLoadCardSaid : Prop := Claim7.holds Tryz.pinned (.plain (OpenSpec.ofChange fnExactLoadSpec)) fnExactLoadCard

/-- THE TIED CARD OF 'laws.FnExactNeeded'. -/
def fnExactNeededCard : Claim7 := { stood := { row := fnExactNeededRow, standIns := [], harness := (true, "6cc4fac05a04a88d67080ffb0becb6b68dc46b3dfba46a27ff496b8dd6a3b622"), looks := true }, kinds := [], alts := [], laidByText := true, laidKinds := [.data, .data, .data, .data, .sentinel, .sentinel, .sentinel, .pinned], laidTests := true, laidLooks := .later }
def FnExactNeededCardSaid : Prop := Claim7.holds Tryz.pinned (.plain (OpenSpec.ofChange fnExactNeededSpec)) fnExactNeededCard

/-- THE TIED CARD OF 'laws.FnExactFetchDone'. -/
def fnExactFetchDoneCard : Claim7 := { stood := { row := fnExactFetchDoneRow, standIns := [], harness := (true, "6cc4fac05a04a88d67080ffb0becb6b68dc46b3dfba46a27ff496b8dd6a3b622"), looks := true }, kinds := [], alts := [], laidByText := true, laidKinds := [.data, .data, .data, .data, .sentinel, .sentinel, .sentinel, .pinned], laidTests := true, laidLooks := .later }
def FnExactFetchDoneCardSaid : Prop := Claim7.holds Tryz.pinned (.plain (OpenSpec.ofChange fnExactFetchDoneSpec)) fnExactFetchDoneCard

/-- THE TIED CARD OF 'laws.FnExactPut'. -/
def fnExactPutCard : Claim7 := { stood := { row := fnExactPutRow, standIns := [], harness := (true, "6cc4fac05a04a88d67080ffb0becb6b68dc46b3dfba46a27ff496b8dd6a3b622"), looks := true }, kinds := [], alts := [], laidByText := true, laidKinds := [.data, .data, .data, .data, .sentinel, .sentinel, .sentinel, .pinned], laidTests := true, laidLooks := .later }
def FnExactPutCardSaid : Prop := Claim7.holds Tryz.pinned (.plain (OpenSpec.ofChange fnExactPutSpec)) fnExactPutCard

/-- THE TIED CARD OF 'laws.FnExactSave'. -/
def fnExactSaveCard : Claim7 := { stood := { row := fnExactSaveRow, standIns := [], harness := (true, "6cc4fac05a04a88d67080ffb0becb6b68dc46b3dfba46a27ff496b8dd6a3b622"), looks := true }, kinds := [], alts := [], laidByText := true, laidKinds := [.data, .data, .data, .data, .sentinel, .sentinel, .sentinel, .pinned], laidTests := true, laidLooks := .later }
def FnExactSaveCardSaid : Prop := Claim7.holds Tryz.pinned (.plain (OpenSpec.ofChange fnExactSaveSpec)) fnExactSaveCard

/-- THE TIED CARD OF 'laws.FnExactFetchTick'. -/
def fnExactFetchTickCard : Claim7 := { stood := { row := fnExactFetchTickRow, standIns := [], harness := (true, "6cc4fac05a04a88d67080ffb0becb6b68dc46b3dfba46a27ff496b8dd6a3b622"), looks := true }, kinds := [], alts := [], laidByText := true, laidKinds := [.data, .data, .data, .data, .sentinel, .sentinel, .sentinel, .pinned], laidTests := true, laidLooks := .later }
def FnExactFetchTickCardSaid : Prop := Claim7.holds Tryz.pinned (.plain (OpenSpec.ofChange fnExactFetchTickSpec)) fnExactFetchTickCard

/-- THE TIED CARD OF 'laws.FnSave'. -/
def fnSaveCard : Claim7 := { stood := { row := fnSaveRow, standIns := [], harness := (true, "6cc4fac05a04a88d67080ffb0becb6b68dc46b3dfba46a27ff496b8dd6a3b622"), looks := true }, kinds := [], alts := [], laidByText := true, laidKinds := [.data, .data, .data, .data, .sentinel, .sentinel, .sentinel, .pinned], laidTests := true, laidLooks := .later }
def FnSaveCardSaid : Prop := Claim7.holds Tryz.pinned (.plain (OpenSpec.ofChange fnSaveSpec)) fnSaveCard

/-- THE TIED CARD OF 'laws.FnExactFetchTake'. -/
def fnExactFetchTakeCard : Claim7 := { stood := { row := fnExactFetchTakeRow, standIns := [], harness := (true, "6cc4fac05a04a88d67080ffb0becb6b68dc46b3dfba46a27ff496b8dd6a3b622"), looks := true }, kinds := [], alts := [], laidByText := true, laidKinds := [.data, .data, .data, .data, .sentinel, .sentinel, .sentinel, .pinned], laidTests := true, laidLooks := .later }
def FnExactFetchTakeCardSaid : Prop := Claim7.holds Tryz.pinned (.plain (OpenSpec.ofChange fnExactFetchTakeSpec)) fnExactFetchTakeCard

/-- THE TIED CARD OF 'laws.FnFetch'. -/
def fnFetchCard : Claim7 := { stood := { row := fnFetchRow, standIns := [], harness := (true, "6cc4fac05a04a88d67080ffb0becb6b68dc46b3dfba46a27ff496b8dd6a3b622"), looks := true }, kinds := [], alts := [], laidByText := true, laidKinds := [.data, .data, .data, .data, .sentinel, .sentinel, .sentinel, .pinned], laidTests := true, laidLooks := .later }
def FnFetchCardSaid : Prop := Claim7.holds Tryz.pinned (.plain (OpenSpec.ofChange fnFetchSpec)) fnFetchCard

/-- THE SECOND FORM's CARD OF 'laws.FnLists'. -/
def fnListsUptoCard : Claim7 := { stood := { row := fnListsUptoRow, standIns := [], harness := (true, "6cc4fac05a04a88d67080ffb0becb6b68dc46b3dfba46a27ff496b8dd6a3b622"), looks := true }, kinds := [], alts := [], laidByText := true, laidKinds := [.data, .data, .data, .data, .sentinel, .sentinel, .sentinel, .pinned], laidTests := true, laidLooks := .later }
def FnListsUptoCardSaid : Prop := Claim7.holds Tryz.pinned (.plain (OpenSpec.upto fnListsSpec)) fnListsUptoCard

/-- THE SECOND FORM's CARD OF 'laws.FnExactLoad'. -/
def fnExactLoadUptoCard : Claim7 := { stood := { row := fnExactLoadUptoRow, standIns := [], harness := (true, "6cc4fac05a04a88d67080ffb0becb6b68dc46b3dfba46a27ff496b8dd6a3b622"), looks := true }, kinds := [], alts := [], laidByText := true, laidKinds := [.data, .data, .data, .data, .sentinel, .sentinel, .sentinel, .pinned], laidTests := true, laidLooks := .later }
def FnExactLoadUptoCardSaid : Prop := Claim7.holds Tryz.pinned (.plain (OpenSpec.upto fnExactLoadSpec)) fnExactLoadUptoCard

/-- THE SECOND FORM's CARD OF 'laws.FnExactNeeded'. -/
def fnExactNeededUptoCard : Claim7 := { stood := { row := fnExactNeededUptoRow, standIns := [], harness := (true, "6cc4fac05a04a88d67080ffb0becb6b68dc46b3dfba46a27ff496b8dd6a3b622"), looks := true }, kinds := [], alts := [], laidByText := true, laidKinds := [.data, .data, .data, .data, .sentinel, .sentinel, .sentinel, .pinned], laidTests := true, laidLooks := .later }
def FnExactNeededUptoCardSaid : Prop := Claim7.holds Tryz.pinned (.plain (OpenSpec.upto fnExactNeededSpec)) fnExactNeededUptoCard

/-- THE SECOND FORM's CARD OF 'laws.FnExactFetchDone'. -/
def fnExactFetchDoneUptoCard : Claim7 := { stood := { row := fnExactFetchDoneUptoRow, standIns := [], harness := (true, "6cc4fac05a04a88d67080ffb0becb6b68dc46b3dfba46a27ff496b8dd6a3b622"), looks := true }, kinds := [], alts := [], laidByText := true, laidKinds := [.data, .data, .data, .data, .sentinel, .sentinel, .sentinel, .pinned], laidTests := true, laidLooks := .later }
def FnExactFetchDoneUptoCardSaid : Prop := Claim7.holds Tryz.pinned (.plain (OpenSpec.upto fnExactFetchDoneSpec)) fnExactFetchDoneUptoCard

/-- THE SECOND FORM's CARD OF 'laws.FnExactPut'. -/
def fnExactPutUptoCard : Claim7 := { stood := { row := fnExactPutUptoRow, standIns := [], harness := (true, "6cc4fac05a04a88d67080ffb0becb6b68dc46b3dfba46a27ff496b8dd6a3b622"), looks := true }, kinds := [], alts := [], laidByText := true, laidKinds := [.data, .data, .data, .data, .sentinel, .sentinel, .sentinel, .pinned], laidTests := true, laidLooks := .later }
def FnExactPutUptoCardSaid : Prop := Claim7.holds Tryz.pinned (.plain (OpenSpec.upto fnExactPutSpec)) fnExactPutUptoCard

/-- THE SECOND FORM's CARD OF 'laws.FnExactSave'. -/
def fnExactSaveUptoCard : Claim7 := { stood := { row := fnExactSaveUptoRow, standIns := [], harness := (true, "6cc4fac05a04a88d67080ffb0becb6b68dc46b3dfba46a27ff496b8dd6a3b622"), looks := true }, kinds := [], alts := [], laidByText := true, laidKinds := [.data, .data, .data, .data, .sentinel, .sentinel, .sentinel, .pinned], laidTests := true, laidLooks := .later }
def FnExactSaveUptoCardSaid : Prop := Claim7.holds Tryz.pinned (.plain (OpenSpec.upto fnExactSaveSpec)) fnExactSaveUptoCard

/-- THE SECOND FORM's CARD OF 'laws.FnExactFetchTick'. -/
def fnExactFetchTickUptoCard : Claim7 := { stood := { row := fnExactFetchTickUptoRow, standIns := [], harness := (true, "6cc4fac05a04a88d67080ffb0becb6b68dc46b3dfba46a27ff496b8dd6a3b622"), looks := true }, kinds := [], alts := [], laidByText := true, laidKinds := [.data, .data, .data, .data, .sentinel, .sentinel, .sentinel, .pinned], laidTests := true, laidLooks := .later }
def FnExactFetchTickUptoCardSaid : Prop := Claim7.holds Tryz.pinned (.plain (OpenSpec.upto fnExactFetchTickSpec)) fnExactFetchTickUptoCard

/-- THE SECOND FORM's CARD OF 'laws.FnSave'. -/
def fnSaveUptoCard : Claim7 := { stood := { row := fnSaveUptoRow, standIns := [], harness := (true, "6cc4fac05a04a88d67080ffb0becb6b68dc46b3dfba46a27ff496b8dd6a3b622"), looks := true }, kinds := [], alts := [], laidByText := true, laidKinds := [.data, .data, .data, .data, .sentinel, .sentinel, .sentinel, .pinned], laidTests := true, laidLooks := .later }
def FnSaveUptoCardSaid : Prop := Claim7.holds Tryz.pinned (.plain (OpenSpec.upto fnSaveSpec)) fnSaveUptoCard

/-- THE SECOND FORM's CARD OF 'laws.FnExactFetchTake'. -/
def fnExactFetchTakeUptoCard : Claim7 := { stood := { row := fnExactFetchTakeUptoRow, standIns := [], harness := (true, "6cc4fac05a04a88d67080ffb0becb6b68dc46b3dfba46a27ff496b8dd6a3b622"), looks := true }, kinds := [], alts := [], laidByText := true, laidKinds := [.data, .data, .data, .data, .sentinel, .sentinel, .sentinel, .pinned], laidTests := true, laidLooks := .later }
def FnExactFetchTakeUptoCardSaid : Prop := Claim7.holds Tryz.pinned (.plain (OpenSpec.upto fnExactFetchTakeSpec)) fnExactFetchTakeUptoCard

/-- THE SECOND FORM's CARD OF 'laws.FnFetch'. -/
def fnFetchUptoCard : Claim7 := { stood := { row := fnFetchUptoRow, standIns := [], harness := (true, "6cc4fac05a04a88d67080ffb0becb6b68dc46b3dfba46a27ff496b8dd6a3b622"), looks := true }, kinds := [], alts := [], laidByText := true, laidKinds := [.data, .data, .data, .data, .sentinel, .sentinel, .sentinel, .pinned], laidTests := true, laidLooks := .later }
def FnFetchUptoCardSaid : Prop := Claim7.holds Tryz.pinned (.plain (OpenSpec.upto fnFetchSpec)) fnFetchUptoCard
end Rows
end Go.Proofs.YtgkncgiglmdnaaaGreatDoor

/-
  DERIVED. GIVEN WITH THE SEED: THE CARDS: each row of YtkpgdbicefahjaaGreatDoorRows.lean that lists a variable, with what it lists TIED to the program's text (the seventh form; the later family's looks); each row that meets fmt, with fmt's text TOLD by the authors' own Lean function (tested against real Go, not proved from fmt's source: count such statements apart). THE CARD IS WHAT COUNTS. Prove the row's statement (the work); the ties are given (YtkpgdbicefahjaaGreatDoorTie.lean); close each card by the builder's one call (the guide's Derived/Test/ToyasCard.lean, 'card_holds'). Laid BY PROGRAM, IN A SANDBOX (cutbox-door.mjs). By AI agents, Wed Nov 11 2026. No macro, syntax, notation, axiom, sorry.
-/
import Derived.Test.YtkpgdbicefahjaaGreatDoorRows
import GoSem.ClaimSeven
namespace Go.Proofs.YtkpgdbicefahjaaGreatDoor
namespace Rows

/-- THE TIED CARD OF 'laws.FnExactLacks'. -/
def fnExactLacksCard : Claim7 := { stood := { row := fnExactLacksRow, standIns := [], harness := (true, "4093022009498d09c62e66cffe9375aa5587cbfd4567330a8dfdd03be6d6e7ef"), looks := true }, kinds := [], alts := [], laidByText := true, laidKinds := [.data, .data, .data, .data, .sentinel, .sentinel, .sentinel, .pinned], laidTests := true, laidLooks := .later }
def FnExactLacksCardSaid : Prop := Claim7.holds Tryz.pinned (.plain (OpenSpec.ofChange fnExactLacksSpec)) fnExactLacksCard

/-- THE TIED CARD OF 'laws.FnLists'. -/
def fnListsCard : Claim7 := { stood := { row := fnListsRow, standIns := [], harness := (true, "4093022009498d09c62e66cffe9375aa5587cbfd4567330a8dfdd03be6d6e7ef"), looks := true }, kinds := [], alts := [], laidByText := true, laidKinds := [.data, .data, .data, .data, .sentinel, .sentinel, .sentinel, .pinned], laidTests := true, laidLooks := .later }
def FnListsCardSaid : Prop := Claim7.holds Tryz.pinned (.plain (OpenSpec.ofChange fnListsSpec)) fnListsCard

/-- THE TIED CARD OF 'laws.FnExactLoad'. -/
def fnExactLoadCard : Claim7 := { stood := { row := fnExactLoadRow, standIns := [], harness := (true, "4093022009498d09c62e66cffe9375aa5587cbfd4567330a8dfdd03be6d6e7ef"), looks := true }, kinds := [], alts := [], laidByText := true, laidKinds := [.data, .data, .data, .data, .sentinel, .sentinel, .sentinel, .pinned], laidTests := true, laidLooks := .later }
def FnExactLoadCardSaid : Prop := Claim7.holds Tryz.pinned (.plain (OpenSpec.ofChange fnExactLoadSpec)) fnExactLoadCard

/-- THE TIED CARD OF 'laws.FnExactNeeded'. -/
def fnExactNeededCard : Claim7 := { stood := { row := fnExactNeededRow, standIns := [], harness := (true, "4093022009498d09c62e66cffe9375aa5587cbfd4567330a8dfdd03be6d6e7ef"), looks := true }, kinds := [], alts := [], laidByText := true, laidKinds := [.data, .data, .data, .data, .sentinel, .sentinel, .sentinel, .pinned], laidTests := true, laidLooks := .later }
def FnExactNeededCardSaid : Prop := Claim7.holds Tryz.pinned (.plain (OpenSpec.ofChange fnExactNeededSpec)) fnExactNeededCard

/-- THE TIED CARD OF 'laws.FnExactFetchDone'. -/
def fnExactFetchDoneCard : Claim7 := { stood := { row := fnExactFetchDoneRow, standIns := [], harness := (true, "4093022009498d09c62e66cffe9375aa5587cbfd4567330a8dfdd03be6d6e7ef"), looks := true }, kinds := [], alts := [], laidByText := true, laidKinds := [.data, .data, .data, .data, .sentinel, .sentinel, .sentinel, .pinned], laidTests := true, laidLooks := .later }
def FnExactFetchDoneCardSaid : Prop := Claim7.holds Tryz.pinned (.plain (OpenSpec.ofChange fnExactFetchDoneSpec)) fnExactFetchDoneCard

/-- THE TIED CARD OF 'laws.FnExactPut'. -/
def fnExactPutCard : Claim7 := { stood := { row := fnExactPutRow, standIns := [], harness := (true, "4093022009498d09c62e66cffe9375aa5587cbfd4567330a8dfdd03be6d6e7ef"), looks := true }, kinds := [], alts := [], laidByText := true, laidKinds := [.data, .data, .data, .data, .sentinel, .sentinel, .sentinel, .pinned], laidTests := true, laidLooks := .later }
def FnExactPutCardSaid : Prop := Claim7.holds Tryz.pinned (.plain (OpenSpec.ofChange fnExactPutSpec)) fnExactPutCard

/-- THE SECOND FORM's CARD OF 'laws.FnExactLacks'. -/
def fnExactLacksUptoCard : Claim7 := { stood := { row := fnExactLacksUptoRow, standIns := [], harness := (true, "4093022009498d09c62e66cffe9375aa5587cbfd4567330a8dfdd03be6d6e7ef"), looks := true }, kinds := [], alts := [], laidByText := true, laidKinds := [.data, .data, .data, .data, .sentinel, .sentinel, .sentinel, .pinned], laidTests := true, laidLooks := .later }
def FnExactLacksUptoCardSaid : Prop := Claim7.holds Tryz.pinned (.plain (OpenSpec.upto fnExactLacksSpec)) fnExactLacksUptoCard

/-- THE SECOND FORM's CARD OF 'laws.FnLists'. -/
def fnListsUptoCard : Claim7 := { stood := { row := fnListsUptoRow, standIns := [], harness := (true, "4093022009498d09c62e66cffe9375aa5587cbfd4567330a8dfdd03be6d6e7ef"), looks := true }, kinds := [], alts := [], laidByText := true, laidKinds := [.data, .data, .data, .data, .sentinel, .sentinel, .sentinel, .pinned], laidTests := true, laidLooks := .later }
def FnListsUptoCardSaid : Prop := Claim7.holds Tryz.pinned (.plain (OpenSpec.upto fnListsSpec)) fnListsUptoCard

/-- THE SECOND FORM's CARD OF 'laws.FnExactLoad'. -/
def fnExactLoadUptoCard : Claim7 := { stood := { row := fnExactLoadUptoRow, standIns := [], harness := (true, "4093022009498d09c62e66cffe9375aa5587cbfd4567330a8dfdd03be6d6e7ef"), looks := true }, kinds := [], alts := [], laidByText := true, laidKinds := [.data, .data, .data, .data, .sentinel, .sentinel, .sentinel, .pinned], laidTests := true, laidLooks := .later }
def FnExactLoadUptoCardSaid : Prop := Claim7.holds Tryz.pinned (.plain (OpenSpec.upto fnExactLoadSpec)) fnExactLoadUptoCard

/-- THE SECOND FORM's CARD OF 'laws.FnExactNeeded'. -/
def fnExactNeededUptoCard : Claim7 := { stood := { row := fnExactNeededUptoRow, standIns := [], harness := (true, "4093022009498d09c62e66cffe9375aa5587cbfd4567330a8dfdd03be6d6e7ef"), looks := true }, kinds := [], alts := [], laidByText := true, laidKinds := [.data, .data, .data, .data, .sentinel, .sentinel, .sentinel, .pinned], laidTests := true, laidLooks := .later }
def FnExactNeededUptoCardSaid : Prop := Claim7.holds Tryz.pinned (.plain (OpenSpec.upto fnExactNeededSpec)) fnExactNeededUptoCard

/-- THE SECOND FORM's CARD OF 'laws.FnExactFetchDone'. -/
def fnExactFetchDoneUptoCard : Claim7 := { stood := { row := fnExactFetchDoneUptoRow, standIns := [], harness := (true, "4093022009498d09c62e66cffe9375aa5587cbfd4567330a8dfdd03be6d6e7ef"), looks := true }, kinds := [], alts := [], laidByText := true, laidKinds := [.data, .data, .data, .data, .sentinel, .sentinel, .sentinel, .pinned], laidTests := true, laidLooks := .later }
def FnExactFetchDoneUptoCardSaid : Prop := Claim7.holds Tryz.pinned (.plain (OpenSpec.upto fnExactFetchDoneSpec)) fnExactFetchDoneUptoCard

/-- THE SECOND FORM's CARD OF 'laws.FnExactPut'. -/
def fnExactPutUptoCard : Claim7 := { stood := { row := fnExactPutUptoRow, standIns := [], harness := (true, "4093022009498d09c62e66cffe9375aa5587cbfd4567330a8dfdd03be6d6e7ef"), looks := true }, kinds := [], alts := [], laidByText := true, laidKinds := [.data, .data, .data, .data, .sentinel, .sentinel, .sentinel, .pinned], laidTests := true, laidLooks := .later }
def FnExactPutUptoCardSaid : Prop := Claim7.holds Tryz.pinned (.plain (OpenSpec.upto fnExactPutSpec)) fnExactPutUptoCard
end Rows
end Go.Proofs.YtkpgdbicefahjaaGreatDoor

/-
  DERIVED. GIVEN WITH THE SEED: THE CARDS: each row of YtkkmgjhfjhcdmaaGreatDoorRows.lean that lists a variable, with what it lists TIED to the program's text (the seventh form; the later family's looks); each row that meets fmt, with fmt's text TOLD by the authors' own Lean function (tested against real Go, not proved from fmt's source: count such statements apart). THE CARD IS WHAT COUNTS. Prove the row's statement (the work); the ties are given (YtkkmgjhfjhcdmaaGreatDoorTie.lean); close each card by the builder's one call (the guide's Derived/Test/ToyasCard.lean, 'card_holds'). Laid BY PROGRAM, IN A SANDBOX (cutbox-door.mjs). By AI agents, Wed Nov 11 2026. No macro, syntax, notation, axiom, sorry.
-/
import Derived.Test.YtkkmgjhfjhcdmaaGreatDoorRows
import GoSem.ClaimSeven
namespace Go.Proofs.YtkkmgjhfjhcdmaaGreatDoor
namespace Rows

/-- THE TIED CARD OF 'laws.FnStores'. -/
def fnStoresCard : Claim7 := { stood := { row := fnStoresRow, standIns := [], harness := (true, "7932f7b06ab67128e2be16296df474a96ad45539ed470a59c293482d243e8b07"), looks := true }, kinds := [], alts := [], laidByText := true, laidKinds := [.data, .data, .data, .data, .sentinel, .sentinel, .sentinel, .pinned], laidTests := true, laidLooks := .later }
def FnStoresCardSaid : Prop := Claim7.holds Tryz.pinned (.plain (OpenSpec.ofChange fnStoresSpec)) fnStoresCard

/-- THE TIED CARD OF 'laws.FnExactFetchTick'. -/
def fnExactFetchTickCard : Claim7 := { stood := { row := fnExactFetchTickRow, standIns := [], harness := (true, "7932f7b06ab67128e2be16296df474a96ad45539ed470a59c293482d243e8b07"), looks := true }, kinds := [], alts := [], laidByText := true, laidKinds := [.data, .data, .data, .data, .sentinel, .sentinel, .sentinel, .pinned], laidTests := true, laidLooks := .later }
def FnExactFetchTickCardSaid : Prop := Claim7.holds Tryz.pinned (.plain (OpenSpec.ofChange fnExactFetchTickSpec)) fnExactFetchTickCard

/-- THE TIED CARD OF 'laws.FnSave'. -/
def fnSaveCard : Claim7 := { stood := { row := fnSaveRow, standIns := [], harness := (true, "7932f7b06ab67128e2be16296df474a96ad45539ed470a59c293482d243e8b07"), looks := true }, kinds := [], alts := [], laidByText := true, laidKinds := [.data, .data, .data, .data, .sentinel, .sentinel, .sentinel, .pinned], laidTests := true, laidLooks := .later }
def FnSaveCardSaid : Prop := Claim7.holds Tryz.pinned (.plain (OpenSpec.ofChange fnSaveSpec)) fnSaveCard

/-- THE TIED CARD OF 'laws.FnExactFetchTake'. -/
def fnExactFetchTakeCard : Claim7 := { stood := { row := fnExactFetchTakeRow, standIns := [], harness := (true, "7932f7b06ab67128e2be16296df474a96ad45539ed470a59c293482d243e8b07"), looks := true }, kinds := [], alts := [], laidByText := true, laidKinds := [.data, .data, .data, .data, .sentinel, .sentinel, .sentinel, .pinned], laidTests := true, laidLooks := .later }
def FnExactFetchTakeCardSaid : Prop := Claim7.holds Tryz.pinned (.plain (OpenSpec.ofChange fnExactFetchTakeSpec)) fnExactFetchTakeCard

/-- THE TIED CARD OF 'laws.FnFetch'. -/
def fnFetchCard : Claim7 := { stood := { row := fnFetchRow, standIns := [], harness := (true, "7932f7b06ab67128e2be16296df474a96ad45539ed470a59c293482d243e8b07"), looks := true }, kinds := [], alts := [], laidByText := true, laidKinds := [.data, .data, .data, .data, .sentinel, .sentinel, .sentinel, .pinned], laidTests := true, laidLooks := .later }
def FnFetchCardSaid : Prop := Claim7.holds Tryz.pinned (.plain (OpenSpec.ofChange fnFetchSpec)) fnFetchCard

/-- THE SECOND FORM's CARD OF 'laws.FnStores'. -/
def fnStoresUptoCard : Claim7 := { stood := { row := fnStoresUptoRow, standIns := [], harness := (true, "7932f7b06ab67128e2be16296df474a96ad45539ed470a59c293482d243e8b07"), looks := true }, kinds := [], alts := [], laidByText := true, laidKinds := [.data, .data, .data, .data, .sentinel, .sentinel, .sentinel, .pinned], laidTests := true, laidLooks := .later }
def FnStoresUptoCardSaid : Prop := Claim7.holds Tryz.pinned (.plain (OpenSpec.upto fnStoresSpec)) fnStoresUptoCard

/-- THE SECOND FORM's CARD OF 'laws.FnExactFetchTick'. -/
def fnExactFetchTickUptoCard : Claim7 := { stood := { row := fnExactFetchTickUptoRow, standIns := [], harness := (true, "7932f7b06ab67128e2be16296df474a96ad45539ed470a59c293482d243e8b07"), looks := true }, kinds := [], alts := [], laidByText := true, laidKinds := [.data, .data, .data, .data, .sentinel, .sentinel, .sentinel, .pinned], laidTests := true, laidLooks := .later }
def FnExactFetchTickUptoCardSaid : Prop := Claim7.holds Tryz.pinned (.plain (OpenSpec.upto fnExactFetchTickSpec)) fnExactFetchTickUptoCard

/-- THE SECOND FORM's CARD OF 'laws.FnSave'. -/
def fnSaveUptoCard : Claim7 := { stood := { row := fnSaveUptoRow, standIns := [], harness := (true, "7932f7b06ab67128e2be16296df474a96ad45539ed470a59c293482d243e8b07"), looks := true }, kinds := [], alts := [], laidByText := true, laidKinds := [.data, .data, .data, .data, .sentinel, .sentinel, .sentinel, .pinned], laidTests := true, laidLooks := .later }
def FnSaveUptoCardSaid : Prop := Claim7.holds Tryz.pinned (.plain (OpenSpec.upto fnSaveSpec)) fnSaveUptoCard

/-- THE SECOND FORM's CARD OF 'laws.FnExactFetchTake'. -/
def fnExactFetchTakeUptoCard : Claim7 := { stood := { row := fnExactFetchTakeUptoRow, standIns := [], harness := (true, "7932f7b06ab67128e2be16296df474a96ad45539ed470a59c293482d243e8b07"), looks := true }, kinds := [], alts := [], laidByText := true, laidKinds := [.data, .data, .data, .data, .sentinel, .sentinel, .sentinel, .pinned], laidTests := true, laidLooks := .later }
def FnExactFetchTakeUptoCardSaid : Prop := Claim7.holds Tryz.pinned (.plain (OpenSpec.upto fnExactFetchTakeSpec)) fnExactFetchTakeUptoCard

/-- THE SECOND FORM's CARD OF 'laws.FnFetch'. -/
def fnFetchUptoCard : Claim7 := { stood := { row := fnFetchUptoRow, standIns := [], harness := (true, "7932f7b06ab67128e2be16296df474a96ad45539ed470a59c293482d243e8b07"), looks := true }, kinds := [], alts := [], laidByText := true, laidKinds := [.data, .data, .data, .data, .sentinel, .sentinel, .sentinel, .pinned], laidTests := true, laidLooks := .later }
def FnFetchUptoCardSaid : Prop := Claim7.holds Tryz.pinned (.plain (OpenSpec.upto fnFetchSpec)) fnFetchUptoCard
end Rows
end Go.Proofs.YtkkmgjhfjhcdmaaGreatDoor

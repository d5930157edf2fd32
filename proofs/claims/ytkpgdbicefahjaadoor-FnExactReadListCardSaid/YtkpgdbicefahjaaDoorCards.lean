/-
  DERIVED. GIVEN WITH THE SEED: THE CARDS: each row of YtkpgdbicefahjaaDoorRows.lean that lists a variable, with what it lists TIED to the program's text (the seventh form; the later family's looks); each row that meets fmt, with fmt's text TOLD by the authors' own Lean function (tested against real Go, not proved from fmt's source: count such statements apart). THE CARD IS WHAT COUNTS. Prove the row's statement (the work); the ties are given (YtkpgdbicefahjaaDoorTie.lean); close each card by the builder's one call (the guide's Derived/Test/ToyasCard.lean, 'card_holds'). Laid BY PROGRAM, IN A SANDBOX (cutbox-door.mjs). By AI agents, Wed Nov 11 2026. No macro, syntax, notation, axiom, sorry.
-/
import Derived.Test.YtkpgdbicefahjaaDoorRows
import GoSem.ClaimSeven
namespace Go.Proofs.YtkpgdbicefahjaaDoor
namespace Rows

/-- THE TIED CARD OF 'laws.FnExactFormList'. -/
def fnExactFormListCard : Claim7 := { stood := { row := fnExactFormListRow, standIns := [], harness := (true, "f437a8180270530adbabf2a0296f37632c205a9d4e3300aedb597d6f407bedf8"), looks := true }, kinds := [], alts := [], laidByText := true, laidKinds := [.data, .data, .data], laidTests := true, laidLooks := .later }
def FnExactFormListCardSaid : Prop := Claim7.holds Tryd.pinned (.plain (OpenSpec.ofChange fnExactFormListSpec)) fnExactFormListCard

/-- THE TIED CARD OF 'laws.FnExactName'. -/
def fnExactNameCard : Claim7 := { stood := { row := fnExactNameRow, standIns := [], harness := (true, "f437a8180270530adbabf2a0296f37632c205a9d4e3300aedb597d6f407bedf8"), looks := true }, kinds := [], alts := [], laidByText := true, laidKinds := [.data, .data, .data], laidTests := true, laidLooks := .later }
def FnExactNameCardSaid : Prop := Claim7.holds Tryd.pinned (.plain (OpenSpec.ofChange fnExactNameSpec)) fnExactNameCard

/-- THE TIED CARD OF 'laws.FnNames'. -/
def fnNamesCard : Claim7 := { stood := { row := fnNamesRow, standIns := [], harness := (true, "f437a8180270530adbabf2a0296f37632c205a9d4e3300aedb597d6f407bedf8"), looks := true }, kinds := [], alts := [], laidByText := true, laidKinds := [.data, .data, .data], laidTests := true, laidLooks := .later }
def FnNamesCardSaid : Prop := Claim7.holds Tryd.pinned (.plain (OpenSpec.ofChange fnNamesSpec)) fnNamesCard

/-- THE TIED CARD OF 'laws.FnExactReadList'. -/
def fnExactReadListCard : Claim7 := { stood := { row := fnExactReadListRow, standIns := [], harness := (true, "f437a8180270530adbabf2a0296f37632c205a9d4e3300aedb597d6f407bedf8"), looks := true }, kinds := [], alts := [], laidByText := true, laidKinds := [.data, .data, .data, .data, .sentinel, .sentinel, .sentinel, .pinned], laidTests := true, laidLooks := .later }
def FnExactReadListCardSaid : Prop := Claim7.holds Tryd.pinned (.plain (OpenSpec.ofChange fnExactReadListSpec)) fnExactReadListCard

/-- THE SECOND FORM's CARD OF 'laws.FnExactFormList'. -/
def fnExactFormListUptoCard : Claim7 := { stood := { row := fnExactFormListUptoRow, standIns := [], harness := (true, "f437a8180270530adbabf2a0296f37632c205a9d4e3300aedb597d6f407bedf8"), looks := true }, kinds := [], alts := [], laidByText := true, laidKinds := [.data, .data, .data], laidTests := true, laidLooks := .later }
def FnExactFormListUptoCardSaid : Prop := Claim7.holds Tryd.pinned (.plain (OpenSpec.upto fnExactFormListSpec)) fnExactFormListUptoCard

/-- THE SECOND FORM's CARD OF 'laws.FnExactName'. -/
def fnExactNameUptoCard : Claim7 := { stood := { row := fnExactNameUptoRow, standIns := [], harness := (true, "f437a8180270530adbabf2a0296f37632c205a9d4e3300aedb597d6f407bedf8"), looks := true }, kinds := [], alts := [], laidByText := true, laidKinds := [.data, .data, .data], laidTests := true, laidLooks := .later }
def FnExactNameUptoCardSaid : Prop := Claim7.holds Tryd.pinned (.plain (OpenSpec.upto fnExactNameSpec)) fnExactNameUptoCard

/-- THE SECOND FORM's CARD OF 'laws.FnNames'. -/
def fnNamesUptoCard : Claim7 := { stood := { row := fnNamesUptoRow, standIns := [], harness := (true, "f437a8180270530adbabf2a0296f37632c205a9d4e3300aedb597d6f407bedf8"), looks := true }, kinds := [], alts := [], laidByText := true, laidKinds := [.data, .data, .data], laidTests := true, laidLooks := .later }
def FnNamesUptoCardSaid : Prop := Claim7.holds Tryd.pinned (.plain (OpenSpec.upto fnNamesSpec)) fnNamesUptoCard

/-- THE SECOND FORM's CARD OF 'laws.FnExactReadList'. -/
def fnExactReadListUptoCard : Claim7 := { stood := { row := fnExactReadListUptoRow, standIns := [], harness := (true, "f437a8180270530adbabf2a0296f37632c205a9d4e3300aedb597d6f407bedf8"), looks := true }, kinds := [], alts := [], laidByText := true, laidKinds := [.data, .data, .data, .data, .sentinel, .sentinel, .sentinel, .pinned], laidTests := true, laidLooks := .later }
def FnExactReadListUptoCardSaid : Prop := Claim7.holds Tryd.pinned (.plain (OpenSpec.upto fnExactReadListSpec)) fnExactReadListUptoCard
end Rows
end Go.Proofs.YtkpgdbicefahjaaDoor

/-
  No cell of these rows narrows 'for every input' (looked for: loops, veiled, ifaces, maps, wideKeys, modest, calm, conditions, laid).
  DERIVED. THE GIVEN ROWS OF THIS SEAT. 7 by the template 'for every input the law returns true; each argument reads behind the call as it read before'; 0 by the template 'total and deterministic' (their statements: YtfanhfmfbfncfaaTotals.lean).
  GIVEN WITH THE SEED: the statements are not yours to turn. If you find one false, say at which input.
  Laid BY PROGRAM, IN A SANDBOX (cutbox-rows.mjs): the forced cells as the released guide's own fill.sh prints them over the translation 5ad9e478ad61274d… (all of the seat's roots in one cut). By AI agents, Wed Nov 11 2026. No macro, syntax, notation, axiom, sorry.
-/
import Derived.Test.YtfanhfmfbfncfaaChecked
import GoSem.Claim
import GoSem.ClaimJoined
import GoSem.ClaimMapViews
import Derived.JoinedTies
import Derived.KernelRfl
namespace Go.Proofs.Ytfanhfmfbfncfaa
/- THE CELL 'sum', in the pinned program and in every row, IS THE sha256 OF THE DUMP (.gsa) THAT YtfanhfmfbfncfaaProg.lean LOADS. Nothing in Lean hashes anything: it is a label: what it is worth is what the hold of that sum in a sandbox is worth. -/
noncomputable def Try.pinned : Pinned := { name := "ytfanhfmfbfncfaa", sum := "5ad9e478ad61274d0d2cd07a0203ce94d4f2037178c104215c4612c38b197f85", checked := Try.checked }
namespace Rows
def none {H : Type} : Left H := { results := [], args := [] }

/-- 'laws.FnExactPin': WHATEVER THE INPUT: true; the input reads as it did. -/
def fnExactPinSpec : ChangeSpec := { name := "fnExactPin", fn := fun _ => fun
  | [d1, d2] => { results := [.lit (.bool true)], args := [d1, d2] }
  | _ => none }
def fnExactPinRow : OpenClaim := { program := "ytfanhfmfbfncfaa", sum := "5ad9e478ad61274d0d2cd07a0203ce94d4f2037178c104215c4612c38b197f85", func := "loop.example/kilnpass/laws.FnExactPin", spec := "fnExactPin", unfollowed := true, recurses := true, apart := false }
def FnExactPinSaid : Prop := fnExactPinRow.holds Try.pinned (OpenSpec.ofChange fnExactPinSpec)

/-- ITS FALSE NEIGHBOUR: 'it returns false'. Refute it at one input. -/
def fnExactPinWrong : ChangeSpec := { name := "fnExactPin", fn := fun _ => fun
  | [d1, d2] => { results := [.lit (.bool false)], args := [d1, d2] }
  | _ => none }
def FnExactPinWrongFalsely : Prop := fnExactPinRow.holds Try.pinned (OpenSpec.ofChange fnExactPinWrong)

/-- 'laws.FnExactHear': WHATEVER THE INPUT: true; the input reads as it did. -/
def fnExactHearSpec : ChangeSpec := { name := "fnExactHear", fn := fun _ => fun
  | [d1, d2, d3] => { results := [.lit (.bool true)], args := [d1, d2, d3] }
  | _ => none }
def fnExactHearRow : OpenClaim := { program := "ytfanhfmfbfncfaa", sum := "5ad9e478ad61274d0d2cd07a0203ce94d4f2037178c104215c4612c38b197f85", func := "loop.example/kilnpass/laws.FnExactHear", spec := "fnExactHear", inPlace := ["internal/abi.NoEscape", "internal/bytealg.MakeNoZero"], apart := false }
def FnExactHearSaid : Prop := fnExactHearRow.holds Try.pinned (OpenSpec.ofChange fnExactHearSpec)

/-- ITS FALSE NEIGHBOUR: 'it returns false'. Refute it at one input. -/
def fnExactHearWrong : ChangeSpec := { name := "fnExactHear", fn := fun _ => fun
  | [d1, d2, d3] => { results := [.lit (.bool false)], args := [d1, d2, d3] }
  | _ => none }
def FnExactHearWrongFalsely : Prop := fnExactHearRow.holds Try.pinned (OpenSpec.ofChange fnExactHearWrong)

/-- 'laws.FnExactNewFetch': WHATEVER THE INPUT: true; the input reads as it did. -/
def fnExactNewFetchSpec : ChangeSpec := { name := "fnExactNewFetch", fn := fun _ => fun
  | [d1, d2, d3] => { results := [.lit (.bool true)], args := [d1, d2, d3] }
  | _ => none }
def fnExactNewFetchRow : OpenClaim := { program := "ytfanhfmfbfncfaa", sum := "5ad9e478ad61274d0d2cd07a0203ce94d4f2037178c104215c4612c38b197f85", func := "loop.example/kilnpass/laws.FnExactNewFetch", spec := "fnExactNewFetch", unfollowed := true, recurses := true, apart := false }
def FnExactNewFetchSaid : Prop := fnExactNewFetchRow.holds Try.pinned (OpenSpec.ofChange fnExactNewFetchSpec)

/-- ITS FALSE NEIGHBOUR: 'it returns false'. Refute it at one input. -/
def fnExactNewFetchWrong : ChangeSpec := { name := "fnExactNewFetch", fn := fun _ => fun
  | [d1, d2, d3] => { results := [.lit (.bool false)], args := [d1, d2, d3] }
  | _ => none }
def FnExactNewFetchWrongFalsely : Prop := fnExactNewFetchRow.holds Try.pinned (OpenSpec.ofChange fnExactNewFetchWrong)

/-- 'laws.FnExactValidWorld': WHATEVER THE INPUT: true; the input reads as it did. -/
def fnExactValidWorldSpec : ChangeSpec := { name := "fnExactValidWorld", fn := fun _ => fun
  | [d] => { results := [.lit (.bool true)], args := [d] }
  | _ => none }
def fnExactValidWorldRow : OpenClaim := { program := "ytfanhfmfbfncfaa", sum := "5ad9e478ad61274d0d2cd07a0203ce94d4f2037178c104215c4612c38b197f85", func := "loop.example/kilnpass/laws.FnExactValidWorld", spec := "fnExactValidWorld", unfollowed := true, recurses := true, apart := false }
def FnExactValidWorldSaid : Prop := fnExactValidWorldRow.holds Try.pinned (OpenSpec.ofChange fnExactValidWorldSpec)

/-- ITS FALSE NEIGHBOUR: 'it returns false'. Refute it at one input. -/
def fnExactValidWorldWrong : ChangeSpec := { name := "fnExactValidWorld", fn := fun _ => fun
  | [d] => { results := [.lit (.bool false)], args := [d] }
  | _ => none }
def FnExactValidWorldWrongFalsely : Prop := fnExactValidWorldRow.holds Try.pinned (OpenSpec.ofChange fnExactValidWorldWrong)

/-- 'laws.FnExactDiffer': WHATEVER THE INPUT: true; the input reads as it did. -/
def fnExactDifferSpec : ChangeSpec := { name := "fnExactDiffer", fn := fun _ => fun
  | [d1, d2, d3] => { results := [.lit (.bool true)], args := [d1, d2, d3] }
  | _ => none }
def fnExactDifferRow : OpenClaim := { program := "ytfanhfmfbfncfaa", sum := "5ad9e478ad61274d0d2cd07a0203ce94d4f2037178c104215c4612c38b197f85", func := "loop.example/kilnpass/laws.FnExactDiffer", spec := "fnExactDiffer", inPlace := ["internal/abi.NoEscape", "internal/bytealg.MakeNoZero"], recurses := true, apart := false }
def FnExactDifferSaid : Prop := fnExactDifferRow.holds Try.pinned (OpenSpec.ofChange fnExactDifferSpec)

/-- ITS FALSE NEIGHBOUR: 'it returns false'. Refute it at one input. -/
def fnExactDifferWrong : ChangeSpec := { name := "fnExactDiffer", fn := fun _ => fun
  | [d1, d2, d3] => { results := [.lit (.bool false)], args := [d1, d2, d3] }
  | _ => none }
def FnExactDifferWrongFalsely : Prop := fnExactDifferRow.holds Try.pinned (OpenSpec.ofChange fnExactDifferWrong)

/-- 'laws.FnDiffer': WHATEVER THE INPUT: true; the input reads as it did. -/
def fnDifferSpec : ChangeSpec := { name := "fnDiffer", fn := fun _ => fun
  | [d] => { results := [.lit (.bool true)], args := [d] }
  | _ => none }
def fnDifferRow : OpenClaim := { program := "ytfanhfmfbfncfaa", sum := "5ad9e478ad61274d0d2cd07a0203ce94d4f2037178c104215c4612c38b197f85", func := "loop.example/kilnpass/laws.FnDiffer", spec := "fnDiffer", inPlace := ["internal/abi.NoEscape", "internal/bytealg.MakeNoZero"], recurses := true, apart := false }
def FnDifferSaid : Prop := fnDifferRow.holds Try.pinned (OpenSpec.ofChange fnDifferSpec)

/-- ITS FALSE NEIGHBOUR: 'it returns false'. Refute it at one input. -/
def fnDifferWrong : ChangeSpec := { name := "fnDiffer", fn := fun _ => fun
  | [d] => { results := [.lit (.bool false)], args := [d] }
  | _ => none }
def FnDifferWrongFalsely : Prop := fnDifferRow.holds Try.pinned (OpenSpec.ofChange fnDifferWrong)

/-- 'laws.FnExactNewWorld': WHATEVER THE INPUT: true; the input reads as it did. -/
def fnExactNewWorldSpec : ChangeSpec := { name := "fnExactNewWorld", fn := fun _ => fun
  | [d1, d2] => { results := [.lit (.bool true)], args := [d1, d2] }
  | _ => none }
def fnExactNewWorldRow : OpenClaim := { program := "ytfanhfmfbfncfaa", sum := "5ad9e478ad61274d0d2cd07a0203ce94d4f2037178c104215c4612c38b197f85", func := "loop.example/kilnpass/laws.FnExactNewWorld", spec := "fnExactNewWorld", unfollowed := true, recurses := true, apart := false }
def FnExactNewWorldSaid : Prop := fnExactNewWorldRow.holds Try.pinned (OpenSpec.ofChange fnExactNewWorldSpec)

/-- ITS FALSE NEIGHBOUR: 'it returns false'. Refute it at one input. -/
def fnExactNewWorldWrong : ChangeSpec := { name := "fnExactNewWorld", fn := fun _ => fun
  | [d1, d2] => { results := [.lit (.bool false)], args := [d1, d2] }
  | _ => none }
def FnExactNewWorldWrongFalsely : Prop := fnExactNewWorldRow.holds Try.pinned (OpenSpec.ofChange fnExactNewWorldWrong)

/- THE SECOND FORM. 'bulk': how many values and letters a reading holds, each counted each time it is reached (what is shared counts as often as it is met; a slice's spare places count too). A statement '..UptoSaid' is the law's where the arguments, and the package variables that the reading takes, are together of bulk at most 1048576: NARROWER than '..Said'. Prove '..Said' where nothing that the law and all that it calls make is longer than what came in: it says more and counts as full. Else prove '..UptoSaid'. A law counts once. -/
mutual
def uptoBulk {H : Type} : DataW H → Nat
  | .lit (.string bytes) => bytes.length + 1
  | .lit _ => 1
  | .nil => 1
  | .ptr d => uptoBulk d + 1
  | .slice elems spare => uptoBulkAll elems + uptoBulkAll spare + 1
  | .agg parts => uptoBulkAll parts + 1
  | .iface _ d => uptoBulk d + 1
  | .map entries => uptoBulkEntries entries + 1
  | .held _ => 1
def uptoBulkAll {H : Type} : List (DataW H) → Nat
  | [] => 0
  | d :: r => uptoBulk d + uptoBulkAll r
def uptoBulkEntries {H : Type} : List (Lit × DataW H) → Nat
  | [] => 0
  | x :: r => uptoBulkEntry x + uptoBulkEntries r
def uptoBulkEntry {H : Type} : Lit × DataW H → Nat
  | (.string bytes, d) => bytes.length + uptoBulk d + 1
  | (_, d) => uptoBulk d + 1
 end
def uptoSmall : (H : Type) → List (DataW H) → Bool := fun _ ds => decide (uptoBulkAll ds ≤ 1048576)
def OpenSpec.upto (s : _root_.Go.ChangeSpec) : _root_.Go.OpenSpec := { _root_.Go.OpenSpec.ofChange s with cond := some uptoSmall }

/-- 'laws.FnExactPin', WHERE WHAT IT READS IS OF BULK AT MOST 1048576: true; the input reads as it did. -/
def fnExactPinUptoRow : OpenClaim := { program := "ytfanhfmfbfncfaa", sum := "5ad9e478ad61274d0d2cd07a0203ce94d4f2037178c104215c4612c38b197f85", func := "loop.example/kilnpass/laws.FnExactPin", spec := "fnExactPin", unfollowed := true, recurses := true, apart := false, narrowed := true }
def FnExactPinUptoSaid : Prop := fnExactPinUptoRow.holds Try.pinned (OpenSpec.upto fnExactPinSpec)

/-- 'laws.FnExactHear', WHERE WHAT IT READS IS OF BULK AT MOST 1048576: true; the input reads as it did. -/
def fnExactHearUptoRow : OpenClaim := { program := "ytfanhfmfbfncfaa", sum := "5ad9e478ad61274d0d2cd07a0203ce94d4f2037178c104215c4612c38b197f85", func := "loop.example/kilnpass/laws.FnExactHear", spec := "fnExactHear", inPlace := ["internal/abi.NoEscape", "internal/bytealg.MakeNoZero"], apart := false, narrowed := true }
def FnExactHearUptoSaid : Prop := fnExactHearUptoRow.holds Try.pinned (OpenSpec.upto fnExactHearSpec)

/-- 'laws.FnExactNewFetch', WHERE WHAT IT READS IS OF BULK AT MOST 1048576: true; the input reads as it did. -/
def fnExactNewFetchUptoRow : OpenClaim := { program := "ytfanhfmfbfncfaa", sum := "5ad9e478ad61274d0d2cd07a0203ce94d4f2037178c104215c4612c38b197f85", func := "loop.example/kilnpass/laws.FnExactNewFetch", spec := "fnExactNewFetch", unfollowed := true, recurses := true, apart := false, narrowed := true }
def FnExactNewFetchUptoSaid : Prop := fnExactNewFetchUptoRow.holds Try.pinned (OpenSpec.upto fnExactNewFetchSpec)

/-- 'laws.FnExactValidWorld', WHERE WHAT IT READS IS OF BULK AT MOST 1048576: true; the input reads as it did. -/
def fnExactValidWorldUptoRow : OpenClaim := { program := "ytfanhfmfbfncfaa", sum := "5ad9e478ad61274d0d2cd07a0203ce94d4f2037178c104215c4612c38b197f85", func := "loop.example/kilnpass/laws.FnExactValidWorld", spec := "fnExactValidWorld", unfollowed := true, recurses := true, apart := false, narrowed := true }
def FnExactValidWorldUptoSaid : Prop := fnExactValidWorldUptoRow.holds Try.pinned (OpenSpec.upto fnExactValidWorldSpec)

/-- 'laws.FnExactDiffer', WHERE WHAT IT READS IS OF BULK AT MOST 1048576: true; the input reads as it did. -/
def fnExactDifferUptoRow : OpenClaim := { program := "ytfanhfmfbfncfaa", sum := "5ad9e478ad61274d0d2cd07a0203ce94d4f2037178c104215c4612c38b197f85", func := "loop.example/kilnpass/laws.FnExactDiffer", spec := "fnExactDiffer", inPlace := ["internal/abi.NoEscape", "internal/bytealg.MakeNoZero"], recurses := true, apart := false, narrowed := true }
def FnExactDifferUptoSaid : Prop := fnExactDifferUptoRow.holds Try.pinned (OpenSpec.upto fnExactDifferSpec)

/-- 'laws.FnDiffer', WHERE WHAT IT READS IS OF BULK AT MOST 1048576: true; the input reads as it did. -/
def fnDifferUptoRow : OpenClaim := { program := "ytfanhfmfbfncfaa", sum := "5ad9e478ad61274d0d2cd07a0203ce94d4f2037178c104215c4612c38b197f85", func := "loop.example/kilnpass/laws.FnDiffer", spec := "fnDiffer", inPlace := ["internal/abi.NoEscape", "internal/bytealg.MakeNoZero"], recurses := true, apart := false, narrowed := true }
def FnDifferUptoSaid : Prop := fnDifferUptoRow.holds Try.pinned (OpenSpec.upto fnDifferSpec)

/-- 'laws.FnExactNewWorld', WHERE WHAT IT READS IS OF BULK AT MOST 1048576: true; the input reads as it did. -/
def fnExactNewWorldUptoRow : OpenClaim := { program := "ytfanhfmfbfncfaa", sum := "5ad9e478ad61274d0d2cd07a0203ce94d4f2037178c104215c4612c38b197f85", func := "loop.example/kilnpass/laws.FnExactNewWorld", spec := "fnExactNewWorld", unfollowed := true, recurses := true, apart := false, narrowed := true }
def FnExactNewWorldUptoSaid : Prop := fnExactNewWorldUptoRow.holds Try.pinned (OpenSpec.upto fnExactNewWorldSpec)

end Rows
end Go.Proofs.Ytfanhfmfbfncfaa

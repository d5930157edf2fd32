/-
  No cell of these rows narrows 'for every input' (looked for: loops, veiled, ifaces, maps, wideKeys, modest, calm, conditions, laid).
  DERIVED. THE GIVEN ROWS OF THIS SEAT. 10 by the template 'for every input the law returns true; each argument reads behind the call as it read before'; 0 by the template 'total and deterministic' (their statements: YtbhkinfdilngiaaTotals.lean).
  GIVEN WITH THE SEED: the statements are not yours to turn. If you find one false, say at which input.
  Laid BY PROGRAM, IN A SANDBOX (cutbox-rows.mjs): the forced cells as the released guide's own fill.sh prints them over the translation 21815e4cbc56654c… (all of the seat's roots in one cut). By AI agents, Wed Nov 11 2026. No macro, syntax, notation, axiom, sorry.
-/
import Derived.Test.YtbhkinfdilngiaaChecked
import GoSem.Claim
import GoSem.ClaimJoined
import GoSem.ClaimMapViews
import Derived.JoinedTies
import Derived.KernelRfl
namespace Go.Proofs.Ytbhkinfdilngiaa
/- THE CELL 'sum', in the pinned program and in every row, IS THE sha256 OF THE DUMP (.gsa) THAT YtbhkinfdilngiaaProg.lean LOADS. Nothing in Lean hashes anything: it is a label: what it is worth is what the hold of that sum in a sandbox is worth. -/
noncomputable def Try.pinned : Pinned := { name := "ytbhkinfdilngiaa", sum := "21815e4cbc56654c15f0626738cb957928615f69aa7619da45c2680b07b93a82", checked := Try.checked }
namespace Rows
def none {H : Type} : Left H := { results := [], args := [] }

/-- 'laws.FnExactDescribe': WHATEVER THE INPUT: true; the input reads as it did. -/
def fnExactDescribeSpec : ChangeSpec := { name := "fnExactDescribe", fn := fun _ => fun
  | [d1, d2] => { results := [.lit (.bool true)], args := [d1, d2] }
  | _ => none }
def fnExactDescribeRow : OpenClaim := { program := "ytbhkinfdilngiaa", sum := "21815e4cbc56654c15f0626738cb957928615f69aa7619da45c2680b07b93a82", func := "loop.example/kilnpass/laws.FnExactDescribe", spec := "fnExactDescribe", apart := false }
def FnExactDescribeSaid : Prop := fnExactDescribeRow.holds Try.pinned (OpenSpec.ofChange fnExactDescribeSpec)

/-- ITS FALSE NEIGHBOUR: 'it returns false'. Refute it at one input. -/
def fnExactDescribeWrong : ChangeSpec := { name := "fnExactDescribe", fn := fun _ => fun
  | [d1, d2] => { results := [.lit (.bool false)], args := [d1, d2] }
  | _ => none }
def FnExactDescribeWrongFalsely : Prop := fnExactDescribeRow.holds Try.pinned (OpenSpec.ofChange fnExactDescribeWrong)

/-- 'laws.FnExactValidStore': WHATEVER THE INPUT: true; the input reads as it did. -/
def fnExactValidStoreSpec : ChangeSpec := { name := "fnExactValidStore", fn := fun _ => fun
  | [d] => { results := [.lit (.bool true)], args := [d] }
  | _ => none }
def fnExactValidStoreRow : OpenClaim := { program := "ytbhkinfdilngiaa", sum := "21815e4cbc56654c15f0626738cb957928615f69aa7619da45c2680b07b93a82", func := "loop.example/kilnpass/laws.FnExactValidStore", spec := "fnExactValidStore", apart := false }
def FnExactValidStoreSaid : Prop := fnExactValidStoreRow.holds Try.pinned (OpenSpec.ofChange fnExactValidStoreSpec)

/-- ITS FALSE NEIGHBOUR: 'it returns false'. Refute it at one input. -/
def fnExactValidStoreWrong : ChangeSpec := { name := "fnExactValidStore", fn := fun _ => fun
  | [d] => { results := [.lit (.bool false)], args := [d] }
  | _ => none }
def FnExactValidStoreWrongFalsely : Prop := fnExactValidStoreRow.holds Try.pinned (OpenSpec.ofChange fnExactValidStoreWrong)

/-- 'laws.FnExactTell': WHATEVER THE INPUT: true; the input reads as it did. -/
def fnExactTellSpec : ChangeSpec := { name := "fnExactTell", fn := fun _ => fun
  | [d1, d2, d3, d4] => { results := [.lit (.bool true)], args := [d1, d2, d3, d4] }
  | _ => none }
def fnExactTellRow : OpenClaim := { program := "ytbhkinfdilngiaa", sum := "21815e4cbc56654c15f0626738cb957928615f69aa7619da45c2680b07b93a82", func := "loop.example/kilnpass/laws.FnExactTell", spec := "fnExactTell", inPlace := ["internal/abi.NoEscape", "internal/bytealg.MakeNoZero"], apart := false }
def FnExactTellSaid : Prop := fnExactTellRow.holds Try.pinned (OpenSpec.ofChange fnExactTellSpec)

/-- ITS FALSE NEIGHBOUR: 'it returns false'. Refute it at one input. -/
def fnExactTellWrong : ChangeSpec := { name := "fnExactTell", fn := fun _ => fun
  | [d1, d2, d3, d4] => { results := [.lit (.bool false)], args := [d1, d2, d3, d4] }
  | _ => none }
def FnExactTellWrongFalsely : Prop := fnExactTellRow.holds Try.pinned (OpenSpec.ofChange fnExactTellWrong)

/-- 'laws.FnExactBuild': WHATEVER THE INPUT: true; the input reads as it did. -/
def fnExactBuildSpec : ChangeSpec := { name := "fnExactBuild", fn := fun _ => fun
  | [d1, d2, d3] => { results := [.lit (.bool true)], args := [d1, d2, d3] }
  | _ => none }
def fnExactBuildRow : OpenClaim := { program := "ytbhkinfdilngiaa", sum := "21815e4cbc56654c15f0626738cb957928615f69aa7619da45c2680b07b93a82", func := "loop.example/kilnpass/laws.FnExactBuild", spec := "fnExactBuild", inPlace := ["internal/abi.NoEscape", "internal/bytealg.MakeNoZero"], apart := false }
def FnExactBuildSaid : Prop := fnExactBuildRow.holds Try.pinned (OpenSpec.ofChange fnExactBuildSpec)

/-- ITS FALSE NEIGHBOUR: 'it returns false'. Refute it at one input. -/
def fnExactBuildWrong : ChangeSpec := { name := "fnExactBuild", fn := fun _ => fun
  | [d1, d2, d3] => { results := [.lit (.bool false)], args := [d1, d2, d3] }
  | _ => none }
def FnExactBuildWrongFalsely : Prop := fnExactBuildRow.holds Try.pinned (OpenSpec.ofChange fnExactBuildWrong)

/-- 'laws.FnExactGet': WHATEVER THE INPUT: true; the input reads as it did. -/
def fnExactGetSpec : ChangeSpec := { name := "fnExactGet", fn := fun _ => fun
  | [d1, d2, d3] => { results := [.lit (.bool true)], args := [d1, d2, d3] }
  | _ => none }
def fnExactGetRow : OpenClaim := { program := "ytbhkinfdilngiaa", sum := "21815e4cbc56654c15f0626738cb957928615f69aa7619da45c2680b07b93a82", func := "loop.example/kilnpass/laws.FnExactGet", spec := "fnExactGet", apart := false }
def FnExactGetSaid : Prop := fnExactGetRow.holds Try.pinned (OpenSpec.ofChange fnExactGetSpec)

/-- ITS FALSE NEIGHBOUR: 'it returns false'. Refute it at one input. -/
def fnExactGetWrong : ChangeSpec := { name := "fnExactGet", fn := fun _ => fun
  | [d1, d2, d3] => { results := [.lit (.bool false)], args := [d1, d2, d3] }
  | _ => none }
def FnExactGetWrongFalsely : Prop := fnExactGetRow.holds Try.pinned (OpenSpec.ofChange fnExactGetWrong)

/-- 'laws.FnExactUnpin': WHATEVER THE INPUT: true; the input reads as it did. -/
def fnExactUnpinSpec : ChangeSpec := { name := "fnExactUnpin", fn := fun _ => fun
  | [d1, d2] => { results := [.lit (.bool true)], args := [d1, d2] }
  | _ => none }
def fnExactUnpinRow : OpenClaim := { program := "ytbhkinfdilngiaa", sum := "21815e4cbc56654c15f0626738cb957928615f69aa7619da45c2680b07b93a82", func := "loop.example/kilnpass/laws.FnExactUnpin", spec := "fnExactUnpin", unfollowed := true, recurses := true, apart := false }
def FnExactUnpinSaid : Prop := fnExactUnpinRow.holds Try.pinned (OpenSpec.ofChange fnExactUnpinSpec)

/-- ITS FALSE NEIGHBOUR: 'it returns false'. Refute it at one input. -/
def fnExactUnpinWrong : ChangeSpec := { name := "fnExactUnpin", fn := fun _ => fun
  | [d1, d2] => { results := [.lit (.bool false)], args := [d1, d2] }
  | _ => none }
def FnExactUnpinWrongFalsely : Prop := fnExactUnpinRow.holds Try.pinned (OpenSpec.ofChange fnExactUnpinWrong)

/-- 'laws.FnExactPin': WHATEVER THE INPUT: true; the input reads as it did. -/
def fnExactPinSpec : ChangeSpec := { name := "fnExactPin", fn := fun _ => fun
  | [d1, d2] => { results := [.lit (.bool true)], args := [d1, d2] }
  | _ => none }
def fnExactPinRow : OpenClaim := { program := "ytbhkinfdilngiaa", sum := "21815e4cbc56654c15f0626738cb957928615f69aa7619da45c2680b07b93a82", func := "loop.example/kilnpass/laws.FnExactPin", spec := "fnExactPin", unfollowed := true, recurses := true, apart := false }
def FnExactPinSaid : Prop := fnExactPinRow.holds Try.pinned (OpenSpec.ofChange fnExactPinSpec)

/-- ITS FALSE NEIGHBOUR: 'it returns false'. Refute it at one input. -/
def fnExactPinWrong : ChangeSpec := { name := "fnExactPin", fn := fun _ => fun
  | [d1, d2] => { results := [.lit (.bool false)], args := [d1, d2] }
  | _ => none }
def FnExactPinWrongFalsely : Prop := fnExactPinRow.holds Try.pinned (OpenSpec.ofChange fnExactPinWrong)

/-- 'laws.FnExactValidFetch': WHATEVER THE INPUT: true; the input reads as it did. -/
def fnExactValidFetchSpec : ChangeSpec := { name := "fnExactValidFetch", fn := fun _ => fun
  | [d] => { results := [.lit (.bool true)], args := [d] }
  | _ => none }
def fnExactValidFetchRow : OpenClaim := { program := "ytbhkinfdilngiaa", sum := "21815e4cbc56654c15f0626738cb957928615f69aa7619da45c2680b07b93a82", func := "loop.example/kilnpass/laws.FnExactValidFetch", spec := "fnExactValidFetch", unfollowed := true, recurses := true, apart := false }
def FnExactValidFetchSaid : Prop := fnExactValidFetchRow.holds Try.pinned (OpenSpec.ofChange fnExactValidFetchSpec)

/-- ITS FALSE NEIGHBOUR: 'it returns false'. Refute it at one input. -/
def fnExactValidFetchWrong : ChangeSpec := { name := "fnExactValidFetch", fn := fun _ => fun
  | [d] => { results := [.lit (.bool false)], args := [d] }
  | _ => none }
def FnExactValidFetchWrongFalsely : Prop := fnExactValidFetchRow.holds Try.pinned (OpenSpec.ofChange fnExactValidFetchWrong)

/-- 'laws.FnExactHear': WHATEVER THE INPUT: true; the input reads as it did. -/
def fnExactHearSpec : ChangeSpec := { name := "fnExactHear", fn := fun _ => fun
  | [d1, d2, d3] => { results := [.lit (.bool true)], args := [d1, d2, d3] }
  | _ => none }
def fnExactHearRow : OpenClaim := { program := "ytbhkinfdilngiaa", sum := "21815e4cbc56654c15f0626738cb957928615f69aa7619da45c2680b07b93a82", func := "loop.example/kilnpass/laws.FnExactHear", spec := "fnExactHear", inPlace := ["internal/abi.NoEscape", "internal/bytealg.MakeNoZero"], apart := false }
def FnExactHearSaid : Prop := fnExactHearRow.holds Try.pinned (OpenSpec.ofChange fnExactHearSpec)

/-- ITS FALSE NEIGHBOUR: 'it returns false'. Refute it at one input. -/
def fnExactHearWrong : ChangeSpec := { name := "fnExactHear", fn := fun _ => fun
  | [d1, d2, d3] => { results := [.lit (.bool false)], args := [d1, d2, d3] }
  | _ => none }
def FnExactHearWrongFalsely : Prop := fnExactHearRow.holds Try.pinned (OpenSpec.ofChange fnExactHearWrong)

/-- 'laws.FnExactNewFetch': WHATEVER THE INPUT: true; the input reads as it did. -/
def fnExactNewFetchSpec : ChangeSpec := { name := "fnExactNewFetch", fn := fun _ => fun
  | [d1, d2, d3] => { results := [.lit (.bool true)], args := [d1, d2, d3] }
  | _ => none }
def fnExactNewFetchRow : OpenClaim := { program := "ytbhkinfdilngiaa", sum := "21815e4cbc56654c15f0626738cb957928615f69aa7619da45c2680b07b93a82", func := "loop.example/kilnpass/laws.FnExactNewFetch", spec := "fnExactNewFetch", unfollowed := true, recurses := true, apart := false }
def FnExactNewFetchSaid : Prop := fnExactNewFetchRow.holds Try.pinned (OpenSpec.ofChange fnExactNewFetchSpec)

/-- ITS FALSE NEIGHBOUR: 'it returns false'. Refute it at one input. -/
def fnExactNewFetchWrong : ChangeSpec := { name := "fnExactNewFetch", fn := fun _ => fun
  | [d1, d2, d3] => { results := [.lit (.bool false)], args := [d1, d2, d3] }
  | _ => none }
def FnExactNewFetchWrongFalsely : Prop := fnExactNewFetchRow.holds Try.pinned (OpenSpec.ofChange fnExactNewFetchWrong)

/- THE SECOND FORM. 'bulk': how many values and letters a reading holds, each counted each time it is reached (what is shared counts as often as it is met; a slice's spare places count too). A statement '..UptoSaid' is the law's where the arguments, and the package variables that the reading takes, are together of bulk at most 1048576: NARROWER than '..Said'. Prove '..Said' where nothing that the law and all that it calls make is longer than what came in: it says more and counts as full. Else prove '..UptoSaid'. A law counts once. -/
mutual
def uptoBulk {H : Type} : DataW H → Nat
  | .lit (.string bytes) => bytes.length + 1
  | .lit _ => 1
  | .nil => 1
  | .ptr d => uptoBulk d + 1
  | .slice elems spare => uptoBulkAll elems + uptoBulkAll spare + 1
  | .agg parts => uptoBulkAll parts + 1
  | .iface _ d => uptoBulk d + 1
  | .map entries => uptoBulkEntries entries + 1
  | .held _ => 1
def uptoBulkAll {H : Type} : List (DataW H) → Nat
  | [] => 0
  | d :: r => uptoBulk d + uptoBulkAll r
def uptoBulkEntries {H : Type} : List (Lit × DataW H) → Nat
  | [] => 0
  | x :: r => uptoBulkEntry x + uptoBulkEntries r
def uptoBulkEntry {H : Type} : Lit × DataW H → Nat
  | (.string bytes, d) => bytes.length + uptoBulk d + 1
  | (_, d) => uptoBulk d + 1
 end
def uptoSmall : (H : Type) → List (DataW H) → Bool := fun _ ds => decide (uptoBulkAll ds ≤ 1048576)
def OpenSpec.upto (s : _root_.Go.ChangeSpec) : _root_.Go.OpenSpec := { _root_.Go.OpenSpec.ofChange s with cond := some uptoSmall }

/-- 'laws.FnExactDescribe', WHERE WHAT IT READS IS OF BULK AT MOST 1048576: true; the input reads as it did. -/
def fnExactDescribeUptoRow : OpenClaim := { program := "ytbhkinfdilngiaa", sum := "21815e4cbc56654c15f0626738cb957928615f69aa7619da45c2680b07b93a82", func := "loop.example/kilnpass/laws.FnExactDescribe", spec := "fnExactDescribe", apart := false, narrowed := true }
def FnExactDescribeUptoSaid : Prop := fnExactDescribeUptoRow.holds Try.pinned (OpenSpec.upto fnExactDescribeSpec)

/-- 'laws.FnExactValidStore', WHERE WHAT IT READS IS OF BULK AT MOST 1048576: true; the input reads as it did. -/
def fnExactValidStoreUptoRow : OpenClaim := { program := "ytbhkinfdilngiaa", sum := "21815e4cbc56654c15f0626738cb957928615f69aa7619da45c2680b07b93a82", func := "loop.example/kilnpass/laws.FnExactValidStore", spec := "fnExactValidStore", apart := false, narrowed := true }
def FnExactValidStoreUptoSaid : Prop := fnExactValidStoreUptoRow.holds Try.pinned (OpenSpec.upto fnExactValidStoreSpec)

/-- 'laws.FnExactTell', WHERE WHAT IT READS IS OF BULK AT MOST 1048576: true; the input reads as it did. -/
def fnExactTellUptoRow : OpenClaim := { program := "ytbhkinfdilngiaa", sum := "21815e4cbc56654c15f0626738cb957928615f69aa7619da45c2680b07b93a82", func := "loop.example/kilnpass/laws.FnExactTell", spec := "fnExactTell", inPlace := ["internal/abi.NoEscape", "internal/bytealg.MakeNoZero"], apart := false, narrowed := true }
def FnExactTellUptoSaid : Prop := fnExactTellUptoRow.holds Try.pinned (OpenSpec.upto fnExactTellSpec)

/-- 'laws.FnExactBuild', WHERE WHAT IT READS IS OF BULK AT MOST 1048576: true; the input reads as it did. -/
def fnExactBuildUptoRow : OpenClaim := { program := "ytbhkinfdilngiaa", sum := "21815e4cbc56654c15f0626738cb957928615f69aa7619da45c2680b07b93a82", func := "loop.example/kilnpass/laws.FnExactBuild", spec := "fnExactBuild", inPlace := ["internal/abi.NoEscape", "internal/bytealg.MakeNoZero"], apart := false, narrowed := true }
def FnExactBuildUptoSaid : Prop := fnExactBuildUptoRow.holds Try.pinned (OpenSpec.upto fnExactBuildSpec)

/-- 'laws.FnExactGet', WHERE WHAT IT READS IS OF BULK AT MOST 1048576: true; the input reads as it did. -/
def fnExactGetUptoRow : OpenClaim := { program := "ytbhkinfdilngiaa", sum := "21815e4cbc56654c15f0626738cb957928615f69aa7619da45c2680b07b93a82", func := "loop.example/kilnpass/laws.FnExactGet", spec := "fnExactGet", apart := false, narrowed := true }
def FnExactGetUptoSaid : Prop := fnExactGetUptoRow.holds Try.pinned (OpenSpec.upto fnExactGetSpec)

/-- 'laws.FnExactUnpin', WHERE WHAT IT READS IS OF BULK AT MOST 1048576: true; the input reads as it did. -/
def fnExactUnpinUptoRow : OpenClaim := { program := "ytbhkinfdilngiaa", sum := "21815e4cbc56654c15f0626738cb957928615f69aa7619da45c2680b07b93a82", func := "loop.example/kilnpass/laws.FnExactUnpin", spec := "fnExactUnpin", unfollowed := true, recurses := true, apart := false, narrowed := true }
def FnExactUnpinUptoSaid : Prop := fnExactUnpinUptoRow.holds Try.pinned (OpenSpec.upto fnExactUnpinSpec)

/-- 'laws.FnExactPin', WHERE WHAT IT READS IS OF BULK AT MOST 1048576: true; the input reads as it did. -/
def fnExactPinUptoRow : OpenClaim := { program := "ytbhkinfdilngiaa", sum := "21815e4cbc56654c15f0626738cb957928615f69aa7619da45c2680b07b93a82", func := "loop.example/kilnpass/laws.FnExactPin", spec := "fnExactPin", unfollowed := true, recurses := true, apart := false, narrowed := true }
def FnExactPinUptoSaid : Prop := fnExactPinUptoRow.holds Try.pinned (OpenSpec.upto fnExactPinSpec)

/-- 'laws.FnExactValidFetch', WHERE WHAT IT READS IS OF BULK AT MOST 1048576: true; the input reads as it did. -/
def fnExactValidFetchUptoRow : OpenClaim := { program := "ytbhkinfdilngiaa", sum := "21815e4cbc56654c15f0626738cb957928615f69aa7619da45c2680b07b93a82", func := "loop.example/kilnpass/laws.FnExactValidFetch", spec := "fnExactValidFetch", unfollowed := true, recurses := true, apart := false, narrowed := true }
def FnExactValidFetchUptoSaid : Prop := fnExactValidFetchUptoRow.holds Try.pinned (OpenSpec.upto fnExactValidFetchSpec)

/-- 'laws.FnExactHear', WHERE WHAT IT READS IS OF BULK AT MOST 1048576: true; the input reads as it did. -/
def fnExactHearUptoRow : OpenClaim := { program := "ytbhkinfdilngiaa", sum := "21815e4cbc56654c15f0626738cb957928615f69aa7619da45c2680b07b93a82", func := "loop.example/kilnpass/laws.FnExactHear", spec := "fnExactHear", inPlace := ["internal/abi.NoEscape", "internal/bytealg.MakeNoZero"], apart := false, narrowed := true }
def FnExactHearUptoSaid : Prop := fnExactHearUptoRow.holds Try.pinned (OpenSpec.upto fnExactHearSpec)

/-- 'laws.FnExactNewFetch', WHERE WHAT IT READS IS OF BULK AT MOST 1048576: true; the input reads as it did. -/
def fnExactNewFetchUptoRow : OpenClaim := { program := "ytbhkinfdilngiaa", sum := "21815e4cbc56654c15f0626738cb957928615f69aa7619da45c2680b07b93a82", func := "loop.example/kilnpass/laws.FnExactNewFetch", spec := "fnExactNewFetch", unfollowed := true, recurses := true, apart := false, narrowed := true }
def FnExactNewFetchUptoSaid : Prop := fnExactNewFetchUptoRow.holds Try.pinned (OpenSpec.upto fnExactNewFetchSpec)

end Rows
end Go.Proofs.Ytbhkinfdilngiaa

-- Walks of printed functions (by wip/gen.py of this session, with the kit's program).
import Derived.Test.YtbhkinfdilngiaaProg
import Derived.Below
import Derived.Deep.Draws
import Derived.Deep.AppendLies
import Derived.Maps.AppendAt
import Derived.OwnWalk
import Derived.Laws.BytesArg
import Derived.Laws.MakeOwn
import Derived.Laws.OwnMore
import Derived.Deep.OwnRows
import Derived.Tactics
import Derived.Lib.ConvBytes
import Derived.Laws.Slices
import Derived.WalkKit
import Derived.KernelRfl
import Derived.RowKit3
import Derived.Deep.LoopGhost
import Derived.Deep.QuietTactic
import Derived.BigQuiet
import Derived.WideLaws
import Derived.Deep.DeepCutAuto
import Derived.Deep.CutBlock
import Derived.Deep.RegionHeld3
import Derived.Laws.Rows
import Derived.Lib.AppendStr
import Derived.ArgAppend
import Derived.Laws.IdiomCopy
import Derived.OrdersHeld
import Derived.Laws.BitsLemmas
import Derived.RowKit
import Derived.Test.YtbhkinfdilngiaaWWords
import Derived.Test.YtbhkinfdilngiaaWLast
import Derived.Test.YtbhkinfdilngiaaWTab
import Derived.Test.YtbhkinfdilngiaaWFour
import Derived.Test.YtbhkinfdilngiaaWQPut
import Derived.Test.YtbhkinfdilngiaaWApart
import Derived.Test.YtbhkinfdilngiaaWArr
import Derived.Test.YtbhkinfdilngiaaWZeros
import Derived.Test.YtbhkinfdilngiaaWFoot
import Derived.Test.YtbhkinfdilngiaaWKept
import Derived.Test.YtbhkinfdilngiaaWShare
import Derived.Test.YtbhkinfdilngiaaWN
import Derived.Test.YtbhkinfdilngiaaWFootNe
import Derived.Test.YtbhkinfdilngiaaWAt
import Derived.Test.YtbhkinfdilngiaaWEqStruct
import Derived.Test.YtbhkinfdilngiaaWRepsOne
import Derived.Test.YtbhkinfdilngiaaWInv
import Derived.Test.YtbhkinfdilngiaaWInvWords
import Derived.Test.YtbhkinfdilngiaaWGuard
import Derived.Test.YtbhkinfdilngiaaWNEv
import Derived.Test.YtbhkinfdilngiaaWMore
namespace Go.Proofs.Ytbhkinfdilngiaa.PFnExactDescribe
open Go.RowKit Go.Proofs.YtbhkinfdilngiaaW.PrintWords Go.Proofs.YtbhkinfdilngiaaW.PrintLast Go.Proofs.YtbhkinfdilngiaaW.PrintMore
attribute [local go_sem] max2_int min2_int max_two min_two max_three min_three max_four min_four   -- for this text's walks alone
set_option linter.unusedVariables false
set_option linter.unusedSimpArgs false



def errW : Option Int → Value
  | none => .nilIface
  | some c => .iface 0 (.int .i64 c)
theorem errW_none : errW none = .nilIface := rfl
theorem errW_some (c : Int) : errW (some c) = .iface 0 (.int .i64 c) := rfl

theorem info5 : (Try.prog.info? 5).map (fun i => (i.zero, i.size, i.bytes)) = some (some (.int .u8 0), 1, 1) := by kernel_rfl
theorem info9 : (Try.prog.info? 9).map (fun i => (i.zero, i.size, i.bytes)) = some (some (.string ⟨#[]⟩), 1, 16) := by kernel_rfl
-- the values' own types

end Go.Proofs.Ytbhkinfdilngiaa.PFnExactDescribe

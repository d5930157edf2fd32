-- Walks of printed functions (by wip/gen.py of this session, with the kit's program).
import Derived.Test.YtbmldafgipimbaaProg
import Derived.Below
import Derived.Deep.Draws
import Derived.Deep.AppendLies
import Derived.Maps.AppendAt
import Derived.OwnWalk
import Derived.Laws.BytesArg
import Derived.Laws.MakeOwn
import Derived.Laws.OwnMore
import Derived.Deep.OwnRows
import Derived.Tactics
import Derived.Lib.ConvBytes
import Derived.Laws.Slices
import Derived.WalkKit
import Derived.KernelRfl
import Derived.RowKit3
import Derived.Deep.LoopGhost
import Derived.Deep.QuietTactic
import Derived.BigQuiet
import Derived.WideLaws
import Derived.Deep.DeepCutAuto
import Derived.Deep.CutBlock
import Derived.Deep.RegionHeld3
import Derived.Laws.Rows
import Derived.Lib.AppendStr
import Derived.ArgAppend
import Derived.Laws.IdiomCopy
import Derived.OrdersHeld
import Derived.Laws.BitsLemmas
import Derived.RowKit
import Derived.Test.YtbmldafgipimbaaL
import Derived.Test.YtbmldafgipimbaaS
import Derived.Test.YtbmldafgipimbaaWWords
import Derived.Test.YtbmldafgipimbaaWLast
import Derived.Test.YtbmldafgipimbaaWTab
import Derived.Test.YtbmldafgipimbaaWFour
import Derived.Test.YtbmldafgipimbaaWQPut
import Derived.Test.YtbmldafgipimbaaWApart
import Derived.Test.YtbmldafgipimbaaWArr
import Derived.Test.YtbmldafgipimbaaWZeros
import Derived.Test.YtbmldafgipimbaaWFoot
import Derived.Test.YtbmldafgipimbaaWKept
import Derived.Test.YtbmldafgipimbaaWShare
import Derived.Test.YtbmldafgipimbaaWN
import Derived.Test.YtbmldafgipimbaaWFootNe
import Derived.Test.YtbmldafgipimbaaWAt
import Derived.Test.YtbmldafgipimbaaWEqStruct
import Derived.Test.YtbmldafgipimbaaWRepsOne
import Derived.Test.YtbmldafgipimbaaWInv
import Derived.Test.YtbmldafgipimbaaWInvWords
import Derived.Test.YtbmldafgipimbaaWGuard
import Derived.Test.YtbmldafgipimbaaWNEv
import Derived.Test.YtbmldafgipimbaaWMore
namespace Go.Proofs.Ytbmldafgipimbaa.PFnExactShared
open Go.RowKit Go.Proofs.YtbmldafgipimbaaW.PrintWords Go.Proofs.YtbmldafgipimbaaW.PrintLast Go.Proofs.YtbmldafgipimbaaW.PrintMore
attribute [local go_sem] max2_int min2_int max_two min_two max_three min_three max_four min_four   -- for this text's walks alone
attribute [local go_sem] Go.Proofs.Ytbmldafgipimbaa.L.str_geq
set_option linter.unusedVariables false
set_option linter.unusedSimpArgs false



def errW : Option Int → Value
  | none => .nilIface
  | some c => .iface 0 (.int .i64 c)
theorem errW_none : errW none = .nilIface := rfl
theorem errW_some (c : Int) : errW (some c) = .iface 0 (.int .i64 c) := rfl

theorem info9 : (Try.prog.info? 9).map (fun i => (i.zero, i.size, i.bytes)) = some (some (.string ⟨#[]⟩), 1, 16) := by kernel_rfl
-- the values' own types

end Go.Proofs.Ytbmldafgipimbaa.PFnExactShared

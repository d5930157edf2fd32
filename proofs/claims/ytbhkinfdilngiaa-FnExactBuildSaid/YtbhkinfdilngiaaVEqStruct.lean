/- Of the words that the kit's print lays for this seat (module YtbhkinfdilngiaaWEqStruct): what this claim's texts reach, cut out by wip/prune.py. No condition. -/
import Derived.Test.YtbhkinfdilngiaaVWords
import Derived.Laws.StructEq
namespace Go.Proofs.YtbhkinfdilngiaaW.PrintWords
open Go.RowKit
end Go.Proofs.YtbhkinfdilngiaaW.PrintWords

/- Of the words that the kit's print lays for this seat (module YtbhkinfdilngiaaWInvWords): what this claim's texts reach, cut out by wip/prune.py. No condition. -/
import Derived.Test.YtbhkinfdilngiaaVInv
import Derived.Test.YtbhkinfdilngiaaVFootNe
namespace Go.Proofs.YtbhkinfdilngiaaW.PrintWords
open Go.RowKit
end Go.Proofs.YtbhkinfdilngiaaW.PrintWords
namespace Go.Proofs.YtbhkinfdilngiaaW.PrintLast
end Go.Proofs.YtbhkinfdilngiaaW.PrintLast

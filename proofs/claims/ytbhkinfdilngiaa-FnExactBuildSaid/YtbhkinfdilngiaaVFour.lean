/- Of the words that the kit's print lays for this seat (module YtbhkinfdilngiaaWFour): what this claim's texts reach, cut out by wip/prune.py. No condition. -/
import Derived.Test.YtbhkinfdilngiaaVTab
namespace Go.Proofs.YtbhkinfdilngiaaW.PrintLast
end Go.Proofs.YtbhkinfdilngiaaW.PrintLast

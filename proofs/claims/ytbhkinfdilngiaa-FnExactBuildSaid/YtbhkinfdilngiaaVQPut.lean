/- Of the words that the kit's print lays for this seat (module YtbhkinfdilngiaaWQPut): what this claim's texts reach, cut out by wip/prune.py. No condition. -/
import Derived.Test.YtbhkinfdilngiaaVWords
import Derived.Test.YtbhkinfdilngiaaVLast
namespace Go.Proofs.YtbhkinfdilngiaaW.PrintWords
open Go.RowKit
namespace Kd
end Kd
end Go.Proofs.YtbhkinfdilngiaaW.PrintWords

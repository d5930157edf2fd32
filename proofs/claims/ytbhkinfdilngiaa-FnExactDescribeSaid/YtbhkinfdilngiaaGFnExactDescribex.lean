-- Walks of printed functions (by wip/gen.py of this session, with the kit's program).
import Derived.Test.YtbhkinfdilngiaaGFnExactDescribex0
import Derived.Test.YtbhkinfdilngiaaGFnExactDescribex1
import Derived.Test.YtbhkinfdilngiaaGFnExactDescribex2
import Derived.Test.YtbhkinfdilngiaaGFnExactDescribex3
import Derived.Test.YtbhkinfdilngiaaGFnExactDescribex4
namespace Go.Proofs.Ytbhkinfdilngiaa.PFnExactDescribe
open Go.RowKit Go.Proofs.YtbhkinfdilngiaaW.PrintWords Go.Proofs.YtbhkinfdilngiaaW.PrintLast Go.Proofs.YtbhkinfdilngiaaW.PrintMore
attribute [local go_sem] max2_int min2_int max_two min_two max_three min_three max_four min_four   -- for this text's walks alone
set_option linter.unusedVariables false
set_option linter.unusedSimpArgs false

end Go.Proofs.Ytbhkinfdilngiaa.PFnExactDescribe

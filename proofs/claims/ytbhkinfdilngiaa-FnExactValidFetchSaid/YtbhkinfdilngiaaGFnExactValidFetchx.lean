-- Walks of printed functions (by wip/gen.py of this session, with the kit's program).
import Derived.Test.YtbhkinfdilngiaaGFnExactValidFetchx0
import Derived.Test.YtbhkinfdilngiaaGFnExactValidFetchx1
import Derived.Test.YtbhkinfdilngiaaGFnExactValidFetchx2
import Derived.Test.YtbhkinfdilngiaaGFnExactValidFetchx3
import Derived.Test.YtbhkinfdilngiaaGFnExactValidFetchx4
import Derived.Test.YtbhkinfdilngiaaGFnExactValidFetchx5
import Derived.Test.YtbhkinfdilngiaaGFnExactValidFetchx6
import Derived.Test.YtbhkinfdilngiaaGFnExactValidFetchx7
import Derived.Test.YtbhkinfdilngiaaGFnExactValidFetchx8
import Derived.Test.YtbhkinfdilngiaaGFnExactValidFetchx9
import Derived.Test.YtbhkinfdilngiaaGFnExactValidFetchx10
import Derived.Test.YtbhkinfdilngiaaGFnExactValidFetchx11
import Derived.Test.YtbhkinfdilngiaaGFnExactValidFetchx12
namespace Go.Proofs.Ytbhkinfdilngiaa.PFnExactValidFetch
open Go.RowKit Go.Proofs.YtbhkinfdilngiaaW.PrintWords Go.Proofs.YtbhkinfdilngiaaW.PrintLast Go.Proofs.YtbhkinfdilngiaaW.PrintMore
attribute [local go_sem] max2_int min2_int max_two min_two max_three min_three max_four min_four   -- for this text's walks alone
attribute [local go_sem] Go.Proofs.Ytbhkinfdilngiaa.L.str_geq
set_option linter.unusedVariables false
set_option linter.unusedSimpArgs false

end Go.Proofs.Ytbhkinfdilngiaa.PFnExactValidFetch

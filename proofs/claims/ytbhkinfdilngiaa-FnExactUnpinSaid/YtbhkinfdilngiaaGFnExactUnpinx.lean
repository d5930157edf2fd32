-- Walks of printed functions (by wip/gen.py of this session, with the kit's program).
import Derived.Test.YtbhkinfdilngiaaGFnExactUnpinx0
import Derived.Test.YtbhkinfdilngiaaGFnExactUnpinx1
import Derived.Test.YtbhkinfdilngiaaGFnExactUnpinx2
import Derived.Test.YtbhkinfdilngiaaGFnExactUnpinx3
import Derived.Test.YtbhkinfdilngiaaGFnExactUnpinx4
import Derived.Test.YtbhkinfdilngiaaGFnExactUnpinx5
import Derived.Test.YtbhkinfdilngiaaGFnExactUnpinx6
import Derived.Test.YtbhkinfdilngiaaGFnExactUnpinx7
import Derived.Test.YtbhkinfdilngiaaGFnExactUnpinx8
import Derived.Test.YtbhkinfdilngiaaGFnExactUnpinx9
import Derived.Test.YtbhkinfdilngiaaGFnExactUnpinx10
import Derived.Test.YtbhkinfdilngiaaGFnExactUnpinx11
import Derived.Test.YtbhkinfdilngiaaGFnExactUnpinx12
namespace Go.Proofs.Ytbhkinfdilngiaa.PFnExactUnpin
open Go.RowKit Go.Proofs.YtbhkinfdilngiaaW.PrintWords Go.Proofs.YtbhkinfdilngiaaW.PrintLast Go.Proofs.YtbhkinfdilngiaaW.PrintMore
attribute [local go_sem] max2_int min2_int max_two min_two max_three min_three max_four min_four   -- for this text's walks alone
attribute [local go_sem] Go.Proofs.Ytbhkinfdilngiaa.L.str_geq
set_option linter.unusedVariables false
set_option linter.unusedSimpArgs false

end Go.Proofs.Ytbhkinfdilngiaa.PFnExactUnpin

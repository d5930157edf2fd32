-- Walks of printed functions (by wip/gen.py of this session, with the kit's program).
import Derived.Test.YtbhkinfdilngiaaGFnExactGetx0
import Derived.Test.YtbhkinfdilngiaaGFnExactGetx1
import Derived.Test.YtbhkinfdilngiaaGFnExactGetx2
import Derived.Test.YtbhkinfdilngiaaGFnExactGetx3
import Derived.Test.YtbhkinfdilngiaaGFnExactGetx4
import Derived.Test.YtbhkinfdilngiaaGFnExactGetx5
import Derived.Test.YtbhkinfdilngiaaGFnExactGetx6
import Derived.Test.YtbhkinfdilngiaaGFnExactGetx7
import Derived.Test.YtbhkinfdilngiaaGFnExactGetx8
import Derived.Test.YtbhkinfdilngiaaGFnExactGetx9
import Derived.Test.YtbhkinfdilngiaaGFnExactGetx10
import Derived.Test.YtbhkinfdilngiaaGFnExactGetx11
namespace Go.Proofs.Ytbhkinfdilngiaa.PFnExactGet
open Go.RowKit Go.Proofs.YtbhkinfdilngiaaW.PrintWords Go.Proofs.YtbhkinfdilngiaaW.PrintLast Go.Proofs.YtbhkinfdilngiaaW.PrintMore
attribute [local go_sem] max2_int min2_int max_two min_two max_three min_three max_four min_four   -- for this text's walks alone
attribute [local go_sem] Go.Proofs.Ytbhkinfdilngiaa.L.str_geq
set_option linter.unusedVariables false
set_option linter.unusedSimpArgs false

end Go.Proofs.Ytbhkinfdilngiaa.PFnExactGet

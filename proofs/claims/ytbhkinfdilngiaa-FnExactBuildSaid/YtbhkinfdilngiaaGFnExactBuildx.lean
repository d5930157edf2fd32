-- Walks of printed functions (by wip/gen.py of this session, with the kit's program).
import Derived.Test.YtbhkinfdilngiaaGFnExactBuildx0
import Derived.Test.YtbhkinfdilngiaaGFnExactBuildx1
import Derived.Test.YtbhkinfdilngiaaGFnExactBuildx2
import Derived.Test.YtbhkinfdilngiaaGFnExactBuildx3
import Derived.Test.YtbhkinfdilngiaaGFnExactBuildx4
import Derived.Test.YtbhkinfdilngiaaGFnExactBuildx5
import Derived.Test.YtbhkinfdilngiaaGFnExactBuildx6
import Derived.Test.YtbhkinfdilngiaaGFnExactBuildx7
import Derived.Test.YtbhkinfdilngiaaGFnExactBuildx8
import Derived.Test.YtbhkinfdilngiaaGFnExactBuildx9
namespace Go.Proofs.Ytbhkinfdilngiaa.PFnExactBuild
open Go.RowKit Go.Proofs.YtbhkinfdilngiaaW.PrintWords Go.Proofs.YtbhkinfdilngiaaW.PrintLast Go.Proofs.YtbhkinfdilngiaaW.PrintMore
attribute [local go_sem] max2_int min2_int max_two min_two max_three min_three max_four min_four   -- for this text's walks alone
attribute [local go_sem] Go.Proofs.Ytbhkinfdilngiaa.L.str_geq
set_option linter.unusedVariables false
set_option linter.unusedSimpArgs false

end Go.Proofs.Ytbhkinfdilngiaa.PFnExactBuild

-- Walks of printed functions (by wip/gen.py of this session, with the kit's program).
import Derived.Test.YtbmldafgipimbaaGFnExactClashx0
import Derived.Test.YtbmldafgipimbaaGFnExactClashx1
import Derived.Test.YtbmldafgipimbaaGFnExactClashx2
import Derived.Test.YtbmldafgipimbaaGFnExactClashx3
namespace Go.Proofs.Ytbmldafgipimbaa.PFnExactClash
open Go.RowKit Go.Proofs.YtbmldafgipimbaaW.PrintWords Go.Proofs.YtbmldafgipimbaaW.PrintLast Go.Proofs.YtbmldafgipimbaaW.PrintMore
attribute [local go_sem] max2_int min2_int max_two min_two max_three min_three max_four min_four   -- for this text's walks alone
attribute [local go_sem] Go.Proofs.Ytbmldafgipimbaa.L.str_geq
set_option linter.unusedVariables false
set_option linter.unusedSimpArgs false

end Go.Proofs.Ytbmldafgipimbaa.PFnExactClash

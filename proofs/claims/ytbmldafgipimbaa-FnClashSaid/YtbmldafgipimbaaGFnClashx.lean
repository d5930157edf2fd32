-- Walks of printed functions (by wip/gen.py of this session, with the kit's program).
import Derived.Test.YtbmldafgipimbaaGFnClashx0
import Derived.Test.YtbmldafgipimbaaGFnClashx1
import Derived.Test.YtbmldafgipimbaaGFnClashx2
import Derived.Test.YtbmldafgipimbaaGFnClashx3
import Derived.Test.YtbmldafgipimbaaGFnClashx4
import Derived.Test.YtbmldafgipimbaaGFnClashx5
namespace Go.Proofs.Ytbmldafgipimbaa.PFnClash
open Go.RowKit Go.Proofs.YtbmldafgipimbaaW.PrintWords Go.Proofs.YtbmldafgipimbaaW.PrintLast Go.Proofs.YtbmldafgipimbaaW.PrintMore
attribute [local go_sem] max2_int min2_int max_two min_two max_three min_three max_four min_four   -- for this text's walks alone
attribute [local go_sem] Go.Proofs.Ytbmldafgipimbaa.L.str_geq
set_option linter.unusedVariables false
set_option linter.unusedSimpArgs false

end Go.Proofs.Ytbmldafgipimbaa.PFnClash

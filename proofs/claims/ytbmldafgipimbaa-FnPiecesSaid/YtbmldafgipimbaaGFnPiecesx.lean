-- Walks of printed functions (by wip/gen.py of this session, with the kit's program).
import Derived.Test.YtbmldafgipimbaaGFnPiecesx0
import Derived.Test.YtbmldafgipimbaaGFnPiecesx1
import Derived.Test.YtbmldafgipimbaaGFnPiecesx2
import Derived.Test.YtbmldafgipimbaaGFnPiecesx3
import Derived.Test.YtbmldafgipimbaaGFnPiecesx4
import Derived.Test.YtbmldafgipimbaaGFnPiecesx5
namespace Go.Proofs.Ytbmldafgipimbaa.PFnPieces
open Go.RowKit Go.Proofs.YtbmldafgipimbaaW.PrintWords Go.Proofs.YtbmldafgipimbaaW.PrintLast Go.Proofs.YtbmldafgipimbaaW.PrintMore
attribute [local go_sem] max2_int min2_int max_two min_two max_three min_three max_four min_four   -- for this text's walks alone
set_option linter.unusedVariables false
set_option linter.unusedSimpArgs false

end Go.Proofs.Ytbmldafgipimbaa.PFnPieces

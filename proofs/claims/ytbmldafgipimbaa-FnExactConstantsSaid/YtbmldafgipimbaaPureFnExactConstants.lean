/- The law FnExactConstants answers true: every exported constant is the document's; no condition. -/
import Derived.Test.YtbmldafgipimbaaPFnExactConstantsx
import Derived.Test.YtbmldafgipimbaaM
namespace Go.Proofs.Ytbmldafgipimbaa.Pure
open Go.RowKit Go.Proofs.Ytbmldafgipimbaa.PFnExactConstants Go.Proofs.Ytbmldafgipimbaa.M Go.Proofs.YtbmldafgipimbaaW.PrintWords Go.Proofs.YtbmldafgipimbaaW.PrintLast Go.Proofs.YtbmldafgipimbaaW.PrintMore
set_option linter.unusedVariables false
set_option linter.unusedSimpArgs false

theorem FnExactConstants : laws_FnExactConstants.Pure := rfl

end Go.Proofs.Ytbmldafgipimbaa.Pure

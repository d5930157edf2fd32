-- Walks of printed functions (by wip/gen.py of this session, with the kit's program).
import Derived.Test.YtbmldafgipimbaaGFnPiecesx0
import Derived.Test.YtbmldafgipimbaaGFnPiecesx4
namespace Go.Proofs.Ytbmldafgipimbaa.PFnPieces
open Go.RowKit Go.Proofs.YtbmldafgipimbaaW.PrintWords Go.Proofs.YtbmldafgipimbaaW.PrintLast Go.Proofs.YtbmldafgipimbaaW.PrintMore
attribute [local go_sem] max2_int min2_int max_two min_two max_three min_three max_four min_four   -- for this text's walks alone
set_option linter.unusedVariables false
set_option linter.unusedSimpArgs false

/-- The pure statement of the law. -/
def laws_FnPieces.Law : Prop := ∀ (l0 : List Int), (l0.length ≤ maxLen ∧ ∀ x ∈ l0, (Lit.int .u8 x).wf = true) → ∃ k, laws_FnPieces.f k l0 = some true

end Go.Proofs.Ytbmldafgipimbaa.PFnPieces

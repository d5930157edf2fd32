-- Walks of printed functions (by wip/gen.py of this session, with the kit's program).
import Derived.Test.YtbhkinfdilngiaaGFnExactGetx0
import Derived.Test.YtbhkinfdilngiaaGFnExactGetx10
namespace Go.Proofs.Ytbhkinfdilngiaa.PFnExactGet
open Go.RowKit Go.Proofs.YtbhkinfdilngiaaW.PrintWords Go.Proofs.YtbhkinfdilngiaaW.PrintLast Go.Proofs.YtbhkinfdilngiaaW.PrintMore
attribute [local go_sem] max2_int min2_int max_two min_two max_three min_three max_four min_four   -- for this text's walks alone
attribute [local go_sem] Go.Proofs.Ytbhkinfdilngiaa.L.str_geq
set_option linter.unusedVariables false
set_option linter.unusedSimpArgs false

/-- What an argument of this type is known to hold. -/
def Good123 (x : S123) : Prop := (x.f0.size ≤ maxLen) ∧ ((Lit.int .i64 x.f1).wf = true)
/-- The pure statement of the law. -/
def laws_FnExactGet.Law : Prop := ∀ (a0_0 : Int) (a0_1 : Int) (l0_2 : List (S123)) (l0_3 : List ByteArray) (a1 : ByteArray) (a2 : Int), ((Lit.int .i64 a0_0).wf = true) → ((Lit.int .i64 a0_1).wf = true) → (l0_2.length ≤ maxLen ∧ ∀ x ∈ l0_2, Good123 x) → (l0_3.length ≤ maxLen ∧ ∀ x ∈ l0_3, x.size ≤ maxLen) → (a1.size ≤ maxLen) → ((Lit.int .i64 a2).wf = true) → ∃ k, laws_FnExactGet.f k a0_0 a0_1 l0_2 l0_3 a1 a2 = some true

end Go.Proofs.Ytbhkinfdilngiaa.PFnExactGet

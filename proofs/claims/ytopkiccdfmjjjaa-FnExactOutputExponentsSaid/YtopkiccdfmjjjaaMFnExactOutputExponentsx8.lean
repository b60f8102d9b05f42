-- Written by wip/mine.py (a program of this repo) for this claim.
import Derived.Test.YtopkiccdfmjjjaaMFnExactOutputExponentsx7
namespace Go.Proofs.Ytopkiccdfmjjjaa.MFnExactOutputExponents
open Go.RowKit Go.Proofs.YtopkiccdfmjjjaaW.PrintWords Go.Proofs.YtopkiccdfmjjjaaW.PrintLast Go.Proofs.YtopkiccdfmjjjaaW.PrintMore Go.Proofs.YtopkiccdfmjjjaaV
/-- What is left to show: the law's function answers true. -/
def laws_FnExactOutputExponents.Pure : Prop := ∀ (a0_0 : Int) (l0_1 : List S92) (l0_2 : List Int), (Lit.int .i64 a0_0).wf = true → (∀ s ∈ l0_1, (Lit.int .i64 s.f0).wf = true ∧ (Lit.int .i64 s.f1).wf = true) → l0_1.length ≤ maxLen → (∀ x ∈ l0_2, (Lit.int .i64 x).wf = true) → l0_2.length ≤ maxLen → ∃ k, laws_FnExactOutputExponents.f k a0_0 l0_1 l0_2 = some true
end Go.Proofs.Ytopkiccdfmjjjaa.MFnExactOutputExponents

-- Written by wip/mine.py (a program of this repo) for this claim.
import Derived.Test.YtdcdaoancmpbeaaMFnExactChainOfPlanx9
namespace Go.Proofs.Ytdcdaoancmpbeaa.MFnExactChainOfPlan
open Go.RowKit Go.Proofs.YtdcdaoancmpbeaaW.PrintWords Go.Proofs.YtdcdaoancmpbeaaW.PrintLast Go.Proofs.YtdcdaoancmpbeaaW.PrintMore Go.Proofs.YtdcdaoancmpbeaaV
/-- What is left to show: the law's function answers true. -/
def laws_FnExactChainOfPlan.Pure : Prop := ∀ (a0_0 : Int) (l0_1 : List S93) (l0_2 : List Int), (Lit.int .i64 a0_0).wf = true → (∀ s ∈ l0_1, (Lit.int .i64 s.f0).wf = true ∧ (Lit.int .i64 s.f1).wf = true) → l0_1.length ≤ maxLen → (∀ x ∈ l0_2, (Lit.int .i64 x).wf = true) → l0_2.length ≤ maxLen → ∃ k, laws_FnExactChainOfPlan.f k a0_0 l0_1 l0_2 = some true
end Go.Proofs.Ytdcdaoancmpbeaa.MFnExactChainOfPlan

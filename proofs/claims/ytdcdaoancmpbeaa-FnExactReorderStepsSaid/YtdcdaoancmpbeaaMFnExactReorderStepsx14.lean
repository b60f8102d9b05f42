import Derived.Test.YtdcdaoancmpbeaaMFnExactReorderStepsx13
namespace Go.Proofs.Ytdcdaoancmpbeaa.MFnExactReorderSteps
open Go.RowKit Go.Proofs.YtdcdaoancmpbeaaW.PrintWords Go.Proofs.YtdcdaoancmpbeaaW.PrintLast Go.Proofs.YtdcdaoancmpbeaaW.PrintMore Go.Proofs.YtdcdaoancmpbeaaV Go.Proofs.YtdcdaoancmpbeaaZ
/-- What is left to show: the law's function answers true. -/
def laws_FnExactReorderSteps.Pure : Prop:=∀ (a0_0 : Int) (l0_1 : List S93) (l0_2 : List Int) (l1 : List Int),(Lit.int .i64 a0_0).wf = true → (∀ s ∈ l0_1,(Lit.int .i64 s.f0).wf = true ∧ (Lit.int .i64 s.f1).wf = true) → l0_1.length ≤ maxLen → (∀ x ∈ l0_2,(Lit.int .i64 x).wf = true) → l0_2.length ≤ maxLen → (∀ x ∈ l1,(Lit.int .i64 x).wf = true) → l1.length ≤ maxLen → ∃ k,laws_FnExactReorderSteps.f k a0_0 l0_1 l0_2 l1 = some true
end Go.Proofs.Ytdcdaoancmpbeaa.MFnExactReorderSteps
--sq

import Derived.Test.YtdcdaoancmpbeaaMFnExactJoinPlansx12
namespace Go.Proofs.Ytdcdaoancmpbeaa.MFnExactJoinPlans
open Go.RowKit Go.Proofs.YtdcdaoancmpbeaaW.PrintWords Go.Proofs.YtdcdaoancmpbeaaW.PrintLast Go.Proofs.YtdcdaoancmpbeaaW.PrintMore Go.Proofs.YtdcdaoancmpbeaaV Go.Proofs.YtdcdaoancmpbeaaZ
/-- What is left to show: the law's function answers true. -/
def laws_FnExactJoinPlans.Pure : Prop:=∀ (a0_0 : Int) (l0_1 : List S93) (l0_2 : List Int) (a1_0 : Int) (l1_1 : List S93) (l1_2 : List Int),(Lit.int .i64 a0_0).wf = true → (∀ s ∈ l0_1,(Lit.int .i64 s.f0).wf = true ∧ (Lit.int .i64 s.f1).wf = true) → l0_1.length ≤ maxLen → (∀ x ∈ l0_2,(Lit.int .i64 x).wf = true) → l0_2.length ≤ maxLen → (Lit.int .i64 a1_0).wf = true → (∀ s ∈ l1_1,(Lit.int .i64 s.f0).wf = true ∧ (Lit.int .i64 s.f1).wf = true) → l1_1.length ≤ maxLen → (∀ x ∈ l1_2,(Lit.int .i64 x).wf = true) → l1_2.length ≤ maxLen → ∃ k,laws_FnExactJoinPlans.f k a0_0 l0_1 l0_2 a1_0 l1_1 l1_2 = some true
end Go.Proofs.Ytdcdaoancmpbeaa.MFnExactJoinPlans
--sq

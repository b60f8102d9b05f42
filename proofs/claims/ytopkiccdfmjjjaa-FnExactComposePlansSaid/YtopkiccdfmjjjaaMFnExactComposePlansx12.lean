import Derived.Test.YtopkiccdfmjjjaaMFnExactComposePlansx11
namespace Go.Proofs.Ytopkiccdfmjjjaa.MFnExactComposePlans
open Go.RowKit Go.Proofs.YtopkiccdfmjjjaaW.PrintWords Go.Proofs.YtopkiccdfmjjjaaW.PrintLast Go.Proofs.YtopkiccdfmjjjaaW.PrintMore Go.Proofs.YtopkiccdfmjjjaaV Go.Proofs.YtopkiccdfmjjjaaZ
/-- What is left to show: the law's function answers true. -/
def laws_FnExactComposePlans.Pure : Prop:=∀ (a0_0 : Int) (l0_1 : List S92) (l0_2 : List Int) (a1_0 : Int) (l1_1 : List S92) (l1_2 : List Int),(Lit.int .i64 a0_0).wf = true → (∀ s ∈ l0_1,(Lit.int .i64 s.f0).wf = true ∧ (Lit.int .i64 s.f1).wf = true) → l0_1.length ≤ maxLen → (∀ x ∈ l0_2,(Lit.int .i64 x).wf = true) → l0_2.length ≤ maxLen → (Lit.int .i64 a1_0).wf = true → (∀ s ∈ l1_1,(Lit.int .i64 s.f0).wf = true ∧ (Lit.int .i64 s.f1).wf = true) → l1_1.length ≤ maxLen → (∀ x ∈ l1_2,(Lit.int .i64 x).wf = true) → l1_2.length ≤ maxLen → ∃ k,laws_FnExactComposePlans.f k a0_0 l0_1 l0_2 a1_0 l1_1 l1_2 = some true
end Go.Proofs.Ytopkiccdfmjjjaa.MFnExactComposePlans
--sq

/-
  No cell of these rows narrows 'for every input' (looked for: loops, veiled, ifaces, maps, wideKeys, modest, calm, conditions, laid).
  DERIVED. THE GIVEN ROWS OF THIS SEAT. 12 by the template 'for every input the law returns true; each argument reads behind the call as it read before'; 0 by the template 'total and deterministic' (their statements: YtopkiccdfmjjjaaTotals.lean).
  GIVEN WITH THE SEED: the statements are not yours to turn. If you find one false, say at which input.
  Laid BY PROGRAM, IN A SANDBOX (cutbox-rows.mjs): the forced cells as the released guide's own fill.sh prints them over the translation 8ed769f7af9a5395… (all of the seat's roots in one cut). By AI agents, Wed Nov 11 2026. No macro, syntax, notation, axiom, sorry.
-/
import Derived.Test.YtopkiccdfmjjjaaChecked
import GoSem.Claim
import GoSem.ClaimJoined
import GoSem.ClaimMapViews
import Derived.JoinedTies
import Derived.KernelRfl
namespace Go.Proofs.Ytopkiccdfmjjjaa
/- THE CELL 'sum', in the pinned program and in every row, IS THE sha256 OF THE DUMP (.gsa) THAT YtopkiccdfmjjjaaProg.lean LOADS. Nothing in Lean hashes anything: it is a label: what it is worth is what the hold of that sum in a sandbox is worth. -/
noncomputable def Try.pinned : Pinned := { name := "ytopkiccdfmjjjaa", sum := "8ed769f7af9a539502001da464aefaa9628bdabd9f04bf849b2505a09611aba0", checked := Try.checked }
namespace Rows
def none {H : Type} : Left H := { results := [], args := [] }

/-- 'laws.FnExactIsPlan': WHATEVER THE INPUT: true; the input reads as it did. -/
def fnExactIsPlanSpec : ChangeSpec := { name := "fnExactIsPlan", fn := fun _ => fun
  | [d] => { results := [.lit (.bool true)], args := [d] }
  | _ => none }
def fnExactIsPlanRow : OpenClaim := { program := "ytopkiccdfmjjjaa", sum := "8ed769f7af9a539502001da464aefaa9628bdabd9f04bf849b2505a09611aba0", func := "loop.example/g01098/laws.FnExactIsPlan", spec := "fnExactIsPlan", unfollowed := true, recurses := true, apart := false }
def FnExactIsPlanSaid : Prop := fnExactIsPlanRow.holds Try.pinned (OpenSpec.ofChange fnExactIsPlanSpec)

/-- ITS FALSE NEIGHBOUR: 'it returns false'. Refute it at one input. -/
def fnExactIsPlanWrong : ChangeSpec := { name := "fnExactIsPlan", fn := fun _ => fun
  | [d] => { results := [.lit (.bool false)], args := [d] }
  | _ => none }
def FnExactIsPlanWrongFalsely : Prop := fnExactIsPlanRow.holds Try.pinned (OpenSpec.ofChange fnExactIsPlanWrong)

/-- 'laws.FnExactCountsOf': WHATEVER THE INPUT: true; the input reads as it did. -/
def fnExactCountsOfSpec : ChangeSpec := { name := "fnExactCountsOf", fn := fun _ => fun
  | [d] => { results := [.lit (.bool true)], args := [d] }
  | _ => none }
def fnExactCountsOfRow : OpenClaim := { program := "ytopkiccdfmjjjaa", sum := "8ed769f7af9a539502001da464aefaa9628bdabd9f04bf849b2505a09611aba0", func := "loop.example/g01098/laws.FnExactCountsOf", spec := "fnExactCountsOf", unfollowed := true, recurses := true, apart := false }
def FnExactCountsOfSaid : Prop := fnExactCountsOfRow.holds Try.pinned (OpenSpec.ofChange fnExactCountsOfSpec)

/-- ITS FALSE NEIGHBOUR: 'it returns false'. Refute it at one input. -/
def fnExactCountsOfWrong : ChangeSpec := { name := "fnExactCountsOf", fn := fun _ => fun
  | [d] => { results := [.lit (.bool false)], args := [d] }
  | _ => none }
def FnExactCountsOfWrongFalsely : Prop := fnExactCountsOfRow.holds Try.pinned (OpenSpec.ofChange fnExactCountsOfWrong)

/-- 'laws.FnExactDepthOf': WHATEVER THE INPUT: true; the input reads as it did. -/
def fnExactDepthOfSpec : ChangeSpec := { name := "fnExactDepthOf", fn := fun _ => fun
  | [d] => { results := [.lit (.bool true)], args := [d] }
  | _ => none }
def fnExactDepthOfRow : OpenClaim := { program := "ytopkiccdfmjjjaa", sum := "8ed769f7af9a539502001da464aefaa9628bdabd9f04bf849b2505a09611aba0", func := "loop.example/g01098/laws.FnExactDepthOf", spec := "fnExactDepthOf", unfollowed := true, recurses := true, apart := false }
def FnExactDepthOfSaid : Prop := fnExactDepthOfRow.holds Try.pinned (OpenSpec.ofChange fnExactDepthOfSpec)

/-- ITS FALSE NEIGHBOUR: 'it returns false'. Refute it at one input. -/
def fnExactDepthOfWrong : ChangeSpec := { name := "fnExactDepthOf", fn := fun _ => fun
  | [d] => { results := [.lit (.bool false)], args := [d] }
  | _ => none }
def FnExactDepthOfWrongFalsely : Prop := fnExactDepthOfRow.holds Try.pinned (OpenSpec.ofChange fnExactDepthOfWrong)

/-- 'laws.FnExactValueExponents': WHATEVER THE INPUT: true; the input reads as it did. -/
def fnExactValueExponentsSpec : ChangeSpec := { name := "fnExactValueExponents", fn := fun _ => fun
  | [d1, d2] => { results := [.lit (.bool true)], args := [d1, d2] }
  | _ => none }
def fnExactValueExponentsRow : OpenClaim := { program := "ytopkiccdfmjjjaa", sum := "8ed769f7af9a539502001da464aefaa9628bdabd9f04bf849b2505a09611aba0", func := "loop.example/g01098/laws.FnExactValueExponents", spec := "fnExactValueExponents", unfollowed := true, recurses := true, apart := false }
def FnExactValueExponentsSaid : Prop := fnExactValueExponentsRow.holds Try.pinned (OpenSpec.ofChange fnExactValueExponentsSpec)

/-- ITS FALSE NEIGHBOUR: 'it returns false'. Refute it at one input. -/
def fnExactValueExponentsWrong : ChangeSpec := { name := "fnExactValueExponents", fn := fun _ => fun
  | [d1, d2] => { results := [.lit (.bool false)], args := [d1, d2] }
  | _ => none }
def FnExactValueExponentsWrongFalsely : Prop := fnExactValueExponentsRow.holds Try.pinned (OpenSpec.ofChange fnExactValueExponentsWrong)

/-- 'laws.FnExactChainPlan': WHATEVER THE INPUT: true; the input reads as it did. -/
def fnExactChainPlanSpec : ChangeSpec := { name := "fnExactChainPlan", fn := fun _ => fun
  | [d] => { results := [.lit (.bool true)], args := [d] }
  | _ => none }
def fnExactChainPlanRow : OpenClaim := { program := "ytopkiccdfmjjjaa", sum := "8ed769f7af9a539502001da464aefaa9628bdabd9f04bf849b2505a09611aba0", func := "loop.example/g01098/laws.FnExactChainPlan", spec := "fnExactChainPlan", unfollowed := true, recurses := true, apart := false }
def FnExactChainPlanSaid : Prop := fnExactChainPlanRow.holds Try.pinned (OpenSpec.ofChange fnExactChainPlanSpec)

/-- ITS FALSE NEIGHBOUR: 'it returns false'. Refute it at one input. -/
def fnExactChainPlanWrong : ChangeSpec := { name := "fnExactChainPlan", fn := fun _ => fun
  | [d] => { results := [.lit (.bool false)], args := [d] }
  | _ => none }
def FnExactChainPlanWrongFalsely : Prop := fnExactChainPlanRow.holds Try.pinned (OpenSpec.ofChange fnExactChainPlanWrong)

/-- 'laws.FnExactIsTrim': WHATEVER THE INPUT: true; the input reads as it did. -/
def fnExactIsTrimSpec : ChangeSpec := { name := "fnExactIsTrim", fn := fun _ => fun
  | [d] => { results := [.lit (.bool true)], args := [d] }
  | _ => none }
def fnExactIsTrimRow : OpenClaim := { program := "ytopkiccdfmjjjaa", sum := "8ed769f7af9a539502001da464aefaa9628bdabd9f04bf849b2505a09611aba0", func := "loop.example/g01098/laws.FnExactIsTrim", spec := "fnExactIsTrim", unfollowed := true, recurses := true, apart := false }
def FnExactIsTrimSaid : Prop := fnExactIsTrimRow.holds Try.pinned (OpenSpec.ofChange fnExactIsTrimSpec)

/-- ITS FALSE NEIGHBOUR: 'it returns false'. Refute it at one input. -/
def fnExactIsTrimWrong : ChangeSpec := { name := "fnExactIsTrim", fn := fun _ => fun
  | [d] => { results := [.lit (.bool false)], args := [d] }
  | _ => none }
def FnExactIsTrimWrongFalsely : Prop := fnExactIsTrimRow.holds Try.pinned (OpenSpec.ofChange fnExactIsTrimWrong)

/-- 'laws.FnExactFirstExponents': WHATEVER THE INPUT: true; the input reads as it did. -/
def fnExactFirstExponentsSpec : ChangeSpec := { name := "fnExactFirstExponents", fn := fun _ => fun
  | [d] => { results := [.lit (.bool true)], args := [d] }
  | _ => none }
def fnExactFirstExponentsRow : OpenClaim := { program := "ytopkiccdfmjjjaa", sum := "8ed769f7af9a539502001da464aefaa9628bdabd9f04bf849b2505a09611aba0", func := "loop.example/g01098/laws.FnExactFirstExponents", spec := "fnExactFirstExponents", unfollowed := true, recurses := true, apart := false }
def FnExactFirstExponentsSaid : Prop := fnExactFirstExponentsRow.holds Try.pinned (OpenSpec.ofChange fnExactFirstExponentsSpec)

/-- ITS FALSE NEIGHBOUR: 'it returns false'. Refute it at one input. -/
def fnExactFirstExponentsWrong : ChangeSpec := { name := "fnExactFirstExponents", fn := fun _ => fun
  | [d] => { results := [.lit (.bool false)], args := [d] }
  | _ => none }
def FnExactFirstExponentsWrongFalsely : Prop := fnExactFirstExponentsRow.holds Try.pinned (OpenSpec.ofChange fnExactFirstExponentsWrong)

/-- 'laws.FnExactSamePowers': WHATEVER THE INPUT: true; the input reads as it did. -/
def fnExactSamePowersSpec : ChangeSpec := { name := "fnExactSamePowers", fn := fun _ => fun
  | [d1, d2] => { results := [.lit (.bool true)], args := [d1, d2] }
  | _ => none }
def fnExactSamePowersRow : OpenClaim := { program := "ytopkiccdfmjjjaa", sum := "8ed769f7af9a539502001da464aefaa9628bdabd9f04bf849b2505a09611aba0", func := "loop.example/g01098/laws.FnExactSamePowers", spec := "fnExactSamePowers", unfollowed := true, recurses := true, apart := false }
def FnExactSamePowersSaid : Prop := fnExactSamePowersRow.holds Try.pinned (OpenSpec.ofChange fnExactSamePowersSpec)

/-- ITS FALSE NEIGHBOUR: 'it returns false'. Refute it at one input. -/
def fnExactSamePowersWrong : ChangeSpec := { name := "fnExactSamePowers", fn := fun _ => fun
  | [d1, d2] => { results := [.lit (.bool false)], args := [d1, d2] }
  | _ => none }
def FnExactSamePowersWrongFalsely : Prop := fnExactSamePowersRow.holds Try.pinned (OpenSpec.ofChange fnExactSamePowersWrong)

/-- 'laws.FnExactOutputExponents': WHATEVER THE INPUT: true; the input reads as it did. -/
def fnExactOutputExponentsSpec : ChangeSpec := { name := "fnExactOutputExponents", fn := fun _ => fun
  | [d] => { results := [.lit (.bool true)], args := [d] }
  | _ => none }
def fnExactOutputExponentsRow : OpenClaim := { program := "ytopkiccdfmjjjaa", sum := "8ed769f7af9a539502001da464aefaa9628bdabd9f04bf849b2505a09611aba0", func := "loop.example/g01098/laws.FnExactOutputExponents", spec := "fnExactOutputExponents", unfollowed := true, recurses := true, apart := false }
def FnExactOutputExponentsSaid : Prop := fnExactOutputExponentsRow.holds Try.pinned (OpenSpec.ofChange fnExactOutputExponentsSpec)

/-- ITS FALSE NEIGHBOUR: 'it returns false'. Refute it at one input. -/
def fnExactOutputExponentsWrong : ChangeSpec := { name := "fnExactOutputExponents", fn := fun _ => fun
  | [d] => { results := [.lit (.bool false)], args := [d] }
  | _ => none }
def FnExactOutputExponentsWrongFalsely : Prop := fnExactOutputExponentsRow.holds Try.pinned (OpenSpec.ofChange fnExactOutputExponentsWrong)

/-- 'laws.FnExactUsedSteps': WHATEVER THE INPUT: true; the input reads as it did. -/
def fnExactUsedStepsSpec : ChangeSpec := { name := "fnExactUsedSteps", fn := fun _ => fun
  | [d] => { results := [.lit (.bool true)], args := [d] }
  | _ => none }
def fnExactUsedStepsRow : OpenClaim := { program := "ytopkiccdfmjjjaa", sum := "8ed769f7af9a539502001da464aefaa9628bdabd9f04bf849b2505a09611aba0", func := "loop.example/g01098/laws.FnExactUsedSteps", spec := "fnExactUsedSteps", unfollowed := true, recurses := true, apart := false }
def FnExactUsedStepsSaid : Prop := fnExactUsedStepsRow.holds Try.pinned (OpenSpec.ofChange fnExactUsedStepsSpec)

/-- ITS FALSE NEIGHBOUR: 'it returns false'. Refute it at one input. -/
def fnExactUsedStepsWrong : ChangeSpec := { name := "fnExactUsedSteps", fn := fun _ => fun
  | [d] => { results := [.lit (.bool false)], args := [d] }
  | _ => none }
def FnExactUsedStepsWrongFalsely : Prop := fnExactUsedStepsRow.holds Try.pinned (OpenSpec.ofChange fnExactUsedStepsWrong)

/-- 'laws.FnExactPickOutputs': WHATEVER THE INPUT: true; the input reads as it did. -/
def fnExactPickOutputsSpec : ChangeSpec := { name := "fnExactPickOutputs", fn := fun _ => fun
  | [d1, d2] => { results := [.lit (.bool true)], args := [d1, d2] }
  | _ => none }
def fnExactPickOutputsRow : OpenClaim := { program := "ytopkiccdfmjjjaa", sum := "8ed769f7af9a539502001da464aefaa9628bdabd9f04bf849b2505a09611aba0", func := "loop.example/g01098/laws.FnExactPickOutputs", spec := "fnExactPickOutputs", unfollowed := true, recurses := true, apart := false }
def FnExactPickOutputsSaid : Prop := fnExactPickOutputsRow.holds Try.pinned (OpenSpec.ofChange fnExactPickOutputsSpec)

/-- ITS FALSE NEIGHBOUR: 'it returns false'. Refute it at one input. -/
def fnExactPickOutputsWrong : ChangeSpec := { name := "fnExactPickOutputs", fn := fun _ => fun
  | [d1, d2] => { results := [.lit (.bool false)], args := [d1, d2] }
  | _ => none }
def FnExactPickOutputsWrongFalsely : Prop := fnExactPickOutputsRow.holds Try.pinned (OpenSpec.ofChange fnExactPickOutputsWrong)

/-- 'laws.FnExactComposePlans': WHATEVER THE INPUT: true; the input reads as it did. -/
def fnExactComposePlansSpec : ChangeSpec := { name := "fnExactComposePlans", fn := fun _ => fun
  | [d1, d2] => { results := [.lit (.bool true)], args := [d1, d2] }
  | _ => none }
def fnExactComposePlansRow : OpenClaim := { program := "ytopkiccdfmjjjaa", sum := "8ed769f7af9a539502001da464aefaa9628bdabd9f04bf849b2505a09611aba0", func := "loop.example/g01098/laws.FnExactComposePlans", spec := "fnExactComposePlans", unfollowed := true, recurses := true, apart := false }
def FnExactComposePlansSaid : Prop := fnExactComposePlansRow.holds Try.pinned (OpenSpec.ofChange fnExactComposePlansSpec)

/-- ITS FALSE NEIGHBOUR: 'it returns false'. Refute it at one input. -/
def fnExactComposePlansWrong : ChangeSpec := { name := "fnExactComposePlans", fn := fun _ => fun
  | [d1, d2] => { results := [.lit (.bool false)], args := [d1, d2] }
  | _ => none }
def FnExactComposePlansWrongFalsely : Prop := fnExactComposePlansRow.holds Try.pinned (OpenSpec.ofChange fnExactComposePlansWrong)

/- THE SECOND FORM. 'bulk': how many values and letters a reading holds, each counted each time it is reached (what is shared counts as often as it is met; a slice's spare places count too). A statement '..UptoSaid' is the law's where the arguments, and the package variables that the reading takes, are together of bulk at most 1048576: NARROWER than '..Said'. Prove '..Said' where nothing that the law and all that it calls make is longer than what came in: it says more and counts as full. Else prove '..UptoSaid'. A law counts once. -/
mutual
def uptoBulk {H : Type} : DataW H → Nat
  | .lit (.string bytes) => bytes.length + 1
  | .lit _ => 1
  | .nil => 1
  | .ptr d => uptoBulk d + 1
  | .slice elems spare => uptoBulkAll elems + uptoBulkAll spare + 1
  | .agg parts => uptoBulkAll parts + 1
  | .iface _ d => uptoBulk d + 1
  | .map entries => uptoBulkEntries entries + 1
  | .held _ => 1
def uptoBulkAll {H : Type} : List (DataW H) → Nat
  | [] => 0
  | d :: r => uptoBulk d + uptoBulkAll r
def uptoBulkEntries {H : Type} : List (Lit × DataW H) → Nat
  | [] => 0
  | x :: r => uptoBulkEntry x + uptoBulkEntries r
def uptoBulkEntry {H : Type} : Lit × DataW H → Nat
  | (.string bytes, d) => bytes.length + uptoBulk d + 1
  | (_, d) => uptoBulk d + 1
 end
def uptoSmall : (H : Type) → List (DataW H) → Bool := fun _ ds => decide (uptoBulkAll ds ≤ 1048576)
def OpenSpec.upto (s : _root_.Go.ChangeSpec) : _root_.Go.OpenSpec := { _root_.Go.OpenSpec.ofChange s with cond := some uptoSmall }

/-- 'laws.FnExactIsPlan', WHERE WHAT IT READS IS OF BULK AT MOST 1048576: true; the input reads as it did. -/
def fnExactIsPlanUptoRow : OpenClaim := { program := "ytopkiccdfmjjjaa", sum := "8ed769f7af9a539502001da464aefaa9628bdabd9f04bf849b2505a09611aba0", func := "loop.example/g01098/laws.FnExactIsPlan", spec := "fnExactIsPlan", unfollowed := true, recurses := true, apart := false, narrowed := true }
def FnExactIsPlanUptoSaid : Prop := fnExactIsPlanUptoRow.holds Try.pinned (OpenSpec.upto fnExactIsPlanSpec)

/-- 'laws.FnExactCountsOf', WHERE WHAT IT READS IS OF BULK AT MOST 1048576: true; the input reads as it did. -/
def fnExactCountsOfUptoRow : OpenClaim := { program := "ytopkiccdfmjjjaa", sum := "8ed769f7af9a539502001da464aefaa9628bdabd9f04bf849b2505a09611aba0", func := "loop.example/g01098/laws.FnExactCountsOf", spec := "fnExactCountsOf", unfollowed := true, recurses := true, apart := false, narrowed := true }
def FnExactCountsOfUptoSaid : Prop := fnExactCountsOfUptoRow.holds Try.pinned (OpenSpec.upto fnExactCountsOfSpec)

/-- 'laws.FnExactDepthOf', WHERE WHAT IT READS IS OF BULK AT MOST 1048576: true; the input reads as it did. -/
def fnExactDepthOfUptoRow : OpenClaim := { program := "ytopkiccdfmjjjaa", sum := "8ed769f7af9a539502001da464aefaa9628bdabd9f04bf849b2505a09611aba0", func := "loop.example/g01098/laws.FnExactDepthOf", spec := "fnExactDepthOf", unfollowed := true, recurses := true, apart := false, narrowed := true }
def FnExactDepthOfUptoSaid : Prop := fnExactDepthOfUptoRow.holds Try.pinned (OpenSpec.upto fnExactDepthOfSpec)

/-- 'laws.FnExactValueExponents', WHERE WHAT IT READS IS OF BULK AT MOST 1048576: true; the input reads as it did. -/
def fnExactValueExponentsUptoRow : OpenClaim := { program := "ytopkiccdfmjjjaa", sum := "8ed769f7af9a539502001da464aefaa9628bdabd9f04bf849b2505a09611aba0", func := "loop.example/g01098/laws.FnExactValueExponents", spec := "fnExactValueExponents", unfollowed := true, recurses := true, apart := false, narrowed := true }
def FnExactValueExponentsUptoSaid : Prop := fnExactValueExponentsUptoRow.holds Try.pinned (OpenSpec.upto fnExactValueExponentsSpec)

/-- 'laws.FnExactChainPlan', WHERE WHAT IT READS IS OF BULK AT MOST 1048576: true; the input reads as it did. -/
def fnExactChainPlanUptoRow : OpenClaim := { program := "ytopkiccdfmjjjaa", sum := "8ed769f7af9a539502001da464aefaa9628bdabd9f04bf849b2505a09611aba0", func := "loop.example/g01098/laws.FnExactChainPlan", spec := "fnExactChainPlan", unfollowed := true, recurses := true, apart := false, narrowed := true }
def FnExactChainPlanUptoSaid : Prop := fnExactChainPlanUptoRow.holds Try.pinned (OpenSpec.upto fnExactChainPlanSpec)

/-- 'laws.FnExactIsTrim', WHERE WHAT IT READS IS OF BULK AT MOST 1048576: true; the input reads as it did. -/
def fnExactIsTrimUptoRow : OpenClaim := { program := "ytopkiccdfmjjjaa", sum := "8ed769f7af9a539502001da464aefaa9628bdabd9f04bf849b2505a09611aba0", func := "loop.example/g01098/laws.FnExactIsTrim", spec := "fnExactIsTrim", unfollowed := true, recurses := true, apart := false, narrowed := true }
def FnExactIsTrimUptoSaid : Prop := fnExactIsTrimUptoRow.holds Try.pinned (OpenSpec.upto fnExactIsTrimSpec)

/-- 'laws.FnExactFirstExponents', WHERE WHAT IT READS IS OF BULK AT MOST 1048576: true; the input reads as it did. -/
def fnExactFirstExponentsUptoRow : OpenClaim := { program := "ytopkiccdfmjjjaa", sum := "8ed769f7af9a539502001da464aefaa9628bdabd9f04bf849b2505a09611aba0", func := "loop.example/g01098/laws.FnExactFirstExponents", spec := "fnExactFirstExponents", unfollowed := true, recurses := true, apart := false, narrowed := true }
def FnExactFirstExponentsUptoSaid : Prop := fnExactFirstExponentsUptoRow.holds Try.pinned (OpenSpec.upto fnExactFirstExponentsSpec)

/-- 'laws.FnExactSamePowers', WHERE WHAT IT READS IS OF BULK AT MOST 1048576: true; the input reads as it did. -/
def fnExactSamePowersUptoRow : OpenClaim := { program := "ytopkiccdfmjjjaa", sum := "8ed769f7af9a539502001da464aefaa9628bdabd9f04bf849b2505a09611aba0", func := "loop.example/g01098/laws.FnExactSamePowers", spec := "fnExactSamePowers", unfollowed := true, recurses := true, apart := false, narrowed := true }
def FnExactSamePowersUptoSaid : Prop := fnExactSamePowersUptoRow.holds Try.pinned (OpenSpec.upto fnExactSamePowersSpec)

/-- 'laws.FnExactOutputExponents', WHERE WHAT IT READS IS OF BULK AT MOST 1048576: true; the input reads as it did. -/
def fnExactOutputExponentsUptoRow : OpenClaim := { program := "ytopkiccdfmjjjaa", sum := "8ed769f7af9a539502001da464aefaa9628bdabd9f04bf849b2505a09611aba0", func := "loop.example/g01098/laws.FnExactOutputExponents", spec := "fnExactOutputExponents", unfollowed := true, recurses := true, apart := false, narrowed := true }
def FnExactOutputExponentsUptoSaid : Prop := fnExactOutputExponentsUptoRow.holds Try.pinned (OpenSpec.upto fnExactOutputExponentsSpec)

/-- 'laws.FnExactUsedSteps', WHERE WHAT IT READS IS OF BULK AT MOST 1048576: true; the input reads as it did. -/
def fnExactUsedStepsUptoRow : OpenClaim := { program := "ytopkiccdfmjjjaa", sum := "8ed769f7af9a539502001da464aefaa9628bdabd9f04bf849b2505a09611aba0", func := "loop.example/g01098/laws.FnExactUsedSteps", spec := "fnExactUsedSteps", unfollowed := true, recurses := true, apart := false, narrowed := true }
def FnExactUsedStepsUptoSaid : Prop := fnExactUsedStepsUptoRow.holds Try.pinned (OpenSpec.upto fnExactUsedStepsSpec)

/-- 'laws.FnExactPickOutputs', WHERE WHAT IT READS IS OF BULK AT MOST 1048576: true; the input reads as it did. -/
def fnExactPickOutputsUptoRow : OpenClaim := { program := "ytopkiccdfmjjjaa", sum := "8ed769f7af9a539502001da464aefaa9628bdabd9f04bf849b2505a09611aba0", func := "loop.example/g01098/laws.FnExactPickOutputs", spec := "fnExactPickOutputs", unfollowed := true, recurses := true, apart := false, narrowed := true }
def FnExactPickOutputsUptoSaid : Prop := fnExactPickOutputsUptoRow.holds Try.pinned (OpenSpec.upto fnExactPickOutputsSpec)

/-- 'laws.FnExactComposePlans', WHERE WHAT IT READS IS OF BULK AT MOST 1048576: true; the input reads as it did. -/
def fnExactComposePlansUptoRow : OpenClaim := { program := "ytopkiccdfmjjjaa", sum := "8ed769f7af9a539502001da464aefaa9628bdabd9f04bf849b2505a09611aba0", func := "loop.example/g01098/laws.FnExactComposePlans", spec := "fnExactComposePlans", unfollowed := true, recurses := true, apart := false, narrowed := true }
def FnExactComposePlansUptoSaid : Prop := fnExactComposePlansUptoRow.holds Try.pinned (OpenSpec.upto fnExactComposePlansSpec)

end Rows
end Go.Proofs.Ytopkiccdfmjjjaa

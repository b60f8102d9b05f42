/-
  No cell of these rows narrows 'for every input' (looked for: loops, veiled, ifaces, maps, wideKeys, modest, calm, conditions, laid).
  DERIVED. THE GIVEN ROWS OF THIS SEAT. 7 by the template 'for every input the law returns true; each argument reads behind the call as it read before'; 0 by the template 'total and deterministic' (their statements: YtdcdaoancmpbeaaTotals.lean).
  GIVEN WITH THE SEED: the statements are not yours to turn. If you find one false, say at which input.
  Laid BY PROGRAM, IN A SANDBOX (cutbox-rows.mjs): the forced cells as the released guide's own fill.sh prints them over the translation 35c9631c0862f7c4… (all of the seat's roots in one cut). By AI agents, Wed Nov 11 2026. No macro, syntax, notation, axiom, sorry.
-/
import Derived.Test.YtdcdaoancmpbeaaChecked
import GoSem.Claim
import GoSem.ClaimJoined
import GoSem.ClaimMapViews
import Derived.JoinedTies
import Derived.KernelRfl
namespace Go.Proofs.Ytdcdaoancmpbeaa
/- THE CELL 'sum', in the pinned program and in every row, IS THE sha256 OF THE DUMP (.gsa) THAT YtdcdaoancmpbeaaProg.lean LOADS. Nothing in Lean hashes anything: it is a label: what it is worth is what the hold of that sum in a sandbox is worth. -/
noncomputable def Try.pinned : Pinned := { name := "ytdcdaoancmpbeaa", sum := "35c9631c0862f7c4a0fe0cae043c8a87c78cf2482f77315d07ebabc3d809937c", checked := Try.checked }
namespace Rows
def none {H : Type} : Left H := { results := [], args := [] }

/-- 'laws.FnExactJoinPlans': WHATEVER THE INPUT: true; the input reads as it did. -/
def fnExactJoinPlansSpec : ChangeSpec := { name := "fnExactJoinPlans", fn := fun _ => fun
  | [d1, d2] => { results := [.lit (.bool true)], args := [d1, d2] }
  | _ => none }
def fnExactJoinPlansRow : OpenClaim := { program := "ytdcdaoancmpbeaa", sum := "35c9631c0862f7c4a0fe0cae043c8a87c78cf2482f77315d07ebabc3d809937c", func := "loop.example/g01098/laws.FnExactJoinPlans", spec := "fnExactJoinPlans", unfollowed := true, recurses := true, apart := false }
def FnExactJoinPlansSaid : Prop := fnExactJoinPlansRow.holds Try.pinned (OpenSpec.ofChange fnExactJoinPlansSpec)

/-- ITS FALSE NEIGHBOUR: 'it returns false'. Refute it at one input. -/
def fnExactJoinPlansWrong : ChangeSpec := { name := "fnExactJoinPlans", fn := fun _ => fun
  | [d1, d2] => { results := [.lit (.bool false)], args := [d1, d2] }
  | _ => none }
def FnExactJoinPlansWrongFalsely : Prop := fnExactJoinPlansRow.holds Try.pinned (OpenSpec.ofChange fnExactJoinPlansWrong)

/-- 'laws.FnExactSequencePlan': WHATEVER THE INPUT: true; the input reads as it did. -/
def fnExactSequencePlanSpec : ChangeSpec := { name := "fnExactSequencePlan", fn := fun _ => fun
  | [d1, d2] => { results := [.lit (.bool true)], args := [d1, d2] }
  | _ => none }
def fnExactSequencePlanRow : OpenClaim := { program := "ytdcdaoancmpbeaa", sum := "35c9631c0862f7c4a0fe0cae043c8a87c78cf2482f77315d07ebabc3d809937c", func := "loop.example/g01098/laws.FnExactSequencePlan", spec := "fnExactSequencePlan", unfollowed := true, recurses := true, apart := false }
def FnExactSequencePlanSaid : Prop := fnExactSequencePlanRow.holds Try.pinned (OpenSpec.ofChange fnExactSequencePlanSpec)

/-- ITS FALSE NEIGHBOUR: 'it returns false'. Refute it at one input. -/
def fnExactSequencePlanWrong : ChangeSpec := { name := "fnExactSequencePlan", fn := fun _ => fun
  | [d1, d2] => { results := [.lit (.bool false)], args := [d1, d2] }
  | _ => none }
def FnExactSequencePlanWrongFalsely : Prop := fnExactSequencePlanRow.holds Try.pinned (OpenSpec.ofChange fnExactSequencePlanWrong)

/-- 'laws.FnExactTrimPlan': WHATEVER THE INPUT: true; the input reads as it did. -/
def fnExactTrimPlanSpec : ChangeSpec := { name := "fnExactTrimPlan", fn := fun _ => fun
  | [d] => { results := [.lit (.bool true)], args := [d] }
  | _ => none }
def fnExactTrimPlanRow : OpenClaim := { program := "ytdcdaoancmpbeaa", sum := "35c9631c0862f7c4a0fe0cae043c8a87c78cf2482f77315d07ebabc3d809937c", func := "loop.example/g01098/laws.FnExactTrimPlan", spec := "fnExactTrimPlan", unfollowed := true, recurses := true, apart := false }
def FnExactTrimPlanSaid : Prop := fnExactTrimPlanRow.holds Try.pinned (OpenSpec.ofChange fnExactTrimPlanSpec)

/-- ITS FALSE NEIGHBOUR: 'it returns false'. Refute it at one input. -/
def fnExactTrimPlanWrong : ChangeSpec := { name := "fnExactTrimPlan", fn := fun _ => fun
  | [d] => { results := [.lit (.bool false)], args := [d] }
  | _ => none }
def FnExactTrimPlanWrongFalsely : Prop := fnExactTrimPlanRow.holds Try.pinned (OpenSpec.ofChange fnExactTrimPlanWrong)

/-- 'laws.FnExactSharePlan': WHATEVER THE INPUT: true; the input reads as it did. -/
def fnExactSharePlanSpec : ChangeSpec := { name := "fnExactSharePlan", fn := fun _ => fun
  | [d] => { results := [.lit (.bool true)], args := [d] }
  | _ => none }
def fnExactSharePlanRow : OpenClaim := { program := "ytdcdaoancmpbeaa", sum := "35c9631c0862f7c4a0fe0cae043c8a87c78cf2482f77315d07ebabc3d809937c", func := "loop.example/g01098/laws.FnExactSharePlan", spec := "fnExactSharePlan", unfollowed := true, recurses := true, apart := false }
def FnExactSharePlanSaid : Prop := fnExactSharePlanRow.holds Try.pinned (OpenSpec.ofChange fnExactSharePlanSpec)

/-- ITS FALSE NEIGHBOUR: 'it returns false'. Refute it at one input. -/
def fnExactSharePlanWrong : ChangeSpec := { name := "fnExactSharePlan", fn := fun _ => fun
  | [d] => { results := [.lit (.bool false)], args := [d] }
  | _ => none }
def FnExactSharePlanWrongFalsely : Prop := fnExactSharePlanRow.holds Try.pinned (OpenSpec.ofChange fnExactSharePlanWrong)

/-- 'laws.FnExactReorderSteps': WHATEVER THE INPUT: true; the input reads as it did. -/
def fnExactReorderStepsSpec : ChangeSpec := { name := "fnExactReorderSteps", fn := fun _ => fun
  | [d1, d2] => { results := [.lit (.bool true)], args := [d1, d2] }
  | _ => none }
def fnExactReorderStepsRow : OpenClaim := { program := "ytdcdaoancmpbeaa", sum := "35c9631c0862f7c4a0fe0cae043c8a87c78cf2482f77315d07ebabc3d809937c", func := "loop.example/g01098/laws.FnExactReorderSteps", spec := "fnExactReorderSteps", unfollowed := true, recurses := true, apart := false }
def FnExactReorderStepsSaid : Prop := fnExactReorderStepsRow.holds Try.pinned (OpenSpec.ofChange fnExactReorderStepsSpec)

/-- ITS FALSE NEIGHBOUR: 'it returns false'. Refute it at one input. -/
def fnExactReorderStepsWrong : ChangeSpec := { name := "fnExactReorderSteps", fn := fun _ => fun
  | [d1, d2] => { results := [.lit (.bool false)], args := [d1, d2] }
  | _ => none }
def FnExactReorderStepsWrongFalsely : Prop := fnExactReorderStepsRow.holds Try.pinned (OpenSpec.ofChange fnExactReorderStepsWrong)

/-- 'laws.FnExactChainOfPlan': WHATEVER THE INPUT: true; the input reads as it did. -/
def fnExactChainOfPlanSpec : ChangeSpec := { name := "fnExactChainOfPlan", fn := fun _ => fun
  | [d] => { results := [.lit (.bool true)], args := [d] }
  | _ => none }
def fnExactChainOfPlanRow : OpenClaim := { program := "ytdcdaoancmpbeaa", sum := "35c9631c0862f7c4a0fe0cae043c8a87c78cf2482f77315d07ebabc3d809937c", func := "loop.example/g01098/laws.FnExactChainOfPlan", spec := "fnExactChainOfPlan", unfollowed := true, recurses := true, apart := false }
def FnExactChainOfPlanSaid : Prop := fnExactChainOfPlanRow.holds Try.pinned (OpenSpec.ofChange fnExactChainOfPlanSpec)

/-- ITS FALSE NEIGHBOUR: 'it returns false'. Refute it at one input. -/
def fnExactChainOfPlanWrong : ChangeSpec := { name := "fnExactChainOfPlan", fn := fun _ => fun
  | [d] => { results := [.lit (.bool false)], args := [d] }
  | _ => none }
def FnExactChainOfPlanWrongFalsely : Prop := fnExactChainOfPlanRow.holds Try.pinned (OpenSpec.ofChange fnExactChainOfPlanWrong)

/-- 'laws.FnSequences': WHATEVER THE INPUT: true; the input reads as it did. -/
def fnSequencesSpec : ChangeSpec := { name := "fnSequences", fn := fun _ => fun
  | [d1, d2] => { results := [.lit (.bool true)], args := [d1, d2] }
  | _ => none }
def fnSequencesRow : OpenClaim := { program := "ytdcdaoancmpbeaa", sum := "35c9631c0862f7c4a0fe0cae043c8a87c78cf2482f77315d07ebabc3d809937c", func := "loop.example/g01098/laws.FnSequences", spec := "fnSequences", unfollowed := true, recurses := true, apart := false }
def FnSequencesSaid : Prop := fnSequencesRow.holds Try.pinned (OpenSpec.ofChange fnSequencesSpec)

/-- ITS FALSE NEIGHBOUR: 'it returns false'. Refute it at one input. -/
def fnSequencesWrong : ChangeSpec := { name := "fnSequences", fn := fun _ => fun
  | [d1, d2] => { results := [.lit (.bool false)], args := [d1, d2] }
  | _ => none }
def FnSequencesWrongFalsely : Prop := fnSequencesRow.holds Try.pinned (OpenSpec.ofChange fnSequencesWrong)

/- THE SECOND FORM. 'bulk': how many values and letters a reading holds, each counted each time it is reached (what is shared counts as often as it is met; a slice's spare places count too). A statement '..UptoSaid' is the law's where the arguments, and the package variables that the reading takes, are together of bulk at most 1048576: NARROWER than '..Said'. Prove '..Said' where nothing that the law and all that it calls make is longer than what came in: it says more and counts as full. Else prove '..UptoSaid'. A law counts once. -/
mutual
def uptoBulk {H : Type} : DataW H → Nat
  | .lit (.string bytes) => bytes.length + 1
  | .lit _ => 1
  | .nil => 1
  | .ptr d => uptoBulk d + 1
  | .slice elems spare => uptoBulkAll elems + uptoBulkAll spare + 1
  | .agg parts => uptoBulkAll parts + 1
  | .iface _ d => uptoBulk d + 1
  | .map entries => uptoBulkEntries entries + 1
  | .held _ => 1
def uptoBulkAll {H : Type} : List (DataW H) → Nat
  | [] => 0
  | d :: r => uptoBulk d + uptoBulkAll r
def uptoBulkEntries {H : Type} : List (Lit × DataW H) → Nat
  | [] => 0
  | x :: r => uptoBulkEntry x + uptoBulkEntries r
def uptoBulkEntry {H : Type} : Lit × DataW H → Nat
  | (.string bytes, d) => bytes.length + uptoBulk d + 1
  | (_, d) => uptoBulk d + 1
 end
def uptoSmall : (H : Type) → List (DataW H) → Bool := fun _ ds => decide (uptoBulkAll ds ≤ 1048576)
def OpenSpec.upto (s : _root_.Go.ChangeSpec) : _root_.Go.OpenSpec := { _root_.Go.OpenSpec.ofChange s with cond := some uptoSmall }

/-- 'laws.FnExactJoinPlans', WHERE WHAT IT READS IS OF BULK AT MOST 1048576: true; the input reads as it did. -/
def fnExactJoinPlansUptoRow : OpenClaim := { program := "ytdcdaoancmpbeaa", sum := "35c9631c0862f7c4a0fe0cae043c8a87c78cf2482f77315d07ebabc3d809937c", func := "loop.example/g01098/laws.FnExactJoinPlans", spec := "fnExactJoinPlans", unfollowed := true, recurses := true, apart := false, narrowed := true }
def FnExactJoinPlansUptoSaid : Prop := fnExactJoinPlansUptoRow.holds Try.pinned (OpenSpec.upto fnExactJoinPlansSpec)

/-- 'laws.FnExactSequencePlan', WHERE WHAT IT READS IS OF BULK AT MOST 1048576: true; the input reads as it did. -/
def fnExactSequencePlanUptoRow : OpenClaim := { program := "ytdcdaoancmpbeaa", sum := "35c9631c0862f7c4a0fe0cae043c8a87c78cf2482f77315d07ebabc3d809937c", func := "loop.example/g01098/laws.FnExactSequencePlan", spec := "fnExactSequencePlan", unfollowed := true, recurses := true, apart := false, narrowed := true }
def FnExactSequencePlanUptoSaid : Prop := fnExactSequencePlanUptoRow.holds Try.pinned (OpenSpec.upto fnExactSequencePlanSpec)

/-- 'laws.FnExactTrimPlan', WHERE WHAT IT READS IS OF BULK AT MOST 1048576: true; the input reads as it did. -/
def fnExactTrimPlanUptoRow : OpenClaim := { program := "ytdcdaoancmpbeaa", sum := "35c9631c0862f7c4a0fe0cae043c8a87c78cf2482f77315d07ebabc3d809937c", func := "loop.example/g01098/laws.FnExactTrimPlan", spec := "fnExactTrimPlan", unfollowed := true, recurses := true, apart := false, narrowed := true }
def FnExactTrimPlanUptoSaid : Prop := fnExactTrimPlanUptoRow.holds Try.pinned (OpenSpec.upto fnExactTrimPlanSpec)

/-- 'laws.FnExactSharePlan', WHERE WHAT IT READS IS OF BULK AT MOST 1048576: true; the input reads as it did. -/
def fnExactSharePlanUptoRow : OpenClaim := { program := "ytdcdaoancmpbeaa", sum := "35c9631c0862f7c4a0fe0cae043c8a87c78cf2482f77315d07ebabc3d809937c", func := "loop.example/g01098/laws.FnExactSharePlan", spec := "fnExactSharePlan", unfollowed := true, recurses := true, apart := false, narrowed := true }
def FnExactSharePlanUptoSaid : Prop := fnExactSharePlanUptoRow.holds Try.pinned (OpenSpec.upto fnExactSharePlanSpec)

/-- 'laws.FnExactReorderSteps', WHERE WHAT IT READS IS OF BULK AT MOST 1048576: true; the input reads as it did. -/
def fnExactReorderStepsUptoRow : OpenClaim := { program := "ytdcdaoancmpbeaa", sum := "35c9631c0862f7c4a0fe0cae043c8a87c78cf2482f77315d07ebabc3d809937c", func := "loop.example/g01098/laws.FnExactReorderSteps", spec := "fnExactReorderSteps", unfollowed := true, recurses := true, apart := false, narrowed := true }
def FnExactReorderStepsUptoSaid : Prop := fnExactReorderStepsUptoRow.holds Try.pinned (OpenSpec.upto fnExactReorderStepsSpec)

/-- 'laws.FnExactChainOfPlan', WHERE WHAT IT READS IS OF BULK AT MOST 1048576: true; the input reads as it did. -/
def fnExactChainOfPlanUptoRow : OpenClaim := { program := "ytdcdaoancmpbeaa", sum := "35c9631c0862f7c4a0fe0cae043c8a87c78cf2482f77315d07ebabc3d809937c", func := "loop.example/g01098/laws.FnExactChainOfPlan", spec := "fnExactChainOfPlan", unfollowed := true, recurses := true, apart := false, narrowed := true }
def FnExactChainOfPlanUptoSaid : Prop := fnExactChainOfPlanUptoRow.holds Try.pinned (OpenSpec.upto fnExactChainOfPlanSpec)

/-- 'laws.FnSequences', WHERE WHAT IT READS IS OF BULK AT MOST 1048576: true; the input reads as it did. -/
def fnSequencesUptoRow : OpenClaim := { program := "ytdcdaoancmpbeaa", sum := "35c9631c0862f7c4a0fe0cae043c8a87c78cf2482f77315d07ebabc3d809937c", func := "loop.example/g01098/laws.FnSequences", spec := "fnSequences", unfollowed := true, recurses := true, apart := false, narrowed := true }
def FnSequencesUptoSaid : Prop := fnSequencesUptoRow.holds Try.pinned (OpenSpec.upto fnSequencesSpec)

end Rows
end Go.Proofs.Ytdcdaoancmpbeaa

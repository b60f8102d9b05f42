/-
  No cell of these rows narrows 'for every input' (looked for: loops, veiled, ifaces, maps, wideKeys, modest, calm, conditions, laid).
  DERIVED. THE GIVEN ROWS OF THIS SEAT. 12 by the template 'for every input the law returns true; each argument reads behind the call as it read before'; 0 by the template 'total and deterministic' (their statements: YtailgfeffoimaaaTotals.lean).
  GIVEN WITH THE SEED: the statements are not yours to turn. If you find one false, say at which input.
  Laid BY PROGRAM, IN A SANDBOX (cutbox-rows.mjs): the forced cells as the released guide's own fill.sh prints them over the translation bc7001dc6b288b07… (all of the seat's roots in one cut). By AI agents, Wed Nov 11 2026. No macro, syntax, notation, axiom, sorry.
-/
import Derived.Test.YtailgfeffoimaaaChecked
import GoSem.Claim
import GoSem.ClaimJoined
import GoSem.ClaimMapViews
import Derived.JoinedTies
import Derived.KernelRfl
namespace Go.Proofs.Ytailgfeffoimaaa
/- THE CELL 'sum', in the pinned program and in every row, IS THE sha256 OF THE DUMP (.gsa) THAT YtailgfeffoimaaaProg.lean LOADS. Nothing in Lean hashes anything: it is a label: what it is worth is what the hold of that sum in a sandbox is worth. -/
noncomputable def Try.pinned : Pinned := { name := "ytailgfeffoimaaa", sum := "bc7001dc6b288b07c5e8be34e8a104c2ef013544ff5dffde52ef1b0e83b3e33c", checked := Try.checked }
namespace Rows
def none {H : Type} : Left H := { results := [], args := [] }

/-- 'laws.FnExactExtendChain': WHATEVER THE INPUT: true; the input reads as it did. -/
def fnExactExtendChainSpec : ChangeSpec := { name := "fnExactExtendChain", fn := fun _ => fun
  | [d1, d2] => { results := [.lit (.bool true)], args := [d1, d2] }
  | _ => none }
def fnExactExtendChainRow : OpenClaim := { program := "ytailgfeffoimaaa", sum := "bc7001dc6b288b07c5e8be34e8a104c2ef013544ff5dffde52ef1b0e83b3e33c", func := "loop.example/g01098/laws.FnExactExtendChain", spec := "fnExactExtendChain", apart := false }
def FnExactExtendChainSaid : Prop := fnExactExtendChainRow.holds Try.pinned (OpenSpec.ofChange fnExactExtendChainSpec)

/-- ITS FALSE NEIGHBOUR: 'it returns false'. Refute it at one input. -/
def fnExactExtendChainWrong : ChangeSpec := { name := "fnExactExtendChain", fn := fun _ => fun
  | [d1, d2] => { results := [.lit (.bool false)], args := [d1, d2] }
  | _ => none }
def FnExactExtendChainWrongFalsely : Prop := fnExactExtendChainRow.holds Try.pinned (OpenSpec.ofChange fnExactExtendChainWrong)

/-- 'laws.FnExactScaleChain': WHATEVER THE INPUT: true; the input reads as it did. -/
def fnExactScaleChainSpec : ChangeSpec := { name := "fnExactScaleChain", fn := fun _ => fun
  | [d1, d2] => { results := [.lit (.bool true)], args := [d1, d2] }
  | _ => none }
def fnExactScaleChainRow : OpenClaim := { program := "ytailgfeffoimaaa", sum := "bc7001dc6b288b07c5e8be34e8a104c2ef013544ff5dffde52ef1b0e83b3e33c", func := "loop.example/g01098/laws.FnExactScaleChain", spec := "fnExactScaleChain", apart := false }
def FnExactScaleChainSaid : Prop := fnExactScaleChainRow.holds Try.pinned (OpenSpec.ofChange fnExactScaleChainSpec)

/-- ITS FALSE NEIGHBOUR: 'it returns false'. Refute it at one input. -/
def fnExactScaleChainWrong : ChangeSpec := { name := "fnExactScaleChain", fn := fun _ => fun
  | [d1, d2] => { results := [.lit (.bool false)], args := [d1, d2] }
  | _ => none }
def FnExactScaleChainWrongFalsely : Prop := fnExactScaleChainRow.holds Try.pinned (OpenSpec.ofChange fnExactScaleChainWrong)

/-- 'laws.FnExactIsStepByStep': WHATEVER THE INPUT: true; the input reads as it did. -/
def fnExactIsStepByStepSpec : ChangeSpec := { name := "fnExactIsStepByStep", fn := fun _ => fun
  | [d] => { results := [.lit (.bool true)], args := [d] }
  | _ => none }
def fnExactIsStepByStepRow : OpenClaim := { program := "ytailgfeffoimaaa", sum := "bc7001dc6b288b07c5e8be34e8a104c2ef013544ff5dffde52ef1b0e83b3e33c", func := "loop.example/g01098/laws.FnExactIsStepByStep", spec := "fnExactIsStepByStep", apart := false }
def FnExactIsStepByStepSaid : Prop := fnExactIsStepByStepRow.holds Try.pinned (OpenSpec.ofChange fnExactIsStepByStepSpec)

/-- ITS FALSE NEIGHBOUR: 'it returns false'. Refute it at one input. -/
def fnExactIsStepByStepWrong : ChangeSpec := { name := "fnExactIsStepByStep", fn := fun _ => fun
  | [d] => { results := [.lit (.bool false)], args := [d] }
  | _ => none }
def FnExactIsStepByStepWrongFalsely : Prop := fnExactIsStepByStepRow.holds Try.pinned (OpenSpec.ofChange fnExactIsStepByStepWrong)

/-- 'laws.FnExactSmallSteps': WHATEVER THE INPUT: true; the input reads as it did. -/
def fnExactSmallStepsSpec : ChangeSpec := { name := "fnExactSmallSteps", fn := fun _ => fun
  | [d] => { results := [.lit (.bool true)], args := [d] }
  | _ => none }
def fnExactSmallStepsRow : OpenClaim := { program := "ytailgfeffoimaaa", sum := "bc7001dc6b288b07c5e8be34e8a104c2ef013544ff5dffde52ef1b0e83b3e33c", func := "loop.example/g01098/laws.FnExactSmallSteps", spec := "fnExactSmallSteps", apart := false }
def FnExactSmallStepsSaid : Prop := fnExactSmallStepsRow.holds Try.pinned (OpenSpec.ofChange fnExactSmallStepsSpec)

/-- ITS FALSE NEIGHBOUR: 'it returns false'. Refute it at one input. -/
def fnExactSmallStepsWrong : ChangeSpec := { name := "fnExactSmallSteps", fn := fun _ => fun
  | [d] => { results := [.lit (.bool false)], args := [d] }
  | _ => none }
def FnExactSmallStepsWrongFalsely : Prop := fnExactSmallStepsRow.holds Try.pinned (OpenSpec.ofChange fnExactSmallStepsWrong)

/-- 'laws.FnExactChainSteps': WHATEVER THE INPUT: true; the input reads as it did. -/
def fnExactChainStepsSpec : ChangeSpec := { name := "fnExactChainSteps", fn := fun _ => fun
  | [d] => { results := [.lit (.bool true)], args := [d] }
  | _ => none }
def fnExactChainStepsRow : OpenClaim := { program := "ytailgfeffoimaaa", sum := "bc7001dc6b288b07c5e8be34e8a104c2ef013544ff5dffde52ef1b0e83b3e33c", func := "loop.example/g01098/laws.FnExactChainSteps", spec := "fnExactChainSteps", apart := false }
def FnExactChainStepsSaid : Prop := fnExactChainStepsRow.holds Try.pinned (OpenSpec.ofChange fnExactChainStepsSpec)

/-- ITS FALSE NEIGHBOUR: 'it returns false'. Refute it at one input. -/
def fnExactChainStepsWrong : ChangeSpec := { name := "fnExactChainSteps", fn := fun _ => fun
  | [d] => { results := [.lit (.bool false)], args := [d] }
  | _ => none }
def FnExactChainStepsWrongFalsely : Prop := fnExactChainStepsRow.holds Try.pinned (OpenSpec.ofChange fnExactChainStepsWrong)

/-- 'laws.FnExactNeededPart': WHATEVER THE INPUT: true; the input reads as it did. -/
def fnExactNeededPartSpec : ChangeSpec := { name := "fnExactNeededPart", fn := fun _ => fun
  | [d] => { results := [.lit (.bool true)], args := [d] }
  | _ => none }
def fnExactNeededPartRow : OpenClaim := { program := "ytailgfeffoimaaa", sum := "bc7001dc6b288b07c5e8be34e8a104c2ef013544ff5dffde52ef1b0e83b3e33c", func := "loop.example/g01098/laws.FnExactNeededPart", spec := "fnExactNeededPart", unfollowed := true, recurses := true, apart := false }
def FnExactNeededPartSaid : Prop := fnExactNeededPartRow.holds Try.pinned (OpenSpec.ofChange fnExactNeededPartSpec)

/-- ITS FALSE NEIGHBOUR: 'it returns false'. Refute it at one input. -/
def fnExactNeededPartWrong : ChangeSpec := { name := "fnExactNeededPart", fn := fun _ => fun
  | [d] => { results := [.lit (.bool false)], args := [d] }
  | _ => none }
def FnExactNeededPartWrongFalsely : Prop := fnExactNeededPartRow.holds Try.pinned (OpenSpec.ofChange fnExactNeededPartWrong)

/-- 'laws.FnExactMeetChains': WHATEVER THE INPUT: true; the input reads as it did. -/
def fnExactMeetChainsSpec : ChangeSpec := { name := "fnExactMeetChains", fn := fun _ => fun
  | [d1, d2] => { results := [.lit (.bool true)], args := [d1, d2] }
  | _ => none }
def fnExactMeetChainsRow : OpenClaim := { program := "ytailgfeffoimaaa", sum := "bc7001dc6b288b07c5e8be34e8a104c2ef013544ff5dffde52ef1b0e83b3e33c", func := "loop.example/g01098/laws.FnExactMeetChains", spec := "fnExactMeetChains", unfollowed := true, recurses := true, apart := false }
def FnExactMeetChainsSaid : Prop := fnExactMeetChainsRow.holds Try.pinned (OpenSpec.ofChange fnExactMeetChainsSpec)

/-- ITS FALSE NEIGHBOUR: 'it returns false'. Refute it at one input. -/
def fnExactMeetChainsWrong : ChangeSpec := { name := "fnExactMeetChains", fn := fun _ => fun
  | [d1, d2] => { results := [.lit (.bool false)], args := [d1, d2] }
  | _ => none }
def FnExactMeetChainsWrongFalsely : Prop := fnExactMeetChainsRow.holds Try.pinned (OpenSpec.ofChange fnExactMeetChainsWrong)

/-- 'laws.FnExactInsertNumber': WHATEVER THE INPUT: true; the input reads as it did. -/
def fnExactInsertNumberSpec : ChangeSpec := { name := "fnExactInsertNumber", fn := fun _ => fun
  | [d1, d2] => { results := [.lit (.bool true)], args := [d1, d2] }
  | _ => none }
def fnExactInsertNumberRow : OpenClaim := { program := "ytailgfeffoimaaa", sum := "bc7001dc6b288b07c5e8be34e8a104c2ef013544ff5dffde52ef1b0e83b3e33c", func := "loop.example/g01098/laws.FnExactInsertNumber", spec := "fnExactInsertNumber", inPlace := ["slices.overlaps[int]"], apart := false }
def FnExactInsertNumberSaid : Prop := fnExactInsertNumberRow.holds Try.pinned (OpenSpec.ofChange fnExactInsertNumberSpec)

/-- ITS FALSE NEIGHBOUR: 'it returns false'. Refute it at one input. -/
def fnExactInsertNumberWrong : ChangeSpec := { name := "fnExactInsertNumber", fn := fun _ => fun
  | [d1, d2] => { results := [.lit (.bool false)], args := [d1, d2] }
  | _ => none }
def FnExactInsertNumberWrongFalsely : Prop := fnExactInsertNumberRow.holds Try.pinned (OpenSpec.ofChange fnExactInsertNumberWrong)

/-- 'laws.FnExactUnionChains': WHATEVER THE INPUT: true; the input reads as it did. -/
def fnExactUnionChainsSpec : ChangeSpec := { name := "fnExactUnionChains", fn := fun _ => fun
  | [d1, d2] => { results := [.lit (.bool true)], args := [d1, d2] }
  | _ => none }
def fnExactUnionChainsRow : OpenClaim := { program := "ytailgfeffoimaaa", sum := "bc7001dc6b288b07c5e8be34e8a104c2ef013544ff5dffde52ef1b0e83b3e33c", func := "loop.example/g01098/laws.FnExactUnionChains", spec := "fnExactUnionChains", recurses := true, apart := false }
def FnExactUnionChainsSaid : Prop := fnExactUnionChainsRow.holds Try.pinned (OpenSpec.ofChange fnExactUnionChainsSpec)

/-- ITS FALSE NEIGHBOUR: 'it returns false'. Refute it at one input. -/
def fnExactUnionChainsWrong : ChangeSpec := { name := "fnExactUnionChains", fn := fun _ => fun
  | [d1, d2] => { results := [.lit (.bool false)], args := [d1, d2] }
  | _ => none }
def FnExactUnionChainsWrongFalsely : Prop := fnExactUnionChainsRow.holds Try.pinned (OpenSpec.ofChange fnExactUnionChainsWrong)

/-- 'laws.FnExactBinaryStar': WHATEVER THE INPUT: true; the input reads as it did. -/
def fnExactBinaryStarSpec : ChangeSpec := { name := "fnExactBinaryStar", fn := fun _ => fun
  | [d] => { results := [.lit (.bool true)], args := [d] }
  | _ => none }
def fnExactBinaryStarRow : OpenClaim := { program := "ytailgfeffoimaaa", sum := "bc7001dc6b288b07c5e8be34e8a104c2ef013544ff5dffde52ef1b0e83b3e33c", func := "loop.example/g01098/laws.FnExactBinaryStar", spec := "fnExactBinaryStar", apart := false }
def FnExactBinaryStarSaid : Prop := fnExactBinaryStarRow.holds Try.pinned (OpenSpec.ofChange fnExactBinaryStarSpec)

/-- ITS FALSE NEIGHBOUR: 'it returns false'. Refute it at one input. -/
def fnExactBinaryStarWrong : ChangeSpec := { name := "fnExactBinaryStar", fn := fun _ => fun
  | [d] => { results := [.lit (.bool false)], args := [d] }
  | _ => none }
def FnExactBinaryStarWrongFalsely : Prop := fnExactBinaryStarRow.holds Try.pinned (OpenSpec.ofChange fnExactBinaryStarWrong)

/-- 'laws.FnExactWindowsOf': WHATEVER THE INPUT: true; the input reads as it did. -/
def fnExactWindowsOfSpec : ChangeSpec := { name := "fnExactWindowsOf", fn := fun _ => fun
  | [d1, d2] => { results := [.lit (.bool true)], args := [d1, d2] }
  | _ => none }
def fnExactWindowsOfRow : OpenClaim := { program := "ytailgfeffoimaaa", sum := "bc7001dc6b288b07c5e8be34e8a104c2ef013544ff5dffde52ef1b0e83b3e33c", func := "loop.example/g01098/laws.FnExactWindowsOf", spec := "fnExactWindowsOf", apart := false }
def FnExactWindowsOfSaid : Prop := fnExactWindowsOfRow.holds Try.pinned (OpenSpec.ofChange fnExactWindowsOfSpec)

/-- ITS FALSE NEIGHBOUR: 'it returns false'. Refute it at one input. -/
def fnExactWindowsOfWrong : ChangeSpec := { name := "fnExactWindowsOf", fn := fun _ => fun
  | [d1, d2] => { results := [.lit (.bool false)], args := [d1, d2] }
  | _ => none }
def FnExactWindowsOfWrongFalsely : Prop := fnExactWindowsOfRow.holds Try.pinned (OpenSpec.ofChange fnExactWindowsOfWrong)

/-- 'laws.FnSmallStepsCount': WHATEVER THE INPUT: true; the input reads as it did. -/
def fnSmallStepsCountSpec : ChangeSpec := { name := "fnSmallStepsCount", fn := fun _ => fun
  | [d1, d2] => { results := [.lit (.bool true)], args := [d1, d2] }
  | _ => none }
def fnSmallStepsCountRow : OpenClaim := { program := "ytailgfeffoimaaa", sum := "bc7001dc6b288b07c5e8be34e8a104c2ef013544ff5dffde52ef1b0e83b3e33c", func := "loop.example/g01098/laws.FnSmallStepsCount", spec := "fnSmallStepsCount", apart := false }
def FnSmallStepsCountSaid : Prop := fnSmallStepsCountRow.holds Try.pinned (OpenSpec.ofChange fnSmallStepsCountSpec)

/-- ITS FALSE NEIGHBOUR: 'it returns false'. Refute it at one input. -/
def fnSmallStepsCountWrong : ChangeSpec := { name := "fnSmallStepsCount", fn := fun _ => fun
  | [d1, d2] => { results := [.lit (.bool false)], args := [d1, d2] }
  | _ => none }
def FnSmallStepsCountWrongFalsely : Prop := fnSmallStepsCountRow.holds Try.pinned (OpenSpec.ofChange fnSmallStepsCountWrong)

/- THE SECOND FORM. 'bulk': how many values and letters a reading holds, each counted each time it is reached (what is shared counts as often as it is met; a slice's spare places count too). A statement '..UptoSaid' is the law's where the arguments, and the package variables that the reading takes, are together of bulk at most 1048576: NARROWER than '..Said'. Prove '..Said' where nothing that the law and all that it calls make is longer than what came in: it says more and counts as full. Else prove '..UptoSaid'. A law counts once. -/
mutual
def uptoBulk {H : Type} : DataW H → Nat
  | .lit (.string bytes) => bytes.length + 1
  | .lit _ => 1
  | .nil => 1
  | .ptr d => uptoBulk d + 1
  | .slice elems spare => uptoBulkAll elems + uptoBulkAll spare + 1
  | .agg parts => uptoBulkAll parts + 1
  | .iface _ d => uptoBulk d + 1
  | .map entries => uptoBulkEntries entries + 1
  | .held _ => 1
def uptoBulkAll {H : Type} : List (DataW H) → Nat
  | [] => 0
  | d :: r => uptoBulk d + uptoBulkAll r
def uptoBulkEntries {H : Type} : List (Lit × DataW H) → Nat
  | [] => 0
  | x :: r => uptoBulkEntry x + uptoBulkEntries r
def uptoBulkEntry {H : Type} : Lit × DataW H → Nat
  | (.string bytes, d) => bytes.length + uptoBulk d + 1
  | (_, d) => uptoBulk d + 1
 end
def uptoSmall : (H : Type) → List (DataW H) → Bool := fun _ ds => decide (uptoBulkAll ds ≤ 1048576)
def OpenSpec.upto (s : _root_.Go.ChangeSpec) : _root_.Go.OpenSpec := { _root_.Go.OpenSpec.ofChange s with cond := some uptoSmall }

/-- 'laws.FnExactExtendChain', WHERE WHAT IT READS IS OF BULK AT MOST 1048576: true; the input reads as it did. -/
def fnExactExtendChainUptoRow : OpenClaim := { program := "ytailgfeffoimaaa", sum := "bc7001dc6b288b07c5e8be34e8a104c2ef013544ff5dffde52ef1b0e83b3e33c", func := "loop.example/g01098/laws.FnExactExtendChain", spec := "fnExactExtendChain", apart := false, narrowed := true }
def FnExactExtendChainUptoSaid : Prop := fnExactExtendChainUptoRow.holds Try.pinned (OpenSpec.upto fnExactExtendChainSpec)

/-- 'laws.FnExactScaleChain', WHERE WHAT IT READS IS OF BULK AT MOST 1048576: true; the input reads as it did. -/
def fnExactScaleChainUptoRow : OpenClaim := { program := "ytailgfeffoimaaa", sum := "bc7001dc6b288b07c5e8be34e8a104c2ef013544ff5dffde52ef1b0e83b3e33c", func := "loop.example/g01098/laws.FnExactScaleChain", spec := "fnExactScaleChain", apart := false, narrowed := true }
def FnExactScaleChainUptoSaid : Prop := fnExactScaleChainUptoRow.holds Try.pinned (OpenSpec.upto fnExactScaleChainSpec)

/-- 'laws.FnExactIsStepByStep', WHERE WHAT IT READS IS OF BULK AT MOST 1048576: true; the input reads as it did. -/
def fnExactIsStepByStepUptoRow : OpenClaim := { program := "ytailgfeffoimaaa", sum := "bc7001dc6b288b07c5e8be34e8a104c2ef013544ff5dffde52ef1b0e83b3e33c", func := "loop.example/g01098/laws.FnExactIsStepByStep", spec := "fnExactIsStepByStep", apart := false, narrowed := true }
def FnExactIsStepByStepUptoSaid : Prop := fnExactIsStepByStepUptoRow.holds Try.pinned (OpenSpec.upto fnExactIsStepByStepSpec)

/-- 'laws.FnExactSmallSteps', WHERE WHAT IT READS IS OF BULK AT MOST 1048576: true; the input reads as it did. -/
def fnExactSmallStepsUptoRow : OpenClaim := { program := "ytailgfeffoimaaa", sum := "bc7001dc6b288b07c5e8be34e8a104c2ef013544ff5dffde52ef1b0e83b3e33c", func := "loop.example/g01098/laws.FnExactSmallSteps", spec := "fnExactSmallSteps", apart := false, narrowed := true }
def FnExactSmallStepsUptoSaid : Prop := fnExactSmallStepsUptoRow.holds Try.pinned (OpenSpec.upto fnExactSmallStepsSpec)

/-- 'laws.FnExactChainSteps', WHERE WHAT IT READS IS OF BULK AT MOST 1048576: true; the input reads as it did. -/
def fnExactChainStepsUptoRow : OpenClaim := { program := "ytailgfeffoimaaa", sum := "bc7001dc6b288b07c5e8be34e8a104c2ef013544ff5dffde52ef1b0e83b3e33c", func := "loop.example/g01098/laws.FnExactChainSteps", spec := "fnExactChainSteps", apart := false, narrowed := true }
def FnExactChainStepsUptoSaid : Prop := fnExactChainStepsUptoRow.holds Try.pinned (OpenSpec.upto fnExactChainStepsSpec)

/-- 'laws.FnExactNeededPart', WHERE WHAT IT READS IS OF BULK AT MOST 1048576: true; the input reads as it did. -/
def fnExactNeededPartUptoRow : OpenClaim := { program := "ytailgfeffoimaaa", sum := "bc7001dc6b288b07c5e8be34e8a104c2ef013544ff5dffde52ef1b0e83b3e33c", func := "loop.example/g01098/laws.FnExactNeededPart", spec := "fnExactNeededPart", unfollowed := true, recurses := true, apart := false, narrowed := true }
def FnExactNeededPartUptoSaid : Prop := fnExactNeededPartUptoRow.holds Try.pinned (OpenSpec.upto fnExactNeededPartSpec)

/-- 'laws.FnExactMeetChains', WHERE WHAT IT READS IS OF BULK AT MOST 1048576: true; the input reads as it did. -/
def fnExactMeetChainsUptoRow : OpenClaim := { program := "ytailgfeffoimaaa", sum := "bc7001dc6b288b07c5e8be34e8a104c2ef013544ff5dffde52ef1b0e83b3e33c", func := "loop.example/g01098/laws.FnExactMeetChains", spec := "fnExactMeetChains", unfollowed := true, recurses := true, apart := false, narrowed := true }
def FnExactMeetChainsUptoSaid : Prop := fnExactMeetChainsUptoRow.holds Try.pinned (OpenSpec.upto fnExactMeetChainsSpec)

/-- 'laws.FnExactInsertNumber', WHERE WHAT IT READS IS OF BULK AT MOST 1048576: true; the input reads as it did. -/
def fnExactInsertNumberUptoRow : OpenClaim := { program := "ytailgfeffoimaaa", sum := "bc7001dc6b288b07c5e8be34e8a104c2ef013544ff5dffde52ef1b0e83b3e33c", func := "loop.example/g01098/laws.FnExactInsertNumber", spec := "fnExactInsertNumber", inPlace := ["slices.overlaps[int]"], apart := false, narrowed := true }
def FnExactInsertNumberUptoSaid : Prop := fnExactInsertNumberUptoRow.holds Try.pinned (OpenSpec.upto fnExactInsertNumberSpec)

/-- 'laws.FnExactUnionChains', WHERE WHAT IT READS IS OF BULK AT MOST 1048576: true; the input reads as it did. -/
def fnExactUnionChainsUptoRow : OpenClaim := { program := "ytailgfeffoimaaa", sum := "bc7001dc6b288b07c5e8be34e8a104c2ef013544ff5dffde52ef1b0e83b3e33c", func := "loop.example/g01098/laws.FnExactUnionChains", spec := "fnExactUnionChains", recurses := true, apart := false, narrowed := true }
def FnExactUnionChainsUptoSaid : Prop := fnExactUnionChainsUptoRow.holds Try.pinned (OpenSpec.upto fnExactUnionChainsSpec)

/-- 'laws.FnExactBinaryStar', WHERE WHAT IT READS IS OF BULK AT MOST 1048576: true; the input reads as it did. -/
def fnExactBinaryStarUptoRow : OpenClaim := { program := "ytailgfeffoimaaa", sum := "bc7001dc6b288b07c5e8be34e8a104c2ef013544ff5dffde52ef1b0e83b3e33c", func := "loop.example/g01098/laws.FnExactBinaryStar", spec := "fnExactBinaryStar", apart := false, narrowed := true }
def FnExactBinaryStarUptoSaid : Prop := fnExactBinaryStarUptoRow.holds Try.pinned (OpenSpec.upto fnExactBinaryStarSpec)

/-- 'laws.FnExactWindowsOf', WHERE WHAT IT READS IS OF BULK AT MOST 1048576: true; the input reads as it did. -/
def fnExactWindowsOfUptoRow : OpenClaim := { program := "ytailgfeffoimaaa", sum := "bc7001dc6b288b07c5e8be34e8a104c2ef013544ff5dffde52ef1b0e83b3e33c", func := "loop.example/g01098/laws.FnExactWindowsOf", spec := "fnExactWindowsOf", apart := false, narrowed := true }
def FnExactWindowsOfUptoSaid : Prop := fnExactWindowsOfUptoRow.holds Try.pinned (OpenSpec.upto fnExactWindowsOfSpec)

/-- 'laws.FnSmallStepsCount', WHERE WHAT IT READS IS OF BULK AT MOST 1048576: true; the input reads as it did. -/
def fnSmallStepsCountUptoRow : OpenClaim := { program := "ytailgfeffoimaaa", sum := "bc7001dc6b288b07c5e8be34e8a104c2ef013544ff5dffde52ef1b0e83b3e33c", func := "loop.example/g01098/laws.FnSmallStepsCount", spec := "fnSmallStepsCount", apart := false, narrowed := true }
def FnSmallStepsCountUptoSaid : Prop := fnSmallStepsCountUptoRow.holds Try.pinned (OpenSpec.upto fnSmallStepsCountSpec)

end Rows
end Go.Proofs.Ytailgfeffoimaaa

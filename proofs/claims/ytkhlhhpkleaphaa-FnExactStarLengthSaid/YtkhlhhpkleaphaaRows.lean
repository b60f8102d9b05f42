/-
  No cell of these rows narrows 'for every input' (looked for: loops, veiled, ifaces, maps, wideKeys, modest, calm, conditions, laid).
  DERIVED. THE GIVEN ROWS OF THIS SEAT. 12 by the template 'for every input the law returns true; each argument reads behind the call as it read before'; 0 by the template 'total and deterministic' (their statements: YtkhlhhpkleaphaaTotals.lean).
  GIVEN WITH THE SEED: the statements are not yours to turn. If you find one false, say at which input.
  Laid BY PROGRAM, IN A SANDBOX (cutbox-rows.mjs): the forced cells as the released guide's own fill.sh prints them over the translation 1783d229e8bff3e8… (all of the seat's roots in one cut). By AI agents, Wed Nov 11 2026. No macro, syntax, notation, axiom, sorry.
-/
import Derived.Test.YtkhlhhpkleaphaaChecked
import GoSem.Claim
import GoSem.ClaimJoined
import GoSem.ClaimMapViews
import Derived.JoinedTies
import Derived.KernelRfl
namespace Go.Proofs.Ytkhlhhpkleaphaa
/- THE CELL 'sum', in the pinned program and in every row, IS THE sha256 OF THE DUMP (.gsa) THAT YtkhlhhpkleaphaaProg.lean LOADS. Nothing in Lean hashes anything: it is a label: what it is worth is what the hold of that sum in a sandbox is worth. -/
noncomputable def Try.pinned : Pinned := { name := "ytkhlhhpkleaphaa", sum := "1783d229e8bff3e8601750ed00182cc2300b76a451740dfc95e970b7c0fa65eb", checked := Try.checked }
namespace Rows
def none {H : Type} : Left H := { results := [], args := [] }

/-- 'laws.FnExactConstants': WHATEVER THE INPUT: true; the input reads as it did. -/
def fnExactConstantsSpec : ChangeSpec := { name := "fnExactConstants", fn := fun _ => fun
  | [] => { results := [.lit (.bool true)], args := [] }
  | _ => none }
def fnExactConstantsRow : OpenClaim := { program := "ytkhlhhpkleaphaa", sum := "1783d229e8bff3e8601750ed00182cc2300b76a451740dfc95e970b7c0fa65eb", func := "loop.example/g01098/laws.FnExactConstants", spec := "fnExactConstants", apart := false }
def FnExactConstantsSaid : Prop := fnExactConstantsRow.holds Try.pinned (OpenSpec.ofChange fnExactConstantsSpec)

/-- ITS FALSE NEIGHBOUR: 'it returns false'. Refute it at one input. -/
def fnExactConstantsWrong : ChangeSpec := { name := "fnExactConstants", fn := fun _ => fun
  | [] => { results := [.lit (.bool false)], args := [] }
  | _ => none }
def FnExactConstantsWrongFalsely : Prop := fnExactConstantsRow.holds Try.pinned (OpenSpec.ofChange fnExactConstantsWrong)

/-- 'laws.FnExactLeastFactor': WHATEVER THE INPUT: true; the input reads as it did. -/
def fnExactLeastFactorSpec : ChangeSpec := { name := "fnExactLeastFactor", fn := fun _ => fun
  | [d] => { results := [.lit (.bool true)], args := [d] }
  | _ => none }
def fnExactLeastFactorRow : OpenClaim := { program := "ytkhlhhpkleaphaa", sum := "1783d229e8bff3e8601750ed00182cc2300b76a451740dfc95e970b7c0fa65eb", func := "loop.example/g01098/laws.FnExactLeastFactor", spec := "fnExactLeastFactor", apart := false }
def FnExactLeastFactorSaid : Prop := fnExactLeastFactorRow.holds Try.pinned (OpenSpec.ofChange fnExactLeastFactorSpec)

/-- ITS FALSE NEIGHBOUR: 'it returns false'. Refute it at one input. -/
def fnExactLeastFactorWrong : ChangeSpec := { name := "fnExactLeastFactor", fn := fun _ => fun
  | [d] => { results := [.lit (.bool false)], args := [d] }
  | _ => none }
def FnExactLeastFactorWrongFalsely : Prop := fnExactLeastFactorRow.holds Try.pinned (OpenSpec.ofChange fnExactLeastFactorWrong)

/-- 'laws.FnExactBitLength': WHATEVER THE INPUT: true; the input reads as it did. -/
def fnExactBitLengthSpec : ChangeSpec := { name := "fnExactBitLength", fn := fun _ => fun
  | [d] => { results := [.lit (.bool true)], args := [d] }
  | _ => none }
def fnExactBitLengthRow : OpenClaim := { program := "ytkhlhhpkleaphaa", sum := "1783d229e8bff3e8601750ed00182cc2300b76a451740dfc95e970b7c0fa65eb", func := "loop.example/g01098/laws.FnExactBitLength", spec := "fnExactBitLength", apart := false }
def FnExactBitLengthSaid : Prop := fnExactBitLengthRow.holds Try.pinned (OpenSpec.ofChange fnExactBitLengthSpec)

/-- ITS FALSE NEIGHBOUR: 'it returns false'. Refute it at one input. -/
def fnExactBitLengthWrong : ChangeSpec := { name := "fnExactBitLength", fn := fun _ => fun
  | [d] => { results := [.lit (.bool false)], args := [d] }
  | _ => none }
def FnExactBitLengthWrongFalsely : Prop := fnExactBitLengthRow.holds Try.pinned (OpenSpec.ofChange fnExactBitLengthWrong)

/-- 'laws.FnExactDigitsOf': WHATEVER THE INPUT: true; the input reads as it did. -/
def fnExactDigitsOfSpec : ChangeSpec := { name := "fnExactDigitsOf", fn := fun _ => fun
  | [d1, d2] => { results := [.lit (.bool true)], args := [d1, d2] }
  | _ => none }
def fnExactDigitsOfRow : OpenClaim := { program := "ytkhlhhpkleaphaa", sum := "1783d229e8bff3e8601750ed00182cc2300b76a451740dfc95e970b7c0fa65eb", func := "loop.example/g01098/laws.FnExactDigitsOf", spec := "fnExactDigitsOf", apart := false }
def FnExactDigitsOfSaid : Prop := fnExactDigitsOfRow.holds Try.pinned (OpenSpec.ofChange fnExactDigitsOfSpec)

/-- ITS FALSE NEIGHBOUR: 'it returns false'. Refute it at one input. -/
def fnExactDigitsOfWrong : ChangeSpec := { name := "fnExactDigitsOf", fn := fun _ => fun
  | [d1, d2] => { results := [.lit (.bool false)], args := [d1, d2] }
  | _ => none }
def FnExactDigitsOfWrongFalsely : Prop := fnExactDigitsOfRow.holds Try.pinned (OpenSpec.ofChange fnExactDigitsOfWrong)

/-- 'laws.FnExactDigitSum': WHATEVER THE INPUT: true; the input reads as it did. -/
def fnExactDigitSumSpec : ChangeSpec := { name := "fnExactDigitSum", fn := fun _ => fun
  | [d] => { results := [.lit (.bool true)], args := [d] }
  | _ => none }
def fnExactDigitSumRow : OpenClaim := { program := "ytkhlhhpkleaphaa", sum := "1783d229e8bff3e8601750ed00182cc2300b76a451740dfc95e970b7c0fa65eb", func := "loop.example/g01098/laws.FnExactDigitSum", spec := "fnExactDigitSum", apart := false }
def FnExactDigitSumSaid : Prop := fnExactDigitSumRow.holds Try.pinned (OpenSpec.ofChange fnExactDigitSumSpec)

/-- ITS FALSE NEIGHBOUR: 'it returns false'. Refute it at one input. -/
def fnExactDigitSumWrong : ChangeSpec := { name := "fnExactDigitSum", fn := fun _ => fun
  | [d] => { results := [.lit (.bool false)], args := [d] }
  | _ => none }
def FnExactDigitSumWrongFalsely : Prop := fnExactDigitSumRow.holds Try.pinned (OpenSpec.ofChange fnExactDigitSumWrong)

/-- 'laws.FnExactCountStars': WHATEVER THE INPUT: true; the input reads as it did. -/
def fnExactCountStarsSpec : ChangeSpec := { name := "fnExactCountStars", fn := fun _ => fun
  | [d1, d2] => { results := [.lit (.bool true)], args := [d1, d2] }
  | _ => none }
def fnExactCountStarsRow : OpenClaim := { program := "ytkhlhhpkleaphaa", sum := "1783d229e8bff3e8601750ed00182cc2300b76a451740dfc95e970b7c0fa65eb", func := "loop.example/g01098/laws.FnExactCountStars", spec := "fnExactCountStars", unfollowed := true, recurses := true, apart := false }
def FnExactCountStarsSaid : Prop := fnExactCountStarsRow.holds Try.pinned (OpenSpec.ofChange fnExactCountStarsSpec)

/-- ITS FALSE NEIGHBOUR: 'it returns false'. Refute it at one input. -/
def fnExactCountStarsWrong : ChangeSpec := { name := "fnExactCountStars", fn := fun _ => fun
  | [d1, d2] => { results := [.lit (.bool false)], args := [d1, d2] }
  | _ => none }
def FnExactCountStarsWrongFalsely : Prop := fnExactCountStarsRow.holds Try.pinned (OpenSpec.ofChange fnExactCountStarsWrong)

/-- 'laws.FnExactIsStarChain': WHATEVER THE INPUT: true; the input reads as it did. -/
def fnExactIsStarChainSpec : ChangeSpec := { name := "fnExactIsStarChain", fn := fun _ => fun
  | [d] => { results := [.lit (.bool true)], args := [d] }
  | _ => none }
def fnExactIsStarChainRow : OpenClaim := { program := "ytkhlhhpkleaphaa", sum := "1783d229e8bff3e8601750ed00182cc2300b76a451740dfc95e970b7c0fa65eb", func := "loop.example/g01098/laws.FnExactIsStarChain", spec := "fnExactIsStarChain", apart := false }
def FnExactIsStarChainSaid : Prop := fnExactIsStarChainRow.holds Try.pinned (OpenSpec.ofChange fnExactIsStarChainSpec)

/-- ITS FALSE NEIGHBOUR: 'it returns false'. Refute it at one input. -/
def fnExactIsStarChainWrong : ChangeSpec := { name := "fnExactIsStarChain", fn := fun _ => fun
  | [d] => { results := [.lit (.bool false)], args := [d] }
  | _ => none }
def FnExactIsStarChainWrongFalsely : Prop := fnExactIsStarChainRow.holds Try.pinned (OpenSpec.ofChange fnExactIsStarChainWrong)

/-- 'laws.FnExactIsChain': WHATEVER THE INPUT: true; the input reads as it did. -/
def fnExactIsChainSpec : ChangeSpec := { name := "fnExactIsChain", fn := fun _ => fun
  | [d] => { results := [.lit (.bool true)], args := [d] }
  | _ => none }
def fnExactIsChainRow : OpenClaim := { program := "ytkhlhhpkleaphaa", sum := "1783d229e8bff3e8601750ed00182cc2300b76a451740dfc95e970b7c0fa65eb", func := "loop.example/g01098/laws.FnExactIsChain", spec := "fnExactIsChain", apart := false }
def FnExactIsChainSaid : Prop := fnExactIsChainRow.holds Try.pinned (OpenSpec.ofChange fnExactIsChainSpec)

/-- ITS FALSE NEIGHBOUR: 'it returns false'. Refute it at one input. -/
def fnExactIsChainWrong : ChangeSpec := { name := "fnExactIsChain", fn := fun _ => fun
  | [d] => { results := [.lit (.bool false)], args := [d] }
  | _ => none }
def FnExactIsChainWrongFalsely : Prop := fnExactIsChainRow.holds Try.pinned (OpenSpec.ofChange fnExactIsChainWrong)

/-- 'laws.FnExactFromDigits': WHATEVER THE INPUT: true; the input reads as it did. -/
def fnExactFromDigitsSpec : ChangeSpec := { name := "fnExactFromDigits", fn := fun _ => fun
  | [d1, d2] => { results := [.lit (.bool true)], args := [d1, d2] }
  | _ => none }
def fnExactFromDigitsRow : OpenClaim := { program := "ytkhlhhpkleaphaa", sum := "1783d229e8bff3e8601750ed00182cc2300b76a451740dfc95e970b7c0fa65eb", func := "loop.example/g01098/laws.FnExactFromDigits", spec := "fnExactFromDigits", unfollowed := true, recurses := true, apart := false }
def FnExactFromDigitsSaid : Prop := fnExactFromDigitsRow.holds Try.pinned (OpenSpec.ofChange fnExactFromDigitsSpec)

/-- ITS FALSE NEIGHBOUR: 'it returns false'. Refute it at one input. -/
def fnExactFromDigitsWrong : ChangeSpec := { name := "fnExactFromDigits", fn := fun _ => fun
  | [d1, d2] => { results := [.lit (.bool false)], args := [d1, d2] }
  | _ => none }
def FnExactFromDigitsWrongFalsely : Prop := fnExactFromDigitsRow.holds Try.pinned (OpenSpec.ofChange fnExactFromDigitsWrong)

/-- 'laws.FnExactLiveStars': WHATEVER THE INPUT: true; the input reads as it did. -/
def fnExactLiveStarsSpec : ChangeSpec := { name := "fnExactLiveStars", fn := fun _ => fun
  | [d1, d2] => { results := [.lit (.bool true)], args := [d1, d2] }
  | _ => none }
def fnExactLiveStarsRow : OpenClaim := { program := "ytkhlhhpkleaphaa", sum := "1783d229e8bff3e8601750ed00182cc2300b76a451740dfc95e970b7c0fa65eb", func := "loop.example/g01098/laws.FnExactLiveStars", spec := "fnExactLiveStars", recurses := true, apart := false }
def FnExactLiveStarsSaid : Prop := fnExactLiveStarsRow.holds Try.pinned (OpenSpec.ofChange fnExactLiveStarsSpec)

/-- ITS FALSE NEIGHBOUR: 'it returns false'. Refute it at one input. -/
def fnExactLiveStarsWrong : ChangeSpec := { name := "fnExactLiveStars", fn := fun _ => fun
  | [d1, d2] => { results := [.lit (.bool false)], args := [d1, d2] }
  | _ => none }
def FnExactLiveStarsWrongFalsely : Prop := fnExactLiveStarsRow.holds Try.pinned (OpenSpec.ofChange fnExactLiveStarsWrong)

/-- 'laws.FnExactStarLength': WHATEVER THE INPUT: true; the input reads as it did. -/
def fnExactStarLengthSpec : ChangeSpec := { name := "fnExactStarLength", fn := fun _ => fun
  | [d] => { results := [.lit (.bool true)], args := [d] }
  | _ => none }
def fnExactStarLengthRow : OpenClaim := { program := "ytkhlhhpkleaphaa", sum := "1783d229e8bff3e8601750ed00182cc2300b76a451740dfc95e970b7c0fa65eb", func := "loop.example/g01098/laws.FnExactStarLength", spec := "fnExactStarLength", unfollowed := true, recurses := true, apart := false }
def FnExactStarLengthSaid : Prop := fnExactStarLengthRow.holds Try.pinned (OpenSpec.ofChange fnExactStarLengthSpec)

/-- ITS FALSE NEIGHBOUR: 'it returns false'. Refute it at one input. -/
def fnExactStarLengthWrong : ChangeSpec := { name := "fnExactStarLength", fn := fun _ => fun
  | [d] => { results := [.lit (.bool false)], args := [d] }
  | _ => none }
def FnExactStarLengthWrongFalsely : Prop := fnExactStarLengthRow.holds Try.pinned (OpenSpec.ofChange fnExactStarLengthWrong)

/-- 'laws.FnExactCountSums': WHATEVER THE INPUT: true; the input reads as it did. -/
def fnExactCountSumsSpec : ChangeSpec := { name := "fnExactCountSums", fn := fun _ => fun
  | [d] => { results := [.lit (.bool true)], args := [d] }
  | _ => none }
def fnExactCountSumsRow : OpenClaim := { program := "ytkhlhhpkleaphaa", sum := "1783d229e8bff3e8601750ed00182cc2300b76a451740dfc95e970b7c0fa65eb", func := "loop.example/g01098/laws.FnExactCountSums", spec := "fnExactCountSums", apart := false }
def FnExactCountSumsSaid : Prop := fnExactCountSumsRow.holds Try.pinned (OpenSpec.ofChange fnExactCountSumsSpec)

/-- ITS FALSE NEIGHBOUR: 'it returns false'. Refute it at one input. -/
def fnExactCountSumsWrong : ChangeSpec := { name := "fnExactCountSums", fn := fun _ => fun
  | [d] => { results := [.lit (.bool false)], args := [d] }
  | _ => none }
def FnExactCountSumsWrongFalsely : Prop := fnExactCountSumsRow.holds Try.pinned (OpenSpec.ofChange fnExactCountSumsWrong)

/- THE SECOND FORM. 'bulk': how many values and letters a reading holds, each counted each time it is reached (what is shared counts as often as it is met; a slice's spare places count too). A statement '..UptoSaid' is the law's where the arguments, and the package variables that the reading takes, are together of bulk at most 1048576: NARROWER than '..Said'. Prove '..Said' where nothing that the law and all that it calls make is longer than what came in: it says more and counts as full. Else prove '..UptoSaid'. A law counts once. -/
mutual
def uptoBulk {H : Type} : DataW H → Nat
  | .lit (.string bytes) => bytes.length + 1
  | .lit _ => 1
  | .nil => 1
  | .ptr d => uptoBulk d + 1
  | .slice elems spare => uptoBulkAll elems + uptoBulkAll spare + 1
  | .agg parts => uptoBulkAll parts + 1
  | .iface _ d => uptoBulk d + 1
  | .map entries => uptoBulkEntries entries + 1
  | .held _ => 1
def uptoBulkAll {H : Type} : List (DataW H) → Nat
  | [] => 0
  | d :: r => uptoBulk d + uptoBulkAll r
def uptoBulkEntries {H : Type} : List (Lit × DataW H) → Nat
  | [] => 0
  | x :: r => uptoBulkEntry x + uptoBulkEntries r
def uptoBulkEntry {H : Type} : Lit × DataW H → Nat
  | (.string bytes, d) => bytes.length + uptoBulk d + 1
  | (_, d) => uptoBulk d + 1
 end
def uptoSmall : (H : Type) → List (DataW H) → Bool := fun _ ds => decide (uptoBulkAll ds ≤ 1048576)
def OpenSpec.upto (s : _root_.Go.ChangeSpec) : _root_.Go.OpenSpec := { _root_.Go.OpenSpec.ofChange s with cond := some uptoSmall }

/-- 'laws.FnExactConstants', WHERE WHAT IT READS IS OF BULK AT MOST 1048576: true; the input reads as it did. -/
def fnExactConstantsUptoRow : OpenClaim := { program := "ytkhlhhpkleaphaa", sum := "1783d229e8bff3e8601750ed00182cc2300b76a451740dfc95e970b7c0fa65eb", func := "loop.example/g01098/laws.FnExactConstants", spec := "fnExactConstants", apart := false, narrowed := true }
def FnExactConstantsUptoSaid : Prop := fnExactConstantsUptoRow.holds Try.pinned (OpenSpec.upto fnExactConstantsSpec)

/-- 'laws.FnExactLeastFactor', WHERE WHAT IT READS IS OF BULK AT MOST 1048576: true; the input reads as it did. -/
def fnExactLeastFactorUptoRow : OpenClaim := { program := "ytkhlhhpkleaphaa", sum := "1783d229e8bff3e8601750ed00182cc2300b76a451740dfc95e970b7c0fa65eb", func := "loop.example/g01098/laws.FnExactLeastFactor", spec := "fnExactLeastFactor", apart := false, narrowed := true }
def FnExactLeastFactorUptoSaid : Prop := fnExactLeastFactorUptoRow.holds Try.pinned (OpenSpec.upto fnExactLeastFactorSpec)

/-- 'laws.FnExactBitLength', WHERE WHAT IT READS IS OF BULK AT MOST 1048576: true; the input reads as it did. -/
def fnExactBitLengthUptoRow : OpenClaim := { program := "ytkhlhhpkleaphaa", sum := "1783d229e8bff3e8601750ed00182cc2300b76a451740dfc95e970b7c0fa65eb", func := "loop.example/g01098/laws.FnExactBitLength", spec := "fnExactBitLength", apart := false, narrowed := true }
def FnExactBitLengthUptoSaid : Prop := fnExactBitLengthUptoRow.holds Try.pinned (OpenSpec.upto fnExactBitLengthSpec)

/-- 'laws.FnExactDigitsOf', WHERE WHAT IT READS IS OF BULK AT MOST 1048576: true; the input reads as it did. -/
def fnExactDigitsOfUptoRow : OpenClaim := { program := "ytkhlhhpkleaphaa", sum := "1783d229e8bff3e8601750ed00182cc2300b76a451740dfc95e970b7c0fa65eb", func := "loop.example/g01098/laws.FnExactDigitsOf", spec := "fnExactDigitsOf", apart := false, narrowed := true }
def FnExactDigitsOfUptoSaid : Prop := fnExactDigitsOfUptoRow.holds Try.pinned (OpenSpec.upto fnExactDigitsOfSpec)

/-- 'laws.FnExactDigitSum', WHERE WHAT IT READS IS OF BULK AT MOST 1048576: true; the input reads as it did. -/
def fnExactDigitSumUptoRow : OpenClaim := { program := "ytkhlhhpkleaphaa", sum := "1783d229e8bff3e8601750ed00182cc2300b76a451740dfc95e970b7c0fa65eb", func := "loop.example/g01098/laws.FnExactDigitSum", spec := "fnExactDigitSum", apart := false, narrowed := true }
def FnExactDigitSumUptoSaid : Prop := fnExactDigitSumUptoRow.holds Try.pinned (OpenSpec.upto fnExactDigitSumSpec)

/-- 'laws.FnExactCountStars', WHERE WHAT IT READS IS OF BULK AT MOST 1048576: true; the input reads as it did. -/
def fnExactCountStarsUptoRow : OpenClaim := { program := "ytkhlhhpkleaphaa", sum := "1783d229e8bff3e8601750ed00182cc2300b76a451740dfc95e970b7c0fa65eb", func := "loop.example/g01098/laws.FnExactCountStars", spec := "fnExactCountStars", unfollowed := true, recurses := true, apart := false, narrowed := true }
def FnExactCountStarsUptoSaid : Prop := fnExactCountStarsUptoRow.holds Try.pinned (OpenSpec.upto fnExactCountStarsSpec)

/-- 'laws.FnExactIsStarChain', WHERE WHAT IT READS IS OF BULK AT MOST 1048576: true; the input reads as it did. -/
def fnExactIsStarChainUptoRow : OpenClaim := { program := "ytkhlhhpkleaphaa", sum := "1783d229e8bff3e8601750ed00182cc2300b76a451740dfc95e970b7c0fa65eb", func := "loop.example/g01098/laws.FnExactIsStarChain", spec := "fnExactIsStarChain", apart := false, narrowed := true }
def FnExactIsStarChainUptoSaid : Prop := fnExactIsStarChainUptoRow.holds Try.pinned (OpenSpec.upto fnExactIsStarChainSpec)

/-- 'laws.FnExactIsChain', WHERE WHAT IT READS IS OF BULK AT MOST 1048576: true; the input reads as it did. -/
def fnExactIsChainUptoRow : OpenClaim := { program := "ytkhlhhpkleaphaa", sum := "1783d229e8bff3e8601750ed00182cc2300b76a451740dfc95e970b7c0fa65eb", func := "loop.example/g01098/laws.FnExactIsChain", spec := "fnExactIsChain", apart := false, narrowed := true }
def FnExactIsChainUptoSaid : Prop := fnExactIsChainUptoRow.holds Try.pinned (OpenSpec.upto fnExactIsChainSpec)

/-- 'laws.FnExactFromDigits', WHERE WHAT IT READS IS OF BULK AT MOST 1048576: true; the input reads as it did. -/
def fnExactFromDigitsUptoRow : OpenClaim := { program := "ytkhlhhpkleaphaa", sum := "1783d229e8bff3e8601750ed00182cc2300b76a451740dfc95e970b7c0fa65eb", func := "loop.example/g01098/laws.FnExactFromDigits", spec := "fnExactFromDigits", unfollowed := true, recurses := true, apart := false, narrowed := true }
def FnExactFromDigitsUptoSaid : Prop := fnExactFromDigitsUptoRow.holds Try.pinned (OpenSpec.upto fnExactFromDigitsSpec)

/-- 'laws.FnExactLiveStars', WHERE WHAT IT READS IS OF BULK AT MOST 1048576: true; the input reads as it did. -/
def fnExactLiveStarsUptoRow : OpenClaim := { program := "ytkhlhhpkleaphaa", sum := "1783d229e8bff3e8601750ed00182cc2300b76a451740dfc95e970b7c0fa65eb", func := "loop.example/g01098/laws.FnExactLiveStars", spec := "fnExactLiveStars", recurses := true, apart := false, narrowed := true }
def FnExactLiveStarsUptoSaid : Prop := fnExactLiveStarsUptoRow.holds Try.pinned (OpenSpec.upto fnExactLiveStarsSpec)

/-- 'laws.FnExactStarLength', WHERE WHAT IT READS IS OF BULK AT MOST 1048576: true; the input reads as it did. -/
def fnExactStarLengthUptoRow : OpenClaim := { program := "ytkhlhhpkleaphaa", sum := "1783d229e8bff3e8601750ed00182cc2300b76a451740dfc95e970b7c0fa65eb", func := "loop.example/g01098/laws.FnExactStarLength", spec := "fnExactStarLength", unfollowed := true, recurses := true, apart := false, narrowed := true }
def FnExactStarLengthUptoSaid : Prop := fnExactStarLengthUptoRow.holds Try.pinned (OpenSpec.upto fnExactStarLengthSpec)

/-- 'laws.FnExactCountSums', WHERE WHAT IT READS IS OF BULK AT MOST 1048576: true; the input reads as it did. -/
def fnExactCountSumsUptoRow : OpenClaim := { program := "ytkhlhhpkleaphaa", sum := "1783d229e8bff3e8601750ed00182cc2300b76a451740dfc95e970b7c0fa65eb", func := "loop.example/g01098/laws.FnExactCountSums", spec := "fnExactCountSums", apart := false, narrowed := true }
def FnExactCountSumsUptoSaid : Prop := fnExactCountSumsUptoRow.holds Try.pinned (OpenSpec.upto fnExactCountSumsSpec)

end Rows
end Go.Proofs.Ytkhlhhpkleaphaa

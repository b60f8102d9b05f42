/-
  No cell of these rows narrows 'for every input' (looked for: loops, veiled, ifaces, maps, wideKeys, modest, calm, conditions, laid).
  DERIVED. THE GIVEN ROWS OF THIS SEAT. 4 by the template 'for every input the law returns true; each argument reads behind the call as it read before'; 0 by the template 'total and deterministic' (their statements: YtbjmnneaflmgaaaTotals.lean).
  GIVEN WITH THE SEED: the statements are not yours to turn. If you find one false, say at which input.
  Laid BY PROGRAM, IN A SANDBOX (cutbox-rows.mjs): the forced cells as the released guide's own fill.sh prints them over the translation dff69436aabf1487… (all of the seat's roots in one cut). By AI agents, Wed Nov 11 2026. No macro, syntax, notation, axiom, sorry.
-/
import Derived.Test.YtbjmnneaflmgaaaChecked
import GoSem.Claim
import GoSem.ClaimJoined
import GoSem.ClaimMapViews
import Derived.JoinedTies
import Derived.KernelRfl
namespace Go.Proofs.Ytbjmnneaflmgaaa
/- THE CELL 'sum', in the pinned program and in every row, IS THE sha256 OF THE DUMP (.gsa) THAT YtbjmnneaflmgaaaProg.lean LOADS. Nothing in Lean hashes anything: it is a label: what it is worth is what the hold of that sum in a sandbox is worth. -/
noncomputable def Try.pinned : Pinned := { name := "ytbjmnneaflmgaaa", sum := "dff69436aabf148797dc48d4fb9dc1c14a3d2c885dedf6d1fa7b578fb4afbc17", checked := Try.checked }
namespace Rows
def none {H : Type} : Left H := { results := [], args := [] }

/-- 'laws.FnExactTreeChain': WHATEVER THE INPUT: true; the input reads as it did. -/
def fnExactTreeChainSpec : ChangeSpec := { name := "fnExactTreeChain", fn := fun _ => fun
  | [d] => { results := [.lit (.bool true)], args := [d] }
  | _ => none }
def fnExactTreeChainRow : OpenClaim := { program := "ytbjmnneaflmgaaa", sum := "dff69436aabf148797dc48d4fb9dc1c14a3d2c885dedf6d1fa7b578fb4afbc17", func := "loop.example/g01098/laws.FnExactTreeChain", spec := "fnExactTreeChain", apart := false }
def FnExactTreeChainSaid : Prop := fnExactTreeChainRow.holds Try.pinned (OpenSpec.ofChange fnExactTreeChainSpec)

/-- ITS FALSE NEIGHBOUR: 'it returns false'. Refute it at one input. -/
def fnExactTreeChainWrong : ChangeSpec := { name := "fnExactTreeChain", fn := fun _ => fun
  | [d] => { results := [.lit (.bool false)], args := [d] }
  | _ => none }
def FnExactTreeChainWrongFalsely : Prop := fnExactTreeChainRow.holds Try.pinned (OpenSpec.ofChange fnExactTreeChainWrong)

/-- 'laws.FnExactTreeParent': WHATEVER THE INPUT: true; the input reads as it did. -/
def fnExactTreeParentSpec : ChangeSpec := { name := "fnExactTreeParent", fn := fun _ => fun
  | [d] => { results := [.lit (.bool true)], args := [d] }
  | _ => none }
def fnExactTreeParentRow : OpenClaim := { program := "ytbjmnneaflmgaaa", sum := "dff69436aabf148797dc48d4fb9dc1c14a3d2c885dedf6d1fa7b578fb4afbc17", func := "loop.example/g01098/laws.FnExactTreeParent", spec := "fnExactTreeParent", apart := false }
def FnExactTreeParentSaid : Prop := fnExactTreeParentRow.holds Try.pinned (OpenSpec.ofChange fnExactTreeParentSpec)

/-- ITS FALSE NEIGHBOUR: 'it returns false'. Refute it at one input. -/
def fnExactTreeParentWrong : ChangeSpec := { name := "fnExactTreeParent", fn := fun _ => fun
  | [d] => { results := [.lit (.bool false)], args := [d] }
  | _ => none }
def FnExactTreeParentWrongFalsely : Prop := fnExactTreeParentRow.holds Try.pinned (OpenSpec.ofChange fnExactTreeParentWrong)

/-- 'laws.FnTreeOfPowers': WHATEVER THE INPUT: true; the input reads as it did. -/
def fnTreeOfPowersSpec : ChangeSpec := { name := "fnTreeOfPowers", fn := fun _ => fun
  | [d1, d2] => { results := [.lit (.bool true)], args := [d1, d2] }
  | _ => none }
def fnTreeOfPowersRow : OpenClaim := { program := "ytbjmnneaflmgaaa", sum := "dff69436aabf148797dc48d4fb9dc1c14a3d2c885dedf6d1fa7b578fb4afbc17", func := "loop.example/g01098/laws.FnTreeOfPowers", spec := "fnTreeOfPowers", apart := false }
def FnTreeOfPowersSaid : Prop := fnTreeOfPowersRow.holds Try.pinned (OpenSpec.ofChange fnTreeOfPowersSpec)

/-- ITS FALSE NEIGHBOUR: 'it returns false'. Refute it at one input. -/
def fnTreeOfPowersWrong : ChangeSpec := { name := "fnTreeOfPowers", fn := fun _ => fun
  | [d1, d2] => { results := [.lit (.bool false)], args := [d1, d2] }
  | _ => none }
def FnTreeOfPowersWrongFalsely : Prop := fnTreeOfPowersRow.holds Try.pinned (OpenSpec.ofChange fnTreeOfPowersWrong)

/-- 'laws.FnDigitsMakeNumbers': WHATEVER THE INPUT: true; the input reads as it did. -/
def fnDigitsMakeNumbersSpec : ChangeSpec := { name := "fnDigitsMakeNumbers", fn := fun _ => fun
  | [d1, d2] => { results := [.lit (.bool true)], args := [d1, d2] }
  | _ => none }
def fnDigitsMakeNumbersRow : OpenClaim := { program := "ytbjmnneaflmgaaa", sum := "dff69436aabf148797dc48d4fb9dc1c14a3d2c885dedf6d1fa7b578fb4afbc17", func := "loop.example/g01098/laws.FnDigitsMakeNumbers", spec := "fnDigitsMakeNumbers", unfollowed := true, recurses := true, apart := false }
def FnDigitsMakeNumbersSaid : Prop := fnDigitsMakeNumbersRow.holds Try.pinned (OpenSpec.ofChange fnDigitsMakeNumbersSpec)

/-- ITS FALSE NEIGHBOUR: 'it returns false'. Refute it at one input. -/
def fnDigitsMakeNumbersWrong : ChangeSpec := { name := "fnDigitsMakeNumbers", fn := fun _ => fun
  | [d1, d2] => { results := [.lit (.bool false)], args := [d1, d2] }
  | _ => none }
def FnDigitsMakeNumbersWrongFalsely : Prop := fnDigitsMakeNumbersRow.holds Try.pinned (OpenSpec.ofChange fnDigitsMakeNumbersWrong)

/- THE SECOND FORM. 'bulk': how many values and letters a reading holds, each counted each time it is reached (what is shared counts as often as it is met; a slice's spare places count too). A statement '..UptoSaid' is the law's where the arguments, and the package variables that the reading takes, are together of bulk at most 1048576: NARROWER than '..Said'. Prove '..Said' where nothing that the law and all that it calls make is longer than what came in: it says more and counts as full. Else prove '..UptoSaid'. A law counts once. -/
mutual
def uptoBulk {H : Type} : DataW H → Nat
  | .lit (.string bytes) => bytes.length + 1
  | .lit _ => 1
  | .nil => 1
  | .ptr d => uptoBulk d + 1
  | .slice elems spare => uptoBulkAll elems + uptoBulkAll spare + 1
  | .agg parts => uptoBulkAll parts + 1
  | .iface _ d => uptoBulk d + 1
  | .map entries => uptoBulkEntries entries + 1
  | .held _ => 1
def uptoBulkAll {H : Type} : List (DataW H) → Nat
  | [] => 0
  | d :: r => uptoBulk d + uptoBulkAll r
def uptoBulkEntries {H : Type} : List (Lit × DataW H) → Nat
  | [] => 0
  | x :: r => uptoBulkEntry x + uptoBulkEntries r
def uptoBulkEntry {H : Type} : Lit × DataW H → Nat
  | (.string bytes, d) => bytes.length + uptoBulk d + 1
  | (_, d) => uptoBulk d + 1
 end
def uptoSmall : (H : Type) → List (DataW H) → Bool := fun _ ds => decide (uptoBulkAll ds ≤ 1048576)
def OpenSpec.upto (s : _root_.Go.ChangeSpec) : _root_.Go.OpenSpec := { _root_.Go.OpenSpec.ofChange s with cond := some uptoSmall }

/-- 'laws.FnExactTreeChain', WHERE WHAT IT READS IS OF BULK AT MOST 1048576: true; the input reads as it did. -/
def fnExactTreeChainUptoRow : OpenClaim := { program := "ytbjmnneaflmgaaa", sum := "dff69436aabf148797dc48d4fb9dc1c14a3d2c885dedf6d1fa7b578fb4afbc17", func := "loop.example/g01098/laws.FnExactTreeChain", spec := "fnExactTreeChain", apart := false, narrowed := true }
def FnExactTreeChainUptoSaid : Prop := fnExactTreeChainUptoRow.holds Try.pinned (OpenSpec.upto fnExactTreeChainSpec)

/-- 'laws.FnExactTreeParent', WHERE WHAT IT READS IS OF BULK AT MOST 1048576: true; the input reads as it did. -/
def fnExactTreeParentUptoRow : OpenClaim := { program := "ytbjmnneaflmgaaa", sum := "dff69436aabf148797dc48d4fb9dc1c14a3d2c885dedf6d1fa7b578fb4afbc17", func := "loop.example/g01098/laws.FnExactTreeParent", spec := "fnExactTreeParent", apart := false, narrowed := true }
def FnExactTreeParentUptoSaid : Prop := fnExactTreeParentUptoRow.holds Try.pinned (OpenSpec.upto fnExactTreeParentSpec)

/-- 'laws.FnTreeOfPowers', WHERE WHAT IT READS IS OF BULK AT MOST 1048576: true; the input reads as it did. -/
def fnTreeOfPowersUptoRow : OpenClaim := { program := "ytbjmnneaflmgaaa", sum := "dff69436aabf148797dc48d4fb9dc1c14a3d2c885dedf6d1fa7b578fb4afbc17", func := "loop.example/g01098/laws.FnTreeOfPowers", spec := "fnTreeOfPowers", apart := false, narrowed := true }
def FnTreeOfPowersUptoSaid : Prop := fnTreeOfPowersUptoRow.holds Try.pinned (OpenSpec.upto fnTreeOfPowersSpec)

/-- 'laws.FnDigitsMakeNumbers', WHERE WHAT IT READS IS OF BULK AT MOST 1048576: true; the input reads as it did. -/
def fnDigitsMakeNumbersUptoRow : OpenClaim := { program := "ytbjmnneaflmgaaa", sum := "dff69436aabf148797dc48d4fb9dc1c14a3d2c885dedf6d1fa7b578fb4afbc17", func := "loop.example/g01098/laws.FnDigitsMakeNumbers", spec := "fnDigitsMakeNumbers", unfollowed := true, recurses := true, apart := false, narrowed := true }
def FnDigitsMakeNumbersUptoSaid : Prop := fnDigitsMakeNumbersUptoRow.holds Try.pinned (OpenSpec.upto fnDigitsMakeNumbersSpec)

end Rows
end Go.Proofs.Ytbjmnneaflmgaaa

/-
  No cell of these rows narrows 'for every input' (looked for: loops, veiled, ifaces, maps, wideKeys, modest, calm, conditions, laid).
  DERIVED. THE GIVEN ROWS OF THIS SEAT. 3 by the template 'for every input the law returns true; each argument reads behind the call as it read before'; 0 by the template 'total and deterministic' (their statements: YtlefjgpkabijdaaTotals.lean).
  GIVEN WITH THE SEED: the statements are not yours to turn. If you find one false, say at which input.
  Laid BY PROGRAM, IN A SANDBOX (cutbox-rows.mjs): the forced cells as the released guide's own fill.sh prints them over the translation bf42c3dd4b734565… (all of the seat's roots in one cut). By AI agents, Wed Nov 11 2026. No macro, syntax, notation, axiom, sorry.
-/
import Derived.Test.YtlefjgpkabijdaaChecked
import GoSem.Claim
import GoSem.ClaimJoined
import GoSem.ClaimMapViews
import Derived.JoinedTies
import Derived.KernelRfl
namespace Go.Proofs.Ytlefjgpkabijdaa
/- THE CELL 'sum', in the pinned program and in every row, IS THE sha256 OF THE DUMP (.gsa) THAT YtlefjgpkabijdaaProg.lean LOADS. Nothing in Lean hashes anything: it is a label: what it is worth is what the hold of that sum in a sandbox is worth. -/
noncomputable def Try.pinned : Pinned := { name := "ytlefjgpkabijdaa", sum := "bf42c3dd4b734565297e03fa15c664e1debed0351d2cf6944555d6cb0453e706", checked := Try.checked }
namespace Rows
def none {H : Type} : Left H := { results := [], args := [] }

/-- 'laws.FnNeededParts': WHATEVER THE INPUT: true; the input reads as it did. -/
def fnNeededPartsSpec : ChangeSpec := { name := "fnNeededParts", fn := fun _ => fun
  | [d1, d2] => { results := [.lit (.bool true)], args := [d1, d2] }
  | _ => none }
def fnNeededPartsRow : OpenClaim := { program := "ytlefjgpkabijdaa", sum := "bf42c3dd4b734565297e03fa15c664e1debed0351d2cf6944555d6cb0453e706", func := "loop.example/g01098/laws.FnNeededParts", spec := "fnNeededParts", inPlace := ["slices.overlaps[int]"], unfollowed := true, recurses := true, apart := false }
def FnNeededPartsSaid : Prop := fnNeededPartsRow.holds Try.pinned (OpenSpec.ofChange fnNeededPartsSpec)

/-- ITS FALSE NEIGHBOUR: 'it returns false'. Refute it at one input. -/
def fnNeededPartsWrong : ChangeSpec := { name := "fnNeededParts", fn := fun _ => fun
  | [d1, d2] => { results := [.lit (.bool false)], args := [d1, d2] }
  | _ => none }
def FnNeededPartsWrongFalsely : Prop := fnNeededPartsRow.holds Try.pinned (OpenSpec.ofChange fnNeededPartsWrong)

/-- 'laws.FnChainsTogether': WHATEVER THE INPUT: true; the input reads as it did. -/
def fnChainsTogetherSpec : ChangeSpec := { name := "fnChainsTogether", fn := fun _ => fun
  | [d1, d2] => { results := [.lit (.bool true)], args := [d1, d2] }
  | _ => none }
def fnChainsTogetherRow : OpenClaim := { program := "ytlefjgpkabijdaa", sum := "bf42c3dd4b734565297e03fa15c664e1debed0351d2cf6944555d6cb0453e706", func := "loop.example/g01098/laws.FnChainsTogether", spec := "fnChainsTogether", unfollowed := true, recurses := true, apart := false }
def FnChainsTogetherSaid : Prop := fnChainsTogetherRow.holds Try.pinned (OpenSpec.ofChange fnChainsTogetherSpec)

/-- ITS FALSE NEIGHBOUR: 'it returns false'. Refute it at one input. -/
def fnChainsTogetherWrong : ChangeSpec := { name := "fnChainsTogether", fn := fun _ => fun
  | [d1, d2] => { results := [.lit (.bool false)], args := [d1, d2] }
  | _ => none }
def FnChainsTogetherWrongFalsely : Prop := fnChainsTogetherRow.holds Try.pinned (OpenSpec.ofChange fnChainsTogetherWrong)

/-- 'laws.FnScaledChains': WHATEVER THE INPUT: true; the input reads as it did. -/
def fnScaledChainsSpec : ChangeSpec := { name := "fnScaledChains", fn := fun _ => fun
  | [d1, d2] => { results := [.lit (.bool true)], args := [d1, d2] }
  | _ => none }
def fnScaledChainsRow : OpenClaim := { program := "ytlefjgpkabijdaa", sum := "bf42c3dd4b734565297e03fa15c664e1debed0351d2cf6944555d6cb0453e706", func := "loop.example/g01098/laws.FnScaledChains", spec := "fnScaledChains", unfollowed := true, recurses := true, apart := false }
def FnScaledChainsSaid : Prop := fnScaledChainsRow.holds Try.pinned (OpenSpec.ofChange fnScaledChainsSpec)

/-- ITS FALSE NEIGHBOUR: 'it returns false'. Refute it at one input. -/
def fnScaledChainsWrong : ChangeSpec := { name := "fnScaledChains", fn := fun _ => fun
  | [d1, d2] => { results := [.lit (.bool false)], args := [d1, d2] }
  | _ => none }
def FnScaledChainsWrongFalsely : Prop := fnScaledChainsRow.holds Try.pinned (OpenSpec.ofChange fnScaledChainsWrong)

/- THE SECOND FORM. 'bulk': how many values and letters a reading holds, each counted each time it is reached (what is shared counts as often as it is met; a slice's spare places count too). A statement '..UptoSaid' is the law's where the arguments, and the package variables that the reading takes, are together of bulk at most 1048576: NARROWER than '..Said'. Prove '..Said' where nothing that the law and all that it calls make is longer than what came in: it says more and counts as full. Else prove '..UptoSaid'. A law counts once. -/
mutual
def uptoBulk {H : Type} : DataW H → Nat
  | .lit (.string bytes) => bytes.length + 1
  | .lit _ => 1
  | .nil => 1
  | .ptr d => uptoBulk d + 1
  | .slice elems spare => uptoBulkAll elems + uptoBulkAll spare + 1
  | .agg parts => uptoBulkAll parts + 1
  | .iface _ d => uptoBulk d + 1
  | .map entries => uptoBulkEntries entries + 1
  | .held _ => 1
def uptoBulkAll {H : Type} : List (DataW H) → Nat
  | [] => 0
  | d :: r => uptoBulk d + uptoBulkAll r
def uptoBulkEntries {H : Type} : List (Lit × DataW H) → Nat
  | [] => 0
  | x :: r => uptoBulkEntry x + uptoBulkEntries r
def uptoBulkEntry {H : Type} : Lit × DataW H → Nat
  | (.string bytes, d) => bytes.length + uptoBulk d + 1
  | (_, d) => uptoBulk d + 1
 end
def uptoSmall : (H : Type) → List (DataW H) → Bool := fun _ ds => decide (uptoBulkAll ds ≤ 1048576)
def OpenSpec.upto (s : _root_.Go.ChangeSpec) : _root_.Go.OpenSpec := { _root_.Go.OpenSpec.ofChange s with cond := some uptoSmall }

/-- 'laws.FnNeededParts', WHERE WHAT IT READS IS OF BULK AT MOST 1048576: true; the input reads as it did. -/
def fnNeededPartsUptoRow : OpenClaim := { program := "ytlefjgpkabijdaa", sum := "bf42c3dd4b734565297e03fa15c664e1debed0351d2cf6944555d6cb0453e706", func := "loop.example/g01098/laws.FnNeededParts", spec := "fnNeededParts", inPlace := ["slices.overlaps[int]"], unfollowed := true, recurses := true, apart := false, narrowed := true }
def FnNeededPartsUptoSaid : Prop := fnNeededPartsUptoRow.holds Try.pinned (OpenSpec.upto fnNeededPartsSpec)

/-- 'laws.FnChainsTogether', WHERE WHAT IT READS IS OF BULK AT MOST 1048576: true; the input reads as it did. -/
def fnChainsTogetherUptoRow : OpenClaim := { program := "ytlefjgpkabijdaa", sum := "bf42c3dd4b734565297e03fa15c664e1debed0351d2cf6944555d6cb0453e706", func := "loop.example/g01098/laws.FnChainsTogether", spec := "fnChainsTogether", unfollowed := true, recurses := true, apart := false, narrowed := true }
def FnChainsTogetherUptoSaid : Prop := fnChainsTogetherUptoRow.holds Try.pinned (OpenSpec.upto fnChainsTogetherSpec)

/-- 'laws.FnScaledChains', WHERE WHAT IT READS IS OF BULK AT MOST 1048576: true; the input reads as it did. -/
def fnScaledChainsUptoRow : OpenClaim := { program := "ytlefjgpkabijdaa", sum := "bf42c3dd4b734565297e03fa15c664e1debed0351d2cf6944555d6cb0453e706", func := "loop.example/g01098/laws.FnScaledChains", spec := "fnScaledChains", unfollowed := true, recurses := true, apart := false, narrowed := true }
def FnScaledChainsUptoSaid : Prop := fnScaledChainsUptoRow.holds Try.pinned (OpenSpec.upto fnScaledChainsSpec)

end Rows
end Go.Proofs.Ytlefjgpkabijdaa

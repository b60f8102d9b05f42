/-
  DERIVED. GIVEN WITH THE SEED: THE CARDS: each row of YtlefjgpkabijdaaDoorRows.lean that lists a variable, with what it lists TIED to the program's text (the seventh form; the later family's looks); each row that meets fmt, with fmt's text TOLD by the authors' own Lean function (tested against real Go, not proved from fmt's source: count such statements apart). THE CARD IS WHAT COUNTS. Prove the row's statement (the work); the ties are given (YtlefjgpkabijdaaDoorTie.lean); close each card by the builder's one call (the guide's Derived/Test/ToyasCard.lean, 'card_holds'). Laid BY PROGRAM, IN A SANDBOX (cutbox-door.mjs). By AI agents, Wed Nov 11 2026. No macro, syntax, notation, axiom, sorry.
-/
import Derived.Test.YtlefjgpkabijdaaDoorRows
import GoSem.ClaimSeven
namespace Go.Proofs.YtlefjgpkabijdaaDoor
namespace Rows

/-- THE TIED CARD OF 'laws.FnExactChainText'. -/
def fnExactChainTextCard : Claim7 := { stood := { row := fnExactChainTextRow, standIns := [], harness := (true, "e2bfec89113db9aea3f1208006a24652e2ee1e7d554dddfd16dbae91d86621fb"), looks := true }, kinds := [], alts := [], laidByText := true, laidKinds := [.data, .data, .data], laidTests := true, laidLooks := .later }
def FnExactChainTextCardSaid : Prop := Claim7.holds Tryd.pinned (.plain (OpenSpec.ofChange fnExactChainTextSpec)) fnExactChainTextCard

/-- THE TIED CARD OF 'laws.FnExactParseChain'. -/
def fnExactParseChainCard : Claim7 := { stood := { row := fnExactParseChainRow, standIns := [], harness := (true, "e2bfec89113db9aea3f1208006a24652e2ee1e7d554dddfd16dbae91d86621fb"), looks := true }, kinds := [], alts := [], laidByText := true, laidKinds := [.data, .data, .data, .data, .sentinel, .sentinel, .pinned], laidTests := true, laidLooks := .later }
def FnExactParseChainCardSaid : Prop := Claim7.holds Tryd.pinned (.plain (OpenSpec.ofChange fnExactParseChainSpec)) fnExactParseChainCard

/-- THE SECOND FORM's CARD OF 'laws.FnExactChainText'. -/
def fnExactChainTextUptoCard : Claim7 := { stood := { row := fnExactChainTextUptoRow, standIns := [], harness := (true, "e2bfec89113db9aea3f1208006a24652e2ee1e7d554dddfd16dbae91d86621fb"), looks := true }, kinds := [], alts := [], laidByText := true, laidKinds := [.data, .data, .data], laidTests := true, laidLooks := .later }
def FnExactChainTextUptoCardSaid : Prop := Claim7.holds Tryd.pinned (.plain (OpenSpec.upto fnExactChainTextSpec)) fnExactChainTextUptoCard

/-- THE SECOND FORM's CARD OF 'laws.FnExactParseChain'. -/
def fnExactParseChainUptoCard : Claim7 := { stood := { row := fnExactParseChainUptoRow, standIns := [], harness := (true, "e2bfec89113db9aea3f1208006a24652e2ee1e7d554dddfd16dbae91d86621fb"), looks := true }, kinds := [], alts := [], laidByText := true, laidKinds := [.data, .data, .data, .data, .sentinel, .sentinel, .pinned], laidTests := true, laidLooks := .later }
def FnExactParseChainUptoCardSaid : Prop := Claim7.holds Tryd.pinned (.plain (OpenSpec.upto fnExactParseChainSpec)) fnExactParseChainUptoCard
end Rows
end Go.Proofs.YtlefjgpkabijdaaDoor

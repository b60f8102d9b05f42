/-
  DERIVED. GIVEN WITH THE SEED: THE CARDS: each row of YtlefjgpkabijdaaGreatDoorRows.lean that lists a variable, with what it lists TIED to the program's text (the seventh form; the later family's looks); each row that meets fmt, with fmt's text TOLD by the authors' own Lean function (tested against real Go, not proved from fmt's source: count such statements apart). THE CARD IS WHAT COUNTS. Prove the row's statement (the work); the ties are given (YtlefjgpkabijdaaGreatDoorTie.lean); close each card by the builder's one call (the guide's Derived/Test/ToyasCard.lean, 'card_holds'). Laid BY PROGRAM, IN A SANDBOX (cutbox-door.mjs). By AI agents, Wed Nov 11 2026. No macro, syntax, notation, axiom, sorry.
-/
import Derived.Test.YtlefjgpkabijdaaGreatDoorRows
import GoSem.ClaimSeven
namespace Go.Proofs.YtlefjgpkabijdaaGreatDoor
namespace Rows

/-- THE TIED CARD OF 'laws.FnChainsArePlans'. -/
def fnChainsArePlansCard : Claim7 := { stood := { row := fnChainsArePlansRow, standIns := [], harness := (true, "c6bef1062a44f38e76021bb030200142b4256bfd030b0a914215da94bcd452ed"), looks := true }, kinds := [], alts := [], laidByText := true, laidKinds := [.data, .data, .data, .data, .sentinel, .sentinel, .pinned], laidTests := true, laidLooks := .later }
def FnChainsArePlansCardSaid : Prop := Claim7.holds Tryz.pinned (.plain (OpenSpec.ofChange fnChainsArePlansSpec)) fnChainsArePlansCard

/-- THE SECOND FORM's CARD OF 'laws.FnChainsArePlans'. -/
def fnChainsArePlansUptoCard : Claim7 := { stood := { row := fnChainsArePlansUptoRow, standIns := [], harness := (true, "c6bef1062a44f38e76021bb030200142b4256bfd030b0a914215da94bcd452ed"), looks := true }, kinds := [], alts := [], laidByText := true, laidKinds := [.data, .data, .data, .data, .sentinel, .sentinel, .pinned], laidTests := true, laidLooks := .later }
def FnChainsArePlansUptoCardSaid : Prop := Claim7.holds Tryz.pinned (.plain (OpenSpec.upto fnChainsArePlansSpec)) fnChainsArePlansUptoCard
end Rows
end Go.Proofs.YtlefjgpkabijdaaGreatDoor

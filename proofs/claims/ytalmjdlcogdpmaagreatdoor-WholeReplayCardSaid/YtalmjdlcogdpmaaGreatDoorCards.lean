/-
  DERIVED. GIVEN WITH THE SEED: THE CARDS: each row of YtalmjdlcogdpmaaGreatDoorRows.lean that lists a variable, with what it lists TIED to the program's text (the seventh form; the later family's looks); each row that meets fmt, with fmt's text TOLD by the authors' own Lean function (tested against real Go, not proved from fmt's source: count such statements apart). THE CARD IS WHAT COUNTS. Prove the row's statement (the work); the ties are given (YtalmjdlcogdpmaaGreatDoorTie.lean); close each card by the builder's one call (the guide's Derived/Test/ToyasCard.lean, 'card_holds'). Laid BY PROGRAM, IN A SANDBOX (cutbox-door.mjs). By AI agents, Wed Nov 11 2026. No macro, syntax, notation, axiom, sorry.
-/
import Derived.Test.YtalmjdlcogdpmaaGreatDoorRows
import GoSem.ClaimSeven
namespace Go.Proofs.YtalmjdlcogdpmaaGreatDoor
namespace Rows

/-- THE TIED CARD OF 'isochrontop.WholeReplay'. -/
def wholeReplayCard : Claim7 := { stood := { row := wholeReplayRow, standIns := [], harness := (true, "c2b1ce41ca0e613a91e6e0e38db34e8222cd7ea543687335c82d12e9fb1ddda9"), looks := true }, kinds := [], alts := [], laidByText := true, laidKinds := [.handle], laidTests := true, laidLooks := .later }
def WholeReplayCardSaid : Prop := Claim7.holds Tryz.pinned (.plain (OpenSpec.ofChange wholeReplaySpec)) wholeReplayCard

/-- THE SECOND FORM's CARD OF 'isochrontop.WholeReplay'. -/
def wholeReplayUptoCard : Claim7 := { stood := { row := wholeReplayUptoRow, standIns := [], harness := (true, "c2b1ce41ca0e613a91e6e0e38db34e8222cd7ea543687335c82d12e9fb1ddda9"), looks := true }, kinds := [], alts := [], laidByText := true, laidKinds := [.handle], laidTests := true, laidLooks := .later }
def WholeReplayUptoCardSaid : Prop := Claim7.holds Tryz.pinned (.plain (OpenSpec.upto wholeReplaySpec)) wholeReplayUptoCard
end Rows
end Go.Proofs.YtalmjdlcogdpmaaGreatDoor

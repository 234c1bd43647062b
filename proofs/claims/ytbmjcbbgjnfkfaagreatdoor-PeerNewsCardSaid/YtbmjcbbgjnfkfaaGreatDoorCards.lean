/-
  DERIVED. GIVEN WITH THE SEED: THE CARDS: each row of YtbmjcbbgjnfkfaaGreatDoorRows.lean that lists a variable, with what it lists TIED to the program's text (the seventh form; the later family's looks); each row that meets fmt, with fmt's text TOLD by the authors' own Lean function (tested against real Go, not proved from fmt's source: count such statements apart). THE CARD IS WHAT COUNTS. Prove the row's statement (the work); the ties are given (YtbmjcbbgjnfkfaaGreatDoorTie.lean); close each card by the builder's one call (the guide's Derived/Test/ToyasCard.lean, 'card_holds'). Laid BY PROGRAM, IN A SANDBOX (cutbox-door.mjs). By AI agents, Wed Nov 11 2026. No macro, syntax, notation, axiom, sorry.
-/
import Derived.Test.YtbmjcbbgjnfkfaaGreatDoorRows
import GoSem.ClaimSeven
namespace Go.Proofs.YtbmjcbbgjnfkfaaGreatDoor
namespace Rows

/-- THE TIED CARD OF 'torrentlaw17.PeerNews'. -/
def peerNewsCard : Claim7 := { stood := { row := peerNewsRow, standIns := [], harness := (true, "ef50be1638684cb06a7c8329e92f740c1717e01036fe5a4e08e5e8208896f5b7"), looks := false }, kinds := [], alts := [], laidByText := true, laidKinds := [.data], laidTests := true, laidLooks := .later }
def PeerNewsCardSaid : Prop := Claim7.holds Tryz.pinned (.plain (OpenSpec.ofChange peerNewsSpec)) peerNewsCard

/-- THE SECOND FORM's CARD OF 'torrentlaw17.PeerNews'. -/
def peerNewsUptoCard : Claim7 := { stood := { row := peerNewsUptoRow, standIns := [], harness := (true, "ef50be1638684cb06a7c8329e92f740c1717e01036fe5a4e08e5e8208896f5b7"), looks := false }, kinds := [], alts := [], laidByText := true, laidKinds := [.data], laidTests := true, laidLooks := .later }
def PeerNewsUptoCardSaid : Prop := Claim7.holds Tryz.pinned (.plain (OpenSpec.upto peerNewsSpec)) peerNewsUptoCard
end Rows
end Go.Proofs.YtbmjcbbgjnfkfaaGreatDoor

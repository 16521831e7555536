/-
  DERIVED. GIVEN WITH THE SEED: THE CARDS: each row of YtppcobdghedkgaaGreatDoorRows.lean that lists a variable, with what it lists TIED to the program's text (the seventh form; the later family's looks); each row that meets fmt, with fmt's text TOLD by the authors' own Lean function (tested against real Go, not proved from fmt's source: count such statements apart). THE CARD IS WHAT COUNTS. Prove the row's statement (the work); the ties are given (YtppcobdghedkgaaGreatDoorTie.lean); close each card by the builder's one call (the guide's Derived/Test/ToyasCard.lean, 'card_holds'). Laid BY PROGRAM, IN A SANDBOX (cutbox-door.mjs). By AI agents, Wed Nov 11 2026. No macro, syntax, notation, axiom, sorry.
-/
import Derived.Test.YtppcobdghedkgaaGreatDoorRows
import GoSem.ClaimSeven
namespace Go.Proofs.YtppcobdghedkgaaGreatDoor
namespace Rows

/-- THE TIED CARD OF 'keystonelaw14.SlowReckons'. -/
def slowReckonsCard : Claim7 := { stood := { row := slowReckonsRow, standIns := [], harness := (true, "43a98ac7ea08b18964704f70efeed1033267e2e980e7503427636fe54701ed3b"), looks := true }, kinds := [], alts := [], laidByText := true, laidKinds := [.data, .handle, .pinned], laidTests := true, laidLooks := .later }
def SlowReckonsCardSaid : Prop := Claim7.holds Tryz.pinned (.plain (OpenSpec.ofChange slowReckonsSpec)) slowReckonsCard

/-- THE SECOND FORM's CARD OF 'keystonelaw14.SlowReckons'. -/
def slowReckonsUptoCard : Claim7 := { stood := { row := slowReckonsUptoRow, standIns := [], harness := (true, "43a98ac7ea08b18964704f70efeed1033267e2e980e7503427636fe54701ed3b"), looks := true }, kinds := [], alts := [], laidByText := true, laidKinds := [.data, .handle, .pinned], laidTests := true, laidLooks := .later }
def SlowReckonsUptoCardSaid : Prop := Claim7.holds Tryz.pinned (.plain (OpenSpec.upto slowReckonsSpec)) slowReckonsUptoCard
end Rows
end Go.Proofs.YtppcobdghedkgaaGreatDoor

/-
  DERIVED. GIVEN WITH THE SEED: THE CARDS: each row of YtpalciklgbabeaaGreatDoorRows.lean that lists a variable, with what it lists TIED to the program's text (the seventh form; the later family's looks); each row that meets fmt, with fmt's text TOLD by the authors' own Lean function (tested against real Go, not proved from fmt's source: count such statements apart). THE CARD IS WHAT COUNTS. Prove the row's statement (the work); the ties are given (YtpalciklgbabeaaGreatDoorTie.lean); close each card by the builder's one call (the guide's Derived/Test/ToyasCard.lean, 'card_holds'). Laid BY PROGRAM, IN A SANDBOX (cutbox-door.mjs). By AI agents, Wed Nov 11 2026. No macro, syntax, notation, axiom, sorry.
-/
import Derived.Test.YtpalciklgbabeaaGreatDoorRows
import GoSem.ClaimSeven
namespace Go.Proofs.YtpalciklgbabeaaGreatDoor
namespace Rows

/-- THE TIED CARD OF 'keystonelaw9.StepEffects'. -/
def stepEffectsCard : Claim7 := { stood := { row := stepEffectsRow, standIns := [], harness := (true, "7f3fdfcadee9000e31ea652b6bb3a76b25de209ffe07a31f02ab8af684cf41fe"), looks := true }, kinds := [], alts := [], laidByText := true, laidKinds := [.data, .handle, .pinned], laidTests := true, laidLooks := .later }
def StepEffectsCardSaid : Prop := Claim7.holds Tryz.pinned (.plain (OpenSpec.ofChange stepEffectsSpec)) stepEffectsCard

/-- THE TIED CARD OF 'keystonelaw9.StepShuffles'. -/
def stepShufflesCard : Claim7 := { stood := { row := stepShufflesRow, standIns := [], harness := (true, "7f3fdfcadee9000e31ea652b6bb3a76b25de209ffe07a31f02ab8af684cf41fe"), looks := true }, kinds := [], alts := [], laidByText := true, laidKinds := [.data, .handle, .pinned], laidTests := true, laidLooks := .later }
def StepShufflesCardSaid : Prop := Claim7.holds Tryz.pinned (.plain (OpenSpec.ofChange stepShufflesSpec)) stepShufflesCard

/-- THE SECOND FORM's CARD OF 'keystonelaw9.StepEffects'. -/
def stepEffectsUptoCard : Claim7 := { stood := { row := stepEffectsUptoRow, standIns := [], harness := (true, "7f3fdfcadee9000e31ea652b6bb3a76b25de209ffe07a31f02ab8af684cf41fe"), looks := true }, kinds := [], alts := [], laidByText := true, laidKinds := [.data, .handle, .pinned], laidTests := true, laidLooks := .later }
def StepEffectsUptoCardSaid : Prop := Claim7.holds Tryz.pinned (.plain (OpenSpec.upto stepEffectsSpec)) stepEffectsUptoCard

/-- THE SECOND FORM's CARD OF 'keystonelaw9.StepShuffles'. -/
def stepShufflesUptoCard : Claim7 := { stood := { row := stepShufflesUptoRow, standIns := [], harness := (true, "7f3fdfcadee9000e31ea652b6bb3a76b25de209ffe07a31f02ab8af684cf41fe"), looks := true }, kinds := [], alts := [], laidByText := true, laidKinds := [.data, .handle, .pinned], laidTests := true, laidLooks := .later }
def StepShufflesUptoCardSaid : Prop := Claim7.holds Tryz.pinned (.plain (OpenSpec.upto stepShufflesSpec)) stepShufflesUptoCard
end Rows
end Go.Proofs.YtpalciklgbabeaaGreatDoor

/-
  DERIVED. GIVEN WITH THE SEED: THE CARDS: each row of YtkngccfjaelcgaaGreatDoorRows.lean that lists a variable, with what it lists TIED to the program's text (the seventh form; the later family's looks); each row that meets fmt, with fmt's text TOLD by the authors' own Lean function (tested against real Go, not proved from fmt's source: count such statements apart). THE CARD IS WHAT COUNTS. Prove the row's statement (the work); the ties are given (YtkngccfjaelcgaaGreatDoorTie.lean); close each card by the builder's one call (the guide's Derived/Test/ToyasCard.lean, 'card_holds'). Laid BY PROGRAM, IN A SANDBOX (cutbox-door.mjs). By AI agents, Wed Nov 11 2026. No macro, syntax, notation, axiom, sorry.
-/
import Derived.Test.YtkngccfjaelcgaaGreatDoorRows
import GoSem.ClaimSeven
namespace Go.Proofs.YtkngccfjaelcgaaGreatDoor
namespace Rows

/-- THE TIED CARD OF 'keystonelaw14.SlowFields'. -/
def slowFieldsCard : Claim7 := { stood := { row := slowFieldsRow, standIns := [], harness := (true, "1617b7fd22ef0458b7ada3e3be241431cc6835ccfa302818f5b85a9d09f534d0"), looks := true }, kinds := [], alts := [], laidByText := true, laidKinds := [.data, .handle, .pinned], laidTests := true, laidLooks := .later }
def SlowFieldsCardSaid : Prop := Claim7.holds Tryz.pinned (.plain (OpenSpec.ofChange slowFieldsSpec)) slowFieldsCard

/-- THE TIED CARD OF 'keystonelaw14.SlowDeep'. -/
def slowDeepCard : Claim7 := { stood := { row := slowDeepRow, standIns := [], harness := (true, "1617b7fd22ef0458b7ada3e3be241431cc6835ccfa302818f5b85a9d09f534d0"), looks := true }, kinds := [], alts := [], laidByText := true, laidKinds := [.data, .handle, .pinned], laidTests := true, laidLooks := .later }
def SlowDeepCardSaid : Prop := Claim7.holds Tryz.pinned (.plain (OpenSpec.ofChange slowDeepSpec)) slowDeepCard

/-- THE SECOND FORM's CARD OF 'keystonelaw14.SlowFields'. -/
def slowFieldsUptoCard : Claim7 := { stood := { row := slowFieldsUptoRow, standIns := [], harness := (true, "1617b7fd22ef0458b7ada3e3be241431cc6835ccfa302818f5b85a9d09f534d0"), looks := true }, kinds := [], alts := [], laidByText := true, laidKinds := [.data, .handle, .pinned], laidTests := true, laidLooks := .later }
def SlowFieldsUptoCardSaid : Prop := Claim7.holds Tryz.pinned (.plain (OpenSpec.upto slowFieldsSpec)) slowFieldsUptoCard

/-- THE SECOND FORM's CARD OF 'keystonelaw14.SlowDeep'. -/
def slowDeepUptoCard : Claim7 := { stood := { row := slowDeepUptoRow, standIns := [], harness := (true, "1617b7fd22ef0458b7ada3e3be241431cc6835ccfa302818f5b85a9d09f534d0"), looks := true }, kinds := [], alts := [], laidByText := true, laidKinds := [.data, .handle, .pinned], laidTests := true, laidLooks := .later }
def SlowDeepUptoCardSaid : Prop := Claim7.holds Tryz.pinned (.plain (OpenSpec.upto slowDeepSpec)) slowDeepUptoCard
end Rows
end Go.Proofs.YtkngccfjaelcgaaGreatDoor

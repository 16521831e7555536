/-
  DERIVED. GIVEN WITH THE SEED: THE CARDS: each row of YtdgfibghpfegoaaGreatDoorRows.lean that lists a variable, with what it lists TIED to the program's text (the seventh form; the later family's looks); each row that meets fmt, with fmt's text TOLD by the authors' own Lean function (tested against real Go, not proved from fmt's source: count such statements apart). THE CARD IS WHAT COUNTS. Prove the row's statement (the work); the ties are given (YtdgfibghpfegoaaGreatDoorTie.lean); close each card by the builder's one call (the guide's Derived/Test/ToyasCard.lean, 'card_holds'). Laid BY PROGRAM, IN A SANDBOX (cutbox-door.mjs). By AI agents, Wed Nov 11 2026. No macro, syntax, notation, axiom, sorry.
-/
import Derived.Test.YtdgfibghpfegoaaGreatDoorRows
import GoSem.ClaimSeven
namespace Go.Proofs.YtdgfibghpfegoaaGreatDoor
namespace Rows

/-- THE TIED CARD OF 'keystonelaw10.VerifyMakes'. -/
def verifyMakesCard : Claim7 := { stood := { row := verifyMakesRow, standIns := [], harness := (true, "33eaf2ea52a2efe6830f2e57dd6bac6c6fce5c0f3f2a6fdc3f96f8d83a466aeb"), looks := true }, kinds := [], alts := [], laidByText := true, laidKinds := [.data, .handle, .pinned], laidTests := true, laidLooks := .later }
def VerifyMakesCardSaid : Prop := Claim7.holds Tryz.pinned (.plain (OpenSpec.ofChange verifyMakesSpec)) verifyMakesCard

/-- THE TIED CARD OF 'keystonelaw10.VerifyBegins'. -/
def verifyBeginsCard : Claim7 := { stood := { row := verifyBeginsRow, standIns := [], harness := (true, "33eaf2ea52a2efe6830f2e57dd6bac6c6fce5c0f3f2a6fdc3f96f8d83a466aeb"), looks := true }, kinds := [], alts := [], laidByText := true, laidKinds := [.data, .handle, .pinned], laidTests := true, laidLooks := .later }
def VerifyBeginsCardSaid : Prop := Claim7.holds Tryz.pinned (.plain (OpenSpec.ofChange verifyBeginsSpec)) verifyBeginsCard

/-- THE TIED CARD OF 'keystonelaw10.VerifyWays'. -/
def verifyWaysCard : Claim7 := { stood := { row := verifyWaysRow, standIns := [], harness := (true, "33eaf2ea52a2efe6830f2e57dd6bac6c6fce5c0f3f2a6fdc3f96f8d83a466aeb"), looks := true }, kinds := [], alts := [], laidByText := true, laidKinds := [.data, .handle, .pinned], laidTests := true, laidLooks := .later }
def VerifyWaysCardSaid : Prop := Claim7.holds Tryz.pinned (.plain (OpenSpec.ofChange verifyWaysSpec)) verifyWaysCard

/-- THE TIED CARD OF 'keystonelaw10.VerifyEnds'. -/
def verifyEndsCard : Claim7 := { stood := { row := verifyEndsRow, standIns := [], harness := (true, "33eaf2ea52a2efe6830f2e57dd6bac6c6fce5c0f3f2a6fdc3f96f8d83a466aeb"), looks := true }, kinds := [], alts := [], laidByText := true, laidKinds := [.data, .handle, .pinned], laidTests := true, laidLooks := .later }
def VerifyEndsCardSaid : Prop := Claim7.holds Tryz.pinned (.plain (OpenSpec.ofChange verifyEndsSpec)) verifyEndsCard

/-- THE TIED CARD OF 'keystonelaw10.VerifyCaught'. -/
def verifyCaughtCard : Claim7 := { stood := { row := verifyCaughtRow, standIns := [], harness := (true, "33eaf2ea52a2efe6830f2e57dd6bac6c6fce5c0f3f2a6fdc3f96f8d83a466aeb"), looks := true }, kinds := [], alts := [], laidByText := true, laidKinds := [.data, .handle, .pinned], laidTests := true, laidLooks := .later }
def VerifyCaughtCardSaid : Prop := Claim7.holds Tryz.pinned (.plain (OpenSpec.ofChange verifyCaughtSpec)) verifyCaughtCard

/-- THE TIED CARD OF 'keystonelaw10.VerifyLong'. -/
def verifyLongCard : Claim7 := { stood := { row := verifyLongRow, standIns := [], harness := (true, "33eaf2ea52a2efe6830f2e57dd6bac6c6fce5c0f3f2a6fdc3f96f8d83a466aeb"), looks := true }, kinds := [], alts := [], laidByText := true, laidKinds := [.data, .handle, .pinned], laidTests := true, laidLooks := .later }
def VerifyLongCardSaid : Prop := Claim7.holds Tryz.pinned (.plain (OpenSpec.ofChange verifyLongSpec)) verifyLongCard

/-- THE SECOND FORM's CARD OF 'keystonelaw10.VerifyMakes'. -/
def verifyMakesUptoCard : Claim7 := { stood := { row := verifyMakesUptoRow, standIns := [], harness := (true, "33eaf2ea52a2efe6830f2e57dd6bac6c6fce5c0f3f2a6fdc3f96f8d83a466aeb"), looks := true }, kinds := [], alts := [], laidByText := true, laidKinds := [.data, .handle, .pinned], laidTests := true, laidLooks := .later }
def VerifyMakesUptoCardSaid : Prop := Claim7.holds Tryz.pinned (.plain (OpenSpec.upto verifyMakesSpec)) verifyMakesUptoCard

/-- THE SECOND FORM's CARD OF 'keystonelaw10.VerifyBegins'. -/
def verifyBeginsUptoCard : Claim7 := { stood := { row := verifyBeginsUptoRow, standIns := [], harness := (true, "33eaf2ea52a2efe6830f2e57dd6bac6c6fce5c0f3f2a6fdc3f96f8d83a466aeb"), looks := true }, kinds := [], alts := [], laidByText := true, laidKinds := [.data, .handle, .pinned], laidTests := true, laidLooks := .later }
def VerifyBeginsUptoCardSaid : Prop := Claim7.holds Tryz.pinned (.plain (OpenSpec.upto verifyBeginsSpec)) verifyBeginsUptoCard

/-- THE SECOND FORM's CARD OF 'keystonelaw10.VerifyWays'. -/
def verifyWaysUptoCard : Claim7 := { stood := { row := verifyWaysUptoRow, standIns := [], harness := (true, "33eaf2ea52a2efe6830f2e57dd6bac6c6fce5c0f3f2a6fdc3f96f8d83a466aeb"), looks := true }, kinds := [], alts := [], laidByText := true, laidKinds := [.data, .handle, .pinned], laidTests := true, laidLooks := .later }
def VerifyWaysUptoCardSaid : Prop := Claim7.holds Tryz.pinned (.plain (OpenSpec.upto verifyWaysSpec)) verifyWaysUptoCard

/-- THE SECOND FORM's CARD OF 'keystonelaw10.VerifyEnds'. -/
def verifyEndsUptoCard : Claim7 := { stood := { row := verifyEndsUptoRow, standIns := [], harness := (true, "33eaf2ea52a2efe6830f2e57dd6bac6c6fce5c0f3f2a6fdc3f96f8d83a466aeb"), looks := true }, kinds := [], alts := [], laidByText := true, laidKinds := [.data, .handle, .pinned], laidTests := true, laidLooks := .later }
def VerifyEndsUptoCardSaid : Prop := Claim7.holds Tryz.pinned (.plain (OpenSpec.upto verifyEndsSpec)) verifyEndsUptoCard

/-- THE SECOND FORM's CARD OF 'keystonelaw10.VerifyCaught'. -/
def verifyCaughtUptoCard : Claim7 := { stood := { row := verifyCaughtUptoRow, standIns := [], harness := (true, "33eaf2ea52a2efe6830f2e57dd6bac6c6fce5c0f3f2a6fdc3f96f8d83a466aeb"), looks := true }, kinds := [], alts := [], laidByText := true, laidKinds := [.data, .handle, .pinned], laidTests := true, laidLooks := .later }
def VerifyCaughtUptoCardSaid : Prop := Claim7.holds Tryz.pinned (.plain (OpenSpec.upto verifyCaughtSpec)) verifyCaughtUptoCard

/-- THE SECOND FORM's CARD OF 'keystonelaw10.VerifyLong'. -/
def verifyLongUptoCard : Claim7 := { stood := { row := verifyLongUptoRow, standIns := [], harness := (true, "33eaf2ea52a2efe6830f2e57dd6bac6c6fce5c0f3f2a6fdc3f96f8d83a466aeb"), looks := true }, kinds := [], alts := [], laidByText := true, laidKinds := [.data, .handle, .pinned], laidTests := true, laidLooks := .later }
def VerifyLongUptoCardSaid : Prop := Claim7.holds Tryz.pinned (.plain (OpenSpec.upto verifyLongSpec)) verifyLongUptoCard
end Rows
end Go.Proofs.YtdgfibghpfegoaaGreatDoor

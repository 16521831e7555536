/-
  DERIVED. GIVEN WITH THE SEED: THE CARDS: each row of YtjhamfilfgbhlaaGreatDoorRows.lean that lists a variable, with what it lists TIED to the program's text (the seventh form; the later family's looks); each row that meets fmt, with fmt's text TOLD by the authors' own Lean function (tested against real Go, not proved from fmt's source: count such statements apart). THE CARD IS WHAT COUNTS. Prove the row's statement (the work); the ties are given (YtjhamfilfgbhlaaGreatDoorTie.lean); close each card by the builder's one call (the guide's Derived/Test/ToyasCard.lean, 'card_holds'). Laid BY PROGRAM, IN A SANDBOX (cutbox-door.mjs). By AI agents, Wed Nov 11 2026. No macro, syntax, notation, axiom, sorry.
-/
import Derived.Test.YtjhamfilfgbhlaaGreatDoorRows
import GoSem.ClaimSeven
namespace Go.Proofs.YtjhamfilfgbhlaaGreatDoor
namespace Rows

/-- THE TIED CARD OF 'keystonelaw14.SlowNil'. -/
def slowNilCard : Claim7 := { stood := { row := slowNilRow, standIns := [], harness := (true, "477f1c777edaee60ec6750736c1ab69a53ddd9ec5ace9815532ccdab4613d50f"), looks := true }, kinds := [], alts := [], laidByText := true, laidKinds := [.data, .handle, .pinned], laidTests := true, laidLooks := .later }
def SlowNilCardSaid : Prop := Claim7.holds Tryz.pinned (.plain (OpenSpec.ofChange slowNilSpec)) slowNilCard

/-- THE TIED CARD OF 'keystonelaw14.SlowPicks'. -/
def slowPicksCard : Claim7 := { stood := { row := slowPicksRow, standIns := [], harness := (true, "477f1c777edaee60ec6750736c1ab69a53ddd9ec5ace9815532ccdab4613d50f"), looks := true }, kinds := [], alts := [], laidByText := true, laidKinds := [.data, .handle, .pinned], laidTests := true, laidLooks := .later }
def SlowPicksCardSaid : Prop := Claim7.holds Tryz.pinned (.plain (OpenSpec.ofChange slowPicksSpec)) slowPicksCard

/-- THE TIED CARD OF 'keystonelaw14.SlowCatches'. -/
def slowCatchesCard : Claim7 := { stood := { row := slowCatchesRow, standIns := [], harness := (true, "477f1c777edaee60ec6750736c1ab69a53ddd9ec5ace9815532ccdab4613d50f"), looks := true }, kinds := [], alts := [], laidByText := true, laidKinds := [.data, .handle, .pinned], laidTests := true, laidLooks := .later }
def SlowCatchesCardSaid : Prop := Claim7.holds Tryz.pinned (.plain (OpenSpec.ofChange slowCatchesSpec)) slowCatchesCard

/-- THE TIED CARD OF 'keystonelaw14.SlowMakes'. -/
def slowMakesCard : Claim7 := { stood := { row := slowMakesRow, standIns := [], harness := (true, "477f1c777edaee60ec6750736c1ab69a53ddd9ec5ace9815532ccdab4613d50f"), looks := true }, kinds := [], alts := [], laidByText := true, laidKinds := [.data, .handle, .pinned], laidTests := true, laidLooks := .later }
def SlowMakesCardSaid : Prop := Claim7.holds Tryz.pinned (.plain (OpenSpec.ofChange slowMakesSpec)) slowMakesCard

/-- THE TIED CARD OF 'keystonelaw14.SlowCasts'. -/
def slowCastsCard : Claim7 := { stood := { row := slowCastsRow, standIns := [], harness := (true, "477f1c777edaee60ec6750736c1ab69a53ddd9ec5ace9815532ccdab4613d50f"), looks := true }, kinds := [], alts := [], laidByText := true, laidKinds := [.data, .handle, .pinned], laidTests := true, laidLooks := .later }
def SlowCastsCardSaid : Prop := Claim7.holds Tryz.pinned (.plain (OpenSpec.ofChange slowCastsSpec)) slowCastsCard

/-- THE SECOND FORM's CARD OF 'keystonelaw14.SlowNil'. -/
def slowNilUptoCard : Claim7 := { stood := { row := slowNilUptoRow, standIns := [], harness := (true, "477f1c777edaee60ec6750736c1ab69a53ddd9ec5ace9815532ccdab4613d50f"), looks := true }, kinds := [], alts := [], laidByText := true, laidKinds := [.data, .handle, .pinned], laidTests := true, laidLooks := .later }
def SlowNilUptoCardSaid : Prop := Claim7.holds Tryz.pinned (.plain (OpenSpec.upto slowNilSpec)) slowNilUptoCard

/-- THE SECOND FORM's CARD OF 'keystonelaw14.SlowPicks'. -/
def slowPicksUptoCard : Claim7 := { stood := { row := slowPicksUptoRow, standIns := [], harness := (true, "477f1c777edaee60ec6750736c1ab69a53ddd9ec5ace9815532ccdab4613d50f"), looks := true }, kinds := [], alts := [], laidByText := true, laidKinds := [.data, .handle, .pinned], laidTests := true, laidLooks := .later }
def SlowPicksUptoCardSaid : Prop := Claim7.holds Tryz.pinned (.plain (OpenSpec.upto slowPicksSpec)) slowPicksUptoCard

/-- THE SECOND FORM's CARD OF 'keystonelaw14.SlowCatches'. -/
def slowCatchesUptoCard : Claim7 := { stood := { row := slowCatchesUptoRow, standIns := [], harness := (true, "477f1c777edaee60ec6750736c1ab69a53ddd9ec5ace9815532ccdab4613d50f"), looks := true }, kinds := [], alts := [], laidByText := true, laidKinds := [.data, .handle, .pinned], laidTests := true, laidLooks := .later }
def SlowCatchesUptoCardSaid : Prop := Claim7.holds Tryz.pinned (.plain (OpenSpec.upto slowCatchesSpec)) slowCatchesUptoCard

/-- THE SECOND FORM's CARD OF 'keystonelaw14.SlowMakes'. -/
def slowMakesUptoCard : Claim7 := { stood := { row := slowMakesUptoRow, standIns := [], harness := (true, "477f1c777edaee60ec6750736c1ab69a53ddd9ec5ace9815532ccdab4613d50f"), looks := true }, kinds := [], alts := [], laidByText := true, laidKinds := [.data, .handle, .pinned], laidTests := true, laidLooks := .later }
def SlowMakesUptoCardSaid : Prop := Claim7.holds Tryz.pinned (.plain (OpenSpec.upto slowMakesSpec)) slowMakesUptoCard

/-- THE SECOND FORM's CARD OF 'keystonelaw14.SlowCasts'. -/
def slowCastsUptoCard : Claim7 := { stood := { row := slowCastsUptoRow, standIns := [], harness := (true, "477f1c777edaee60ec6750736c1ab69a53ddd9ec5ace9815532ccdab4613d50f"), looks := true }, kinds := [], alts := [], laidByText := true, laidKinds := [.data, .handle, .pinned], laidTests := true, laidLooks := .later }
def SlowCastsUptoCardSaid : Prop := Claim7.holds Tryz.pinned (.plain (OpenSpec.upto slowCastsSpec)) slowCastsUptoCard
end Rows
end Go.Proofs.YtjhamfilfgbhlaaGreatDoor

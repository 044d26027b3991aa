/-
  DERIVED. GIVEN WITH THE SEED: THE CARDS: each row of YtdhcjhfgibmhfaaGreatDoorRows.lean that lists a variable, with what it lists TIED to the program's text (the seventh form; the later family's looks); each row that meets fmt, with fmt's text TOLD by the authors' own Lean function (tested against real Go, not proved from fmt's source: count such statements apart). THE CARD IS WHAT COUNTS. Prove the row's statement (the work); the ties are given (YtdhcjhfgibmhfaaGreatDoorTie.lean); close each card by the builder's one call (the guide's Derived/Test/ToyasCard.lean, 'card_holds'). Laid BY PROGRAM, IN A SANDBOX (cutbox-door.mjs). By AI agents, Wed Nov 11 2026. No macro, syntax, notation, axiom, sorry.
-/
import Derived.Test.YtdhcjhfgibmhfaaGreatDoorRows
import GoSem.ClaimSeven
namespace Go.Proofs.YtdhcjhfgibmhfaaGreatDoor
namespace Rows

/-- THE TIED CARD OF 'samaritanlaw34.RegistryKeeps'. -/
def registryKeepsCard : Claim7 := { stood := { row := registryKeepsRow, standIns := [], harness := (true, "5450de0a33d51cd86d9ff01f1f83146923ec43bae4ecda4d4713b9695ee4a1e1"), looks := false }, kinds := [], alts := [], laidByText := true, laidKinds := [.data], laidTests := true, laidLooks := .later }
def RegistryKeepsCardSaid : Prop := Claim7.holds Tryz.pinned (.plain (OpenSpec.ofChange registryKeepsSpec)) registryKeepsCard

/-- THE TIED CARD OF 'samaritanlaw34.RegistryRestores'. -/
def registryRestoresCard : Claim7 := { stood := { row := registryRestoresRow, standIns := [], harness := (true, "5450de0a33d51cd86d9ff01f1f83146923ec43bae4ecda4d4713b9695ee4a1e1"), looks := false }, kinds := [], alts := [], laidByText := true, laidKinds := [.data], laidTests := true, laidLooks := .later }
def RegistryRestoresCardSaid : Prop := Claim7.holds Tryz.pinned (.plain (OpenSpec.ofChange registryRestoresSpec)) registryRestoresCard

/-- THE TIED CARD OF 'samaritanlaw34.RegistryLookup'. -/
def registryLookupCard : Claim7 := { stood := { row := registryLookupRow, standIns := [], harness := (true, "5450de0a33d51cd86d9ff01f1f83146923ec43bae4ecda4d4713b9695ee4a1e1"), looks := false }, kinds := [], alts := [], laidByText := true, laidKinds := [.data], laidTests := true, laidLooks := .later }
def RegistryLookupCardSaid : Prop := Claim7.holds Tryz.pinned (.plain (OpenSpec.ofChange registryLookupSpec)) registryLookupCard

/-- THE TIED CARD OF 'samaritanlaw34.RegistryDerived'. -/
def registryDerivedCard : Claim7 := { stood := { row := registryDerivedRow, standIns := [], harness := (true, "5450de0a33d51cd86d9ff01f1f83146923ec43bae4ecda4d4713b9695ee4a1e1"), looks := false }, kinds := [], alts := [], laidByText := true, laidKinds := [.data], laidTests := true, laidLooks := .later }
def RegistryDerivedCardSaid : Prop := Claim7.holds Tryz.pinned (.plain (OpenSpec.ofChange registryDerivedSpec)) registryDerivedCard

/-- THE TIED CARD OF 'samaritanlaw34.RegistryMatches'. -/
def registryMatchesCard : Claim7 := { stood := { row := registryMatchesRow, standIns := [], harness := (true, "5450de0a33d51cd86d9ff01f1f83146923ec43bae4ecda4d4713b9695ee4a1e1"), looks := false }, kinds := [], alts := [], laidByText := true, laidKinds := [.data], laidTests := true, laidLooks := .later }
def RegistryMatchesCardSaid : Prop := Claim7.holds Tryz.pinned (.plain (OpenSpec.ofChange registryMatchesSpec)) registryMatchesCard

/-- THE TIED CARD OF 'samaritanlaw34.RegistryConsistent'. -/
def registryConsistentCard : Claim7 := { stood := { row := registryConsistentRow, standIns := [], harness := (true, "5450de0a33d51cd86d9ff01f1f83146923ec43bae4ecda4d4713b9695ee4a1e1"), looks := false }, kinds := [], alts := [], laidByText := true, laidKinds := [.data], laidTests := true, laidLooks := .later }
def RegistryConsistentCardSaid : Prop := Claim7.holds Tryz.pinned (.plain (OpenSpec.ofChange registryConsistentSpec)) registryConsistentCard

/-- THE TIED CARD OF 'samaritanlaw34.RegistryCopies'. -/
def registryCopiesCard : Claim7 := { stood := { row := registryCopiesRow, standIns := [], harness := (true, "5450de0a33d51cd86d9ff01f1f83146923ec43bae4ecda4d4713b9695ee4a1e1"), looks := false }, kinds := [], alts := [], laidByText := true, laidKinds := [.data], laidTests := true, laidLooks := .later }
def RegistryCopiesCardSaid : Prop := Claim7.holds Tryz.pinned (.plain (OpenSpec.ofChange registryCopiesSpec)) registryCopiesCard

/-- THE TIED CARD OF 'samaritanlaw34.RegistryChecksum'. -/
def registryChecksumCard : Claim7 := { stood := { row := registryChecksumRow, standIns := [], harness := (true, "5450de0a33d51cd86d9ff01f1f83146923ec43bae4ecda4d4713b9695ee4a1e1"), looks := false }, kinds := [], alts := [], laidByText := true, laidKinds := [.data], laidTests := true, laidLooks := .later }
def RegistryChecksumCardSaid : Prop := Claim7.holds Tryz.pinned (.plain (OpenSpec.ofChange registryChecksumSpec)) registryChecksumCard

/-- THE SECOND FORM's CARD OF 'samaritanlaw34.RegistryKeeps'. -/
def registryKeepsUptoCard : Claim7 := { stood := { row := registryKeepsUptoRow, standIns := [], harness := (true, "5450de0a33d51cd86d9ff01f1f83146923ec43bae4ecda4d4713b9695ee4a1e1"), looks := false }, kinds := [], alts := [], laidByText := true, laidKinds := [.data], laidTests := true, laidLooks := .later }
def RegistryKeepsUptoCardSaid : Prop := Claim7.holds Tryz.pinned (.plain (OpenSpec.upto registryKeepsSpec)) registryKeepsUptoCard

/-- THE SECOND FORM's CARD OF 'samaritanlaw34.RegistryRestores'. -/
def registryRestoresUptoCard : Claim7 := { stood := { row := registryRestoresUptoRow, standIns := [], harness := (true, "5450de0a33d51cd86d9ff01f1f83146923ec43bae4ecda4d4713b9695ee4a1e1"), looks := false }, kinds := [], alts := [], laidByText := true, laidKinds := [.data], laidTests := true, laidLooks := .later }
def RegistryRestoresUptoCardSaid : Prop := Claim7.holds Tryz.pinned (.plain (OpenSpec.upto registryRestoresSpec)) registryRestoresUptoCard

/-- THE SECOND FORM's CARD OF 'samaritanlaw34.RegistryLookup'. -/
def registryLookupUptoCard : Claim7 := { stood := { row := registryLookupUptoRow, standIns := [], harness := (true, "5450de0a33d51cd86d9ff01f1f83146923ec43bae4ecda4d4713b9695ee4a1e1"), looks := false }, kinds := [], alts := [], laidByText := true, laidKinds := [.data], laidTests := true, laidLooks := .later }
def RegistryLookupUptoCardSaid : Prop := Claim7.holds Tryz.pinned (.plain (OpenSpec.upto registryLookupSpec)) registryLookupUptoCard

/-- THE SECOND FORM's CARD OF 'samaritanlaw34.RegistryDerived'. -/
def registryDerivedUptoCard : Claim7 := { stood := { row := registryDerivedUptoRow, standIns := [], harness := (true, "5450de0a33d51cd86d9ff01f1f83146923ec43bae4ecda4d4713b9695ee4a1e1"), looks := false }, kinds := [], alts := [], laidByText := true, laidKinds := [.data], laidTests := true, laidLooks := .later }
def RegistryDerivedUptoCardSaid : Prop := Claim7.holds Tryz.pinned (.plain (OpenSpec.upto registryDerivedSpec)) registryDerivedUptoCard

/-- THE SECOND FORM's CARD OF 'samaritanlaw34.RegistryMatches'. -/
def registryMatchesUptoCard : Claim7 := { stood := { row := registryMatchesUptoRow, standIns := [], harness := (true, "5450de0a33d51cd86d9ff01f1f83146923ec43bae4ecda4d4713b9695ee4a1e1"), looks := false }, kinds := [], alts := [], laidByText := true, laidKinds := [.data], laidTests := true, laidLooks := .later }
def RegistryMatchesUptoCardSaid : Prop := Claim7.holds Tryz.pinned (.plain (OpenSpec.upto registryMatchesSpec)) registryMatchesUptoCard

/-- THE SECOND FORM's CARD OF 'samaritanlaw34.RegistryConsistent'. -/
def registryConsistentUptoCard : Claim7 := { stood := { row := registryConsistentUptoRow, standIns := [], harness := (true, "5450de0a33d51cd86d9ff01f1f83146923ec43bae4ecda4d4713b9695ee4a1e1"), looks := false }, kinds := [], alts := [], laidByText := true, laidKinds := [.data], laidTests := true, laidLooks := .later }
def RegistryConsistentUptoCardSaid : Prop := Claim7.holds Tryz.pinned (.plain (OpenSpec.upto registryConsistentSpec)) registryConsistentUptoCard

/-- THE SECOND FORM's CARD OF 'samaritanlaw34.RegistryCopies'. -/
def registryCopiesUptoCard : Claim7 := { stood := { row := registryCopiesUptoRow, standIns := [], harness := (true, "5450de0a33d51cd86d9ff01f1f83146923ec43bae4ecda4d4713b9695ee4a1e1"), looks := false }, kinds := [], alts := [], laidByText := true, laidKinds := [.data], laidTests := true, laidLooks := .later }
def RegistryCopiesUptoCardSaid : Prop := Claim7.holds Tryz.pinned (.plain (OpenSpec.upto registryCopiesSpec)) registryCopiesUptoCard

/-- THE SECOND FORM's CARD OF 'samaritanlaw34.RegistryChecksum'. -/
def registryChecksumUptoCard : Claim7 := { stood := { row := registryChecksumUptoRow, standIns := [], harness := (true, "5450de0a33d51cd86d9ff01f1f83146923ec43bae4ecda4d4713b9695ee4a1e1"), looks := false }, kinds := [], alts := [], laidByText := true, laidKinds := [.data], laidTests := true, laidLooks := .later }
def RegistryChecksumUptoCardSaid : Prop := Claim7.holds Tryz.pinned (.plain (OpenSpec.upto registryChecksumSpec)) registryChecksumUptoCard
end Rows
end Go.Proofs.YtdhcjhfgibmhfaaGreatDoor

/-
  DERIVED. GIVEN WITH THE SEED: THE CARDS: each row of YtipkicijfedfoaaDoorRows.lean that lists a variable, with what it lists TIED to the program's text (the seventh form; the later family's looks); each row that meets fmt, with fmt's text TOLD by the authors' own Lean function (tested against real Go, not proved from fmt's source: count such statements apart). THE CARD IS WHAT COUNTS. Prove the row's statement (the work); the ties are given (YtipkicijfedfoaaDoorTie.lean); close each card by the builder's one call (the guide's Derived/Test/ToyasCard.lean, 'card_holds'). Laid BY PROGRAM, IN A SANDBOX (cutbox-door.mjs). By AI agents, Wed Nov 11 2026. No macro, syntax, notation, axiom, sorry.
-/
import Derived.Test.YtipkicijfedfoaaDoorRows
import GoSem.ClaimSeven
namespace Go.Proofs.YtipkicijfedfoaaDoor
namespace Rows

/-- THE TIED CARD OF 'samaritanlaw32.IncidentValidates'. -/
def incidentValidatesCard : Claim7 := { stood := { row := incidentValidatesRow, standIns := [], harness := (true, "9732dd3f212485b3227aa41f3848fb2b19df574ae1f7f98db3e25cbbccb68f87"), looks := false }, kinds := [], alts := [], laidByText := true, laidKinds := [.data], laidTests := true, laidLooks := .later }
def IncidentValidatesCardSaid : Prop := Claim7.holds Tryd.pinned (.plain (OpenSpec.ofChange incidentValidatesSpec)) incidentValidatesCard

/-- THE TIED CARD OF 'samaritanlaw32.IncidentNarrows'. -/
def incidentNarrowsCard : Claim7 := { stood := { row := incidentNarrowsRow, standIns := [], harness := (true, "9732dd3f212485b3227aa41f3848fb2b19df574ae1f7f98db3e25cbbccb68f87"), looks := false }, kinds := [], alts := [], laidByText := true, laidKinds := [.data], laidTests := true, laidLooks := .later }
def IncidentNarrowsCardSaid : Prop := Claim7.holds Tryd.pinned (.plain (OpenSpec.ofChange incidentNarrowsSpec)) incidentNarrowsCard

/-- THE TIED CARD OF 'samaritanlaw32.IncidentUnmarshals'. -/
def incidentUnmarshalsCard : Claim7 := { stood := { row := incidentUnmarshalsRow, standIns := [], harness := (true, "9732dd3f212485b3227aa41f3848fb2b19df574ae1f7f98db3e25cbbccb68f87"), looks := false }, kinds := [], alts := [], laidByText := true, laidKinds := [.data], laidTests := true, laidLooks := .later }
def IncidentUnmarshalsCardSaid : Prop := Claim7.holds Tryd.pinned (.plain (OpenSpec.ofChange incidentUnmarshalsSpec)) incidentUnmarshalsCard

/-- THE TIED CARD OF 'samaritanlaw32.IncidentMarshals'. -/
def incidentMarshalsCard : Claim7 := { stood := { row := incidentMarshalsRow, standIns := [], harness := (true, "9732dd3f212485b3227aa41f3848fb2b19df574ae1f7f98db3e25cbbccb68f87"), looks := false }, kinds := [], alts := [], laidByText := true, laidKinds := [.data], laidTests := true, laidLooks := .later }
def IncidentMarshalsCardSaid : Prop := Claim7.holds Tryd.pinned (.plain (OpenSpec.ofChange incidentMarshalsSpec)) incidentMarshalsCard

/-- THE TIED CARD OF 'samaritanlaw32.IncidentRebuilds'. -/
def incidentRebuildsCard : Claim7 := { stood := { row := incidentRebuildsRow, standIns := [], harness := (true, "9732dd3f212485b3227aa41f3848fb2b19df574ae1f7f98db3e25cbbccb68f87"), looks := false }, kinds := [], alts := [], laidByText := true, laidKinds := [.data], laidTests := true, laidLooks := .later }
def IncidentRebuildsCardSaid : Prop := Claim7.holds Tryd.pinned (.plain (OpenSpec.ofChange incidentRebuildsSpec)) incidentRebuildsCard

/-- THE TIED CARD OF 'samaritanlaw32.IncidentKeepsCommonNode'. -/
def incidentKeepsCommonNodeCard : Claim7 := { stood := { row := incidentKeepsCommonNodeRow, standIns := [], harness := (true, "9732dd3f212485b3227aa41f3848fb2b19df574ae1f7f98db3e25cbbccb68f87"), looks := false }, kinds := [], alts := [], laidByText := true, laidKinds := [.data], laidTests := true, laidLooks := .later }
def IncidentKeepsCommonNodeCardSaid : Prop := Claim7.holds Tryd.pinned (.plain (OpenSpec.ofChange incidentKeepsCommonNodeSpec)) incidentKeepsCommonNodeCard

/-- THE SECOND FORM's CARD OF 'samaritanlaw32.IncidentValidates'. -/
def incidentValidatesUptoCard : Claim7 := { stood := { row := incidentValidatesUptoRow, standIns := [], harness := (true, "9732dd3f212485b3227aa41f3848fb2b19df574ae1f7f98db3e25cbbccb68f87"), looks := false }, kinds := [], alts := [], laidByText := true, laidKinds := [.data], laidTests := true, laidLooks := .later }
def IncidentValidatesUptoCardSaid : Prop := Claim7.holds Tryd.pinned (.plain (OpenSpec.upto incidentValidatesSpec)) incidentValidatesUptoCard

/-- THE SECOND FORM's CARD OF 'samaritanlaw32.IncidentNarrows'. -/
def incidentNarrowsUptoCard : Claim7 := { stood := { row := incidentNarrowsUptoRow, standIns := [], harness := (true, "9732dd3f212485b3227aa41f3848fb2b19df574ae1f7f98db3e25cbbccb68f87"), looks := false }, kinds := [], alts := [], laidByText := true, laidKinds := [.data], laidTests := true, laidLooks := .later }
def IncidentNarrowsUptoCardSaid : Prop := Claim7.holds Tryd.pinned (.plain (OpenSpec.upto incidentNarrowsSpec)) incidentNarrowsUptoCard

/-- THE SECOND FORM's CARD OF 'samaritanlaw32.IncidentUnmarshals'. -/
def incidentUnmarshalsUptoCard : Claim7 := { stood := { row := incidentUnmarshalsUptoRow, standIns := [], harness := (true, "9732dd3f212485b3227aa41f3848fb2b19df574ae1f7f98db3e25cbbccb68f87"), looks := false }, kinds := [], alts := [], laidByText := true, laidKinds := [.data], laidTests := true, laidLooks := .later }
def IncidentUnmarshalsUptoCardSaid : Prop := Claim7.holds Tryd.pinned (.plain (OpenSpec.upto incidentUnmarshalsSpec)) incidentUnmarshalsUptoCard

/-- THE SECOND FORM's CARD OF 'samaritanlaw32.IncidentMarshals'. -/
def incidentMarshalsUptoCard : Claim7 := { stood := { row := incidentMarshalsUptoRow, standIns := [], harness := (true, "9732dd3f212485b3227aa41f3848fb2b19df574ae1f7f98db3e25cbbccb68f87"), looks := false }, kinds := [], alts := [], laidByText := true, laidKinds := [.data], laidTests := true, laidLooks := .later }
def IncidentMarshalsUptoCardSaid : Prop := Claim7.holds Tryd.pinned (.plain (OpenSpec.upto incidentMarshalsSpec)) incidentMarshalsUptoCard

/-- THE SECOND FORM's CARD OF 'samaritanlaw32.IncidentRebuilds'. -/
def incidentRebuildsUptoCard : Claim7 := { stood := { row := incidentRebuildsUptoRow, standIns := [], harness := (true, "9732dd3f212485b3227aa41f3848fb2b19df574ae1f7f98db3e25cbbccb68f87"), looks := false }, kinds := [], alts := [], laidByText := true, laidKinds := [.data], laidTests := true, laidLooks := .later }
def IncidentRebuildsUptoCardSaid : Prop := Claim7.holds Tryd.pinned (.plain (OpenSpec.upto incidentRebuildsSpec)) incidentRebuildsUptoCard

/-- THE SECOND FORM's CARD OF 'samaritanlaw32.IncidentKeepsCommonNode'. -/
def incidentKeepsCommonNodeUptoCard : Claim7 := { stood := { row := incidentKeepsCommonNodeUptoRow, standIns := [], harness := (true, "9732dd3f212485b3227aa41f3848fb2b19df574ae1f7f98db3e25cbbccb68f87"), looks := false }, kinds := [], alts := [], laidByText := true, laidKinds := [.data], laidTests := true, laidLooks := .later }
def IncidentKeepsCommonNodeUptoCardSaid : Prop := Claim7.holds Tryd.pinned (.plain (OpenSpec.upto incidentKeepsCommonNodeSpec)) incidentKeepsCommonNodeUptoCard
end Rows
end Go.Proofs.YtipkicijfedfoaaDoor

/-
  NARROWER THAN 'FOR EVERY INPUT', by the rows' own cells (each row's printed sentence says how): RegistryKeeps: laid · RegistryRestores: laid · RegistryLookup: laid · RegistryDerived: laid · RegistryMatches: laid · RegistryConsistent: laid · RegistryCopies: laid · RegistryChecksum: laid.
  DERIVED. THE GIVEN ROWS OF THIS SEAT. 8 by the template 'for every input the law returns true; each argument reads behind the call as it read before'; 0 by the template 'total and deterministic' (their statements: YtdhcjhfgibmhfaaGreatDoorTotals.lean).
  GIVEN WITH THE SEED: the statements are not yours to turn. If you find one false, say at which input.
  Laid BY PROGRAM, IN A SANDBOX (cutbox-rows.mjs): the forced cells as the released guide's own fill.sh prints them over the translation 3656352ea5183155… (all of the seat's roots in one cut). By AI agents, Wed Nov 11 2026. No macro, syntax, notation, axiom, sorry.
-/
import Derived.Test.YtdhcjhfgibmhfaaGreatDoorChecked
import GoSem.Claim
import GoSem.ClaimJoined
import GoSem.ClaimMapViews
import Derived.JoinedTies
import Derived.KernelRfl
namespace Go.Proofs.YtdhcjhfgibmhfaaGreatDoor
/- THE CELL 'sum', in the pinned program and in every row, IS THE sha256 OF THE DUMP (.gsa) THAT YtdhcjhfgibmhfaaGreatDoorProg.lean LOADS. Nothing in Lean hashes anything: it is a label: what it is worth is what the hold of that sum in a sandbox is worth. -/
noncomputable def Tryz.pinned : Pinned := { name := "ytdhcjhfgibmhfaagreatdoor", sum := "3656352ea518315580bf2f5d435d86d57d12af074e9455ecc86be17148a78572", checked := Tryz.checked }
namespace Rows
def none {H : Type} : Left H := { results := [], args := [] }

/- WHAT THE LISTED PACKAGE-LEVEL VARIABLES READ AS WHEN THE CALL BEGINS. Each datum BY PROGRAM (the guide's laid-datum.mjs) off the statement by which the dump's own 'gosem.cut.vars' lays the variable. In a bare row this is a premise. The card (YtdhcjhfgibmhfaaGreatDoorCards.lean) ties it to the program's text. -/
def laid_math_bits_deBruijn64tab {H : Type} : DataW H := .agg [.lit (.int .u8 0), .lit (.int .u8 1), .lit (.int .u8 56), .lit (.int .u8 2), .lit (.int .u8 57), .lit (.int .u8 49), .lit (.int .u8 28), .lit (.int .u8 3), .lit (.int .u8 61), .lit (.int .u8 58), .lit (.int .u8 42), .lit (.int .u8 50), .lit (.int .u8 38), .lit (.int .u8 29), .lit (.int .u8 17), .lit (.int .u8 4), .lit (.int .u8 62), .lit (.int .u8 47), .lit (.int .u8 59), .lit (.int .u8 36), .lit (.int .u8 45), .lit (.int .u8 43), .lit (.int .u8 51), .lit (.int .u8 22), .lit (.int .u8 53), .lit (.int .u8 39), .lit (.int .u8 33), .lit (.int .u8 30), .lit (.int .u8 24), .lit (.int .u8 18), .lit (.int .u8 12), .lit (.int .u8 5), .lit (.int .u8 63), .lit (.int .u8 55), .lit (.int .u8 48), .lit (.int .u8 27), .lit (.int .u8 60), .lit (.int .u8 41), .lit (.int .u8 37), .lit (.int .u8 16), .lit (.int .u8 46), .lit (.int .u8 35), .lit (.int .u8 44), .lit (.int .u8 21), .lit (.int .u8 52), .lit (.int .u8 32), .lit (.int .u8 23), .lit (.int .u8 11), .lit (.int .u8 54), .lit (.int .u8 26), .lit (.int .u8 40), .lit (.int .u8 15), .lit (.int .u8 34), .lit (.int .u8 20), .lit (.int .u8 31), .lit (.int .u8 10), .lit (.int .u8 25), .lit (.int .u8 14), .lit (.int .u8 19), .lit (.int .u8 9), .lit (.int .u8 13), .lit (.int .u8 8), .lit (.int .u8 7), .lit (.int .u8 6)]

/-- 'samaritanlaw34.RegistryKeeps': WHATEVER THE INPUT: true; the input reads as it did. -/
def registryKeepsSpec : ChangeSpec := { name := "registryKeeps", fn := fun _ => fun
  | [d1, d2] => { results := [.lit (.bool true)], args := [d1, d2] }
  | _ => none }
def registryKeepsRow : OpenClaim := { program := "ytdhcjhfgibmhfaagreatdoor", sum := "3656352ea518315580bf2f5d435d86d57d12af074e9455ecc86be17148a78572", func := "samaritan/samaritanlaw34.RegistryKeeps", spec := "registryKeeps", unfollowed := true, recurses := true, named := ["math/bits.deBruijn64tab"], apart := false, laid := [("math/bits.deBruijn64tab", laid_math_bits_deBruijn64tab)] }
def RegistryKeepsSaid : Prop := registryKeepsRow.holds Tryz.pinned (OpenSpec.ofChange registryKeepsSpec)

/-- ITS FALSE NEIGHBOUR: 'it returns false'. Refute it at one input. -/
def registryKeepsWrong : ChangeSpec := { name := "registryKeeps", fn := fun _ => fun
  | [d1, d2] => { results := [.lit (.bool false)], args := [d1, d2] }
  | _ => none }
def RegistryKeepsWrongFalsely : Prop := registryKeepsRow.holds Tryz.pinned (OpenSpec.ofChange registryKeepsWrong)

/-- 'samaritanlaw34.RegistryRestores': WHATEVER THE INPUT: true; the input reads as it did. -/
def registryRestoresSpec : ChangeSpec := { name := "registryRestores", fn := fun _ => fun
  | [d1, d2, d3] => { results := [.lit (.bool true)], args := [d1, d2, d3] }
  | _ => none }
def registryRestoresRow : OpenClaim := { program := "ytdhcjhfgibmhfaagreatdoor", sum := "3656352ea518315580bf2f5d435d86d57d12af074e9455ecc86be17148a78572", func := "samaritan/samaritanlaw34.RegistryRestores", spec := "registryRestores", unfollowed := true, recurses := true, named := ["math/bits.deBruijn64tab"], apart := false, laid := [("math/bits.deBruijn64tab", laid_math_bits_deBruijn64tab)] }
def RegistryRestoresSaid : Prop := registryRestoresRow.holds Tryz.pinned (OpenSpec.ofChange registryRestoresSpec)

/-- ITS FALSE NEIGHBOUR: 'it returns false'. Refute it at one input. -/
def registryRestoresWrong : ChangeSpec := { name := "registryRestores", fn := fun _ => fun
  | [d1, d2, d3] => { results := [.lit (.bool false)], args := [d1, d2, d3] }
  | _ => none }
def RegistryRestoresWrongFalsely : Prop := registryRestoresRow.holds Tryz.pinned (OpenSpec.ofChange registryRestoresWrong)

/-- 'samaritanlaw34.RegistryLookup': WHATEVER THE INPUT: true; the input reads as it did. -/
def registryLookupSpec : ChangeSpec := { name := "registryLookup", fn := fun _ => fun
  | [d1, d2] => { results := [.lit (.bool true)], args := [d1, d2] }
  | _ => none }
def registryLookupRow : OpenClaim := { program := "ytdhcjhfgibmhfaagreatdoor", sum := "3656352ea518315580bf2f5d435d86d57d12af074e9455ecc86be17148a78572", func := "samaritan/samaritanlaw34.RegistryLookup", spec := "registryLookup", unfollowed := true, recurses := true, named := ["math/bits.deBruijn64tab"], apart := false, laid := [("math/bits.deBruijn64tab", laid_math_bits_deBruijn64tab)] }
def RegistryLookupSaid : Prop := registryLookupRow.holds Tryz.pinned (OpenSpec.ofChange registryLookupSpec)

/-- ITS FALSE NEIGHBOUR: 'it returns false'. Refute it at one input. -/
def registryLookupWrong : ChangeSpec := { name := "registryLookup", fn := fun _ => fun
  | [d1, d2] => { results := [.lit (.bool false)], args := [d1, d2] }
  | _ => none }
def RegistryLookupWrongFalsely : Prop := registryLookupRow.holds Tryz.pinned (OpenSpec.ofChange registryLookupWrong)

/-- 'samaritanlaw34.RegistryDerived': WHATEVER THE INPUT: true; the input reads as it did. -/
def registryDerivedSpec : ChangeSpec := { name := "registryDerived", fn := fun _ => fun
  | [d] => { results := [.lit (.bool true)], args := [d] }
  | _ => none }
def registryDerivedRow : OpenClaim := { program := "ytdhcjhfgibmhfaagreatdoor", sum := "3656352ea518315580bf2f5d435d86d57d12af074e9455ecc86be17148a78572", func := "samaritan/samaritanlaw34.RegistryDerived", spec := "registryDerived", unfollowed := true, recurses := true, named := ["math/bits.deBruijn64tab"], apart := false, laid := [("math/bits.deBruijn64tab", laid_math_bits_deBruijn64tab)] }
def RegistryDerivedSaid : Prop := registryDerivedRow.holds Tryz.pinned (OpenSpec.ofChange registryDerivedSpec)

/-- ITS FALSE NEIGHBOUR: 'it returns false'. Refute it at one input. -/
def registryDerivedWrong : ChangeSpec := { name := "registryDerived", fn := fun _ => fun
  | [d] => { results := [.lit (.bool false)], args := [d] }
  | _ => none }
def RegistryDerivedWrongFalsely : Prop := registryDerivedRow.holds Tryz.pinned (OpenSpec.ofChange registryDerivedWrong)

/-- 'samaritanlaw34.RegistryMatches': WHATEVER THE INPUT: true; the input reads as it did. -/
def registryMatchesSpec : ChangeSpec := { name := "registryMatches", fn := fun _ => fun
  | [d] => { results := [.lit (.bool true)], args := [d] }
  | _ => none }
def registryMatchesRow : OpenClaim := { program := "ytdhcjhfgibmhfaagreatdoor", sum := "3656352ea518315580bf2f5d435d86d57d12af074e9455ecc86be17148a78572", func := "samaritan/samaritanlaw34.RegistryMatches", spec := "registryMatches", unfollowed := true, recurses := true, named := ["math/bits.deBruijn64tab"], apart := false, laid := [("math/bits.deBruijn64tab", laid_math_bits_deBruijn64tab)] }
def RegistryMatchesSaid : Prop := registryMatchesRow.holds Tryz.pinned (OpenSpec.ofChange registryMatchesSpec)

/-- ITS FALSE NEIGHBOUR: 'it returns false'. Refute it at one input. -/
def registryMatchesWrong : ChangeSpec := { name := "registryMatches", fn := fun _ => fun
  | [d] => { results := [.lit (.bool false)], args := [d] }
  | _ => none }
def RegistryMatchesWrongFalsely : Prop := registryMatchesRow.holds Tryz.pinned (OpenSpec.ofChange registryMatchesWrong)

/-- 'samaritanlaw34.RegistryConsistent': WHATEVER THE INPUT: true; the input reads as it did. -/
def registryConsistentSpec : ChangeSpec := { name := "registryConsistent", fn := fun _ => fun
  | [d] => { results := [.lit (.bool true)], args := [d] }
  | _ => none }
def registryConsistentRow : OpenClaim := { program := "ytdhcjhfgibmhfaagreatdoor", sum := "3656352ea518315580bf2f5d435d86d57d12af074e9455ecc86be17148a78572", func := "samaritan/samaritanlaw34.RegistryConsistent", spec := "registryConsistent", unfollowed := true, recurses := true, named := ["math/bits.deBruijn64tab"], apart := false, laid := [("math/bits.deBruijn64tab", laid_math_bits_deBruijn64tab)] }
def RegistryConsistentSaid : Prop := registryConsistentRow.holds Tryz.pinned (OpenSpec.ofChange registryConsistentSpec)

/-- ITS FALSE NEIGHBOUR: 'it returns false'. Refute it at one input. -/
def registryConsistentWrong : ChangeSpec := { name := "registryConsistent", fn := fun _ => fun
  | [d] => { results := [.lit (.bool false)], args := [d] }
  | _ => none }
def RegistryConsistentWrongFalsely : Prop := registryConsistentRow.holds Tryz.pinned (OpenSpec.ofChange registryConsistentWrong)

/-- 'samaritanlaw34.RegistryCopies': WHATEVER THE INPUT: true; the input reads as it did. -/
def registryCopiesSpec : ChangeSpec := { name := "registryCopies", fn := fun _ => fun
  | [d] => { results := [.lit (.bool true)], args := [d] }
  | _ => none }
def registryCopiesRow : OpenClaim := { program := "ytdhcjhfgibmhfaagreatdoor", sum := "3656352ea518315580bf2f5d435d86d57d12af074e9455ecc86be17148a78572", func := "samaritan/samaritanlaw34.RegistryCopies", spec := "registryCopies", unfollowed := true, recurses := true, named := ["math/bits.deBruijn64tab"], apart := false, laid := [("math/bits.deBruijn64tab", laid_math_bits_deBruijn64tab)] }
def RegistryCopiesSaid : Prop := registryCopiesRow.holds Tryz.pinned (OpenSpec.ofChange registryCopiesSpec)

/-- ITS FALSE NEIGHBOUR: 'it returns false'. Refute it at one input. -/
def registryCopiesWrong : ChangeSpec := { name := "registryCopies", fn := fun _ => fun
  | [d] => { results := [.lit (.bool false)], args := [d] }
  | _ => none }
def RegistryCopiesWrongFalsely : Prop := registryCopiesRow.holds Tryz.pinned (OpenSpec.ofChange registryCopiesWrong)

/-- 'samaritanlaw34.RegistryChecksum': WHATEVER THE INPUT: true; the input reads as it did. -/
def registryChecksumSpec : ChangeSpec := { name := "registryChecksum", fn := fun _ => fun
  | [d] => { results := [.lit (.bool true)], args := [d] }
  | _ => none }
def registryChecksumRow : OpenClaim := { program := "ytdhcjhfgibmhfaagreatdoor", sum := "3656352ea518315580bf2f5d435d86d57d12af074e9455ecc86be17148a78572", func := "samaritan/samaritanlaw34.RegistryChecksum", spec := "registryChecksum", unfollowed := true, recurses := true, named := ["math/bits.deBruijn64tab"], apart := false, laid := [("math/bits.deBruijn64tab", laid_math_bits_deBruijn64tab)] }
def RegistryChecksumSaid : Prop := registryChecksumRow.holds Tryz.pinned (OpenSpec.ofChange registryChecksumSpec)

/-- ITS FALSE NEIGHBOUR: 'it returns false'. Refute it at one input. -/
def registryChecksumWrong : ChangeSpec := { name := "registryChecksum", fn := fun _ => fun
  | [d] => { results := [.lit (.bool false)], args := [d] }
  | _ => none }
def RegistryChecksumWrongFalsely : Prop := registryChecksumRow.holds Tryz.pinned (OpenSpec.ofChange registryChecksumWrong)

/- THE SECOND FORM. 'bulk': how many values and letters a reading holds, each counted each time it is reached (what is shared counts as often as it is met; a slice's spare places count too). A statement '..UptoSaid' is the law's where the arguments, and the package variables that the reading takes, are together of bulk at most 1048576: NARROWER than '..Said'. Prove '..Said' where nothing that the law and all that it calls make is longer than what came in: it says more and counts as full. Else prove '..UptoSaid'. A law counts once. -/
mutual
def uptoBulk {H : Type} : DataW H → Nat
  | .lit (.string bytes) => bytes.length + 1
  | .lit _ => 1
  | .nil => 1
  | .ptr d => uptoBulk d + 1
  | .slice elems spare => uptoBulkAll elems + uptoBulkAll spare + 1
  | .agg parts => uptoBulkAll parts + 1
  | .iface _ d => uptoBulk d + 1
  | .map entries => uptoBulkEntries entries + 1
  | .held _ => 1
def uptoBulkAll {H : Type} : List (DataW H) → Nat
  | [] => 0
  | d :: r => uptoBulk d + uptoBulkAll r
def uptoBulkEntries {H : Type} : List (Lit × DataW H) → Nat
  | [] => 0
  | x :: r => uptoBulkEntry x + uptoBulkEntries r
def uptoBulkEntry {H : Type} : Lit × DataW H → Nat
  | (.string bytes, d) => bytes.length + uptoBulk d + 1
  | (_, d) => uptoBulk d + 1
 end
def uptoSmall : (H : Type) → List (DataW H) → Bool := fun _ ds => decide (uptoBulkAll ds ≤ 1048576)
def OpenSpec.upto (s : _root_.Go.ChangeSpec) : _root_.Go.OpenSpec := { _root_.Go.OpenSpec.ofChange s with cond := some uptoSmall }

/-- 'samaritanlaw34.RegistryKeeps', WHERE WHAT IT READS IS OF BULK AT MOST 1048576: true; the input reads as it did. -/
def registryKeepsUptoRow : OpenClaim := { program := "ytdhcjhfgibmhfaagreatdoor", sum := "3656352ea518315580bf2f5d435d86d57d12af074e9455ecc86be17148a78572", func := "samaritan/samaritanlaw34.RegistryKeeps", spec := "registryKeeps", unfollowed := true, recurses := true, named := ["math/bits.deBruijn64tab"], apart := false, laid := [("math/bits.deBruijn64tab", laid_math_bits_deBruijn64tab)], narrowed := true }
def RegistryKeepsUptoSaid : Prop := registryKeepsUptoRow.holds Tryz.pinned (OpenSpec.upto registryKeepsSpec)

/-- 'samaritanlaw34.RegistryRestores', WHERE WHAT IT READS IS OF BULK AT MOST 1048576: true; the input reads as it did. -/
def registryRestoresUptoRow : OpenClaim := { program := "ytdhcjhfgibmhfaagreatdoor", sum := "3656352ea518315580bf2f5d435d86d57d12af074e9455ecc86be17148a78572", func := "samaritan/samaritanlaw34.RegistryRestores", spec := "registryRestores", unfollowed := true, recurses := true, named := ["math/bits.deBruijn64tab"], apart := false, laid := [("math/bits.deBruijn64tab", laid_math_bits_deBruijn64tab)], narrowed := true }
def RegistryRestoresUptoSaid : Prop := registryRestoresUptoRow.holds Tryz.pinned (OpenSpec.upto registryRestoresSpec)

/-- 'samaritanlaw34.RegistryLookup', WHERE WHAT IT READS IS OF BULK AT MOST 1048576: true; the input reads as it did. -/
def registryLookupUptoRow : OpenClaim := { program := "ytdhcjhfgibmhfaagreatdoor", sum := "3656352ea518315580bf2f5d435d86d57d12af074e9455ecc86be17148a78572", func := "samaritan/samaritanlaw34.RegistryLookup", spec := "registryLookup", unfollowed := true, recurses := true, named := ["math/bits.deBruijn64tab"], apart := false, laid := [("math/bits.deBruijn64tab", laid_math_bits_deBruijn64tab)], narrowed := true }
def RegistryLookupUptoSaid : Prop := registryLookupUptoRow.holds Tryz.pinned (OpenSpec.upto registryLookupSpec)

/-- 'samaritanlaw34.RegistryDerived', WHERE WHAT IT READS IS OF BULK AT MOST 1048576: true; the input reads as it did. -/
def registryDerivedUptoRow : OpenClaim := { program := "ytdhcjhfgibmhfaagreatdoor", sum := "3656352ea518315580bf2f5d435d86d57d12af074e9455ecc86be17148a78572", func := "samaritan/samaritanlaw34.RegistryDerived", spec := "registryDerived", unfollowed := true, recurses := true, named := ["math/bits.deBruijn64tab"], apart := false, laid := [("math/bits.deBruijn64tab", laid_math_bits_deBruijn64tab)], narrowed := true }
def RegistryDerivedUptoSaid : Prop := registryDerivedUptoRow.holds Tryz.pinned (OpenSpec.upto registryDerivedSpec)

/-- 'samaritanlaw34.RegistryMatches', WHERE WHAT IT READS IS OF BULK AT MOST 1048576: true; the input reads as it did. -/
def registryMatchesUptoRow : OpenClaim := { program := "ytdhcjhfgibmhfaagreatdoor", sum := "3656352ea518315580bf2f5d435d86d57d12af074e9455ecc86be17148a78572", func := "samaritan/samaritanlaw34.RegistryMatches", spec := "registryMatches", unfollowed := true, recurses := true, named := ["math/bits.deBruijn64tab"], apart := false, laid := [("math/bits.deBruijn64tab", laid_math_bits_deBruijn64tab)], narrowed := true }
def RegistryMatchesUptoSaid : Prop := registryMatchesUptoRow.holds Tryz.pinned (OpenSpec.upto registryMatchesSpec)

/-- 'samaritanlaw34.RegistryConsistent', WHERE WHAT IT READS IS OF BULK AT MOST 1048576: true; the input reads as it did. -/
def registryConsistentUptoRow : OpenClaim := { program := "ytdhcjhfgibmhfaagreatdoor", sum := "3656352ea518315580bf2f5d435d86d57d12af074e9455ecc86be17148a78572", func := "samaritan/samaritanlaw34.RegistryConsistent", spec := "registryConsistent", unfollowed := true, recurses := true, named := ["math/bits.deBruijn64tab"], apart := false, laid := [("math/bits.deBruijn64tab", laid_math_bits_deBruijn64tab)], narrowed := true }
def RegistryConsistentUptoSaid : Prop := registryConsistentUptoRow.holds Tryz.pinned (OpenSpec.upto registryConsistentSpec)

/-- 'samaritanlaw34.RegistryCopies', WHERE WHAT IT READS IS OF BULK AT MOST 1048576: true; the input reads as it did. -/
def registryCopiesUptoRow : OpenClaim := { program := "ytdhcjhfgibmhfaagreatdoor", sum := "3656352ea518315580bf2f5d435d86d57d12af074e9455ecc86be17148a78572", func := "samaritan/samaritanlaw34.RegistryCopies", spec := "registryCopies", unfollowed := true, recurses := true, named := ["math/bits.deBruijn64tab"], apart := false, laid := [("math/bits.deBruijn64tab", laid_math_bits_deBruijn64tab)], narrowed := true }
def RegistryCopiesUptoSaid : Prop := registryCopiesUptoRow.holds Tryz.pinned (OpenSpec.upto registryCopiesSpec)

/-- 'samaritanlaw34.RegistryChecksum', WHERE WHAT IT READS IS OF BULK AT MOST 1048576: true; the input reads as it did. -/
def registryChecksumUptoRow : OpenClaim := { program := "ytdhcjhfgibmhfaagreatdoor", sum := "3656352ea518315580bf2f5d435d86d57d12af074e9455ecc86be17148a78572", func := "samaritan/samaritanlaw34.RegistryChecksum", spec := "registryChecksum", unfollowed := true, recurses := true, named := ["math/bits.deBruijn64tab"], apart := false, laid := [("math/bits.deBruijn64tab", laid_math_bits_deBruijn64tab)], narrowed := true }
def RegistryChecksumUptoSaid : Prop := registryChecksumUptoRow.holds Tryz.pinned (OpenSpec.upto registryChecksumSpec)

end Rows
end Go.Proofs.YtdhcjhfgibmhfaaGreatDoor

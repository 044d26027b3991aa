/-
  NARROWER THAN 'FOR EVERY INPUT', by the rows' own cells (each row's printed sentence says how): IncidentValidates: laid · IncidentNarrows: laid · IncidentUnmarshals: laid · IncidentMarshals: laid · IncidentRebuilds: laid · IncidentKeepsCommonNode: laid.
  DERIVED. THE GIVEN ROWS OF THIS SEAT. 6 by the template 'for every input the law returns true; each argument reads behind the call as it read before'; 0 by the template 'total and deterministic' (their statements: YtipkicijfedfoaaDoorTotals.lean).
  GIVEN WITH THE SEED: the statements are not yours to turn. If you find one false, say at which input.
  Laid BY PROGRAM, IN A SANDBOX (cutbox-rows.mjs): the forced cells as the released guide's own fill.sh prints them over the translation d8574d040fad2ede… (all of the seat's roots in one cut). By AI agents, Wed Nov 11 2026. No macro, syntax, notation, axiom, sorry.
-/
import Derived.Test.YtipkicijfedfoaaDoorChecked
import GoSem.Claim
import GoSem.ClaimJoined
import GoSem.ClaimMapViews
import Derived.JoinedTies
import Derived.KernelRfl
namespace Go.Proofs.YtipkicijfedfoaaDoor
/- THE CELL 'sum', in the pinned program and in every row, IS THE sha256 OF THE DUMP (.gsa) THAT YtipkicijfedfoaaDoorProg.lean LOADS. Nothing in Lean hashes anything: it is a label: what it is worth is what the hold of that sum in a sandbox is worth. -/
noncomputable def Tryd.pinned : Pinned := { name := "ytipkicijfedfoaadoor", sum := "d8574d040fad2ede5592c0d622d2f1ac4637746695f25425a59e9c07fb16b1aa", checked := Tryd.checked }
namespace Rows
def none {H : Type} : Left H := { results := [], args := [] }

/- WHAT THE LISTED PACKAGE-LEVEL VARIABLES READ AS WHEN THE CALL BEGINS. Each datum BY PROGRAM (the guide's laid-datum.mjs) off the statement by which the dump's own 'gosem.cut.vars' lays the variable. In a bare row this is a premise. The card (YtipkicijfedfoaaDoorCards.lean) ties it to the program's text. -/
def laid_math_bits_deBruijn64tab {H : Type} : DataW H := .agg [.lit (.int .u8 0), .lit (.int .u8 1), .lit (.int .u8 56), .lit (.int .u8 2), .lit (.int .u8 57), .lit (.int .u8 49), .lit (.int .u8 28), .lit (.int .u8 3), .lit (.int .u8 61), .lit (.int .u8 58), .lit (.int .u8 42), .lit (.int .u8 50), .lit (.int .u8 38), .lit (.int .u8 29), .lit (.int .u8 17), .lit (.int .u8 4), .lit (.int .u8 62), .lit (.int .u8 47), .lit (.int .u8 59), .lit (.int .u8 36), .lit (.int .u8 45), .lit (.int .u8 43), .lit (.int .u8 51), .lit (.int .u8 22), .lit (.int .u8 53), .lit (.int .u8 39), .lit (.int .u8 33), .lit (.int .u8 30), .lit (.int .u8 24), .lit (.int .u8 18), .lit (.int .u8 12), .lit (.int .u8 5), .lit (.int .u8 63), .lit (.int .u8 55), .lit (.int .u8 48), .lit (.int .u8 27), .lit (.int .u8 60), .lit (.int .u8 41), .lit (.int .u8 37), .lit (.int .u8 16), .lit (.int .u8 46), .lit (.int .u8 35), .lit (.int .u8 44), .lit (.int .u8 21), .lit (.int .u8 52), .lit (.int .u8 32), .lit (.int .u8 23), .lit (.int .u8 11), .lit (.int .u8 54), .lit (.int .u8 26), .lit (.int .u8 40), .lit (.int .u8 15), .lit (.int .u8 34), .lit (.int .u8 20), .lit (.int .u8 31), .lit (.int .u8 10), .lit (.int .u8 25), .lit (.int .u8 14), .lit (.int .u8 19), .lit (.int .u8 9), .lit (.int .u8 13), .lit (.int .u8 8), .lit (.int .u8 7), .lit (.int .u8 6)]

/-- 'samaritanlaw32.IncidentValidates': WHATEVER THE INPUT: true; the input reads as it did. -/
def incidentValidatesSpec : ChangeSpec := { name := "incidentValidates", fn := fun _ => fun
  | [d1, d2, d3] => { results := [.lit (.bool true)], args := [d1, d2, d3] }
  | _ => none }
def incidentValidatesRow : OpenClaim := { program := "ytipkicijfedfoaadoor", sum := "d8574d040fad2ede5592c0d622d2f1ac4637746695f25425a59e9c07fb16b1aa", func := "samaritan/samaritanlaw32.IncidentValidates", spec := "incidentValidates", unfollowed := true, recurses := true, named := ["math/bits.deBruijn64tab"], apart := false, laid := [("math/bits.deBruijn64tab", laid_math_bits_deBruijn64tab)] }
def IncidentValidatesSaid : Prop := incidentValidatesRow.holds Tryd.pinned (OpenSpec.ofChange incidentValidatesSpec)

/-- ITS FALSE NEIGHBOUR: 'it returns false'. Refute it at one input. -/
def incidentValidatesWrong : ChangeSpec := { name := "incidentValidates", fn := fun _ => fun
  | [d1, d2, d3] => { results := [.lit (.bool false)], args := [d1, d2, d3] }
  | _ => none }
def IncidentValidatesWrongFalsely : Prop := incidentValidatesRow.holds Tryd.pinned (OpenSpec.ofChange incidentValidatesWrong)

/-- 'samaritanlaw32.IncidentNarrows': WHATEVER THE INPUT: true; the input reads as it did. -/
def incidentNarrowsSpec : ChangeSpec := { name := "incidentNarrows", fn := fun _ => fun
  | [d1, d2] => { results := [.lit (.bool true)], args := [d1, d2] }
  | _ => none }
def incidentNarrowsRow : OpenClaim := { program := "ytipkicijfedfoaadoor", sum := "d8574d040fad2ede5592c0d622d2f1ac4637746695f25425a59e9c07fb16b1aa", func := "samaritan/samaritanlaw32.IncidentNarrows", spec := "incidentNarrows", unfollowed := true, recurses := true, named := ["math/bits.deBruijn64tab"], apart := false, laid := [("math/bits.deBruijn64tab", laid_math_bits_deBruijn64tab)] }
def IncidentNarrowsSaid : Prop := incidentNarrowsRow.holds Tryd.pinned (OpenSpec.ofChange incidentNarrowsSpec)

/-- ITS FALSE NEIGHBOUR: 'it returns false'. Refute it at one input. -/
def incidentNarrowsWrong : ChangeSpec := { name := "incidentNarrows", fn := fun _ => fun
  | [d1, d2] => { results := [.lit (.bool false)], args := [d1, d2] }
  | _ => none }
def IncidentNarrowsWrongFalsely : Prop := incidentNarrowsRow.holds Tryd.pinned (OpenSpec.ofChange incidentNarrowsWrong)

/-- 'samaritanlaw32.IncidentUnmarshals': WHATEVER THE INPUT: true; the input reads as it did. -/
def incidentUnmarshalsSpec : ChangeSpec := { name := "incidentUnmarshals", fn := fun _ => fun
  | [d] => { results := [.lit (.bool true)], args := [d] }
  | _ => none }
def incidentUnmarshalsRow : OpenClaim := { program := "ytipkicijfedfoaadoor", sum := "d8574d040fad2ede5592c0d622d2f1ac4637746695f25425a59e9c07fb16b1aa", func := "samaritan/samaritanlaw32.IncidentUnmarshals", spec := "incidentUnmarshals", unfollowed := true, recurses := true, named := ["math/bits.deBruijn64tab"], apart := false, laid := [("math/bits.deBruijn64tab", laid_math_bits_deBruijn64tab)] }
def IncidentUnmarshalsSaid : Prop := incidentUnmarshalsRow.holds Tryd.pinned (OpenSpec.ofChange incidentUnmarshalsSpec)

/-- ITS FALSE NEIGHBOUR: 'it returns false'. Refute it at one input. -/
def incidentUnmarshalsWrong : ChangeSpec := { name := "incidentUnmarshals", fn := fun _ => fun
  | [d] => { results := [.lit (.bool false)], args := [d] }
  | _ => none }
def IncidentUnmarshalsWrongFalsely : Prop := incidentUnmarshalsRow.holds Tryd.pinned (OpenSpec.ofChange incidentUnmarshalsWrong)

/-- 'samaritanlaw32.IncidentMarshals': WHATEVER THE INPUT: true; the input reads as it did. -/
def incidentMarshalsSpec : ChangeSpec := { name := "incidentMarshals", fn := fun _ => fun
  | [d1, d2] => { results := [.lit (.bool true)], args := [d1, d2] }
  | _ => none }
def incidentMarshalsRow : OpenClaim := { program := "ytipkicijfedfoaadoor", sum := "d8574d040fad2ede5592c0d622d2f1ac4637746695f25425a59e9c07fb16b1aa", func := "samaritan/samaritanlaw32.IncidentMarshals", spec := "incidentMarshals", unfollowed := true, recurses := true, named := ["math/bits.deBruijn64tab"], apart := false, laid := [("math/bits.deBruijn64tab", laid_math_bits_deBruijn64tab)] }
def IncidentMarshalsSaid : Prop := incidentMarshalsRow.holds Tryd.pinned (OpenSpec.ofChange incidentMarshalsSpec)

/-- ITS FALSE NEIGHBOUR: 'it returns false'. Refute it at one input. -/
def incidentMarshalsWrong : ChangeSpec := { name := "incidentMarshals", fn := fun _ => fun
  | [d1, d2] => { results := [.lit (.bool false)], args := [d1, d2] }
  | _ => none }
def IncidentMarshalsWrongFalsely : Prop := incidentMarshalsRow.holds Tryd.pinned (OpenSpec.ofChange incidentMarshalsWrong)

/-- 'samaritanlaw32.IncidentRebuilds': WHATEVER THE INPUT: true; the input reads as it did. -/
def incidentRebuildsSpec : ChangeSpec := { name := "incidentRebuilds", fn := fun _ => fun
  | [d1, d2] => { results := [.lit (.bool true)], args := [d1, d2] }
  | _ => none }
def incidentRebuildsRow : OpenClaim := { program := "ytipkicijfedfoaadoor", sum := "d8574d040fad2ede5592c0d622d2f1ac4637746695f25425a59e9c07fb16b1aa", func := "samaritan/samaritanlaw32.IncidentRebuilds", spec := "incidentRebuilds", unfollowed := true, recurses := true, named := ["math/bits.deBruijn64tab"], apart := false, laid := [("math/bits.deBruijn64tab", laid_math_bits_deBruijn64tab)] }
def IncidentRebuildsSaid : Prop := incidentRebuildsRow.holds Tryd.pinned (OpenSpec.ofChange incidentRebuildsSpec)

/-- ITS FALSE NEIGHBOUR: 'it returns false'. Refute it at one input. -/
def incidentRebuildsWrong : ChangeSpec := { name := "incidentRebuilds", fn := fun _ => fun
  | [d1, d2] => { results := [.lit (.bool false)], args := [d1, d2] }
  | _ => none }
def IncidentRebuildsWrongFalsely : Prop := incidentRebuildsRow.holds Tryd.pinned (OpenSpec.ofChange incidentRebuildsWrong)

/-- 'samaritanlaw32.IncidentKeepsCommonNode': WHATEVER THE INPUT: true; the input reads as it did. -/
def incidentKeepsCommonNodeSpec : ChangeSpec := { name := "incidentKeepsCommonNode", fn := fun _ => fun
  | [d1, d2] => { results := [.lit (.bool true)], args := [d1, d2] }
  | _ => none }
def incidentKeepsCommonNodeRow : OpenClaim := { program := "ytipkicijfedfoaadoor", sum := "d8574d040fad2ede5592c0d622d2f1ac4637746695f25425a59e9c07fb16b1aa", func := "samaritan/samaritanlaw32.IncidentKeepsCommonNode", spec := "incidentKeepsCommonNode", unfollowed := true, recurses := true, named := ["math/bits.deBruijn64tab"], apart := false, laid := [("math/bits.deBruijn64tab", laid_math_bits_deBruijn64tab)] }
def IncidentKeepsCommonNodeSaid : Prop := incidentKeepsCommonNodeRow.holds Tryd.pinned (OpenSpec.ofChange incidentKeepsCommonNodeSpec)

/-- ITS FALSE NEIGHBOUR: 'it returns false'. Refute it at one input. -/
def incidentKeepsCommonNodeWrong : ChangeSpec := { name := "incidentKeepsCommonNode", fn := fun _ => fun
  | [d1, d2] => { results := [.lit (.bool false)], args := [d1, d2] }
  | _ => none }
def IncidentKeepsCommonNodeWrongFalsely : Prop := incidentKeepsCommonNodeRow.holds Tryd.pinned (OpenSpec.ofChange incidentKeepsCommonNodeWrong)

/- THE SECOND FORM. 'bulk': how many values and letters a reading holds, each counted each time it is reached (what is shared counts as often as it is met; a slice's spare places count too). A statement '..UptoSaid' is the law's where the arguments, and the package variables that the reading takes, are together of bulk at most 1048576: NARROWER than '..Said'. Prove '..Said' where nothing that the law and all that it calls make is longer than what came in: it says more and counts as full. Else prove '..UptoSaid'. A law counts once. -/
mutual
def uptoBulk {H : Type} : DataW H → Nat
  | .lit (.string bytes) => bytes.length + 1
  | .lit _ => 1
  | .nil => 1
  | .ptr d => uptoBulk d + 1
  | .slice elems spare => uptoBulkAll elems + uptoBulkAll spare + 1
  | .agg parts => uptoBulkAll parts + 1
  | .iface _ d => uptoBulk d + 1
  | .map entries => uptoBulkEntries entries + 1
  | .held _ => 1
def uptoBulkAll {H : Type} : List (DataW H) → Nat
  | [] => 0
  | d :: r => uptoBulk d + uptoBulkAll r
def uptoBulkEntries {H : Type} : List (Lit × DataW H) → Nat
  | [] => 0
  | x :: r => uptoBulkEntry x + uptoBulkEntries r
def uptoBulkEntry {H : Type} : Lit × DataW H → Nat
  | (.string bytes, d) => bytes.length + uptoBulk d + 1
  | (_, d) => uptoBulk d + 1
 end
def uptoSmall : (H : Type) → List (DataW H) → Bool := fun _ ds => decide (uptoBulkAll ds ≤ 1048576)
def OpenSpec.upto (s : _root_.Go.ChangeSpec) : _root_.Go.OpenSpec := { _root_.Go.OpenSpec.ofChange s with cond := some uptoSmall }

/-- 'samaritanlaw32.IncidentValidates', WHERE WHAT IT READS IS OF BULK AT MOST 1048576: true; the input reads as it did. -/
def incidentValidatesUptoRow : OpenClaim := { program := "ytipkicijfedfoaadoor", sum := "d8574d040fad2ede5592c0d622d2f1ac4637746695f25425a59e9c07fb16b1aa", func := "samaritan/samaritanlaw32.IncidentValidates", spec := "incidentValidates", unfollowed := true, recurses := true, named := ["math/bits.deBruijn64tab"], apart := false, laid := [("math/bits.deBruijn64tab", laid_math_bits_deBruijn64tab)], narrowed := true }
def IncidentValidatesUptoSaid : Prop := incidentValidatesUptoRow.holds Tryd.pinned (OpenSpec.upto incidentValidatesSpec)

/-- 'samaritanlaw32.IncidentNarrows', WHERE WHAT IT READS IS OF BULK AT MOST 1048576: true; the input reads as it did. -/
def incidentNarrowsUptoRow : OpenClaim := { program := "ytipkicijfedfoaadoor", sum := "d8574d040fad2ede5592c0d622d2f1ac4637746695f25425a59e9c07fb16b1aa", func := "samaritan/samaritanlaw32.IncidentNarrows", spec := "incidentNarrows", unfollowed := true, recurses := true, named := ["math/bits.deBruijn64tab"], apart := false, laid := [("math/bits.deBruijn64tab", laid_math_bits_deBruijn64tab)], narrowed := true }
def IncidentNarrowsUptoSaid : Prop := incidentNarrowsUptoRow.holds Tryd.pinned (OpenSpec.upto incidentNarrowsSpec)

/-- 'samaritanlaw32.IncidentUnmarshals', WHERE WHAT IT READS IS OF BULK AT MOST 1048576: true; the input reads as it did. -/
def incidentUnmarshalsUptoRow : OpenClaim := { program := "ytipkicijfedfoaadoor", sum := "d8574d040fad2ede5592c0d622d2f1ac4637746695f25425a59e9c07fb16b1aa", func := "samaritan/samaritanlaw32.IncidentUnmarshals", spec := "incidentUnmarshals", unfollowed := true, recurses := true, named := ["math/bits.deBruijn64tab"], apart := false, laid := [("math/bits.deBruijn64tab", laid_math_bits_deBruijn64tab)], narrowed := true }
def IncidentUnmarshalsUptoSaid : Prop := incidentUnmarshalsUptoRow.holds Tryd.pinned (OpenSpec.upto incidentUnmarshalsSpec)

/-- 'samaritanlaw32.IncidentMarshals', WHERE WHAT IT READS IS OF BULK AT MOST 1048576: true; the input reads as it did. -/
def incidentMarshalsUptoRow : OpenClaim := { program := "ytipkicijfedfoaadoor", sum := "d8574d040fad2ede5592c0d622d2f1ac4637746695f25425a59e9c07fb16b1aa", func := "samaritan/samaritanlaw32.IncidentMarshals", spec := "incidentMarshals", unfollowed := true, recurses := true, named := ["math/bits.deBruijn64tab"], apart := false, laid := [("math/bits.deBruijn64tab", laid_math_bits_deBruijn64tab)], narrowed := true }
def IncidentMarshalsUptoSaid : Prop := incidentMarshalsUptoRow.holds Tryd.pinned (OpenSpec.upto incidentMarshalsSpec)

/-- 'samaritanlaw32.IncidentRebuilds', WHERE WHAT IT READS IS OF BULK AT MOST 1048576: true; the input reads as it did. -/
def incidentRebuildsUptoRow : OpenClaim := { program := "ytipkicijfedfoaadoor", sum := "d8574d040fad2ede5592c0d622d2f1ac4637746695f25425a59e9c07fb16b1aa", func := "samaritan/samaritanlaw32.IncidentRebuilds", spec := "incidentRebuilds", unfollowed := true, recurses := true, named := ["math/bits.deBruijn64tab"], apart := false, laid := [("math/bits.deBruijn64tab", laid_math_bits_deBruijn64tab)], narrowed := true }
def IncidentRebuildsUptoSaid : Prop := incidentRebuildsUptoRow.holds Tryd.pinned (OpenSpec.upto incidentRebuildsSpec)

/-- 'samaritanlaw32.IncidentKeepsCommonNode', WHERE WHAT IT READS IS OF BULK AT MOST 1048576: true; the input reads as it did. -/
def incidentKeepsCommonNodeUptoRow : OpenClaim := { program := "ytipkicijfedfoaadoor", sum := "d8574d040fad2ede5592c0d622d2f1ac4637746695f25425a59e9c07fb16b1aa", func := "samaritan/samaritanlaw32.IncidentKeepsCommonNode", spec := "incidentKeepsCommonNode", unfollowed := true, recurses := true, named := ["math/bits.deBruijn64tab"], apart := false, laid := [("math/bits.deBruijn64tab", laid_math_bits_deBruijn64tab)], narrowed := true }
def IncidentKeepsCommonNodeUptoSaid : Prop := incidentKeepsCommonNodeUptoRow.holds Tryd.pinned (OpenSpec.upto incidentKeepsCommonNodeSpec)

end Rows
end Go.Proofs.YtipkicijfedfoaaDoor

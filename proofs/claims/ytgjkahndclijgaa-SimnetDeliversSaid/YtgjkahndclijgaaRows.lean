/-
  No cell of these rows narrows 'for every input' (looked for: loops, veiled, ifaces, maps, wideKeys, modest, calm, conditions, laid).
  DERIVED. THE GIVEN ROWS OF THIS SEAT. 7 by the template 'for every input the law returns true; each argument reads behind the call as it read before'; 0 by the template 'total and deterministic' (their statements: YtgjkahndclijgaaTotals.lean).
  GIVEN WITH THE SEED: the statements are not yours to turn. If you find one false, say at which input.
  Laid BY PROGRAM, IN A SANDBOX (cutbox-rows.mjs): the forced cells as the released guide's own fill.sh prints them over the translation 9d29a108cef179e4… (all of the seat's roots in one cut). By AI agents, Wed Nov 11 2026. No macro, syntax, notation, axiom, sorry.
-/
import Derived.Test.YtgjkahndclijgaaChecked
import GoSem.Claim
import GoSem.ClaimJoined
import GoSem.ClaimMapViews
import Derived.JoinedTies
import Derived.KernelRfl
namespace Go.Proofs.Ytgjkahndclijgaa
/- THE CELL 'sum', in the pinned program and in every row, IS THE sha256 OF THE DUMP (.gsa) THAT YtgjkahndclijgaaProg.lean LOADS. Nothing in Lean hashes anything: it is a label: what it is worth is what the hold of that sum in a sandbox is worth. -/
noncomputable def Try.pinned : Pinned := { name := "ytgjkahndclijgaa", sum := "9d29a108cef179e4abc2436867f8bdc81a31626f96da537f5f5f306f78785e3c", checked := Try.checked }
namespace Rows
def none {H : Type} : Left H := { results := [], args := [] }

/-- 'samaritanlaw18.SimnetCopies': WHATEVER THE INPUT: true; the input reads as it did. -/
def simnetCopiesSpec : ChangeSpec := { name := "simnetCopies", fn := fun _ => fun
  | [d] => { results := [.lit (.bool true)], args := [d] }
  | _ => none }
def simnetCopiesRow : OpenClaim := { program := "ytgjkahndclijgaa", sum := "9d29a108cef179e4abc2436867f8bdc81a31626f96da537f5f5f306f78785e3c", func := "samaritan/samaritanlaw18.SimnetCopies", spec := "simnetCopies", apart := false }
def SimnetCopiesSaid : Prop := simnetCopiesRow.holds Try.pinned (OpenSpec.ofChange simnetCopiesSpec)

/-- ITS FALSE NEIGHBOUR: 'it returns false'. Refute it at one input. -/
def simnetCopiesWrong : ChangeSpec := { name := "simnetCopies", fn := fun _ => fun
  | [d] => { results := [.lit (.bool false)], args := [d] }
  | _ => none }
def SimnetCopiesWrongFalsely : Prop := simnetCopiesRow.holds Try.pinned (OpenSpec.ofChange simnetCopiesWrong)

/-- 'samaritanlaw18.SimnetConnected': WHATEVER THE INPUT: true; the input reads as it did. -/
def simnetConnectedSpec : ChangeSpec := { name := "simnetConnected", fn := fun _ => fun
  | [d1, d2, d3] => { results := [.lit (.bool true)], args := [d1, d2, d3] }
  | _ => none }
def simnetConnectedRow : OpenClaim := { program := "ytgjkahndclijgaa", sum := "9d29a108cef179e4abc2436867f8bdc81a31626f96da537f5f5f306f78785e3c", func := "samaritan/samaritanlaw18.SimnetConnected", spec := "simnetConnected", apart := false }
def SimnetConnectedSaid : Prop := simnetConnectedRow.holds Try.pinned (OpenSpec.ofChange simnetConnectedSpec)

/-- ITS FALSE NEIGHBOUR: 'it returns false'. Refute it at one input. -/
def simnetConnectedWrong : ChangeSpec := { name := "simnetConnected", fn := fun _ => fun
  | [d1, d2, d3] => { results := [.lit (.bool false)], args := [d1, d2, d3] }
  | _ => none }
def SimnetConnectedWrongFalsely : Prop := simnetConnectedRow.holds Try.pinned (OpenSpec.ofChange simnetConnectedWrong)

/-- 'samaritanlaw18.SimnetMaxBody': WHATEVER THE INPUT: true; the input reads as it did. -/
def simnetMaxBodySpec : ChangeSpec := { name := "simnetMaxBody", fn := fun _ => fun
  | [d] => { results := [.lit (.bool true)], args := [d] }
  | _ => none }
def simnetMaxBodyRow : OpenClaim := { program := "ytgjkahndclijgaa", sum := "9d29a108cef179e4abc2436867f8bdc81a31626f96da537f5f5f306f78785e3c", func := "samaritan/samaritanlaw18.SimnetMaxBody", spec := "simnetMaxBody", recurses := true, apart := false }
def SimnetMaxBodySaid : Prop := simnetMaxBodyRow.holds Try.pinned (OpenSpec.ofChange simnetMaxBodySpec)

/-- ITS FALSE NEIGHBOUR: 'it returns false'. Refute it at one input. -/
def simnetMaxBodyWrong : ChangeSpec := { name := "simnetMaxBody", fn := fun _ => fun
  | [d] => { results := [.lit (.bool false)], args := [d] }
  | _ => none }
def SimnetMaxBodyWrongFalsely : Prop := simnetMaxBodyRow.holds Try.pinned (OpenSpec.ofChange simnetMaxBodyWrong)

/-- 'samaritanlaw18.SimnetDelivers': WHATEVER THE INPUT: true; the input reads as it did. -/
def simnetDeliversSpec : ChangeSpec := { name := "simnetDelivers", fn := fun _ => fun
  | [d] => { results := [.lit (.bool true)], args := [d] }
  | _ => none }
def simnetDeliversRow : OpenClaim := { program := "ytgjkahndclijgaa", sum := "9d29a108cef179e4abc2436867f8bdc81a31626f96da537f5f5f306f78785e3c", func := "samaritan/samaritanlaw18.SimnetDelivers", spec := "simnetDelivers", recurses := true, apart := false }
def SimnetDeliversSaid : Prop := simnetDeliversRow.holds Try.pinned (OpenSpec.ofChange simnetDeliversSpec)

/-- ITS FALSE NEIGHBOUR: 'it returns false'. Refute it at one input. -/
def simnetDeliversWrong : ChangeSpec := { name := "simnetDelivers", fn := fun _ => fun
  | [d] => { results := [.lit (.bool false)], args := [d] }
  | _ => none }
def SimnetDeliversWrongFalsely : Prop := simnetDeliversRow.holds Try.pinned (OpenSpec.ofChange simnetDeliversWrong)

/-- 'samaritanlaw18.SimnetStats': WHATEVER THE INPUT: true; the input reads as it did. -/
def simnetStatsSpec : ChangeSpec := { name := "simnetStats", fn := fun _ => fun
  | [d] => { results := [.lit (.bool true)], args := [d] }
  | _ => none }
def simnetStatsRow : OpenClaim := { program := "ytgjkahndclijgaa", sum := "9d29a108cef179e4abc2436867f8bdc81a31626f96da537f5f5f306f78785e3c", func := "samaritan/samaritanlaw18.SimnetStats", spec := "simnetStats", recurses := true, apart := false }
def SimnetStatsSaid : Prop := simnetStatsRow.holds Try.pinned (OpenSpec.ofChange simnetStatsSpec)

/-- ITS FALSE NEIGHBOUR: 'it returns false'. Refute it at one input. -/
def simnetStatsWrong : ChangeSpec := { name := "simnetStats", fn := fun _ => fun
  | [d] => { results := [.lit (.bool false)], args := [d] }
  | _ => none }
def SimnetStatsWrongFalsely : Prop := simnetStatsRow.holds Try.pinned (OpenSpec.ofChange simnetStatsWrong)

/-- 'samaritanlaw18.SimnetMatches': WHATEVER THE INPUT: true; the input reads as it did. -/
def simnetMatchesSpec : ChangeSpec := { name := "simnetMatches", fn := fun _ => fun
  | [d1, d2] => { results := [.lit (.bool true)], args := [d1, d2] }
  | _ => none }
def simnetMatchesRow : OpenClaim := { program := "ytgjkahndclijgaa", sum := "9d29a108cef179e4abc2436867f8bdc81a31626f96da537f5f5f306f78785e3c", func := "samaritan/samaritanlaw18.SimnetMatches", spec := "simnetMatches", recurses := true, apart := false }
def SimnetMatchesSaid : Prop := simnetMatchesRow.holds Try.pinned (OpenSpec.ofChange simnetMatchesSpec)

/-- ITS FALSE NEIGHBOUR: 'it returns false'. Refute it at one input. -/
def simnetMatchesWrong : ChangeSpec := { name := "simnetMatches", fn := fun _ => fun
  | [d1, d2] => { results := [.lit (.bool false)], args := [d1, d2] }
  | _ => none }
def SimnetMatchesWrongFalsely : Prop := simnetMatchesRow.holds Try.pinned (OpenSpec.ofChange simnetMatchesWrong)

/-- 'samaritanlaw18.SimnetPartition': WHATEVER THE INPUT: true; the input reads as it did. -/
def simnetPartitionSpec : ChangeSpec := { name := "simnetPartition", fn := fun _ => fun
  | [d] => { results := [.lit (.bool true)], args := [d] }
  | _ => none }
def simnetPartitionRow : OpenClaim := { program := "ytgjkahndclijgaa", sum := "9d29a108cef179e4abc2436867f8bdc81a31626f96da537f5f5f306f78785e3c", func := "samaritan/samaritanlaw18.SimnetPartition", spec := "simnetPartition", recurses := true, apart := false }
def SimnetPartitionSaid : Prop := simnetPartitionRow.holds Try.pinned (OpenSpec.ofChange simnetPartitionSpec)

/-- ITS FALSE NEIGHBOUR: 'it returns false'. Refute it at one input. -/
def simnetPartitionWrong : ChangeSpec := { name := "simnetPartition", fn := fun _ => fun
  | [d] => { results := [.lit (.bool false)], args := [d] }
  | _ => none }
def SimnetPartitionWrongFalsely : Prop := simnetPartitionRow.holds Try.pinned (OpenSpec.ofChange simnetPartitionWrong)

/- THE SECOND FORM. 'bulk': how many values and letters a reading holds, each counted each time it is reached (what is shared counts as often as it is met; a slice's spare places count too). A statement '..UptoSaid' is the law's where the arguments, and the package variables that the reading takes, are together of bulk at most 1048576: NARROWER than '..Said'. Prove '..Said' where nothing that the law and all that it calls make is longer than what came in: it says more and counts as full. Else prove '..UptoSaid'. A law counts once. -/
mutual
def uptoBulk {H : Type} : DataW H → Nat
  | .lit (.string bytes) => bytes.length + 1
  | .lit _ => 1
  | .nil => 1
  | .ptr d => uptoBulk d + 1
  | .slice elems spare => uptoBulkAll elems + uptoBulkAll spare + 1
  | .agg parts => uptoBulkAll parts + 1
  | .iface _ d => uptoBulk d + 1
  | .map entries => uptoBulkEntries entries + 1
  | .held _ => 1
def uptoBulkAll {H : Type} : List (DataW H) → Nat
  | [] => 0
  | d :: r => uptoBulk d + uptoBulkAll r
def uptoBulkEntries {H : Type} : List (Lit × DataW H) → Nat
  | [] => 0
  | x :: r => uptoBulkEntry x + uptoBulkEntries r
def uptoBulkEntry {H : Type} : Lit × DataW H → Nat
  | (.string bytes, d) => bytes.length + uptoBulk d + 1
  | (_, d) => uptoBulk d + 1
 end
def uptoSmall : (H : Type) → List (DataW H) → Bool := fun _ ds => decide (uptoBulkAll ds ≤ 1048576)
def OpenSpec.upto (s : _root_.Go.ChangeSpec) : _root_.Go.OpenSpec := { _root_.Go.OpenSpec.ofChange s with cond := some uptoSmall }

/-- 'samaritanlaw18.SimnetCopies', WHERE WHAT IT READS IS OF BULK AT MOST 1048576: true; the input reads as it did. -/
def simnetCopiesUptoRow : OpenClaim := { program := "ytgjkahndclijgaa", sum := "9d29a108cef179e4abc2436867f8bdc81a31626f96da537f5f5f306f78785e3c", func := "samaritan/samaritanlaw18.SimnetCopies", spec := "simnetCopies", apart := false, narrowed := true }
def SimnetCopiesUptoSaid : Prop := simnetCopiesUptoRow.holds Try.pinned (OpenSpec.upto simnetCopiesSpec)

/-- 'samaritanlaw18.SimnetConnected', WHERE WHAT IT READS IS OF BULK AT MOST 1048576: true; the input reads as it did. -/
def simnetConnectedUptoRow : OpenClaim := { program := "ytgjkahndclijgaa", sum := "9d29a108cef179e4abc2436867f8bdc81a31626f96da537f5f5f306f78785e3c", func := "samaritan/samaritanlaw18.SimnetConnected", spec := "simnetConnected", apart := false, narrowed := true }
def SimnetConnectedUptoSaid : Prop := simnetConnectedUptoRow.holds Try.pinned (OpenSpec.upto simnetConnectedSpec)

/-- 'samaritanlaw18.SimnetMaxBody', WHERE WHAT IT READS IS OF BULK AT MOST 1048576: true; the input reads as it did. -/
def simnetMaxBodyUptoRow : OpenClaim := { program := "ytgjkahndclijgaa", sum := "9d29a108cef179e4abc2436867f8bdc81a31626f96da537f5f5f306f78785e3c", func := "samaritan/samaritanlaw18.SimnetMaxBody", spec := "simnetMaxBody", recurses := true, apart := false, narrowed := true }
def SimnetMaxBodyUptoSaid : Prop := simnetMaxBodyUptoRow.holds Try.pinned (OpenSpec.upto simnetMaxBodySpec)

/-- 'samaritanlaw18.SimnetDelivers', WHERE WHAT IT READS IS OF BULK AT MOST 1048576: true; the input reads as it did. -/
def simnetDeliversUptoRow : OpenClaim := { program := "ytgjkahndclijgaa", sum := "9d29a108cef179e4abc2436867f8bdc81a31626f96da537f5f5f306f78785e3c", func := "samaritan/samaritanlaw18.SimnetDelivers", spec := "simnetDelivers", recurses := true, apart := false, narrowed := true }
def SimnetDeliversUptoSaid : Prop := simnetDeliversUptoRow.holds Try.pinned (OpenSpec.upto simnetDeliversSpec)

/-- 'samaritanlaw18.SimnetStats', WHERE WHAT IT READS IS OF BULK AT MOST 1048576: true; the input reads as it did. -/
def simnetStatsUptoRow : OpenClaim := { program := "ytgjkahndclijgaa", sum := "9d29a108cef179e4abc2436867f8bdc81a31626f96da537f5f5f306f78785e3c", func := "samaritan/samaritanlaw18.SimnetStats", spec := "simnetStats", recurses := true, apart := false, narrowed := true }
def SimnetStatsUptoSaid : Prop := simnetStatsUptoRow.holds Try.pinned (OpenSpec.upto simnetStatsSpec)

/-- 'samaritanlaw18.SimnetMatches', WHERE WHAT IT READS IS OF BULK AT MOST 1048576: true; the input reads as it did. -/
def simnetMatchesUptoRow : OpenClaim := { program := "ytgjkahndclijgaa", sum := "9d29a108cef179e4abc2436867f8bdc81a31626f96da537f5f5f306f78785e3c", func := "samaritan/samaritanlaw18.SimnetMatches", spec := "simnetMatches", recurses := true, apart := false, narrowed := true }
def SimnetMatchesUptoSaid : Prop := simnetMatchesUptoRow.holds Try.pinned (OpenSpec.upto simnetMatchesSpec)

/-- 'samaritanlaw18.SimnetPartition', WHERE WHAT IT READS IS OF BULK AT MOST 1048576: true; the input reads as it did. -/
def simnetPartitionUptoRow : OpenClaim := { program := "ytgjkahndclijgaa", sum := "9d29a108cef179e4abc2436867f8bdc81a31626f96da537f5f5f306f78785e3c", func := "samaritan/samaritanlaw18.SimnetPartition", spec := "simnetPartition", recurses := true, apart := false, narrowed := true }
def SimnetPartitionUptoSaid : Prop := simnetPartitionUptoRow.holds Try.pinned (OpenSpec.upto simnetPartitionSpec)

end Rows
end Go.Proofs.Ytgjkahndclijgaa

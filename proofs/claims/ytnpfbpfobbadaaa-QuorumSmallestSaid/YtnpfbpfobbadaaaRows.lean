/-
  No cell of these rows narrows 'for every input' (looked for: loops, veiled, ifaces, maps, wideKeys, modest, calm, conditions, laid).
  DERIVED. THE GIVEN ROWS OF THIS SEAT. 7 by the template 'for every input the law returns true; each argument reads behind the call as it read before'; 0 by the template 'total and deterministic' (their statements: YtnpfbpfobbadaaaTotals.lean).
  GIVEN WITH THE SEED: the statements are not yours to turn. If you find one false, say at which input.
  Laid BY PROGRAM, IN A SANDBOX (cutbox-rows.mjs): the forced cells as the released guide's own fill.sh prints them over the translation fbbfa706dd5d997f… (all of the seat's roots in one cut). By AI agents, Wed Nov 11 2026. No macro, syntax, notation, axiom, sorry.
-/
import Derived.Test.YtnpfbpfobbadaaaChecked
import GoSem.Claim
import GoSem.ClaimJoined
import GoSem.ClaimMapViews
import Derived.JoinedTies
import Derived.KernelRfl
namespace Go.Proofs.Ytnpfbpfobbadaaa
/- THE CELL 'sum', in the pinned program and in every row, IS THE sha256 OF THE DUMP (.gsa) THAT YtnpfbpfobbadaaaProg.lean LOADS. Nothing in Lean hashes anything: it is a label: what it is worth is what the hold of that sum in a sandbox is worth. -/
noncomputable def Try.pinned : Pinned := { name := "ytnpfbpfobbadaaa", sum := "fbbfa706dd5d997f6251cb3b584ed1e419cb6de298ba8a6ee0d0a00b816d1fa8", checked := Try.checked }
namespace Rows
def none {H : Type} : Left H := { results := [], args := [] }

/-- 'samaritanlaw22.QuorumReached': WHATEVER THE INPUT: true; the input reads as it did. -/
def quorumReachedSpec : ChangeSpec := { name := "quorumReached", fn := fun _ => fun
  | [d1, d2, d3] => { results := [.lit (.bool true)], args := [d1, d2, d3] }
  | _ => none }
def quorumReachedRow : OpenClaim := { program := "ytnpfbpfobbadaaa", sum := "fbbfa706dd5d997f6251cb3b584ed1e419cb6de298ba8a6ee0d0a00b816d1fa8", func := "samaritan/samaritanlaw22.QuorumReached", spec := "quorumReached", recurses := true, apart := false }
def QuorumReachedSaid : Prop := quorumReachedRow.holds Try.pinned (OpenSpec.ofChange quorumReachedSpec)

/-- ITS FALSE NEIGHBOUR: 'it returns false'. Refute it at one input. -/
def quorumReachedWrong : ChangeSpec := { name := "quorumReached", fn := fun _ => fun
  | [d1, d2, d3] => { results := [.lit (.bool false)], args := [d1, d2, d3] }
  | _ => none }
def QuorumReachedWrongFalsely : Prop := quorumReachedRow.holds Try.pinned (OpenSpec.ofChange quorumReachedWrong)

/-- 'samaritanlaw22.QuorumSmallest': WHATEVER THE INPUT: true; the input reads as it did. -/
def quorumSmallestSpec : ChangeSpec := { name := "quorumSmallest", fn := fun _ => fun
  | [d] => { results := [.lit (.bool true)], args := [d] }
  | _ => none }
def quorumSmallestRow : OpenClaim := { program := "ytnpfbpfobbadaaa", sum := "fbbfa706dd5d997f6251cb3b584ed1e419cb6de298ba8a6ee0d0a00b816d1fa8", func := "samaritan/samaritanlaw22.QuorumSmallest", spec := "quorumSmallest", recurses := true, apart := false }
def QuorumSmallestSaid : Prop := quorumSmallestRow.holds Try.pinned (OpenSpec.ofChange quorumSmallestSpec)

/-- ITS FALSE NEIGHBOUR: 'it returns false'. Refute it at one input. -/
def quorumSmallestWrong : ChangeSpec := { name := "quorumSmallest", fn := fun _ => fun
  | [d] => { results := [.lit (.bool false)], args := [d] }
  | _ => none }
def QuorumSmallestWrongFalsely : Prop := quorumSmallestRow.holds Try.pinned (OpenSpec.ofChange quorumSmallestWrong)

/-- 'samaritanlaw22.QuorumCommitted': WHATEVER THE INPUT: true; the input reads as it did. -/
def quorumCommittedSpec : ChangeSpec := { name := "quorumCommitted", fn := fun _ => fun
  | [d1, d2] => { results := [.lit (.bool true)], args := [d1, d2] }
  | _ => none }
def quorumCommittedRow : OpenClaim := { program := "ytnpfbpfobbadaaa", sum := "fbbfa706dd5d997f6251cb3b584ed1e419cb6de298ba8a6ee0d0a00b816d1fa8", func := "samaritan/samaritanlaw22.QuorumCommitted", spec := "quorumCommitted", unfollowed := true, recurses := true, apart := false }
def QuorumCommittedSaid : Prop := quorumCommittedRow.holds Try.pinned (OpenSpec.ofChange quorumCommittedSpec)

/-- ITS FALSE NEIGHBOUR: 'it returns false'. Refute it at one input. -/
def quorumCommittedWrong : ChangeSpec := { name := "quorumCommitted", fn := fun _ => fun
  | [d1, d2] => { results := [.lit (.bool false)], args := [d1, d2] }
  | _ => none }
def QuorumCommittedWrongFalsely : Prop := quorumCommittedRow.holds Try.pinned (OpenSpec.ofChange quorumCommittedWrong)

/-- 'samaritanlaw22.QuorumChange': WHATEVER THE INPUT: true; the input reads as it did. -/
def quorumChangeSpec : ChangeSpec := { name := "quorumChange", fn := fun _ => fun
  | [d1, d2] => { results := [.lit (.bool true)], args := [d1, d2] }
  | _ => none }
def quorumChangeRow : OpenClaim := { program := "ytnpfbpfobbadaaa", sum := "fbbfa706dd5d997f6251cb3b584ed1e419cb6de298ba8a6ee0d0a00b816d1fa8", func := "samaritan/samaritanlaw22.QuorumChange", spec := "quorumChange", recurses := true, apart := false }
def QuorumChangeSaid : Prop := quorumChangeRow.holds Try.pinned (OpenSpec.ofChange quorumChangeSpec)

/-- ITS FALSE NEIGHBOUR: 'it returns false'. Refute it at one input. -/
def quorumChangeWrong : ChangeSpec := { name := "quorumChange", fn := fun _ => fun
  | [d1, d2] => { results := [.lit (.bool false)], args := [d1, d2] }
  | _ => none }
def QuorumChangeWrongFalsely : Prop := quorumChangeRow.holds Try.pinned (OpenSpec.ofChange quorumChangeWrong)

/-- 'samaritanlaw22.QuorumIntersect': WHATEVER THE INPUT: true; the input reads as it did. -/
def quorumIntersectSpec : ChangeSpec := { name := "quorumIntersect", fn := fun _ => fun
  | [d1, d2, d3] => { results := [.lit (.bool true)], args := [d1, d2, d3] }
  | _ => none }
def quorumIntersectRow : OpenClaim := { program := "ytnpfbpfobbadaaa", sum := "fbbfa706dd5d997f6251cb3b584ed1e419cb6de298ba8a6ee0d0a00b816d1fa8", func := "samaritan/samaritanlaw22.QuorumIntersect", spec := "quorumIntersect", recurses := true, apart := false }
def QuorumIntersectSaid : Prop := quorumIntersectRow.holds Try.pinned (OpenSpec.ofChange quorumIntersectSpec)

/-- ITS FALSE NEIGHBOUR: 'it returns false'. Refute it at one input. -/
def quorumIntersectWrong : ChangeSpec := { name := "quorumIntersect", fn := fun _ => fun
  | [d1, d2, d3] => { results := [.lit (.bool false)], args := [d1, d2, d3] }
  | _ => none }
def QuorumIntersectWrongFalsely : Prop := quorumIntersectRow.holds Try.pinned (OpenSpec.ofChange quorumIntersectWrong)

/-- 'samaritanlaw22.QuorumValid': WHATEVER THE INPUT: true; the input reads as it did. -/
def quorumValidSpec : ChangeSpec := { name := "quorumValid", fn := fun _ => fun
  | [d] => { results := [.lit (.bool true)], args := [d] }
  | _ => none }
def quorumValidRow : OpenClaim := { program := "ytnpfbpfobbadaaa", sum := "fbbfa706dd5d997f6251cb3b584ed1e419cb6de298ba8a6ee0d0a00b816d1fa8", func := "samaritan/samaritanlaw22.QuorumValid", spec := "quorumValid", recurses := true, apart := false }
def QuorumValidSaid : Prop := quorumValidRow.holds Try.pinned (OpenSpec.ofChange quorumValidSpec)

/-- ITS FALSE NEIGHBOUR: 'it returns false'. Refute it at one input. -/
def quorumValidWrong : ChangeSpec := { name := "quorumValid", fn := fun _ => fun
  | [d] => { results := [.lit (.bool false)], args := [d] }
  | _ => none }
def QuorumValidWrongFalsely : Prop := quorumValidRow.holds Try.pinned (OpenSpec.ofChange quorumValidWrong)

/-- 'samaritanlaw22.QuorumDecode': WHATEVER THE INPUT: true; the input reads as it did. -/
def quorumDecodeSpec : ChangeSpec := { name := "quorumDecode", fn := fun _ => fun
  | [d1, d2] => { results := [.lit (.bool true)], args := [d1, d2] }
  | _ => none }
def quorumDecodeRow : OpenClaim := { program := "ytnpfbpfobbadaaa", sum := "fbbfa706dd5d997f6251cb3b584ed1e419cb6de298ba8a6ee0d0a00b816d1fa8", func := "samaritan/samaritanlaw22.QuorumDecode", spec := "quorumDecode", recurses := true, apart := false }
def QuorumDecodeSaid : Prop := quorumDecodeRow.holds Try.pinned (OpenSpec.ofChange quorumDecodeSpec)

/-- ITS FALSE NEIGHBOUR: 'it returns false'. Refute it at one input. -/
def quorumDecodeWrong : ChangeSpec := { name := "quorumDecode", fn := fun _ => fun
  | [d1, d2] => { results := [.lit (.bool false)], args := [d1, d2] }
  | _ => none }
def QuorumDecodeWrongFalsely : Prop := quorumDecodeRow.holds Try.pinned (OpenSpec.ofChange quorumDecodeWrong)

/- THE SECOND FORM. 'bulk': how many values and letters a reading holds, each counted each time it is reached (what is shared counts as often as it is met; a slice's spare places count too). A statement '..UptoSaid' is the law's where the arguments, and the package variables that the reading takes, are together of bulk at most 1048576: NARROWER than '..Said'. Prove '..Said' where nothing that the law and all that it calls make is longer than what came in: it says more and counts as full. Else prove '..UptoSaid'. A law counts once. -/
mutual
def uptoBulk {H : Type} : DataW H → Nat
  | .lit (.string bytes) => bytes.length + 1
  | .lit _ => 1
  | .nil => 1
  | .ptr d => uptoBulk d + 1
  | .slice elems spare => uptoBulkAll elems + uptoBulkAll spare + 1
  | .agg parts => uptoBulkAll parts + 1
  | .iface _ d => uptoBulk d + 1
  | .map entries => uptoBulkEntries entries + 1
  | .held _ => 1
def uptoBulkAll {H : Type} : List (DataW H) → Nat
  | [] => 0
  | d :: r => uptoBulk d + uptoBulkAll r
def uptoBulkEntries {H : Type} : List (Lit × DataW H) → Nat
  | [] => 0
  | x :: r => uptoBulkEntry x + uptoBulkEntries r
def uptoBulkEntry {H : Type} : Lit × DataW H → Nat
  | (.string bytes, d) => bytes.length + uptoBulk d + 1
  | (_, d) => uptoBulk d + 1
 end
def uptoSmall : (H : Type) → List (DataW H) → Bool := fun _ ds => decide (uptoBulkAll ds ≤ 1048576)
def OpenSpec.upto (s : _root_.Go.ChangeSpec) : _root_.Go.OpenSpec := { _root_.Go.OpenSpec.ofChange s with cond := some uptoSmall }

/-- 'samaritanlaw22.QuorumReached', WHERE WHAT IT READS IS OF BULK AT MOST 1048576: true; the input reads as it did. -/
def quorumReachedUptoRow : OpenClaim := { program := "ytnpfbpfobbadaaa", sum := "fbbfa706dd5d997f6251cb3b584ed1e419cb6de298ba8a6ee0d0a00b816d1fa8", func := "samaritan/samaritanlaw22.QuorumReached", spec := "quorumReached", recurses := true, apart := false, narrowed := true }
def QuorumReachedUptoSaid : Prop := quorumReachedUptoRow.holds Try.pinned (OpenSpec.upto quorumReachedSpec)

/-- 'samaritanlaw22.QuorumSmallest', WHERE WHAT IT READS IS OF BULK AT MOST 1048576: true; the input reads as it did. -/
def quorumSmallestUptoRow : OpenClaim := { program := "ytnpfbpfobbadaaa", sum := "fbbfa706dd5d997f6251cb3b584ed1e419cb6de298ba8a6ee0d0a00b816d1fa8", func := "samaritan/samaritanlaw22.QuorumSmallest", spec := "quorumSmallest", recurses := true, apart := false, narrowed := true }
def QuorumSmallestUptoSaid : Prop := quorumSmallestUptoRow.holds Try.pinned (OpenSpec.upto quorumSmallestSpec)

/-- 'samaritanlaw22.QuorumCommitted', WHERE WHAT IT READS IS OF BULK AT MOST 1048576: true; the input reads as it did. -/
def quorumCommittedUptoRow : OpenClaim := { program := "ytnpfbpfobbadaaa", sum := "fbbfa706dd5d997f6251cb3b584ed1e419cb6de298ba8a6ee0d0a00b816d1fa8", func := "samaritan/samaritanlaw22.QuorumCommitted", spec := "quorumCommitted", unfollowed := true, recurses := true, apart := false, narrowed := true }
def QuorumCommittedUptoSaid : Prop := quorumCommittedUptoRow.holds Try.pinned (OpenSpec.upto quorumCommittedSpec)

/-- 'samaritanlaw22.QuorumChange', WHERE WHAT IT READS IS OF BULK AT MOST 1048576: true; the input reads as it did. -/
def quorumChangeUptoRow : OpenClaim := { program := "ytnpfbpfobbadaaa", sum := "fbbfa706dd5d997f6251cb3b584ed1e419cb6de298ba8a6ee0d0a00b816d1fa8", func := "samaritan/samaritanlaw22.QuorumChange", spec := "quorumChange", recurses := true, apart := false, narrowed := true }
def QuorumChangeUptoSaid : Prop := quorumChangeUptoRow.holds Try.pinned (OpenSpec.upto quorumChangeSpec)

/-- 'samaritanlaw22.QuorumIntersect', WHERE WHAT IT READS IS OF BULK AT MOST 1048576: true; the input reads as it did. -/
def quorumIntersectUptoRow : OpenClaim := { program := "ytnpfbpfobbadaaa", sum := "fbbfa706dd5d997f6251cb3b584ed1e419cb6de298ba8a6ee0d0a00b816d1fa8", func := "samaritan/samaritanlaw22.QuorumIntersect", spec := "quorumIntersect", recurses := true, apart := false, narrowed := true }
def QuorumIntersectUptoSaid : Prop := quorumIntersectUptoRow.holds Try.pinned (OpenSpec.upto quorumIntersectSpec)

/-- 'samaritanlaw22.QuorumValid', WHERE WHAT IT READS IS OF BULK AT MOST 1048576: true; the input reads as it did. -/
def quorumValidUptoRow : OpenClaim := { program := "ytnpfbpfobbadaaa", sum := "fbbfa706dd5d997f6251cb3b584ed1e419cb6de298ba8a6ee0d0a00b816d1fa8", func := "samaritan/samaritanlaw22.QuorumValid", spec := "quorumValid", recurses := true, apart := false, narrowed := true }
def QuorumValidUptoSaid : Prop := quorumValidUptoRow.holds Try.pinned (OpenSpec.upto quorumValidSpec)

/-- 'samaritanlaw22.QuorumDecode', WHERE WHAT IT READS IS OF BULK AT MOST 1048576: true; the input reads as it did. -/
def quorumDecodeUptoRow : OpenClaim := { program := "ytnpfbpfobbadaaa", sum := "fbbfa706dd5d997f6251cb3b584ed1e419cb6de298ba8a6ee0d0a00b816d1fa8", func := "samaritan/samaritanlaw22.QuorumDecode", spec := "quorumDecode", recurses := true, apart := false, narrowed := true }
def QuorumDecodeUptoSaid : Prop := quorumDecodeUptoRow.holds Try.pinned (OpenSpec.upto quorumDecodeSpec)

end Rows
end Go.Proofs.Ytnpfbpfobbadaaa

/-
  No cell of these rows narrows 'for every input' (looked for: loops, veiled, ifaces, maps, wideKeys, modest, calm, conditions, laid).
  DERIVED. THE GIVEN ROWS OF THIS SEAT. 4 by the template 'for every input the law returns true; each argument reads behind the call as it read before'; 0 by the template 'total and deterministic' (their statements: YtdfobfjpkjddpaaGreatTotals.lean).
  GIVEN WITH THE SEED: the statements are not yours to turn. If you find one false, say at which input.
  Laid BY PROGRAM, IN A SANDBOX (cutbox-rows.mjs): the forced cells as the released guide's own fill.sh prints them over the translation a9dcb6aa4a2f72c0… (all of the seat's roots in one cut). By AI agents, Wed Nov 11 2026. No macro, syntax, notation, axiom, sorry.
-/
import Derived.Test.YtdfobfjpkjddpaaGreatChecked
import GoSem.Claim
import GoSem.ClaimJoined
import GoSem.ClaimMapViews
import Derived.JoinedTies
import Derived.KernelRfl
namespace Go.Proofs.YtdfobfjpkjddpaaGreat
/- THE CELL 'sum', in the pinned program and in every row, IS THE sha256 OF THE DUMP (.gsa) THAT YtdfobfjpkjddpaaGreatProg.lean LOADS. Nothing in Lean hashes anything: it is a label: what it is worth is what the hold of that sum in a sandbox is worth. -/
noncomputable def Tryz.pinned : Pinned := { name := "ytdfobfjpkjddpaagreat", sum := "a9dcb6aa4a2f72c0b1d6605567694d1b00e9dcbf83adfdbcc0cbf5e7f52c025b", checked := Tryz.checked }
namespace Rows
def none {H : Type} : Left H := { results := [], args := [] }

/-- 'samaritanlaw25.RaftOpen': WHATEVER THE INPUT: true; the input reads as it did. -/
def raftOpenSpec : ChangeSpec := { name := "raftOpen", fn := fun _ => fun
  | [d] => { results := [.lit (.bool true)], args := [d] }
  | _ => none }
def raftOpenRow : OpenClaim := { program := "ytdfobfjpkjddpaagreat", sum := "a9dcb6aa4a2f72c0b1d6605567694d1b00e9dcbf83adfdbcc0cbf5e7f52c025b", func := "samaritan/samaritanlaw25.RaftOpen", spec := "raftOpen", unfollowed := true, recurses := true, apart := false }
def RaftOpenSaid : Prop := raftOpenRow.holds Tryz.pinned (OpenSpec.ofChange raftOpenSpec)

/-- ITS FALSE NEIGHBOUR: 'it returns false'. Refute it at one input. -/
def raftOpenWrong : ChangeSpec := { name := "raftOpen", fn := fun _ => fun
  | [d] => { results := [.lit (.bool false)], args := [d] }
  | _ => none }
def RaftOpenWrongFalsely : Prop := raftOpenRow.holds Tryz.pinned (OpenSpec.ofChange raftOpenWrong)

/-- 'samaritanlaw25.RaftLogSafety': WHATEVER THE INPUT: true; the input reads as it did. -/
def raftLogSafetySpec : ChangeSpec := { name := "raftLogSafety", fn := fun _ => fun
  | [d1, d2] => { results := [.lit (.bool true)], args := [d1, d2] }
  | _ => none }
def raftLogSafetyRow : OpenClaim := { program := "ytdfobfjpkjddpaagreat", sum := "a9dcb6aa4a2f72c0b1d6605567694d1b00e9dcbf83adfdbcc0cbf5e7f52c025b", func := "samaritan/samaritanlaw25.RaftLogSafety", spec := "raftLogSafety", unfollowed := true, recurses := true, apart := false }
def RaftLogSafetySaid : Prop := raftLogSafetyRow.holds Tryz.pinned (OpenSpec.ofChange raftLogSafetySpec)

/-- ITS FALSE NEIGHBOUR: 'it returns false'. Refute it at one input. -/
def raftLogSafetyWrong : ChangeSpec := { name := "raftLogSafety", fn := fun _ => fun
  | [d1, d2] => { results := [.lit (.bool false)], args := [d1, d2] }
  | _ => none }
def RaftLogSafetyWrongFalsely : Prop := raftLogSafetyRow.holds Tryz.pinned (OpenSpec.ofChange raftLogSafetyWrong)

/-- 'samaritanlaw25.RaftElectionSafety': WHATEVER THE INPUT: true; the input reads as it did. -/
def raftElectionSafetySpec : ChangeSpec := { name := "raftElectionSafety", fn := fun _ => fun
  | [d1, d2] => { results := [.lit (.bool true)], args := [d1, d2] }
  | _ => none }
def raftElectionSafetyRow : OpenClaim := { program := "ytdfobfjpkjddpaagreat", sum := "a9dcb6aa4a2f72c0b1d6605567694d1b00e9dcbf83adfdbcc0cbf5e7f52c025b", func := "samaritan/samaritanlaw25.RaftElectionSafety", spec := "raftElectionSafety", unfollowed := true, recurses := true, apart := false }
def RaftElectionSafetySaid : Prop := raftElectionSafetyRow.holds Tryz.pinned (OpenSpec.ofChange raftElectionSafetySpec)

/-- ITS FALSE NEIGHBOUR: 'it returns false'. Refute it at one input. -/
def raftElectionSafetyWrong : ChangeSpec := { name := "raftElectionSafety", fn := fun _ => fun
  | [d1, d2] => { results := [.lit (.bool false)], args := [d1, d2] }
  | _ => none }
def RaftElectionSafetyWrongFalsely : Prop := raftElectionSafetyRow.holds Tryz.pinned (OpenSpec.ofChange raftElectionSafetyWrong)

/-- 'samaritanlaw25.RaftDurability': WHATEVER THE INPUT: true; the input reads as it did. -/
def raftDurabilitySpec : ChangeSpec := { name := "raftDurability", fn := fun _ => fun
  | [d1, d2] => { results := [.lit (.bool true)], args := [d1, d2] }
  | _ => none }
def raftDurabilityRow : OpenClaim := { program := "ytdfobfjpkjddpaagreat", sum := "a9dcb6aa4a2f72c0b1d6605567694d1b00e9dcbf83adfdbcc0cbf5e7f52c025b", func := "samaritan/samaritanlaw25.RaftDurability", spec := "raftDurability", unfollowed := true, recurses := true, apart := false }
def RaftDurabilitySaid : Prop := raftDurabilityRow.holds Tryz.pinned (OpenSpec.ofChange raftDurabilitySpec)

/-- ITS FALSE NEIGHBOUR: 'it returns false'. Refute it at one input. -/
def raftDurabilityWrong : ChangeSpec := { name := "raftDurability", fn := fun _ => fun
  | [d1, d2] => { results := [.lit (.bool false)], args := [d1, d2] }
  | _ => none }
def RaftDurabilityWrongFalsely : Prop := raftDurabilityRow.holds Tryz.pinned (OpenSpec.ofChange raftDurabilityWrong)

/- THE SECOND FORM. 'bulk': how many values and letters a reading holds, each counted each time it is reached (what is shared counts as often as it is met; a slice's spare places count too). A statement '..UptoSaid' is the law's where the arguments, and the package variables that the reading takes, are together of bulk at most 1048576: NARROWER than '..Said'. Prove '..Said' where nothing that the law and all that it calls make is longer than what came in: it says more and counts as full. Else prove '..UptoSaid'. A law counts once. -/
mutual
def uptoBulk {H : Type} : DataW H → Nat
  | .lit (.string bytes) => bytes.length + 1
  | .lit _ => 1
  | .nil => 1
  | .ptr d => uptoBulk d + 1
  | .slice elems spare => uptoBulkAll elems + uptoBulkAll spare + 1
  | .agg parts => uptoBulkAll parts + 1
  | .iface _ d => uptoBulk d + 1
  | .map entries => uptoBulkEntries entries + 1
  | .held _ => 1
def uptoBulkAll {H : Type} : List (DataW H) → Nat
  | [] => 0
  | d :: r => uptoBulk d + uptoBulkAll r
def uptoBulkEntries {H : Type} : List (Lit × DataW H) → Nat
  | [] => 0
  | x :: r => uptoBulkEntry x + uptoBulkEntries r
def uptoBulkEntry {H : Type} : Lit × DataW H → Nat
  | (.string bytes, d) => bytes.length + uptoBulk d + 1
  | (_, d) => uptoBulk d + 1
 end
def uptoSmall : (H : Type) → List (DataW H) → Bool := fun _ ds => decide (uptoBulkAll ds ≤ 1048576)
def OpenSpec.upto (s : _root_.Go.ChangeSpec) : _root_.Go.OpenSpec := { _root_.Go.OpenSpec.ofChange s with cond := some uptoSmall }

/-- 'samaritanlaw25.RaftOpen', WHERE WHAT IT READS IS OF BULK AT MOST 1048576: true; the input reads as it did. -/
def raftOpenUptoRow : OpenClaim := { program := "ytdfobfjpkjddpaagreat", sum := "a9dcb6aa4a2f72c0b1d6605567694d1b00e9dcbf83adfdbcc0cbf5e7f52c025b", func := "samaritan/samaritanlaw25.RaftOpen", spec := "raftOpen", unfollowed := true, recurses := true, apart := false, narrowed := true }
def RaftOpenUptoSaid : Prop := raftOpenUptoRow.holds Tryz.pinned (OpenSpec.upto raftOpenSpec)

/-- 'samaritanlaw25.RaftLogSafety', WHERE WHAT IT READS IS OF BULK AT MOST 1048576: true; the input reads as it did. -/
def raftLogSafetyUptoRow : OpenClaim := { program := "ytdfobfjpkjddpaagreat", sum := "a9dcb6aa4a2f72c0b1d6605567694d1b00e9dcbf83adfdbcc0cbf5e7f52c025b", func := "samaritan/samaritanlaw25.RaftLogSafety", spec := "raftLogSafety", unfollowed := true, recurses := true, apart := false, narrowed := true }
def RaftLogSafetyUptoSaid : Prop := raftLogSafetyUptoRow.holds Tryz.pinned (OpenSpec.upto raftLogSafetySpec)

/-- 'samaritanlaw25.RaftElectionSafety', WHERE WHAT IT READS IS OF BULK AT MOST 1048576: true; the input reads as it did. -/
def raftElectionSafetyUptoRow : OpenClaim := { program := "ytdfobfjpkjddpaagreat", sum := "a9dcb6aa4a2f72c0b1d6605567694d1b00e9dcbf83adfdbcc0cbf5e7f52c025b", func := "samaritan/samaritanlaw25.RaftElectionSafety", spec := "raftElectionSafety", unfollowed := true, recurses := true, apart := false, narrowed := true }
def RaftElectionSafetyUptoSaid : Prop := raftElectionSafetyUptoRow.holds Tryz.pinned (OpenSpec.upto raftElectionSafetySpec)

/-- 'samaritanlaw25.RaftDurability', WHERE WHAT IT READS IS OF BULK AT MOST 1048576: true; the input reads as it did. -/
def raftDurabilityUptoRow : OpenClaim := { program := "ytdfobfjpkjddpaagreat", sum := "a9dcb6aa4a2f72c0b1d6605567694d1b00e9dcbf83adfdbcc0cbf5e7f52c025b", func := "samaritan/samaritanlaw25.RaftDurability", spec := "raftDurability", unfollowed := true, recurses := true, apart := false, narrowed := true }
def RaftDurabilityUptoSaid : Prop := raftDurabilityUptoRow.holds Tryz.pinned (OpenSpec.upto raftDurabilitySpec)

end Rows
end Go.Proofs.YtdfobfjpkjddpaaGreat

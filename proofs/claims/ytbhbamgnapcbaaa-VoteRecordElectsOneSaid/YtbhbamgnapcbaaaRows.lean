/-
  No cell of these rows narrows 'for every input' (looked for: loops, veiled, ifaces, maps, wideKeys, modest, calm, conditions, laid).
  DERIVED. THE GIVEN ROWS OF THIS SEAT. 5 by the template 'for every input the law returns true; each argument reads behind the call as it read before'; 0 by the template 'total and deterministic' (their statements: YtbhbamgnapcbaaaTotals.lean).
  GIVEN WITH THE SEED: the statements are not yours to turn. If you find one false, say at which input.
  Laid BY PROGRAM, IN A SANDBOX (cutbox-rows.mjs): the forced cells as the released guide's own fill.sh prints them over the translation b24783186f27d13d… (all of the seat's roots in one cut). By AI agents, Wed Nov 11 2026. No macro, syntax, notation, axiom, sorry.
-/
import Derived.Test.YtbhbamgnapcbaaaChecked
import GoSem.Claim
import GoSem.ClaimJoined
import GoSem.ClaimMapViews
import Derived.JoinedTies
import Derived.KernelRfl
namespace Go.Proofs.Ytbhbamgnapcbaaa
/- THE CELL 'sum', in the pinned program and in every row, IS THE sha256 OF THE DUMP (.gsa) THAT YtbhbamgnapcbaaaProg.lean LOADS. Nothing in Lean hashes anything: it is a label: what it is worth is what the hold of that sum in a sandbox is worth. -/
noncomputable def Try.pinned : Pinned := { name := "ytbhbamgnapcbaaa", sum := "b24783186f27d13d3697e3b4372dd216aa4cc2c01810633b5076b7877c748ba7", checked := Try.checked }
namespace Rows
def none {H : Type} : Left H := { results := [], args := [] }

/-- 'samaritanlaw24.VoteRecordOpens': WHATEVER THE INPUT: true; the input reads as it did. -/
def voteRecordOpensSpec : ChangeSpec := { name := "voteRecordOpens", fn := fun _ => fun
  | [d] => { results := [.lit (.bool true)], args := [d] }
  | _ => none }
def voteRecordOpensRow : OpenClaim := { program := "ytbhbamgnapcbaaa", sum := "b24783186f27d13d3697e3b4372dd216aa4cc2c01810633b5076b7877c748ba7", func := "samaritan/samaritanlaw24.VoteRecordOpens", spec := "voteRecordOpens", apart := false }
def VoteRecordOpensSaid : Prop := voteRecordOpensRow.holds Try.pinned (OpenSpec.ofChange voteRecordOpensSpec)

/-- ITS FALSE NEIGHBOUR: 'it returns false'. Refute it at one input. -/
def voteRecordOpensWrong : ChangeSpec := { name := "voteRecordOpens", fn := fun _ => fun
  | [d] => { results := [.lit (.bool false)], args := [d] }
  | _ => none }
def VoteRecordOpensWrongFalsely : Prop := voteRecordOpensRow.holds Try.pinned (OpenSpec.ofChange voteRecordOpensWrong)

/-- 'samaritanlaw24.VoteRecordMatchesModel': WHATEVER THE INPUT: true; the input reads as it did. -/
def voteRecordMatchesModelSpec : ChangeSpec := { name := "voteRecordMatchesModel", fn := fun _ => fun
  | [d] => { results := [.lit (.bool true)], args := [d] }
  | _ => none }
def voteRecordMatchesModelRow : OpenClaim := { program := "ytbhbamgnapcbaaa", sum := "b24783186f27d13d3697e3b4372dd216aa4cc2c01810633b5076b7877c748ba7", func := "samaritan/samaritanlaw24.VoteRecordMatchesModel", spec := "voteRecordMatchesModel", apart := false }
def VoteRecordMatchesModelSaid : Prop := voteRecordMatchesModelRow.holds Try.pinned (OpenSpec.ofChange voteRecordMatchesModelSpec)

/-- ITS FALSE NEIGHBOUR: 'it returns false'. Refute it at one input. -/
def voteRecordMatchesModelWrong : ChangeSpec := { name := "voteRecordMatchesModel", fn := fun _ => fun
  | [d] => { results := [.lit (.bool false)], args := [d] }
  | _ => none }
def VoteRecordMatchesModelWrongFalsely : Prop := voteRecordMatchesModelRow.holds Try.pinned (OpenSpec.ofChange voteRecordMatchesModelWrong)

/-- 'samaritanlaw24.VoteRecordVotesOnce': WHATEVER THE INPUT: true; the input reads as it did. -/
def voteRecordVotesOnceSpec : ChangeSpec := { name := "voteRecordVotesOnce", fn := fun _ => fun
  | [d] => { results := [.lit (.bool true)], args := [d] }
  | _ => none }
def voteRecordVotesOnceRow : OpenClaim := { program := "ytbhbamgnapcbaaa", sum := "b24783186f27d13d3697e3b4372dd216aa4cc2c01810633b5076b7877c748ba7", func := "samaritan/samaritanlaw24.VoteRecordVotesOnce", spec := "voteRecordVotesOnce", apart := false }
def VoteRecordVotesOnceSaid : Prop := voteRecordVotesOnceRow.holds Try.pinned (OpenSpec.ofChange voteRecordVotesOnceSpec)

/-- ITS FALSE NEIGHBOUR: 'it returns false'. Refute it at one input. -/
def voteRecordVotesOnceWrong : ChangeSpec := { name := "voteRecordVotesOnce", fn := fun _ => fun
  | [d] => { results := [.lit (.bool false)], args := [d] }
  | _ => none }
def VoteRecordVotesOnceWrongFalsely : Prop := voteRecordVotesOnceRow.holds Try.pinned (OpenSpec.ofChange voteRecordVotesOnceWrong)

/-- 'samaritanlaw24.VoteRecordCounts': WHATEVER THE INPUT: true; the input reads as it did. -/
def voteRecordCountsSpec : ChangeSpec := { name := "voteRecordCounts", fn := fun _ => fun
  | [d1, d2] => { results := [.lit (.bool true)], args := [d1, d2] }
  | _ => none }
def voteRecordCountsRow : OpenClaim := { program := "ytbhbamgnapcbaaa", sum := "b24783186f27d13d3697e3b4372dd216aa4cc2c01810633b5076b7877c748ba7", func := "samaritan/samaritanlaw24.VoteRecordCounts", spec := "voteRecordCounts", unfollowed := true, recurses := true, apart := false }
def VoteRecordCountsSaid : Prop := voteRecordCountsRow.holds Try.pinned (OpenSpec.ofChange voteRecordCountsSpec)

/-- ITS FALSE NEIGHBOUR: 'it returns false'. Refute it at one input. -/
def voteRecordCountsWrong : ChangeSpec := { name := "voteRecordCounts", fn := fun _ => fun
  | [d1, d2] => { results := [.lit (.bool false)], args := [d1, d2] }
  | _ => none }
def VoteRecordCountsWrongFalsely : Prop := voteRecordCountsRow.holds Try.pinned (OpenSpec.ofChange voteRecordCountsWrong)

/-- 'samaritanlaw24.VoteRecordElectsOne': WHATEVER THE INPUT: true; the input reads as it did. -/
def voteRecordElectsOneSpec : ChangeSpec := { name := "voteRecordElectsOne", fn := fun _ => fun
  | [d1, d2] => { results := [.lit (.bool true)], args := [d1, d2] }
  | _ => none }
def voteRecordElectsOneRow : OpenClaim := { program := "ytbhbamgnapcbaaa", sum := "b24783186f27d13d3697e3b4372dd216aa4cc2c01810633b5076b7877c748ba7", func := "samaritan/samaritanlaw24.VoteRecordElectsOne", spec := "voteRecordElectsOne", unfollowed := true, recurses := true, apart := false }
def VoteRecordElectsOneSaid : Prop := voteRecordElectsOneRow.holds Try.pinned (OpenSpec.ofChange voteRecordElectsOneSpec)

/-- ITS FALSE NEIGHBOUR: 'it returns false'. Refute it at one input. -/
def voteRecordElectsOneWrong : ChangeSpec := { name := "voteRecordElectsOne", fn := fun _ => fun
  | [d1, d2] => { results := [.lit (.bool false)], args := [d1, d2] }
  | _ => none }
def VoteRecordElectsOneWrongFalsely : Prop := voteRecordElectsOneRow.holds Try.pinned (OpenSpec.ofChange voteRecordElectsOneWrong)

/- THE SECOND FORM. 'bulk': how many values and letters a reading holds, each counted each time it is reached (what is shared counts as often as it is met; a slice's spare places count too). A statement '..UptoSaid' is the law's where the arguments, and the package variables that the reading takes, are together of bulk at most 1048576: NARROWER than '..Said'. Prove '..Said' where nothing that the law and all that it calls make is longer than what came in: it says more and counts as full. Else prove '..UptoSaid'. A law counts once. -/
mutual
def uptoBulk {H : Type} : DataW H → Nat
  | .lit (.string bytes) => bytes.length + 1
  | .lit _ => 1
  | .nil => 1
  | .ptr d => uptoBulk d + 1
  | .slice elems spare => uptoBulkAll elems + uptoBulkAll spare + 1
  | .agg parts => uptoBulkAll parts + 1
  | .iface _ d => uptoBulk d + 1
  | .map entries => uptoBulkEntries entries + 1
  | .held _ => 1
def uptoBulkAll {H : Type} : List (DataW H) → Nat
  | [] => 0
  | d :: r => uptoBulk d + uptoBulkAll r
def uptoBulkEntries {H : Type} : List (Lit × DataW H) → Nat
  | [] => 0
  | x :: r => uptoBulkEntry x + uptoBulkEntries r
def uptoBulkEntry {H : Type} : Lit × DataW H → Nat
  | (.string bytes, d) => bytes.length + uptoBulk d + 1
  | (_, d) => uptoBulk d + 1
 end
def uptoSmall : (H : Type) → List (DataW H) → Bool := fun _ ds => decide (uptoBulkAll ds ≤ 1048576)
def OpenSpec.upto (s : _root_.Go.ChangeSpec) : _root_.Go.OpenSpec := { _root_.Go.OpenSpec.ofChange s with cond := some uptoSmall }

/-- 'samaritanlaw24.VoteRecordOpens', WHERE WHAT IT READS IS OF BULK AT MOST 1048576: true; the input reads as it did. -/
def voteRecordOpensUptoRow : OpenClaim := { program := "ytbhbamgnapcbaaa", sum := "b24783186f27d13d3697e3b4372dd216aa4cc2c01810633b5076b7877c748ba7", func := "samaritan/samaritanlaw24.VoteRecordOpens", spec := "voteRecordOpens", apart := false, narrowed := true }
def VoteRecordOpensUptoSaid : Prop := voteRecordOpensUptoRow.holds Try.pinned (OpenSpec.upto voteRecordOpensSpec)

/-- 'samaritanlaw24.VoteRecordMatchesModel', WHERE WHAT IT READS IS OF BULK AT MOST 1048576: true; the input reads as it did. -/
def voteRecordMatchesModelUptoRow : OpenClaim := { program := "ytbhbamgnapcbaaa", sum := "b24783186f27d13d3697e3b4372dd216aa4cc2c01810633b5076b7877c748ba7", func := "samaritan/samaritanlaw24.VoteRecordMatchesModel", spec := "voteRecordMatchesModel", apart := false, narrowed := true }
def VoteRecordMatchesModelUptoSaid : Prop := voteRecordMatchesModelUptoRow.holds Try.pinned (OpenSpec.upto voteRecordMatchesModelSpec)

/-- 'samaritanlaw24.VoteRecordVotesOnce', WHERE WHAT IT READS IS OF BULK AT MOST 1048576: true; the input reads as it did. -/
def voteRecordVotesOnceUptoRow : OpenClaim := { program := "ytbhbamgnapcbaaa", sum := "b24783186f27d13d3697e3b4372dd216aa4cc2c01810633b5076b7877c748ba7", func := "samaritan/samaritanlaw24.VoteRecordVotesOnce", spec := "voteRecordVotesOnce", apart := false, narrowed := true }
def VoteRecordVotesOnceUptoSaid : Prop := voteRecordVotesOnceUptoRow.holds Try.pinned (OpenSpec.upto voteRecordVotesOnceSpec)

/-- 'samaritanlaw24.VoteRecordCounts', WHERE WHAT IT READS IS OF BULK AT MOST 1048576: true; the input reads as it did. -/
def voteRecordCountsUptoRow : OpenClaim := { program := "ytbhbamgnapcbaaa", sum := "b24783186f27d13d3697e3b4372dd216aa4cc2c01810633b5076b7877c748ba7", func := "samaritan/samaritanlaw24.VoteRecordCounts", spec := "voteRecordCounts", unfollowed := true, recurses := true, apart := false, narrowed := true }
def VoteRecordCountsUptoSaid : Prop := voteRecordCountsUptoRow.holds Try.pinned (OpenSpec.upto voteRecordCountsSpec)

/-- 'samaritanlaw24.VoteRecordElectsOne', WHERE WHAT IT READS IS OF BULK AT MOST 1048576: true; the input reads as it did. -/
def voteRecordElectsOneUptoRow : OpenClaim := { program := "ytbhbamgnapcbaaa", sum := "b24783186f27d13d3697e3b4372dd216aa4cc2c01810633b5076b7877c748ba7", func := "samaritan/samaritanlaw24.VoteRecordElectsOne", spec := "voteRecordElectsOne", unfollowed := true, recurses := true, apart := false, narrowed := true }
def VoteRecordElectsOneUptoSaid : Prop := voteRecordElectsOneUptoRow.holds Try.pinned (OpenSpec.upto voteRecordElectsOneSpec)

end Rows
end Go.Proofs.Ytbhbamgnapcbaaa

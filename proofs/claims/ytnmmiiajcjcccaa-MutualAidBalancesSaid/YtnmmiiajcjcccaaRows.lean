/-
  No cell of these rows narrows 'for every input' (looked for: loops, veiled, ifaces, maps, wideKeys, modest, calm, conditions, laid).
  DERIVED. THE GIVEN ROWS OF THIS SEAT. 7 by the template 'for every input the law returns true; each argument reads behind the call as it read before'; 0 by the template 'total and deterministic' (their statements: YtnmmiiajcjcccaaTotals.lean).
  GIVEN WITH THE SEED: the statements are not yours to turn. If you find one false, say at which input.
  Laid BY PROGRAM, IN A SANDBOX (cutbox-rows.mjs): the forced cells as the released guide's own fill.sh prints them over the translation 71bd56454d991323… (all of the seat's roots in one cut). By AI agents, Wed Nov 11 2026. No macro, syntax, notation, axiom, sorry.
-/
import Derived.Test.YtnmmiiajcjcccaaChecked
import GoSem.Claim
import GoSem.ClaimJoined
import GoSem.ClaimMapViews
import Derived.JoinedTies
import Derived.KernelRfl
namespace Go.Proofs.Ytnmmiiajcjcccaa
/- THE CELL 'sum', in the pinned program and in every row, IS THE sha256 OF THE DUMP (.gsa) THAT YtnmmiiajcjcccaaProg.lean LOADS. Nothing in Lean hashes anything: it is a label: what it is worth is what the hold of that sum in a sandbox is worth. -/
noncomputable def Try.pinned : Pinned := { name := "ytnmmiiajcjcccaa", sum := "71bd56454d991323e94a49eb9b97e2817d5910793e6a8a1c27e188ef29719214", checked := Try.checked }
namespace Rows
def none {H : Type} : Left H := { results := [], args := [] }

/-- 'samaritanlaw41.MutualAidPlan': WHATEVER THE INPUT: true; the input reads as it did. -/
def mutualAidPlanSpec : ChangeSpec := { name := "mutualAidPlan", fn := fun _ => fun
  | [d1, d2] => { results := [.lit (.bool true)], args := [d1, d2] }
  | _ => none }
def mutualAidPlanRow : OpenClaim := { program := "ytnmmiiajcjcccaa", sum := "71bd56454d991323e94a49eb9b97e2817d5910793e6a8a1c27e188ef29719214", func := "samaritan/samaritanlaw41.MutualAidPlan", spec := "mutualAidPlan", unfollowed := true, recurses := true, apart := false }
def MutualAidPlanSaid : Prop := mutualAidPlanRow.holds Try.pinned (OpenSpec.ofChange mutualAidPlanSpec)

/-- ITS FALSE NEIGHBOUR: 'it returns false'. Refute it at one input. -/
def mutualAidPlanWrong : ChangeSpec := { name := "mutualAidPlan", fn := fun _ => fun
  | [d1, d2] => { results := [.lit (.bool false)], args := [d1, d2] }
  | _ => none }
def MutualAidPlanWrongFalsely : Prop := mutualAidPlanRow.holds Try.pinned (OpenSpec.ofChange mutualAidPlanWrong)

/-- 'samaritanlaw41.MutualAidIsFair': WHATEVER THE INPUT: true; the input reads as it did. -/
def mutualAidIsFairSpec : ChangeSpec := { name := "mutualAidIsFair", fn := fun _ => fun
  | [d1, d2, d3] => { results := [.lit (.bool true)], args := [d1, d2, d3] }
  | _ => none }
def mutualAidIsFairRow : OpenClaim := { program := "ytnmmiiajcjcccaa", sum := "71bd56454d991323e94a49eb9b97e2817d5910793e6a8a1c27e188ef29719214", func := "samaritan/samaritanlaw41.MutualAidIsFair", spec := "mutualAidIsFair", unfollowed := true, recurses := true, apart := false }
def MutualAidIsFairSaid : Prop := mutualAidIsFairRow.holds Try.pinned (OpenSpec.ofChange mutualAidIsFairSpec)

/-- ITS FALSE NEIGHBOUR: 'it returns false'. Refute it at one input. -/
def mutualAidIsFairWrong : ChangeSpec := { name := "mutualAidIsFair", fn := fun _ => fun
  | [d1, d2, d3] => { results := [.lit (.bool false)], args := [d1, d2, d3] }
  | _ => none }
def MutualAidIsFairWrongFalsely : Prop := mutualAidIsFairRow.holds Try.pinned (OpenSpec.ofChange mutualAidIsFairWrong)

/-- 'samaritanlaw41.MutualAidComplete': WHATEVER THE INPUT: true; the input reads as it did. -/
def mutualAidCompleteSpec : ChangeSpec := { name := "mutualAidComplete", fn := fun _ => fun
  | [d1, d2] => { results := [.lit (.bool true)], args := [d1, d2] }
  | _ => none }
def mutualAidCompleteRow : OpenClaim := { program := "ytnmmiiajcjcccaa", sum := "71bd56454d991323e94a49eb9b97e2817d5910793e6a8a1c27e188ef29719214", func := "samaritan/samaritanlaw41.MutualAidComplete", spec := "mutualAidComplete", unfollowed := true, recurses := true, apart := false }
def MutualAidCompleteSaid : Prop := mutualAidCompleteRow.holds Try.pinned (OpenSpec.ofChange mutualAidCompleteSpec)

/-- ITS FALSE NEIGHBOUR: 'it returns false'. Refute it at one input. -/
def mutualAidCompleteWrong : ChangeSpec := { name := "mutualAidComplete", fn := fun _ => fun
  | [d1, d2] => { results := [.lit (.bool false)], args := [d1, d2] }
  | _ => none }
def MutualAidCompleteWrongFalsely : Prop := mutualAidCompleteRow.holds Try.pinned (OpenSpec.ofChange mutualAidCompleteWrong)

/-- 'samaritanlaw41.MutualAidLedger': WHATEVER THE INPUT: true; the input reads as it did. -/
def mutualAidLedgerSpec : ChangeSpec := { name := "mutualAidLedger", fn := fun _ => fun
  | [d1, d2] => { results := [.lit (.bool true)], args := [d1, d2] }
  | _ => none }
def mutualAidLedgerRow : OpenClaim := { program := "ytnmmiiajcjcccaa", sum := "71bd56454d991323e94a49eb9b97e2817d5910793e6a8a1c27e188ef29719214", func := "samaritan/samaritanlaw41.MutualAidLedger", spec := "mutualAidLedger", unfollowed := true, recurses := true, apart := false }
def MutualAidLedgerSaid : Prop := mutualAidLedgerRow.holds Try.pinned (OpenSpec.ofChange mutualAidLedgerSpec)

/-- ITS FALSE NEIGHBOUR: 'it returns false'. Refute it at one input. -/
def mutualAidLedgerWrong : ChangeSpec := { name := "mutualAidLedger", fn := fun _ => fun
  | [d1, d2] => { results := [.lit (.bool false)], args := [d1, d2] }
  | _ => none }
def MutualAidLedgerWrongFalsely : Prop := mutualAidLedgerRow.holds Try.pinned (OpenSpec.ofChange mutualAidLedgerWrong)

/-- 'samaritanlaw41.MutualAidAskOrder': WHATEVER THE INPUT: true; the input reads as it did. -/
def mutualAidAskOrderSpec : ChangeSpec := { name := "mutualAidAskOrder", fn := fun _ => fun
  | [d1, d2, d3] => { results := [.lit (.bool true)], args := [d1, d2, d3] }
  | _ => none }
def mutualAidAskOrderRow : OpenClaim := { program := "ytnmmiiajcjcccaa", sum := "71bd56454d991323e94a49eb9b97e2817d5910793e6a8a1c27e188ef29719214", func := "samaritan/samaritanlaw41.MutualAidAskOrder", spec := "mutualAidAskOrder", unfollowed := true, recurses := true, apart := false }
def MutualAidAskOrderSaid : Prop := mutualAidAskOrderRow.holds Try.pinned (OpenSpec.ofChange mutualAidAskOrderSpec)

/-- ITS FALSE NEIGHBOUR: 'it returns false'. Refute it at one input. -/
def mutualAidAskOrderWrong : ChangeSpec := { name := "mutualAidAskOrder", fn := fun _ => fun
  | [d1, d2, d3] => { results := [.lit (.bool false)], args := [d1, d2, d3] }
  | _ => none }
def MutualAidAskOrderWrongFalsely : Prop := mutualAidAskOrderRow.holds Try.pinned (OpenSpec.ofChange mutualAidAskOrderWrong)

/-- 'samaritanlaw41.MutualAidBalances': WHATEVER THE INPUT: true; the input reads as it did. -/
def mutualAidBalancesSpec : ChangeSpec := { name := "mutualAidBalances", fn := fun _ => fun
  | [d1, d2, d3] => { results := [.lit (.bool true)], args := [d1, d2, d3] }
  | _ => none }
def mutualAidBalancesRow : OpenClaim := { program := "ytnmmiiajcjcccaa", sum := "71bd56454d991323e94a49eb9b97e2817d5910793e6a8a1c27e188ef29719214", func := "samaritan/samaritanlaw41.MutualAidBalances", spec := "mutualAidBalances", unfollowed := true, recurses := true, apart := false }
def MutualAidBalancesSaid : Prop := mutualAidBalancesRow.holds Try.pinned (OpenSpec.ofChange mutualAidBalancesSpec)

/-- ITS FALSE NEIGHBOUR: 'it returns false'. Refute it at one input. -/
def mutualAidBalancesWrong : ChangeSpec := { name := "mutualAidBalances", fn := fun _ => fun
  | [d1, d2, d3] => { results := [.lit (.bool false)], args := [d1, d2, d3] }
  | _ => none }
def MutualAidBalancesWrongFalsely : Prop := mutualAidBalancesRow.holds Try.pinned (OpenSpec.ofChange mutualAidBalancesWrong)

/-- 'samaritanlaw41.MutualAidNoAliasing': WHATEVER THE INPUT: true; the input reads as it did. -/
def mutualAidNoAliasingSpec : ChangeSpec := { name := "mutualAidNoAliasing", fn := fun _ => fun
  | [d1, d2, d3] => { results := [.lit (.bool true)], args := [d1, d2, d3] }
  | _ => none }
def mutualAidNoAliasingRow : OpenClaim := { program := "ytnmmiiajcjcccaa", sum := "71bd56454d991323e94a49eb9b97e2817d5910793e6a8a1c27e188ef29719214", func := "samaritan/samaritanlaw41.MutualAidNoAliasing", spec := "mutualAidNoAliasing", unfollowed := true, recurses := true, apart := false }
def MutualAidNoAliasingSaid : Prop := mutualAidNoAliasingRow.holds Try.pinned (OpenSpec.ofChange mutualAidNoAliasingSpec)

/-- ITS FALSE NEIGHBOUR: 'it returns false'. Refute it at one input. -/
def mutualAidNoAliasingWrong : ChangeSpec := { name := "mutualAidNoAliasing", fn := fun _ => fun
  | [d1, d2, d3] => { results := [.lit (.bool false)], args := [d1, d2, d3] }
  | _ => none }
def MutualAidNoAliasingWrongFalsely : Prop := mutualAidNoAliasingRow.holds Try.pinned (OpenSpec.ofChange mutualAidNoAliasingWrong)

/- THE SECOND FORM. 'bulk': how many values and letters a reading holds, each counted each time it is reached (what is shared counts as often as it is met; a slice's spare places count too). A statement '..UptoSaid' is the law's where the arguments, and the package variables that the reading takes, are together of bulk at most 1048576: NARROWER than '..Said'. Prove '..Said' where nothing that the law and all that it calls make is longer than what came in: it says more and counts as full. Else prove '..UptoSaid'. A law counts once. -/
mutual
def uptoBulk {H : Type} : DataW H → Nat
  | .lit (.string bytes) => bytes.length + 1
  | .lit _ => 1
  | .nil => 1
  | .ptr d => uptoBulk d + 1
  | .slice elems spare => uptoBulkAll elems + uptoBulkAll spare + 1
  | .agg parts => uptoBulkAll parts + 1
  | .iface _ d => uptoBulk d + 1
  | .map entries => uptoBulkEntries entries + 1
  | .held _ => 1
def uptoBulkAll {H : Type} : List (DataW H) → Nat
  | [] => 0
  | d :: r => uptoBulk d + uptoBulkAll r
def uptoBulkEntries {H : Type} : List (Lit × DataW H) → Nat
  | [] => 0
  | x :: r => uptoBulkEntry x + uptoBulkEntries r
def uptoBulkEntry {H : Type} : Lit × DataW H → Nat
  | (.string bytes, d) => bytes.length + uptoBulk d + 1
  | (_, d) => uptoBulk d + 1
 end
def uptoSmall : (H : Type) → List (DataW H) → Bool := fun _ ds => decide (uptoBulkAll ds ≤ 1048576)
def OpenSpec.upto (s : _root_.Go.ChangeSpec) : _root_.Go.OpenSpec := { _root_.Go.OpenSpec.ofChange s with cond := some uptoSmall }

/-- 'samaritanlaw41.MutualAidPlan', WHERE WHAT IT READS IS OF BULK AT MOST 1048576: true; the input reads as it did. -/
def mutualAidPlanUptoRow : OpenClaim := { program := "ytnmmiiajcjcccaa", sum := "71bd56454d991323e94a49eb9b97e2817d5910793e6a8a1c27e188ef29719214", func := "samaritan/samaritanlaw41.MutualAidPlan", spec := "mutualAidPlan", unfollowed := true, recurses := true, apart := false, narrowed := true }
def MutualAidPlanUptoSaid : Prop := mutualAidPlanUptoRow.holds Try.pinned (OpenSpec.upto mutualAidPlanSpec)

/-- 'samaritanlaw41.MutualAidIsFair', WHERE WHAT IT READS IS OF BULK AT MOST 1048576: true; the input reads as it did. -/
def mutualAidIsFairUptoRow : OpenClaim := { program := "ytnmmiiajcjcccaa", sum := "71bd56454d991323e94a49eb9b97e2817d5910793e6a8a1c27e188ef29719214", func := "samaritan/samaritanlaw41.MutualAidIsFair", spec := "mutualAidIsFair", unfollowed := true, recurses := true, apart := false, narrowed := true }
def MutualAidIsFairUptoSaid : Prop := mutualAidIsFairUptoRow.holds Try.pinned (OpenSpec.upto mutualAidIsFairSpec)

/-- 'samaritanlaw41.MutualAidComplete', WHERE WHAT IT READS IS OF BULK AT MOST 1048576: true; the input reads as it did. -/
def mutualAidCompleteUptoRow : OpenClaim := { program := "ytnmmiiajcjcccaa", sum := "71bd56454d991323e94a49eb9b97e2817d5910793e6a8a1c27e188ef29719214", func := "samaritan/samaritanlaw41.MutualAidComplete", spec := "mutualAidComplete", unfollowed := true, recurses := true, apart := false, narrowed := true }
def MutualAidCompleteUptoSaid : Prop := mutualAidCompleteUptoRow.holds Try.pinned (OpenSpec.upto mutualAidCompleteSpec)

/-- 'samaritanlaw41.MutualAidLedger', WHERE WHAT IT READS IS OF BULK AT MOST 1048576: true; the input reads as it did. -/
def mutualAidLedgerUptoRow : OpenClaim := { program := "ytnmmiiajcjcccaa", sum := "71bd56454d991323e94a49eb9b97e2817d5910793e6a8a1c27e188ef29719214", func := "samaritan/samaritanlaw41.MutualAidLedger", spec := "mutualAidLedger", unfollowed := true, recurses := true, apart := false, narrowed := true }
def MutualAidLedgerUptoSaid : Prop := mutualAidLedgerUptoRow.holds Try.pinned (OpenSpec.upto mutualAidLedgerSpec)

/-- 'samaritanlaw41.MutualAidAskOrder', WHERE WHAT IT READS IS OF BULK AT MOST 1048576: true; the input reads as it did. -/
def mutualAidAskOrderUptoRow : OpenClaim := { program := "ytnmmiiajcjcccaa", sum := "71bd56454d991323e94a49eb9b97e2817d5910793e6a8a1c27e188ef29719214", func := "samaritan/samaritanlaw41.MutualAidAskOrder", spec := "mutualAidAskOrder", unfollowed := true, recurses := true, apart := false, narrowed := true }
def MutualAidAskOrderUptoSaid : Prop := mutualAidAskOrderUptoRow.holds Try.pinned (OpenSpec.upto mutualAidAskOrderSpec)

/-- 'samaritanlaw41.MutualAidBalances', WHERE WHAT IT READS IS OF BULK AT MOST 1048576: true; the input reads as it did. -/
def mutualAidBalancesUptoRow : OpenClaim := { program := "ytnmmiiajcjcccaa", sum := "71bd56454d991323e94a49eb9b97e2817d5910793e6a8a1c27e188ef29719214", func := "samaritan/samaritanlaw41.MutualAidBalances", spec := "mutualAidBalances", unfollowed := true, recurses := true, apart := false, narrowed := true }
def MutualAidBalancesUptoSaid : Prop := mutualAidBalancesUptoRow.holds Try.pinned (OpenSpec.upto mutualAidBalancesSpec)

/-- 'samaritanlaw41.MutualAidNoAliasing', WHERE WHAT IT READS IS OF BULK AT MOST 1048576: true; the input reads as it did. -/
def mutualAidNoAliasingUptoRow : OpenClaim := { program := "ytnmmiiajcjcccaa", sum := "71bd56454d991323e94a49eb9b97e2817d5910793e6a8a1c27e188ef29719214", func := "samaritan/samaritanlaw41.MutualAidNoAliasing", spec := "mutualAidNoAliasing", unfollowed := true, recurses := true, apart := false, narrowed := true }
def MutualAidNoAliasingUptoSaid : Prop := mutualAidNoAliasingUptoRow.holds Try.pinned (OpenSpec.upto mutualAidNoAliasingSpec)

end Rows
end Go.Proofs.Ytnmmiiajcjcccaa

import Derived.Test.YtipkicijfedfoaaDoorQPlain
namespace Go.Inc
open Go.Quo (gd gd_get)
/-! ### Incident, plain: what is valid -/
def maxT : Int := 1099511627776
def numB (n lo : Int) : Bool := decide (lo ≤ n) && decide (n ≤ maxT)
/-- place i of a list is within bounds and above the one before -/
def incAt (l : List Int) (lo hi : Int) (i : Nat) : Bool := decide (lo ≤ gd l i) && decide (gd l i ≤ hi) && (decide (i = 0) || decide (gd l (i - 1) < gd l i))
def incB (l : List Int) (lo hi : Int) : Bool := (List.range l.length).all (incAt l lo hi)
def chB (b : UInt8) : Bool := decide (33 ≤ b.toNat) && decide (b.toNat ≤ 126)
def codeB (s : ByteArray) : Bool := decide (1 ≤ s.size) && decide (s.size ≤ 40) && (List.range s.size).all (fun i => chB (s.get! i))
def reportB (urg : Int) (code : ByteArray) (nodes : List Int) (dist since : Int) : Bool :=
  decide (1 ≤ urg) && decide (urg ≤ 5) && codeB code && decide (0 < nodes.length) && incB nodes 0 4095 && decide (0 ≤ dist) && decide (dist < 9) && decide (0 ≤ since) && decide (since ≤ maxT)
structure Cr where
  call : Int
  inc : Int
  urg : Int
  code : ByteArray
  nodes : List Int
  dist : Int
  since : Int
  closed : Bool
structure Ic where
  id : Int
  urg : Int
  code : ByteArray
  nodes : List Int
  dist : Int
  since : Int
  calls : List Int
  units : List Int
  merged : Int
  closed : Bool
def crB (c : Cr) : Bool := numB c.call 1 && numB c.inc 0 && reportB c.urg c.code c.nodes c.dist c.since
def icB (x : Ic) : Bool := numB x.id 1 && reportB x.urg x.code x.nodes x.dist x.since && decide (x.calls.length ≤ 1000) && incB x.calls 1 maxT && incB x.units 0 255 &&
  (decide (x.merged = 0) || (numB x.merged 1 && decide (x.merged ≠ x.id) && decide (x.calls.length = 0) && decide (x.units.length = 0)))
def openB (x : Ic) : Bool := decide (x.merged = 0) && !x.closed
theorem incB_iff {l : List Int} {lo hi : Int} : incB l lo hi = true ↔ ∀ i, i < l.length → incAt l lo hi i = true := by
  unfold incB; rw [List.all_eq_true]; simp
theorem incB_false {l : List Int} {lo hi : Int} {i : Nat} (hi' : i < l.length) (h : incAt l lo hi i = false) : incB l lo hi = false := by
  cases hb : incB l lo hi with
  | false => rfl
  | true => have := incB_iff.1 hb i hi'; rw [h] at this; cases this
theorem incB_lt {l : List Int} {lo hi : Int} (h : incB l lo hi = true) : ∀ i j, i < j → j < l.length → gd l i < gd l j := by
  intro i j hij hj
  induction j with
  | zero => omega
  | succ j ih =>
    have h1 := incB_iff.1 h (j + 1) hj
    unfold incAt at h1
    simp at h1
    rcases (by omega : i < j ∨ i = j) with h2 | h2
    · have := ih h2 (by omega); omega
    · subst h2; exact h1.2
theorem incB_le {l : List Int} {lo hi : Int} (h : incB l lo hi = true) {i : Nat} (hi' : i < l.length) : lo ≤ gd l i ∧ gd l i ≤ hi := by
  have h1 := incB_iff.1 h i hi'
  unfold incAt at h1
  simp at h1
  omega
end Go.Inc

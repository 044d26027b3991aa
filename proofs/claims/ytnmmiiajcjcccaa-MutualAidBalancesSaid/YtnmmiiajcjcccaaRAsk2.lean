import Derived.Test.YtnmmiiajcjcccaaRAsk1
import Derived.Deep.DeepCutAuto
import Derived.Deep.CutBlock
namespace Go.Proofs.Ytnmmiiajcjcccaa
set_option linter.unusedVariables false
open Go.RowKit Go.Own Go.Quo Go.Aid
def RAskPost (xs : List Int) (w : World) (e : Ending) (w' : World) : Prop := ∃ A c, e = .returned (.slice A xs.length c) ∧ Reads w' (fun k => w.heap.size ≤ k) 1 A xs.length (xs.map (Value.int .i64)) ∧ Below w.heap.size w w'
set_option maxRecDepth 10000 in
set_option maxHeartbeats 4000000 in
theorem rask_bad (B : Nat → Prop) (r : Nat) (s : LSt) (A1 A2 : Option Addr) (c1 c2 : Nat) (dist : Int) (A : Option Addr) (c : Nat) (sp : List Int) (w : World) (h : Bok w B r s A1 A2 c1 c2) (hb : dist < 0 ∨ (s.n : Int) ≤ dist ∨ sp.length ≠ s.n) :
    Calls Try.prog 24 #[.pointer (some ⟨r, 0, none⟩), .int .i64 dist, .slice A sp.length c] w (RAskPost [] w) := by
  have HE := Lib.hid (show RAskPost [] w (.returned (.slice (some ⟨w.heap.size, 0, none⟩) 0 0)) (w.alloc (.cells #[] 3)) from ⟨_, 0, rfl, Reads.none_, (Below.refl _ _).alloc (Nat.le_refl _) _⟩)
  have hr4 := h.rb.alloc (.cells #[] 3)
  clear h
  generalize s.n = n at *
  obtain ⟨a0, a1, a2⟩ := hr4.facts
  clear hr4
  by_cases d1 : dist < 0
  · clear hb
    have d1' : decide (dist < 0) = true := by simpa using d1
    go_enter Try.func24, Try.ntmps24
    go_wp2_with fail
    go_ret
    exact HE.out
  · have d1' : decide (dist < 0) = false := by simpa using d1
    by_cases d2 : (n : Int) ≤ dist
    · clear hb
      have d2' : decide ((n : Int) ≤ dist) = true := by simpa using d2
      go_enter Try.func24, Try.ntmps24
      go_wp2_with fail
      go_ret
      exact HE.out
    · have d2' : decide ((n : Int) ≤ dist) = false := by simpa using d2
      have d3 : ((sp.length : Int) == (n : Int)) = false := by
        have : sp.length ≠ n := by rcases hb with h | h | h <;> first | exact absurd h d1 | exact absurd h d2 | exact h
        simp; omega
      clear hb
      go_enter Try.func24, Try.ntmps24
      go_wp2_with fail
      go_ret
      exact HE.out
end Go.Proofs.Ytnmmiiajcjcccaa

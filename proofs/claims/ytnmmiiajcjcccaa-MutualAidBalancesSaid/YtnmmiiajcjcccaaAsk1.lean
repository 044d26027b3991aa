import Derived.Test.YtnmmiiajcjcccaaCm3
namespace Go.Proofs.Ytnmmiiajcjcccaa
set_option linter.unusedVariables false
open Go.RowKit Go.Own Go.Quo Go.Aid
def AskPost (xs : List Int) (w : World) (e : Ending) (w' : World) : Prop := ∃ A c, e = .returned (.slice A xs.length c) ∧ Reads w' (fun k => w.heap.size ≤ k) 1 A xs.length (xs.map (Value.int .i64)) ∧ Below w.heap.size w w'
set_option maxRecDepth 10000 in
set_option maxHeartbeats 4000000 in
theorem ask_bad (B : Nat → Prop) (p m g : Nat) (s : LSt) (ls : List Ln) (dist : Int) (A : Option Addr) (c : Nat) (sp : List Int) (w : World) (h : Led w p m g s ls) (hb : dist < 0 ∨ (s.n : Int) ≤ dist ∨ sp.length ≠ s.n) :
    Calls Try.prog 23 #[.pointer (some ⟨p, 0, none⟩), .int .i64 dist, .slice A sp.length c] w (AskPost [] w) := by
  obtain ⟨npm, npg, nmg, hpl, hml, hgl⟩ := h.ne
  have hpb := h.pb
  clear h
  generalize s.n = n at *
  have HE := Lib.hid (show ∀ W, Below w.heap.size w W → AskPost [] w (.returned (.slice none 0 0)) W from fun W hW => ⟨none, 0, rfl, Reads.none_, hW⟩)
  have hb1 := Blk.new w 32 #[.pointer (some ⟨p, 0, none⟩)]
  have hw2 := ((Below.refl w.heap.size w).alloc (Nat.le_refl _) (.cells #[.pointer (some ⟨p, 0, none⟩)] 32)).alloc (by simp) (.cells #[.slice A sp.length c] 22)
  have hb2 := hb1.alloc (.cells #[.slice A sp.length c] 22)
  have hb3 := Blk.new (w.alloc (.cells #[.pointer (some ⟨p, 0, none⟩)] 32)) 22 #[.slice A sp.length c]
  have hb4 := (hpb.alloc (.cells #[.pointer (some ⟨p, 0, none⟩)] 32)).alloc (.cells #[.slice A sp.length c] 22)
  have hs1 : (w.alloc (.cells #[.pointer (some ⟨p, 0, none⟩)] 32)).heap.size = w.heap.size + 1 := by simp
  rw [hs1] at hb3
  have HW := Lib.hid hw2
  have HB2 := Lib.hid hb2
  have HB3 := Lib.hid hb3
  have HB4 := Lib.hid hb4
  clear hw2 hb1 hb2 hb3 hb4 hpb hs1
  go_enter Try.func23, Try.ntmps23
  go_wp2_with fail
  generalize (w.alloc (.cells #[.pointer (some ⟨p, 0, none⟩)] 32)).alloc (.cells #[.slice A sp.length c] 22) = W2 at *
  obtain ⟨a0, a1, a2⟩ := HB2.out.facts
  obtain ⟨b0, b1, b2⟩ := HB3.out.facts
  obtain ⟨c0, c1, c2⟩ := HB4.out.facts
  have HW3 := Lib.hid (show ∀ k, Below w.heap.size w (W2.drewN k) from fun k => ((Fr.of_below HW.out (S := fun _ => False)).drewN k).below (Nat.le_refl _) (fun _ _ => id))
  by_cases d1 : dist < 0
  · clear hb
    have d1' : decide (dist < 0) = true := by simpa using d1
    go_quiet (fail)
    go_wp2_with fail
    go_ret
    exact HE.out _ (HW3.out _)
  · have d1' : decide (dist < 0) = false := by simpa using d1
    by_cases d2 : (n : Int) ≤ dist
    · clear hb
      have d2' : decide ((n : Int) ≤ dist) = true := by simpa using d2
      go_quiet (fail)
      go_wp2_with fail
      go_ret
      exact HE.out _ (HW3.out _)
    · have d2' : decide ((n : Int) ≤ dist) = false := by simpa using d2
      have d3 : ((sp.length : Int) == (n : Int)) = false := by
        have : sp.length ≠ n := by rcases hb with h | h | h <;> first | exact absurd h d1 | exact absurd h d2 | exact h
        simp; omega
      clear hb
      go_quiet (fail)
      go_wp2_with fail
      go_ret
      exact HE.out _ (HW3.out _)
end Go.Proofs.Ytnmmiiajcjcccaa

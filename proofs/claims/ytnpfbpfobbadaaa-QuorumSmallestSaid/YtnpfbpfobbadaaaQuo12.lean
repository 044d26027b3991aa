import Derived.Test.YtnpfbpfobbadaaaQuo11
import Derived.Test.YtnpfbpfobbadaaaQInt
namespace Go.Proofs.Ytnpfbpfobbadaaa
set_option linter.unusedVariables false
open Go.RowKit Go.Own Go.Quo
set_option maxRecDepth 10000 in
set_option maxHeartbeats 2000000 in
theorem intersect_long (m z : Ms) (A : Option Addr) (n c : Nat) (w : World) (h : 40 < m.o.length ∨ 40 < m.n.length ∨ 40 < n ∨ 40 < z.o.length ∨ 40 < z.n.length) :
    Calls Try.prog 7 #[msV m, .slice A n c, msV z] w (LawPost w) := by
  have HA := Lib.hid awake_any
  have hfin : ∀ w2, Below ((w.alloc (.cells (msC m) 24)).alloc (.cells (msC z) 41)).heap.size ((w.alloc (.cells (msC m) 24)).alloc (.cells (msC z) 41)) w2 → Below w.heap.size w w2 := fun w2 hb2 => (((Below.refl _ _).alloc (Nat.le_refl _) _).alloc (by simp) _).trans (hb2.mono (by simp; omega))
  have HFin := Lib.hid hfin; clear hfin
  by_cases h1 : 40 < m.o.length
  · have h1' : (40 : Int) < m.o.length := by omega
    clear h
    go_enter Try.func7, Try.ntmps7
    go_wp2_with (go_at_call 10; ((with_reducible refine (HA.out _).mono ?_); rintro e w2 ⟨rfl, hb2⟩))
    go_ret
    exact ⟨rfl, HFin.out _ hb2⟩
  have h1d : decide (40 < m.o.length) = false := by simpa using h1
  by_cases h2 : 40 < m.n.length
  · have h2' : (40 : Int) < m.n.length := by omega
    clear h
    go_enter Try.func7, Try.ntmps7
    go_wp2_with (go_at_call 10; ((with_reducible refine (HA.out _).mono ?_); rintro e w2 ⟨rfl, hb2⟩))
    go_ret
    exact ⟨rfl, HFin.out _ hb2⟩
  have h2d : decide (40 < m.n.length) = false := by simpa using h2
  by_cases h3 : 40 < n
  · have h3' : (40 : Int) < n := by omega
    clear h
    go_enter Try.func7, Try.ntmps7
    go_wp2_with (go_at_call 10; ((with_reducible refine (HA.out _).mono ?_); rintro e w2 ⟨rfl, hb2⟩))
    go_ret
    exact ⟨rfl, HFin.out _ hb2⟩
  have h3d : decide (40 < n) = false := by simpa using h3
  by_cases h4 : 40 < z.o.length
  · have h4' : (40 : Int) < z.o.length := by omega
    clear h
    go_enter Try.func7, Try.ntmps7
    go_wp2_with (go_at_call 10; ((with_reducible refine (HA.out _).mono ?_); rintro e w2 ⟨rfl, hb2⟩))
    go_ret
    exact ⟨rfl, HFin.out _ hb2⟩
  have h4d : decide (40 < z.o.length) = false := by simpa using h4
  have h5 : 40 < z.n.length := by omega
  have h5' : (40 : Int) < z.n.length := by omega
  clear h
  go_enter Try.func7, Try.ntmps7
  go_wp2_with (go_at_call 10; ((with_reducible refine (HA.out _).mono ?_); rintro e w2 ⟨rfl, hb2⟩))
  go_ret
  exact ⟨rfl, HFin.out _ hb2⟩
end Go.Proofs.Ytnpfbpfobbadaaa

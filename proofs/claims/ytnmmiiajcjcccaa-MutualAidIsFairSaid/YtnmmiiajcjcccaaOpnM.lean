import Derived.Test.YtnmmiiajcjcccaaOpen
import Derived.Test.YtnmmiiajcjcccaaAid12
import Derived.Test.YtnmmiiajcjcccaaAwk3
import Derived.WideShapes
namespace Go.Proofs.Ytnmmiiajcjcccaa
set_option linter.unusedVariables false
open Go.RowKit Go.Own Go.Quo Go.Aid
section
variable {H : Type} {enc : TypeId × Value → H} {w : World}
theorem c3v : Try.prog.cellsOf 3 = 1 := by kernel_rfl
theorem c28v : Try.prog.cellsOf 28 = 2 := by kernel_rfl
theorem open_is {cs : List Value} (h : Rdy enc Try.prog w 22 cs) : ∃ A c, ∃ l : List Int, cs = [.slice A l.length c] ∧ RI w (· < w.heap.size) A l := by
  obtain ⟨A, c, l, h1, -, -, h2, -⟩ := h.ints Try.underlying22 Try.underlying3 c3v
  exact ⟨A, c, l, h1, h2⟩
theorem open_il {v : Value} {d : DataW H} {p : List MemPlace} (h : DataW.Trod enc Try.prog w 0 (fun _ => true) true 22 v d p) {A : Option Addr} {n c : Nat} (hv : v = .slice A n c) : ∃ l : List Int, n = l.length ∧ RI w (· < w.heap.size) A l := by
  subst hv
  obtain ⟨A', c', l, e, h2⟩ := open_is (Rdy.of_trod h)
  simp [Value.cells] at e
  obtain ⟨rfl, rfl, rfl⟩ := e
  exact ⟨l, rfl, h2⟩
theorem open_pr (es : List Value) (h : Rdy enc Try.prog w 28 es) : ∃ p : Int × Int, es = pairsL p ∧ True := by
  obtain ⟨hl, hf⟩ := h.array Try.underlying28
  rw [c28v] at hl
  rw [c3v] at hf
  match es, hl with
  | [e0, e1], _ =>
    obtain ⟨n0, h0, hw0⟩ := (hf 0 (by omega)).int Try.underlying3
    obtain ⟨n1, h1, hw1⟩ := (hf 1 (by omega)).int Try.underlying3
    simp at h0 h1
    subst h0 h1
    exact ⟨(n0, n1), rfl, trivial⟩
theorem open_prs {v : Value} {d : DataW H} {p : List MemPlace} (h : DataW.Trod enc Try.prog w 0 (fun _ => true) true 25 v d p) {A : Option Addr} {n c : Nat} (hv : v = .slice A n c) : ∃ l : List (Int × Int), n = l.length ∧ Reads w (· < w.heap.size) 2 A l.length (l.flatMap pairsL) := by
  subst hv
  have h1 := Rdy.of_trod h
  obtain ⟨A', c', l, e, h2, h3, h4, h5⟩ := h1.rows Try.underlying25 c28v (by omega) pairsL (fun _ => rfl) (fun p => True) open_pr
  simp [Value.cells] at e
  obtain ⟨rfl, rfl, rfl⟩ := e
  exact ⟨l, rfl, h4⟩
end
theorem plan_law (A A2 : Option Addr) (c c2 : Nat) (f wa : List Int) (w : World) (h : RI w (· < w.heap.size) A f) (h2 : RI w (· < w.heap.size) A2 wa) :
    Calls Try.prog 3 #[.slice A f.length c, .slice A2 wa.length c2] w fun e w' => e = .returned (.bool true) ∧ Below w.heap.size w w' := plan_law_of awake_any A A2 c c2 f wa w h h2
theorem complete_law (A A2 : Option Addr) (c c2 : Nat) (f wa : List Int) (w : World) (h : RI w (· < w.heap.size) A f) (h2 : RI w (· < w.heap.size) A2 wa) :
    Calls Try.prog 5 #[.slice A f.length c, .slice A2 wa.length c2] w fun e w' => e = .returned (.bool true) ∧ Below w.heap.size w w' := complete_law_of awake_any A A2 c c2 f wa w h h2
theorem fair_law (A A2 A3 : Option Addr) (c c2 c3 : Nat) (f wa : List Int) (l : List (Int × Int)) (w : World) (h : RI w (· < w.heap.size) A f) (h2 : RI w (· < w.heap.size) A2 wa) (h3 : Reads w (· < w.heap.size) 2 A3 l.length (l.flatMap pairsL)) :
    Calls Try.prog 4 #[.slice A f.length c, .slice A2 wa.length c2, .slice A3 l.length c3] w fun e w' => e = .returned (.bool true) ∧ Below w.heap.size w w' := fair_law_of awake_any A A2 A3 c c2 c3 f wa l w h h2 h3
end Go.Proofs.Ytnmmiiajcjcccaa

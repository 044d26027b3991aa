import Derived.Test.YtnpfbpfobbadaaaQuo3
import Derived.WideShapes
namespace Go.Proofs.Ytnpfbpfobbadaaa
set_option linter.unusedVariables false
open Go.RowKit Go.Own Go.Quo
section
variable {H : Type} {enc : TypeId × Value → H} {w : World}
theorem c24 : Try.prog.cellsOf 24 = 2 := by kernel_rfl
theorem c22 : Try.prog.cellsOf 22 = 1 := by kernel_rfl
theorem c3 : Try.prog.cellsOf 3 = 1 := by kernel_rfl
structure MO (w : World) (m : Ms) : Prop where
  o : RI w (· < w.heap.size) m.A m.o
  n : RI w (· < w.heap.size) m.A' m.n
theorem open_is {cs : List Value} (h : Rdy enc Try.prog w 22 cs) : ∃ A c, ∃ l : List Int, cs = [.slice A l.length c] ∧ RI w (· < w.heap.size) A l := by
  obtain ⟨A, c, l, h1, -, -, h2, -⟩ := h.ints Try.underlying22 Try.underlying3 c3
  exact ⟨A, c, l, h1, h2⟩
set_option maxRecDepth 100000 in
theorem open_ms {b0 : Nat} {r : Reach} {v : Value} {d : DataW H} {p : List MemPlace} (hv : Value.okWide Try.prog w r b0 24 v) (h : DataW.Trod enc Try.prog w 0 (fun _ => true) true 24 v d p) : ∃ m : Ms, v = msV m ∧ MO w m := by
  obtain ⟨cs, rfl, hsz⟩ := Go.WideShapes.okWide_struct Try.underlying24 hv
  have h1 := Rdy.of_trod h
  obtain ⟨-, hf⟩ := h1.struct Try.underlying24
  rw [c24] at hsz
  obtain ⟨l⟩ := cs
  match l, hsz with
  | [e0, e1], _ =>
    have f0 : Rdy enc Try.prog w 22 (([e0, e1].drop 0).take (Try.prog.cellsOf 22)) := hf 0 _ rfl
    have f1 : Rdy enc Try.prog w 22 (([e0, e1].drop 1).take (Try.prog.cellsOf 22)) := hf 1 _ rfl
    rw [c22] at f0 f1
    obtain ⟨A, c, lo, k0, r0⟩ := open_is f0
    obtain ⟨A', c', ln, k1, r1⟩ := open_is f1
    simp at k0 k1
    subst k0 k1
    exact ⟨⟨A, c, lo, A', c', ln⟩, rfl, r0, r1⟩
theorem open_il {v : Value} {d : DataW H} {p : List MemPlace} (h : DataW.Trod enc Try.prog w 0 (fun _ => true) true 22 v d p) {A : Option Addr} {n c : Nat} (hv : v = .slice A n c) : ∃ l : List Int, n = l.length ∧ RI w (· < w.heap.size) A l := by
  subst hv
  obtain ⟨A', c', l, e, h2⟩ := open_is (Rdy.of_trod h)
  simp [Value.cells] at e
  obtain ⟨rfl, rfl, rfl⟩ := e
  exact ⟨l, rfl, h2⟩
end
end Go.Proofs.Ytnpfbpfobbadaaa

import Derived.Test.YtnpfbpfobbadaaaQuo14
import Derived.Test.YtnpfbpfobbadaaaOpenQ
namespace Go.Proofs.Ytnpfbpfobbadaaa
set_option linter.unusedVariables false
open Go.RowKit Go.Own Go.Quo
section
variable {H : Type} {enc : TypeId × Value → H} {w : World}
theorem c41 : Try.prog.cellsOf 41 = 2 := by kernel_rfl
set_option maxRecDepth 100000 in
theorem open_two {b0 : Nat} {r : Reach} {v : Value} {d : DataW H} {p : List MemPlace} (hv : Value.okWide Try.prog w r b0 41 v) (h : DataW.Trod enc Try.prog w 0 (fun _ => true) true 41 v d p) : ∃ m : Ms, v = msV m ∧ MO w m := by
  obtain ⟨cs, rfl, hsz⟩ : ∃ cs, v = .agg cs ∧ cs.size = Try.prog.cellsOf 41 := by
    simp only [Value.okWide, Try.underlying41] at hv
    obtain ⟨cs, h1, h2, _⟩ := hv
    exact ⟨cs, h1, h2⟩
  have h1 := Rdy.of_trod h
  obtain ⟨-, hf⟩ := h1.array Try.underlying41
  rw [c41] at hsz
  obtain ⟨l⟩ := cs
  match l, hsz with
  | [e0, e1], _ =>
    have f0 := hf 0 (by omega)
    have f1 := hf 1 (by omega)
    rw [c22] at f0 f1
    obtain ⟨A, c, lo, k0, r0⟩ := open_is f0
    obtain ⟨A', c', ln, k1, r1⟩ := open_is f1
    simp [Value.cells] at k0 k1
    subst k0 k1
    exact ⟨⟨A, c, lo, A', c', ln⟩, rfl, r0, r1⟩
end
theorem intersect_law (m z : Ms) (A : Option Addr) (c : Nat) (nx : List Int) (w : World) (h : MO w m) (hy : RI w (· < w.heap.size) A nx) (hz : MO w z) :
    Calls Try.prog 7 #[msV m, .slice A nx.length c, msV z] w (LawPost w) := by
  by_cases hl : 40 < m.o.length ∨ 40 < m.n.length ∨ 40 < nx.length ∨ 40 < z.o.length ∨ 40 < z.n.length
  · exact intersect_long m z A nx.length c w hl
  · exact intersect_short m z A c nx w ⟨h.o, h.n, by omega, by omega⟩ hy ⟨hz.o, hz.n, by omega, by omega⟩ (by omega) (by omega) (by omega) (by omega) (by omega)
end Go.Proofs.Ytnpfbpfobbadaaa

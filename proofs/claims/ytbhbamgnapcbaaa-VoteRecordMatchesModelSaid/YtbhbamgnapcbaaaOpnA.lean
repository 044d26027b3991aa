import Derived.Test.YtbhbamgnapcbaaaOnc2
import Derived.Test.YtbhbamgnapcbaaaOpnO
namespace Go.Proofs.Ytbhbamgnapcbaaa
set_option linter.unusedVariables false
open Go.RowKit Go.Own Go.Quo Go.Wire
section
variable {H : Type} {enc : TypeId × Value → H} {w : World}
theorem c51 : Try.prog.cellsOf 51 = 4 := by kernel_rfl
theorem c2 : Try.prog.cellsOf 2 = 1 := by kernel_rfl
theorem c3 : Try.prog.cellsOf 3 = 1 := by kernel_rfl
theorem by51 : Try.prog.bytesOf 51 = 32 := by kernel_rfl
set_option maxRecDepth 100000 in
theorem open_ac (es : List Value) (h : RdyW enc Try.prog w 51 es) : ∃ x : Ac, es = acL x ∧ (0 ≤ x.keep ∧ x.keep < 256) := by
  obtain ⟨hl, hf⟩ := h.struct Try.underlying51
  rw [c51] at hl
  match es, hl with
  | [e0, e1, e2, e3], _ =>
    have f0 : RdyW enc Try.prog w 3 (([e0, e1, e2, e3].drop 0).take (Try.prog.cellsOf 3)) := hf 0 _ rfl
    have f1 : RdyW enc Try.prog w 2 (([e0, e1, e2, e3].drop 1).take (Try.prog.cellsOf 2)) := hf 1 _ rfl
    have f2 : RdyW enc Try.prog w 3 (([e0, e1, e2, e3].drop 2).take (Try.prog.cellsOf 3)) := hf 2 _ rfl
    have f3 : RdyW enc Try.prog w 5 (([e0, e1, e2, e3].drop 3).take (Try.prog.cellsOf 5)) := hf 3 _ rfl
    rw [c3] at f0 f2
    rw [c2] at f1
    rw [c5] at f3
    obtain ⟨n0, h0, hw0⟩ := f0.rdy.int Try.underlying3
    obtain ⟨n1, h1, hw1⟩ := f1.rdy.int Try.underlying2
    obtain ⟨n2, h2, hw2⟩ := f2.rdy.int Try.underlying3
    obtain ⟨n3, h3, hw3⟩ := f3.rdy.int Try.underlying5
    simp at h0 h1 h2 h3
    subst h0 h1 h2 h3
    exact ⟨⟨n0, n1, n2, n3⟩, rfl, u8_wf hw3⟩
theorem open_acs {v : Value} {d : DataW H} {p : List MemPlace} (h : DataW.Trod enc Try.prog w 0 (fun _ => true) true 46 v d p) (hw : ∀ n ∈ d.weights Try.prog 46, n ≤ reachBytes) {A : Option Addr} {n c : Nat} (hv : v = .slice A n c) : ∃ l : List Ac, n = l.length ∧ AcA w A l := by
  subst hv
  have h1 := RdyW.of_trod h hw
  obtain ⟨A', c', l, e, h2, h3, hb, h4, h5⟩ := h1.rows Try.underlying46 c51 (by omega) acL acL_len (fun x => 0 ≤ x.keep ∧ x.keep < 256) open_ac
  simp [Value.cells] at e
  obtain ⟨rfl, rfl, rfl⟩ := e
  rw [by51] at hb
  have := Nat.le_trans hb reach_le
  exact ⟨l, rfl, h4, by omega, h5⟩
end
end Go.Proofs.Ytbhbamgnapcbaaa

import Derived.Test.YtbhbamgnapcbaaaOpn2
import Derived.Test.YtbhbamgnapcbaaaOpenW
namespace Go.Proofs.Ytbhbamgnapcbaaa
set_option linter.unusedVariables false
open Go.RowKit Go.Own Go.Quo Go.Wire
section
variable {H : Type} {enc : TypeId × Value → H} {w : World}
theorem c33 : Try.prog.cellsOf 33 = 2 := by kernel_rfl
theorem c31 : Try.prog.cellsOf 31 = 1 := by kernel_rfl
theorem c5 : Try.prog.cellsOf 5 = 1 := by kernel_rfl
theorem by5 : Try.prog.bytesOf 5 = 1 := by kernel_rfl
theorem by33 : Try.prog.bytesOf 33 = 32 := by kernel_rfl
def RcQ (w : World) (x : Rc) : Prop := Reads w (· < w.heap.size) 1 x.A x.body.length (bys x.body) ∧ Bytes x.body ∧ x.body.length ≤ 140737488351232 ∧ 0 ≤ x.kind ∧ x.kind < 256
theorem reach_le : reachBytes ≤ 140737488351232 := by decide
theorem u8_wf {n : Int} (h : (Lit.int .u8 n).wf = true) : 0 ≤ n ∧ n < 256 := by
  have : 0 ≤ n ∧ n ≤ 255 := by simpa [Lit.wf, IntKind.min, IntKind.max, IntKind.signed, IntKind.bits] using h
  omega
set_option maxRecDepth 100000 in
theorem open_rc (es : List Value) (h : RdyW enc Try.prog w 33 es) : ∃ x : Rc, es = rcL x ∧ RcQ w x := by
  obtain ⟨hl, hf⟩ := h.struct Try.underlying33
  rw [c33] at hl
  match es, hl with
  | [e0, e1], _ =>
    have f0 : RdyW enc Try.prog w 5 (([e0, e1].drop 0).take (Try.prog.cellsOf 5)) := hf 0 _ rfl
    have f1 : RdyW enc Try.prog w 31 (([e0, e1].drop 1).take (Try.prog.cellsOf 31)) := hf 1 _ rfl
    rw [c5] at f0
    rw [c31] at f1
    obtain ⟨n0, h0, hw0⟩ := f0.rdy.int Try.underlying5
    obtain ⟨A, c, bs, h1, -, -, hb, r1, hw1⟩ := f1.ints Try.underlying31 Try.underlying5 c5
    simp at h0 h1
    subst h0 h1
    rw [by5, Nat.mul_one] at hb
    refine ⟨⟨n0, A, c, bs⟩, rfl, r1, fun x hx => u8_wf (hw1 x hx), ?_, (u8_wf hw0).1, (u8_wf hw0).2⟩
    exact Nat.le_trans hb reach_le
theorem open_rcs {v : Value} {d : DataW H} {p : List MemPlace} (h : DataW.Trod enc Try.prog w 0 (fun _ => true) true 22 v d p) (hw : ∀ n ∈ d.weights Try.prog 22, n ≤ reachBytes) {A : Option Addr} {n c : Nat} (hv : v = .slice A n c) : ∃ l : List Rc, n = l.length ∧ RcA w A l := by
  subst hv
  have h1 := RdyW.of_trod h hw
  obtain ⟨A', c', l, e, h2, h3, hb, h4, h5⟩ := h1.rows Try.underlying22 c33 (by omega) rcL rcL_len (RcQ w) open_rc
  simp [Value.cells] at e
  obtain ⟨rfl, rfl, rfl⟩ := e
  rw [by33] at hb
  have := Nat.le_trans hb reach_le
  exact ⟨l, rfl, h4, by omega, h5⟩
end
end Go.Proofs.Ytbhbamgnapcbaaa

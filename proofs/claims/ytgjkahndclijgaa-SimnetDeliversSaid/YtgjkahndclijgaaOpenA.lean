import Derived.Test.YtgjkahndclijgaaPlay2
namespace Go.Proofs.Ytgjkahndclijgaa
set_option linter.unusedVariables false
open Go.RowKit Go.Own
section
variable {H : Type} {enc : TypeId × Value → H} {w : World}
theorem list6 {cs : List Value} (h : cs.length = 6) : ∃ a b c d e f, cs = [a, b, c, d, e, f] := by
  match cs, h with
  | [a, b, c, d, e, f], _ => exact ⟨a, b, c, d, e, f, rfl⟩
theorem list3 {cs : List Value} (h : cs.length = 3) : ∃ a b c, cs = [a, b, c] := by
  match cs, h with
  | [a, b, c], _ => exact ⟨a, b, c, rfl⟩
theorem c52 : Try.prog.cellsOf 52 = 6 := by kernel_rfl
theorem c31 : Try.prog.cellsOf 31 = 3 := by kernel_rfl
theorem c2 : Try.prog.cellsOf 2 = 1 := by kernel_rfl
theorem c3 : Try.prog.cellsOf 3 = 1 := by kernel_rfl
theorem c5 : Try.prog.cellsOf 5 = 1 := by kernel_rfl
theorem c22 : Try.prog.cellsOf 22 = 1 := by kernel_rfl
theorem c37 : Try.prog.cellsOf 37 = 1 := by kernel_rfl
def ActQ (w : World) (a : ActS) : Prop := Reads w (· < w.heap.size) 1 a.A a.n (bytesV a.body) ∧ Reads w (· < w.heap.size) 1 a.GA a.gn (a.groups.map (Value.int .i64))
theorem open_act (es : List Value) (h : Rdy enc Try.prog w 52 es) : ∃ a, es = acC a ∧ ActQ w a := by
  obtain ⟨hl, hf⟩ := h.struct Try.underlying52
  rw [c52] at hl
  obtain ⟨e0, e1, e2, e3, e4, e5, rfl⟩ := list6 hl
  have f0 : Rdy enc Try.prog w 3 (([e0, e1, e2, e3, e4, e5].drop 0).take (Try.prog.cellsOf 3)) := hf 0 _ rfl
  have f1 : Rdy enc Try.prog w 31 (([e0, e1, e2, e3, e4, e5].drop 1).take (Try.prog.cellsOf 31)) := hf 1 _ rfl
  have f2 : Rdy enc Try.prog w 2 (([e0, e1, e2, e3, e4, e5].drop 4).take (Try.prog.cellsOf 2)) := hf 2 _ rfl
  have f3 : Rdy enc Try.prog w 37 (([e0, e1, e2, e3, e4, e5].drop 5).take (Try.prog.cellsOf 37)) := hf 3 _ rfl
  rw [c3] at f0
  rw [c31] at f1
  rw [c2] at f2
  rw [c37] at f3
  obtain ⟨n0, h0, -⟩ := f0.int Try.underlying3
  obtain ⟨n2, h2, -⟩ := f2.int Try.underlying2
  obtain ⟨GA, gc, gs, h3, -, -, r3, -⟩ := f3.ints Try.underlying37 Try.underlying3 c3
  obtain ⟨-, hg⟩ := f1.struct Try.underlying31
  have g0 : Rdy enc Try.prog w 3 (([e1, e2, e3].drop 0).take (Try.prog.cellsOf 3)) := hg 0 _ rfl
  have g1 : Rdy enc Try.prog w 3 (([e1, e2, e3].drop 1).take (Try.prog.cellsOf 3)) := hg 1 _ rfl
  have g2 : Rdy enc Try.prog w 22 (([e1, e2, e3].drop 2).take (Try.prog.cellsOf 22)) := hg 2 _ rfl
  rw [c3] at g0 g1
  rw [c22] at g2
  obtain ⟨m0, k0, -⟩ := g0.int Try.underlying3
  obtain ⟨m1, k1, -⟩ := g1.int Try.underlying3
  obtain ⟨BA, bc, bs, k2, -, -, r2, -⟩ := g2.ints Try.underlying22 Try.underlying5 c5
  simp at h0 h2 h3 k0 k1 k2
  subst h0 h2 h3 k0 k1 k2
  exact ⟨⟨n0, m0, m1, BA, bs.length, bc, n2, GA, gs.length, gc, bs, gs⟩, rfl, r2, r3⟩
theorem open_acts {v : Value} {d : DataW H} {p : List MemPlace} (h : DataW.Trod enc Try.prog w 0 (fun _ => true) true 36 v d p) {A : Option Addr} {n c : Nat} (hv : v = .slice A n c) : ∃ l : List ActS, n = l.length ∧ ActsR w A l := by
  subst hv
  have h1 := Rdy.of_trod h
  obtain ⟨A', c', l, e, h2, h3, h4, h5⟩ := h1.rows Try.underlying36 c52 (by omega) acC acC_length (ActQ w) open_act
  simp [Value.cells] at e
  obtain ⟨rfl, rfl, rfl⟩ := e
  exact ⟨l, rfl, h4, fun a ha => (h5 a ha).1, fun a ha => (h5 a ha).2, by unfold maxLen at h3; omega⟩
end
end Go.Proofs.Ytgjkahndclijgaa

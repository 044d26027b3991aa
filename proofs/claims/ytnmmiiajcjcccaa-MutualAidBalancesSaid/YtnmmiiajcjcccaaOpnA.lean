import Derived.Test.YtnmmiiajcjcccaaOpen
import Derived.Test.YtnmmiiajcjcccaaRun1
import Derived.WideShapes
namespace Go.Proofs.Ytnmmiiajcjcccaa
set_option linter.unusedVariables false
open Go.RowKit Go.Own Go.Quo Go.Aid
section
variable {H : Type} {enc : TypeId × Value → H} {w : World}
theorem c3a : Try.prog.cellsOf 3 = 1 := by kernel_rfl
theorem c22a : Try.prog.cellsOf 22 = 1 := by kernel_rfl
theorem c42a : Try.prog.cellsOf 42 = 3 := by kernel_rfl
theorem c44a : Try.prog.cellsOf 44 = 4 := by kernel_rfl
theorem c48a : Try.prog.cellsOf 48 = 2 := by kernel_rfl
set_option maxRecDepth 100000 in
theorem open_lnc (es : List Value) (h : Rdy enc Try.prog w 42 es) : ∃ x : Ln, es = lnL x ∧ (Lit.int .i64 x.u).wf = true := by
  obtain ⟨hl, hf⟩ := h.struct Try.underlying42
  rw [c42a] at hl
  match es, hl with
  | [e0, e1, e2], _ =>
    have f0 : Rdy enc Try.prog w 3 (([e0, e1, e2].drop 0).take (Try.prog.cellsOf 3)) := hf 0 _ rfl
    have f1 : Rdy enc Try.prog w 3 (([e0, e1, e2].drop 1).take (Try.prog.cellsOf 3)) := hf 1 _ rfl
    have f2 : Rdy enc Try.prog w 3 (([e0, e1, e2].drop 2).take (Try.prog.cellsOf 3)) := hf 2 _ rfl
    rw [c3a] at f0 f1 f2
    obtain ⟨n0, h0, -⟩ := f0.int Try.underlying3
    obtain ⟨n1, h1, -⟩ := f1.int Try.underlying3
    obtain ⟨n2, h2, hw⟩ := f2.int Try.underlying3
    simp at h0 h1 h2
    subst h0 h1 h2
    exact ⟨⟨n0, n1, n2⟩, rfl, hw⟩
set_option maxRecDepth 100000 in
theorem open_acc (es : List Value) (h : Rdy enc Try.prog w 44 es) : ∃ a : Ac, es = acL a ∧ (Lit.int .i64 a.l.u).wf = true := by
  obtain ⟨hl, hf⟩ := h.struct Try.underlying44
  rw [c44a] at hl
  match es, hl with
  | [e0, e1, e2, e3], _ =>
    have f0 : Rdy enc Try.prog w 3 (([e0, e1, e2, e3].drop 0).take (Try.prog.cellsOf 3)) := hf 0 _ rfl
    have f1 : Rdy enc Try.prog w 42 (([e0, e1, e2, e3].drop 1).take (Try.prog.cellsOf 42)) := hf 1 _ rfl
    rw [c3a] at f0
    rw [c42a] at f1
    obtain ⟨n0, h0, -⟩ := f0.int Try.underlying3
    obtain ⟨x, h1, hw⟩ := open_lnc _ f1
    simp [lnL] at h0 h1
    obtain ⟨r1, r2, r3⟩ := h1
    subst h0 r1 r2 r3
    exact ⟨⟨n0, x⟩, rfl, hw⟩
theorem open_acts {v : Value} {d : DataW H} {p : List MemPlace} (h : DataW.Trod enc Try.prog w 0 (fun _ => true) true 31 v d p) {A : Option Addr} {n c : Nat} (hv : v = .slice A n c) : ∃ l : List Ac, n = l.length ∧ (Reads w (· < w.heap.size) 4 A l.length (l.flatMap acL) ∧ ∀ a ∈ l, (Lit.int .i64 a.l.u).wf = true) := by
  subst hv
  have h1 := Rdy.of_trod h
  obtain ⟨A', c', l, e, h2, h3, h4, h5⟩ := h1.rows Try.underlying31 c44a (by omega) acL acL_len (fun a => (Lit.int .i64 a.l.u).wf = true) open_acc
  simp [Value.cells] at e
  obtain ⟨rfl, rfl, rfl⟩ := e
  exact ⟨l, rfl, h4, h5⟩
set_option maxRecDepth 100000 in
theorem open_ln {b0 : Nat} {r : Reach} {v : Value} {d : DataW H} {p : List MemPlace} (hv : Value.okWide Try.prog w r b0 42 v) (h : DataW.Trod enc Try.prog w 0 (fun _ => true) true 42 v d p) : ∃ x : Ln, v = lnV x ∧ True := by
  obtain ⟨cs, rfl, hsz⟩ := Go.WideShapes.okWide_struct Try.underlying42 hv
  have h1 := Rdy.of_trod h
  obtain ⟨l⟩ := cs
  obtain ⟨x, e, -⟩ := open_lnc _ (show Rdy enc Try.prog w 42 l by simpa [Value.cells] using h1)
  subst e
  exact ⟨x, rfl, trivial⟩
set_option maxRecDepth 100000 in
theorem open_ac {b0 : Nat} {r : Reach} {v : Value} {d : DataW H} {p : List MemPlace} (hv : Value.okWide Try.prog w r b0 44 v) (h : DataW.Trod enc Try.prog w 0 (fun _ => true) true 44 v d p) : ∃ x : Ac, v = acV x ∧ True := by
  obtain ⟨cs, rfl, hsz⟩ := Go.WideShapes.okWide_struct Try.underlying44 hv
  have h1 := Rdy.of_trod h
  obtain ⟨l⟩ := cs
  obtain ⟨x, e, -⟩ := open_acc _ (show Rdy enc Try.prog w 44 l by simpa [Value.cells] using h1)
  subst e
  exact ⟨x, rfl, trivial⟩
set_option maxRecDepth 100000 in
theorem open_asked {b0 : Nat} {r : Reach} {v : Value} {d : DataW H} {p : List MemPlace} (hv : Value.okWide Try.prog w r b0 48 v) (h : DataW.Trod enc Try.prog w 0 (fun _ => true) true 48 v d p) : ∃ (dist : Int) (A : Option Addr) (c : Nat) (sp : List Int), v = .agg #[.int .i64 dist, .slice A sp.length c] ∧ Reads w (fun k => k < w.heap.size) 1 A sp.length (sp.map (Value.int .i64)) := by
  obtain ⟨cs, rfl, hsz⟩ := Go.WideShapes.okWide_struct Try.underlying48 hv
  have h1 := Rdy.of_trod h
  obtain ⟨-, hf⟩ := h1.struct Try.underlying48
  rw [c48a] at hsz
  obtain ⟨l⟩ := cs
  match l, hsz with
  | [e0, e1], _ =>
    have f0 : Rdy enc Try.prog w 3 (([e0, e1].drop 0).take (Try.prog.cellsOf 3)) := hf 0 _ rfl
    have f1 : Rdy enc Try.prog w 22 (([e0, e1].drop 1).take (Try.prog.cellsOf 22)) := hf 1 _ rfl
    rw [c3a] at f0
    rw [c22a] at f1
    obtain ⟨n0, k0, -⟩ := f0.int Try.underlying3
    obtain ⟨A, c, sp, k1, -, -, r1, -⟩ := f1.ints Try.underlying22 Try.underlying3 c3a
    simp at k0 k1
    subst k0 k1
    exact ⟨n0, A, c, sp, rfl, r1⟩
end
end Go.Proofs.Ytnmmiiajcjcccaa

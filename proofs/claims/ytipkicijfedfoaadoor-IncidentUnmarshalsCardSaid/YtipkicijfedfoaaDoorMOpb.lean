import Derived.Test.YtipkicijfedfoaaDoorMOpnI
import Derived.Test.YtipkicijfedfoaaDoorMGM
namespace Go.Proofs.YtipkicijfedfoaaDoor
set_option linter.unusedVariables false
open Go.RowKit Go.Own Go.Quo Go.Inc Go.ChangeShapes Go.Wire
section
variable {H : Type} {enc : TypeId × Value → H} {w : World}
theorem c5x : Tryd.prog.cellsOf 5 = 1 := by kernel_rfl
theorem open_bytes {v : Value} {d : DataW H} {p : List MemPlace} (h : DataW.Trod enc Tryd.prog w 0 (fun _ => true) true 40 v d p) {A : Option Addr} {n c : Nat} (hv : v = .slice A n c) : ∃ l : List Int, n = l.length ∧ Reads w (· < w.heap.size) 1 A l.length (Wr.bys l) ∧ Bytes l := by
  subst hv
  obtain ⟨A', c', l, e, -, -, h2, h3⟩ := (Rdy.of_trod h).ints Tryd.underlying40 Tryd.underlying5 c5x
  simp [Value.cells] at e
  obtain ⟨rfl, rfl, rfl⟩ := e
  refine ⟨l, rfl, h2, fun x hx => ?_⟩
  have := h3 x hx
  simp [Lit.wf, IntKind.min, IntKind.max, IntKind.bits, IntKind.signed] at this
  omega
end
end Go.Proofs.YtipkicijfedfoaaDoor

import Derived.Test.YtipkicijfedfoaaDoorMOpnI
namespace Go.Proofs.YtipkicijfedfoaaDoor
set_option linter.unusedVariables false
open Go.RowKit Go.Own Go.Quo Go.Inc Go.ChangeShapes
section
variable {H : Type} {enc : TypeId × Value → H} {w : World}
/-- a list of call records -/
structure Cas where
  ts : List Ca
  A : Option Addr
  c : Nat
structure CasOk (w : World) (s : Cas) : Prop where
  r : Reads w (· < w.heap.size) 8 s.A s.ts.length (s.ts.flatMap caL)
  t : ∀ t ∈ s.ts, CaOk w t
theorem open_cas {v : Value} {d : DataW H} {p : List MemPlace} (h : DataW.Trod enc Tryd.prog w 0 (fun _ => true) true 36 v d p) {A : Option Addr} {n c : Nat} (hv : v = .slice A n c) : ∃ s : Cas, A = s.A ∧ n = s.ts.length ∧ c = s.c ∧ CasOk w s := by
  subst hv
  obtain ⟨A', c', l, e, h2, h3, h4, h5⟩ := (Rdy.of_trod h).rows Tryd.underlying36 c27 (by omega) caL (fun _ => rfl) (fun a => CaOk w a) (fun es h => open_cl h)
  simp [Value.cells] at e
  obtain ⟨rfl, rfl, rfl⟩ := e
  exact ⟨⟨l, A, c⟩, rfl, rfl, rfl, ⟨h4, h5⟩⟩
end
end Go.Proofs.YtipkicijfedfoaaDoor

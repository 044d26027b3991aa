import Derived.Test.YtipkicijfedfoaaDoorRows
import Derived.Test.YtipkicijfedfoaaDoorMOpnI
import Derived.ProofKit
import Derived.LaidMore
import Derived.MakeChecks
import Derived.Stop.Joined
namespace Go.Proofs.YtipkicijfedfoaaDoor
set_option linter.unusedVariables false
open Go.RowKit Go.Own Go.Quo Go.Inc
theorem gTab : Tryd.prog.globalNamed "math/bits.deBruijn64tab" = some 0 := by kernel_rfl
theorem tTab : (Tryd.prog.globals[0]?).map (·.type) = some 148 := by kernel_rfl
theorem c148 : Tryd.prog.cellsOf 148 = 64 := by kernel_rfl
theorem c5v : Tryd.prog.cellsOf 5 = 1 := by kernel_rfl
def laidT : List (String × DataW Unit) := [("math/bits.deBruijn64tab", Rows.laid_math_bits_deBruijn64tab)]
theorem laid_list : (Rows.laid_math_bits_deBruijn64tab : DataW Unit) = .agg (tabL.map fun n : Nat => .lit (.int .u8 (n : Int))) := by rfl
/-- what the listed variable gives -/
theorem tab_of_laid {W : World} (h : laidMetH Tryd.prog laidT W) : Tab W := by
  rw [MakeChecks.laidMetH_plain _ _ _ (by kernel_rfl)] at h
  obtain ⟨ps, ⟨g0, t0, cs0, f0, p0, q0, hg0, ht0, hv0, hd0, -, -⟩, -, -⟩ := h
  obtain rfl := Option.some.inj (gTab.symm.trans hg0)
  obtain rfl := Option.some.inj (tTab.symm.trans ht0)
  rw [laid_list] at hd0
  obtain ⟨xs, m1, -, hx1, hlen, hn, hel⟩ := DataW.trod_array Tryd.underlying148 hd0
  rw [c148] at hlen
  have hcell := fun (i : Nat) => World.var?_cell hg0 hv0 i
  simp only [Prod.mk.injEq, DataW.agg.injEq] at hx1
  have key : ∀ (i : Nat) (v : Value), tabV[i]? = some v → cs0[i]? = some v := by
    intro i v hv
    have hi : i < 64 := by
      have := (Array.getElem?_eq_some_iff.1 hv).1
      simpa [tabV, tabL] using this
    have h1 := hel i hi
    rw [c5v, Nat.mul_one] at h1
    have hx := congrArg (fun l => l[i]?) hx1.1
    simp only [List.getElem?_map] at hx
    have hxi : i < xs.length := by rw [hn]; exact hi
    rw [List.getElem?_eq_getElem hxi] at h1 hx
    obtain ⟨k, e1, e2, -⟩ := DataW.trod_int Tryd.underlying5 h1
    have hci : i < cs0.toList.length := by rw [hlen]; exact hi
    rw [List.drop_eq_getElem_cons hci] at e1
    simp at e1
    unfold tabV at hv
    simp only [List.getElem?_toArray, List.getElem?_map] at hv
    cases ht : tabL[i]? with
    | none => rw [ht] at hv; cases hv
    | some n =>
      rw [ht] at hv hx
      simp only [Option.map_some, Option.some.injEq] at hv hx
      rw [e2] at hx
      simp at hx
      rw [← hv, hx, ← e1]
      simp at hci
      simp [hci]
  have hlt : 0 < W.heap.size := by
    have h0 := key 0 (.int .u8 0) (by rfl)
    have := hcell 0
    rw [h0] at this
    exact World.block_lt_of_cell? _ _ this
  exact ⟨hlt, fun i v hv => (hcell i).trans (key i v hv)⟩
/-- a start that meets the condition -/
theorem door_met (os : Os) (args : Array Value) : laidMetH Tryd.prog laidT ((World.doorLaid Tryd.prog 400 os).forCall (fun _ _ => 0) ⟨#[], args, []⟩).memory :=
  laidMetH_of_parts3 (fuel := 8) (laidMet_of_run' 8 (by kernel_rfl) (by kernel_rfl)) (by kernel_rfl) (by kernel_rfl)
end Go.Proofs.YtipkicijfedfoaaDoor

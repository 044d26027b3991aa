import Derived.Test.YtnmmiiajcjcccaaOst1
import Derived.Test.YtnmmiiajcjcccaaDo1
namespace Go.Proofs.Ytnmmiiajcjcccaa
set_option linter.unusedVariables false
open Go.RowKit Go.Own Go.Quo Go.Aid
def ROIn (w : World) (B : Nat → Prop) (A : Option Addr) (l : List Int) : Prop := Reads w B 1 A l.length (l.map (Value.int .i64))
set_option maxRecDepth 10000 in
set_option maxHeartbeats 2000000 in
theorem same_lists (B B2 : Nat → Prop) (A A2 : Option Addr) (c c2 : Nat) (l : List Int) (w : World) (h : Reads w B 1 A l.length (l.map (Value.int .i64))) (h2 : Reads w B2 1 A2 l.length (l.map (Value.int .i64))) (hl : l.length ≤ 1000) :
    Calls Try.prog 22 #[.slice A l.length c, .slice A2 l.length c2] w (fun e w' => e = .returned (.bool true) ∧ Below w.heap.size w w') := by
  have hp := h.plain (by omega)
  have hp2 := h2.plain (by omega)
  have H1 := Lib.hid h
  have H2 := Lib.hid h2
  clear h h2
  go_enter Try.func22, Try.ntmps22
  go_wp2_with fail
  go_loopw [5] (fun vi wr => ∃ (k j : Nat), k ≤ l.length ∧ vi = .int .i64 k ∧ wr = w.drewN j) (fun vi _ => l.length - (intOf vi).toNat)
  case atStart => exact ⟨0, 0, Nat.zero_le _, rfl, rfl⟩
  case round =>
    obtain ⟨k, j, hk, rfl, hwr⟩ := hrel
    have HW := Lib.hid hwr
    by_cases hlt : k < l.length
    · have hlt' : (k : Int) < l.length := by omega
      obtain ⟨x, hx⟩ : ∃ x, l[k]? = some x := ⟨_, List.getElem?_eq_getElem hlt⟩
      have hix := fun W => ix22 hp c k hlt W
      have hix2 := fun W => ix22 hp2 c2 k hlt W
      have hc1 : wr.cell? ⟨bk A, ofs A + k, none⟩ = some (.int .i64 x) := by
        rw [hwr]; have := (H1.out.drewN j).cell2 k (by omega) (by omega); rw [this]; simp [hx]
      have hc2 : wr.cell? ⟨bk A2, ofs A2 + k, none⟩ = some (.int .i64 x) := by
        rw [hwr]; have := (H2.out.drewN j).cell2 k (by omega) (by omega); rw [this]; simp [hx]
      clear hwr hx
      go_wp2_with fail
      go_quiet (fail)
      go_wp2_with fail
      exact ⟨⟨k + 1, _, by omega, by go_num, by rw [HW.out, World.drewN_drewN]⟩, by simp [intOf]; omega⟩
    · have hlt' : ¬ (k : Int) < l.length := by omega
      clear hwr
      go_wp2_with fail
      go_ret
      exact ⟨rfl, by rw [HW.out]; exact ((Fr.refl (fun _ => False) w).drewN _).below (Nat.le_refl _) (fun _ _ => id)⟩
end Go.Proofs.Ytnmmiiajcjcccaa

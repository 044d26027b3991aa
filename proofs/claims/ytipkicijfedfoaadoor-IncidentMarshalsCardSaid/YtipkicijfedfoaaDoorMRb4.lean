import Derived.Test.YtipkicijfedfoaaDoorMRb3
import Derived.Test.YtipkicijfedfoaaDoorMGD
namespace Go.Proofs.YtipkicijfedfoaaDoor
set_option linter.unusedVariables false
set_option linter.unusedSimpArgs false
open Go.RowKit Go.Own Go.Quo Go.Inc
theorem ri27 : (Tryd.prog.info? 27).map (fun i => (i.zero, i.size, i.bytes)) = some (some (.agg #[.int .i64 0, .int .i64 0, .int .i64 0, .string ⟨#[]⟩, .slice none 0 0, .int .i64 0, .int .i64 0, .bool false]), 8, 88) := by kernel_rfl
theorem caL_one (l : List Ca) : ∀ u ∈ l.flatMap caL, u.oneCell' = true := by
  intro u hu
  obtain ⟨x, -, hx⟩ := List.mem_flatMap.1 hu
  simp [caL] at hx
  rcases hx with rfl | rfl | rfl | rfl | rfl | rfl | rfl | rfl <;> rfl
def CloPost (ts : List Ca) (w : World) (e : Ending) (w' : World) : Prop := ∃ A' c', e = .returned (.slice A' ts.length c') ∧ w'.ownsRow w.heap.size 27 8 (.slice A' ts.length c') ts.length (ts.flatMap caL) ∧ Below w.heap.size w w'
set_option maxRecDepth 10000 in
set_option maxHeartbeats 2000000 in
theorem clone62 (B : Nat → Prop) (A : Option Addr) (c : Nat) (l : List Ca) (w : World) (h : Reads w B 8 A l.length (l.flatMap caL)) (hl : l.length ≤ 100000) : Calls Tryd.prog 62 #[.slice A l.length c] w (CloPost l w) := by
  have HR := Lib.hid h
  have hnil1 : ∀ (n c : Nat) (W : World), (binOp .eql 36 (.slice none n c) (.slice none 0 0)).run Tryd.prog W = .ok (.bool true) W := fun _ _ _ => by rfl
  have hnil2 : ∀ (a : Addr) (n c : Nat) (W : World), (binOp .eql 36 (.slice (some a) n c) (.slice none 0 0)).run Tryd.prog W = .ok (.bool false) W := fun _ _ _ _ => by rfl
  have ho := World.ownsRow_made (base := w.heap.size) (e := 27) (size := 8) w #[] 0 (Nat.le_refl _) (by simp) (by simp)
  have HO := Lib.hid ho
  have HB := Lib.hid ((Below.refl w.heap.size w).alloc (Nat.le_refl _) (.cells #[] 27))
  clear ho
  cases A with
  | none =>
    have h0 : l = [] := by
      rcases Nat.eq_zero_or_pos l.length with h0 | h0
      · exact List.eq_nil_of_length_eq_zero h0
      · obtain ⟨ad, e, _⟩ := h.2 h0; cases e
    subst h0
    clear h
    go_enter Tryd.func62, Tryd.ntmps62
    go_wp2_with fail
    go_ret
    exact ⟨none, 0, rfl, World.ownsRow_nil _ _ _ _, Below.refl _ _⟩
  | some ad =>
    have HR1 := Lib.hid (HR.out.alloc (.cells #[] 27))
    clear h
    go_enter Tryd.func62, Tryd.ntmps62
    go_wp2_with (at_builtin; refine wpList_append_any _ rfl _ _ _ rfl w.heap.size 27 _ 8 88 Tryd.underlying36 ri27 rfl (by omega) (.slice (some ⟨w.heap.size, 0, none⟩) 0 0) 0 [] rfl HO.out _ (some ad) l.length c (l.flatMap caL) rfl HR1.out (caL_one l) (by simp only [maxLen]; omega) (by omega) (by simp) ?_; intro A2 c2 w2 hown hgr hat)
    go_ret
    have hown2 : w2.ownsRow w.heap.size 27 8 (.slice A2 l.length c2) l.length (l.flatMap caL) := by simpa using hown
    refine ⟨A2, c2, by simp, hown2, ?_⟩
    exact Below.grown HB.out hgr (by simp) (fun j hj => by simp [Value.ownBlock] at hj; omega)
end Go.Proofs.YtipkicijfedfoaaDoor

import Derived.Test.YtnmmiiajcjcccaaAwk1
namespace Go.Proofs.Ytnmmiiajcjcccaa
set_option linter.unusedVariables false
open Go.RowKit Go.Own Go.Quo Go.Aid
def awR (W : World) (B : Nat → Prop) (A : Option Addr) : Prop := Reads W B 2 A 4 (awL.flatMap pairsL)
theorem aw_cells {W : World} {B : Nat → Prop} {A : Option Addr} (h : awR W B A) : W.cell? ⟨bk A, ofs A, none⟩ = some (.int .i64 0) ∧ W.cell? ⟨bk A, ofs A + 1, none⟩ = some (.int .i64 1) ∧ W.cell? ⟨bk A, ofs A + 2, none⟩ = some (.int .i64 0) ∧ W.cell? ⟨bk A, ofs A + 2 + 1, none⟩ = some (.int .i64 2) ∧
    W.cell? ⟨bk A, ofs A + 4, none⟩ = some (.int .i64 0) ∧ W.cell? ⟨bk A, ofs A + 4 + 1, none⟩ = some (.int .i64 1) ∧ W.cell? ⟨bk A, ofs A + 6, none⟩ = some (.int .i64 0) ∧ W.cell? ⟨bk A, ofs A + 6 + 1, none⟩ = some (.int .i64 2) := by
  have h' : Reads W B 2 A awL.length (awL.flatMap pairsL) := h
  obtain ⟨a0, a1⟩ := prs_cells h' (k := 0) (x := (0, 1)) rfl
  obtain ⟨b0, b1⟩ := prs_cells h' (k := 1) (x := (0, 2)) rfl
  obtain ⟨c0, c1⟩ := prs_cells h' (k := 2) (x := (0, 1)) rfl
  obtain ⟨d0, d1⟩ := prs_cells h' (k := 3) (x := (0, 2)) rfl
  exact ⟨by simpa using a0, by simpa using a1, by simpa using b0, by simpa using b1, by simpa using c0, by simpa using c1, by simpa using d0, by simpa using d1⟩
theorem aw_ix {A : Option Addr} (hA : Plain A 4) (c : Nat) (W : World) : (Instr.indexAt 25 (.slice A 4 c) (.int .i64 0)).run Try.prog W = .ok (.pointer (some ⟨bk A, ofs A, none⟩)) W ∧ (Instr.indexAt 25 (.slice A 4 c) (.int .i64 1)).run Try.prog W = .ok (.pointer (some ⟨bk A, ofs A + 2, none⟩)) W ∧
    (Instr.indexAt 25 (.slice A 4 c) (.int .i64 2)).run Try.prog W = .ok (.pointer (some ⟨bk A, ofs A + 4, none⟩)) W ∧ (Instr.indexAt 25 (.slice A 4 c) (.int .i64 3)).run Try.prog W = .ok (.pointer (some ⟨bk A, ofs A + 6, none⟩)) W :=
  ⟨by simpa using ix25 hA c 0 (by omega) W, by simpa using ix25 hA c 1 (by omega) W, by simpa using ix25 hA c 2 (by omega) W, by simpa using ix25 hA c 3 (by omega) W⟩
theorem aw_call12 (w : World) : Calls Try.prog 12 #[.slice (some ⟨w.heap.size, 0, none⟩) 3 3, .slice (some ⟨w.heap.size + 1, 0, none⟩) 3 3] ((w.alloc (.cells #[.int .i64 5, .int .i64 0, .int .i64 1] 3)).alloc (.cells #[.int .i64 1, .int .i64 2, .int .i64 3] 3))
    (fun e w' => ∃ A c, e = .returned (.slice A 4 c) ∧ awR w' (fun k => k < w'.heap.size) A ∧ 4 ≤ c ∧ Below w.heap.size w w') := by
  have h1 := (Reads.newS w [.int .i64 5, .int .i64 0, .int .i64 1] 3 (0, 0) 3 1 rfl _ rfl).alloc (.cells #[.int .i64 1, .int .i64 2, .int .i64 3] 3)
  have h2 := Reads.newS (w.alloc (.cells #[.int .i64 5, .int .i64 0, .int .i64 1] 3)) [.int .i64 1, .int .i64 2, .int .i64 3] 3 (0, 0) 3 1 rfl (w.heap.size + 1) (by simp)
  have hP := plan_ok _ _ (some ⟨w.heap.size, 0, none⟩) (some ⟨w.heap.size + 1, 0, none⟩) 3 3 awF awW _ h1 h2 rfl (by decide)
  rw [aw_plan] at hP
  refine hP.mono ?_
  rintro e w' ⟨A, c, rfl, ho, hb⟩
  refine ⟨A, c, rfl, ((Reads.of_own ho).old (by omega)).more (fun k hk => hk.2), own_cap ho, ?_⟩
  exact (((Below.refl w.heap.size w).alloc (Nat.le_refl _) _).alloc (by simp) _).trans (hb.mono (by simp; omega))
theorem aw_fairs (w W : World) (B : Nat → Prop) (A : Option Addr) (c : Nat) (h : awR W B A) :
    Calls Try.prog 15 #[.slice (some ⟨W.heap.size, 0, none⟩) 3 3, .slice (some ⟨W.heap.size + 1, 0, none⟩) 3 3, .slice A 4 c] ((W.alloc (.cells #[.int .i64 5, .int .i64 0, .int .i64 1] 3)).alloc (.cells #[.int .i64 1, .int .i64 2, .int .i64 3] 3)) (fun e w' => e = .returned (.bool true) ∧ Below W.heap.size W w') ∧
    Calls Try.prog 15 #[.slice (some ⟨W.heap.size, 0, none⟩) 3 3, .slice (some ⟨W.heap.size + 1, 0, none⟩) 3 3, .slice A 3 c] ((W.alloc (.cells #[.int .i64 5, .int .i64 0, .int .i64 1] 3)).alloc (.cells #[.int .i64 1, .int .i64 2, .int .i64 3] 3)) (fun e w' => e = .returned (.bool false) ∧ Below W.heap.size W w') := by
  have h1 := (Reads.newS W [.int .i64 5, .int .i64 0, .int .i64 1] 3 (0, 0) 3 1 rfl _ rfl).alloc (.cells #[.int .i64 1, .int .i64 2, .int .i64 3] 3)
  have h2 := Reads.newS (W.alloc (.cells #[.int .i64 5, .int .i64 0, .int .i64 1] 3)) [.int .i64 1, .int .i64 2, .int .i64 3] 3 (0, 0) 3 1 rfl (W.heap.size + 1) (by simp)
  have h3 : Reads ((W.alloc (.cells #[.int .i64 5, .int .i64 0, .int .i64 1] 3)).alloc (.cells #[.int .i64 1, .int .i64 2, .int .i64 3] 3)) B 2 A awL.length (awL.flatMap pairsL) := (Reads.alloc h _).alloc _
  have h4 : Reads ((W.alloc (.cells #[.int .i64 5, .int .i64 0, .int .i64 1] 3)).alloc (.cells #[.int .i64 1, .int .i64 2, .int .i64 3] 3)) B 2 A (awL.take 3).length ((awL.take 3).flatMap pairsL) := h3.take_ (k := 3) (by decide)
  have hb0 := ((Below.refl W.heap.size W).alloc (Nat.le_refl _) (.cells #[.int .i64 5, .int .i64 0, .int .i64 1] 3)).alloc (by simp) (.cells #[.int .i64 1, .int .i64 2, .int .i64 3] 3)
  refine ⟨(fair_ok _ _ _ (some ⟨W.heap.size, 0, none⟩) (some ⟨W.heap.size + 1, 0, none⟩) A 3 3 c awF awW awL _ h1 h2 h3 rfl (by decide) (by decide)).mono ?_, (fair_ok _ _ _ (some ⟨W.heap.size, 0, none⟩) (some ⟨W.heap.size + 1, 0, none⟩) A 3 3 c awF awW (awL.take 3) _ h1 h2 h4 rfl (by decide) (by decide)).mono ?_⟩
  · rintro e w' ⟨b, rfl, hb, hw⟩
    exact ⟨by rw [hb.2 aw_fair], hb0.trans (hw.mono (by simp; omega))⟩
  · rintro e w' ⟨b, rfl, hb, hw⟩
    refine ⟨?_, hb0.trans (hw.mono (by simp; omega))⟩
    cases b with
    | false => rfl
    | true => exact absurd (hb.1 rfl) aw_unfair
theorem aw_call23 (p m g : Nat) (ls : List Ln) (W : World) (h : Led W p m g awS1 ls) :
    Calls Try.prog 23 #[.pointer (some ⟨p, 0, none⟩), .int .i64 2, .slice (some ⟨W.heap.size, 0, none⟩) 3 3] (W.alloc (.cells #[.int .i64 3, .int .i64 1, .int .i64 9] 3))
    (fun e w' => ∃ A c, e = .returned (.slice A 2 c) ∧ Reads w' (fun k => k < w'.heap.size) 1 A 2 [.int .i64 1, .int .i64 0] ∧ Below W.heap.size W w') := by
  have h1 := Reads.newS W [.int .i64 3, .int .i64 1, .int .i64 9] 3 (0, 0) 3 1 rfl _ rfl
  have hP := ask_ok _ p m g awS1 ls 2 (some ⟨W.heap.size, 0, none⟩) 3 [3, 1, 9] _ (h.fr ((Fr.refl (fun _ => False) W).alloc _) id id id) h1 (by decide) (by decide) rfl (by decide)
  rw [aw_debts, aw_ask] at hP
  refine hP.mono ?_
  rintro e w' ⟨A, c, rfl, hr, hb⟩
  exact ⟨A, c, rfl, (hr.old (by omega)).more (fun k hk => hk.2), ((Below.refl W.heap.size W).alloc (Nat.le_refl _) _).trans (hb.mono (by simp))⟩
end Go.Proofs.Ytnmmiiajcjcccaa

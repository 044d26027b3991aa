import Derived.Test.YtnmmiiajcjcccaaBk3
namespace Go.Proofs.Ytnmmiiajcjcccaa
set_option linter.unusedVariables false
open Go.RowKit Go.Own Go.Quo Go.Aid
def BLendPost (B : Nat → Prop) (r : Nat) (w : World) (q : LSt × Int) (e : Ending) (w' : World) : Prop := e = .returned (.int .i64 q.2) ∧ ∃ A1 c1 A2 c2, q.1.now.length ≤ c1 ∧ q.1.all.length ≤ c2 ∧ Bok w' B r q.1 A1 A2 c1 c2 ∧ Fr (fun k => k = r) w w'
set_option maxRecDepth 10000 in
set_option maxHeartbeats 8000000 in
theorem rlend_bad (B : Nat → Prop) (r : Nat) (s : LSt) (A1 A2 : Option Addr) (c1 c2 : Nat) (l : Ln) (w : World) (h : Bok w B r s A1 A2 c1 c2) (hc1 : s.now.length ≤ c1) (hc2 : s.all.length ≤ c2) (hBr : ¬ B r) (hl : lnOk s.n l = false) :
    Calls Try.prog 35 #[.pointer (some ⟨r, 0, none⟩), lnV l] w (BLendPost B r w (s, 1)) := by
  have HH := Lib.hid h
  have hrl := h.rb.lt
  obtain ⟨q0, q1, q2⟩ := h.rb.facts
  have HE := Lib.hid (show ∀ j : Nat, BLendPost B r w (s, 1) (.returned (.int .i64 1)) ((w.alloc (.cells (lnL l).toArray 42)).drewN j) from fun j => by
    refine ⟨rfl, A1, c1, A2, c2, hc1, hc2, ⟨(HH.out.rb.alloc _).drewN j, (HH.out.now.alloc _).drewN j, (HH.out.all.alloc _).drewN j⟩, ((Fr.refl _ _).alloc _).drewN j⟩)
  obtain ⟨n, hn⟩ : ∃ n, s.n = n := ⟨_, rfl⟩
  obtain ⟨m1, hm1⟩ : ∃ n, s.now.length = n := ⟨_, rfl⟩
  obtain ⟨m2, hm2⟩ : ∃ n, s.all.length = n := ⟨_, rfl⟩
  rw [hn, hm1, hm2] at q1
  rw [hn] at hl
  obtain ⟨f, t, u⟩ := l
  clear hn hm1 hm2 h HH hc1 hc2
  simp only [lnOk, Bool.and_eq_false_iff, decide_eq_false_iff_not] at hl
  unfold lnV
  simp only [lnL] at HE
  have gx := Blk.new w 42 #[.int .i64 f, .int .i64 t, .int .i64 u]
  have gs : (w.alloc (.cells #[.int .i64 f, .int .i64 t, .int .i64 u] 42)).heap.size = w.heap.size + 1 := by simp
  have hr1 : (w.alloc (.cells #[.int .i64 f, .int .i64 t, .int .i64 u] 42)).cell? ⟨r, 0, none⟩ = some (.int .i64 (n : Int)) := by rw [World.cell?_alloc_lt _ _ _ hrl, q1]; rfl
  have HE2 := Lib.hid (show ∀ j : Nat, BLendPost B r w (s, 1) (.returned (.int .i64 1)) ((w.alloc (.cells #[.int .i64 f, .int .i64 t, .int .i64 u] 42)).drewN j) from fun j => HE.out j)
  clear HE q0 q1 q2
  simp only
  rcases (by omega : f < 0 ∨ (¬ f < 0 ∧ (n : Int) ≤ f) ∨ (¬ f < 0 ∧ ¬ (n : Int) ≤ f ∧ t < 0) ∨ (¬ f < 0 ∧ ¬ (n : Int) ≤ f ∧ ¬ t < 0 ∧ (n : Int) ≤ t) ∨ (¬ f < 0 ∧ ¬ (n : Int) ≤ f ∧ ¬ t < 0 ∧ ¬ (n : Int) ≤ t ∧ f = t) ∨ (¬ f < 0 ∧ ¬ (n : Int) ≤ f ∧ ¬ t < 0 ∧ ¬ (n : Int) ≤ t ∧ f ≠ t ∧ u < 0)) with k1 | ⟨k1, k2⟩ | ⟨k1, k2, k3⟩ | ⟨k1, k2, k3, k4⟩ | ⟨k1, k2, k3, k4, rfl⟩ | ⟨k1, k2, k3, k4, k5, k6⟩
  case inl => 
    have d1 : decide (f < 0) = true := by simpa using k1
    clear hl
    go_enter Try.func35, Try.ntmps35
    go_wp2_with fail
    generalize w.alloc (.cells #[.int .i64 f, .int .i64 t, .int .i64 u] 42) = W at *
    obtain ⟨x0, x1, x2⟩ := gx.facts
    go_quiet (fail)
    go_wp2_with fail
    go_ret
    exact HE2.out nq
  all_goals
    clear hl
    have d1 : decide (f < 0) = false := by simpa using k1
    try (have d2 : decide ((n : Int) ≤ f) = false := by simpa using k2)
    try (have d2 : decide ((n : Int) ≤ f) = true := by simpa using k2)
    try (have d3 : decide (t < 0) = false := by simpa using k3)
    try (have d3 : decide (t < 0) = true := by simpa using k3)
    try (have d4 : decide ((n : Int) ≤ t) = false := by simpa using k4)
    try (have d4 : decide ((n : Int) ≤ t) = true := by simpa using k4)
    try (have d5 : (f == t) = false := by simpa using k5)
    try (have d6 : decide (u < 0) = true := by simpa using k6)
    go_enter Try.func35, Try.ntmps35
    go_wp2_with fail
    generalize w.alloc _ = W at *
    obtain ⟨x0, x1, x2⟩ := gx.facts
    go_quiet (fail)
    go_wp2_with fail
    go_ret
    exact HE2.out nq
end Go.Proofs.Ytnmmiiajcjcccaa

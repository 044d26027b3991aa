import Derived.Test.YtnpfbpfobbadaaaQMem
namespace Go.Quo
/-! ### Two majorities meet -/
theorem cnt_split (l : List Int) (p q : Int → Bool) (h : ∀ x ∈ l, ¬ (p x = true ∧ q x = true)) : (l.filter p).length + (l.filter q).length ≤ l.length := by
  induction l with
  | nil => simp
  | cons a r ih =>
    have ih' := ih (fun x hx => h x (by simp [hx]))
    have ha := h a (by simp)
    cases hp : p a with
    | false =>
      cases hq : q a with
      | false => simp [hp, hq]; omega
      | true => simp [hp, hq]; omega
    | true =>
      cases hq : q a with
      | false => simp [hp, hq]; omega
      | true => exact absurd ⟨hp, hq⟩ ha
theorem con_meet {l y z : List Int} (h1 : conQ l y = true) (h2 : conQ l z = true) : ∃ x, x ∈ l ∧ hasB y x = true ∧ hasB z x = true := by
  unfold conQ cnt at h1 h2
  simp only [decide_eq_true_eq] at h1 h2
  by_cases hx : ∃ x, x ∈ l ∧ hasB y x = true ∧ hasB z x = true
  · exact hx
  · have := cnt_split l (hasB y) (hasB z) (fun x hx' ⟨a, b⟩ => hx ⟨x, hx', a, b⟩)
    omega
theorem reach_parts {o n y : List Int} (h : reachB o n y = true) : vB o n = true ∧ conQ o y = true ∧ (n.length = 0 ∨ conQ n y = true) := by
  unfold reachB at h
  simp only [Bool.and_eq_true, Bool.or_eq_true, decide_eq_true_eq] at h
  exact ⟨h.1.1, h.1.2, h.2⟩
def memW (o n : List Int) : List Int := if vB o n = true then memF o n else []
/-- One candidate of the law's inner loop. -/
def meets (o n o' n' z1 : List Int) (x : Int) : Bool := hasB z1 x && hasB (memW o n) x && hasB (memW o' n') x
theorem meet_of {o n o' n' z0 z1 l : List Int} (h0 : reachB o n z0 = true) (h1 : reachB o' n' z1 = true) (hl : ∀ x ∈ l, (x ∈ o ∨ x ∈ n) ∧ (x ∈ o' ∨ x ∈ n')) (c0 : conQ l z0 = true) (c1 : conQ l z1 = true) : ∃ x ∈ z0, meets o n o' n' z1 x = true := by
  obtain ⟨x, hx, a, b⟩ := con_meet c0 c1
  have hv := (reach_parts h0).1
  have hv' := (reach_parts h1).1
  refine ⟨x, (hasB_mem z0 x).1 a, ?_⟩
  unfold meets memW
  rw [if_pos hv, if_pos hv']
  simp only [Bool.and_eq_true, hasB_mem, mem_memF]
  exact ⟨⟨(hasB_mem z1 x).1 b, v_range hv x (hl x hx).1, (hl x hx).1⟩, v_range hv' x (hl x hx).2, (hl x hx).2⟩
/-- The memberships that the law looks at. -/
def NextM (o n nx o' n' : List Int) : Prop := (o' = o ∧ n' = n) ∨ (o' = o ∧ n' = nx) ∨ (o' = n ∧ n' = [] ∧ n.length ≠ 0)
theorem meet_next {o n nx o' n' z0 z1 : List Int} (hd : NextM o n nx o' n') (h0 : reachB o n z0 = true) (h1 : reachB o' n' z1 = true) : ∃ x ∈ z0, meets o n o' n' z1 x = true := by
  rcases hd with ⟨rfl, rfl⟩ | ⟨rfl, rfl⟩ | ⟨rfl, rfl, hn⟩
  · exact meet_of (l := o') h0 h1 (fun x hx => ⟨.inl hx, .inl hx⟩) (reach_parts h0).2.1 (reach_parts h1).2.1
  · exact meet_of (l := o') h0 h1 (fun x hx => ⟨.inl hx, .inl hx⟩) (reach_parts h0).2.1 (reach_parts h1).2.1
  · have c0 : conQ o' z0 = true := by
      rcases (reach_parts h0).2.2 with e | e
      · exact absurd e hn
      · exact e
    exact meet_of (l := o') h0 h1 (fun x hx => ⟨.inr hx, .inl hx⟩) c0 (reach_parts h1).2.1
/-- The inner loop: 'meet' behind k candidates. -/
def metUpTo (o n o' n' z0 z1 : List Int) (k : Nat) : Bool := (z0.take k).any (meets o n o' n' z1)
theorem met_succ (o n o' n' z0 z1 : List Int) (k : Nat) (hk : k < z0.length) : metUpTo o n o' n' z0 z1 (k + 1) = (metUpTo o n o' n' z0 z1 k || meets o n o' n' z1 (gd z0 k)) := by
  unfold metUpTo
  rw [List.take_succ_eq_append_getElem hk, List.any_append, gd_get hk]
  simp
theorem met_all {o n o' n' z0 z1 : List Int} (h : ∃ x ∈ z0, meets o n o' n' z1 x = true) : metUpTo o n o' n' z0 z1 z0.length = true := by
  unfold metUpTo
  rw [List.take_of_length_le (Nat.le_refl _), List.any_eq_true]
  exact h
end Go.Quo

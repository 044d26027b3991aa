import Derived.Test.YtbhbamgnapcbaaaCnt
namespace Go.Quo
/-! ### At most one is elected, plain -/
theorem cnt_apart (l : List Int) (p q : Int → Bool) (h : ∀ x ∈ l, ¬ (p x = true ∧ q x = true)) : (l.filter p).length + (l.filter q).length ≤ l.length := by
  induction l with
  | nil => simp
  | cons a r ih =>
    have ih' := ih (fun x hx => h x (by simp [hx]))
    have ha := h a (by simp)
    cases hp : p a with
    | false =>
      cases hq : q a with
      | false => simp [hp, hq]; omega
      | true => simp [hp, hq]; omega
    | true =>
      cases hq : q a with
      | false => simp [hp, hq]; omega
      | true => exact absurd ⟨hp, hq⟩ ha
theorem con_both {l y z : List Int} (h1 : conQ l y = true) (h2 : conQ l z = true) : ∃ x, x ∈ l ∧ hasB y x = true ∧ hasB z x = true := by
  unfold conQ cnt at h1 h2
  simp only [decide_eq_true_eq] at h1 h2
  by_cases hx : ∃ x, x ∈ l ∧ hasB y x = true ∧ hasB z x = true
  · exact hx
  · have := cnt_apart l (hasB y) (hasB z) (fun x hx' ⟨a, b⟩ => hx ⟨x, hx', a, b⟩)
    omega
theorem reach_old {o n y : List Int} (h : reachB o n y = true) : conQ o y = true := by
  unfold reachB at h
  simp only [Bool.and_eq_true] at h
  exact h.1.2
theorem hasB_m (l : List Int) (x : Int) : hasB l x = true ↔ x ∈ l := by unfold hasB; rw [List.contains_iff_mem]
theorem mem_vot {l : List (Int × Int)} {x y : Int} : y ∈ vot l x ↔ (y, x) ∈ l := by
  unfold vot
  rw [List.mem_map]
  constructor
  · rintro ⟨p, hp, rfl⟩
    obtain ⟨h1, h2⟩ := List.mem_filter.1 hp
    have : p.2 = x := by simpa using h2
    subst this; exact h1
  · intro h
    exact ⟨(y, x), List.mem_filter.2 ⟨h, by simp⟩, rfl⟩
theorem reach_congr {o n y z : List Int} (h : ∀ x, x ∈ y ↔ x ∈ z) : reachB o n y = reachB o n z := by
  have hh : hasB y = hasB z := by
    funext x
    rw [Bool.eq_iff_iff, hasB_m, hasB_m]; exact h x
  unfold reachB conQ cnt
  rw [hh]
theorem WinIs.rev {o n : List Int} {l : List (Int × Int)} {r : Int} (h : WinIs o n l.reverse r) : WinIs o n l r := by
  have hv : ∀ x, reachB o n (vot l.reverse x) = reachB o n (vot l x) := fun x => reach_congr (fun y => by rw [mem_vot, mem_vot, List.mem_reverse])
  unfold WinIs at *
  simp only [hv, List.mem_reverse] at h
  exact h
theorem WinIs.range {o n : List Int} {l : List (Int × Int)} {r : Int} (h : WinIs o n l r) (hl : ∀ p ∈ l, 0 ≤ p.2 ∧ p.2 ≤ 4) : -1 ≤ r ∧ r ≤ 4 := by
  rcases h with ⟨h1, h2⟩ | ⟨h1, ⟨p, hp, hpr⟩, h3, h4⟩
  · omega
  · have := hl p hp; omega
def restOf (l : List (Int × Int)) (x : Int) : List (Int × Int) := l.filter (fun p => p.2 != x)
theorem WinIs.one {o n : List Int} {l : List (Int × Int)} {x r : Int} (h : WinIs o n l x) (hx : ¬ x = -1) (hr : WinIs o n (restOf l x) r) (hd : ∀ y a b, (y, a) ∈ l → (y, b) ∈ l → a = b) : r = -1 := by
  rcases h with ⟨h1, _⟩ | ⟨h1, _, h3, _⟩
  · exact absurd h1 hx
  · rcases hr with ⟨k1, _⟩ | ⟨k1, ⟨p, hp, hpr⟩, k3, _⟩
    · exact k1
    · exfalso
      obtain ⟨y, _, ya, yb⟩ := con_both (reach_old h3) (reach_old k3)
      rw [hasB_m, mem_vot] at ya yb
      have yb' := List.mem_filter.1 yb
      have := hd y x r ya yb'.1
      have h2 := yb'.2
      simp [this] at h2
/-- The votes of the law. -/
def votesOf (vs : List Int) : List (Int × Int) := (List.range vs.length).map (fun (i : Nat) => ((i : Int), gd vs i % 5))
theorem votesOf_len (vs : List Int) : (votesOf vs).length = vs.length := by simp [votesOf]
theorem votesOf_get {vs : List Int} {k : Nat} (hk : k < vs.length) : (votesOf vs)[k]? = some ((k : Int), gd vs k % 5) := by
  simp [votesOf, hk]
theorem votesOf_range (vs : List Int) : ∀ p ∈ votesOf vs, 0 ≤ p.2 ∧ p.2 ≤ 4 := by
  intro p hp
  obtain ⟨i, _, rfl⟩ := List.mem_map.1 hp
  simp only
  omega
theorem votesOf_once (vs : List Int) : ∀ y a b, (y, a) ∈ votesOf vs → (y, b) ∈ votesOf vs → a = b := by
  intro y a b ha hb
  obtain ⟨i, _, e1⟩ := List.mem_map.1 ha
  obtain ⟨j, _, e2⟩ := List.mem_map.1 hb
  simp only [Prod.mk.injEq] at e1 e2
  have : i = j := by omega
  subst this
  rw [← e1.2, ← e2.2]
end Go.Quo

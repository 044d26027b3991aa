import Derived.Test.YtbhbamgnapcbaaaStp
namespace Go.Proofs.Ytbhbamgnapcbaaa
set_option linter.unusedVariables false
open Go.RowKit Go.Own Go.Quo Go.Wire
theorem kget_kput (k : Int) (v : Value) (x : Int) : ∀ kvs : List (Int × Value), kget (kput kvs k v) x = if x = k then some v else kget kvs x
  | [] => by
    by_cases h : x = k
    · subst h; simp [kput, kget]
    · rw [if_neg h]; simp [kput, kget]; omega
  | (k', v') :: r => by
    have ih := kget_kput k v x r
    unfold kget at ih ⊢
    by_cases hk : k' = k
    · subst hk
      by_cases h : x = k'
      · subst h; simp [kput]
      · rw [if_neg h]
        have : (k' == x) = false := by simp; omega
        simp [kput, this]
    · have hk2 : (k' == k) = false := by simpa using hk
      by_cases h : k' = x
      · subst h
        simp [kput, hk2, hk]
      · have h2 : (k' == x) = false := by simpa using h
        simp only [kput, hk2, Bool.false_eq_true, if_false, List.find?_cons, h2]
        exact ih
/-- The votes that were granted agree with the state. -/
def VotesOk (kvs : List (Int × Value)) (s : St) : Prop := ∀ T u, kget kvs T = some u → ∃ who : Int, u = .int .i64 who ∧ 0 ≤ who ∧ T ≤ s.t ∧ (T = s.t → s.n = who)
theorem VotesOk.adv {kvs : List (Int × Value)} {s : St} (h : VotesOk kvs s) (x : Int) : VotesOk kvs (advF s x).1 ∧ s.t ≤ (advF s x).1.t := by
  unfold advF
  split
  · exact ⟨h, Int.le_refl _⟩
  · split
    · exact ⟨h, Int.le_refl _⟩
    · next hx =>
      refine ⟨fun T u hT => ?_, by simp; omega⟩
      obtain ⟨who, e1, e2, e3, e4⟩ := h T u hT
      exact ⟨who, e1, e2, by simp; omega, fun e => by simp at e; omega⟩
theorem VotesOk.no {kvs : List (Int × Value)} {s : St} (h : VotesOk kvs s) {x y : Int} (he : ¬ (grtF s x y).2 = 0) : VotesOk kvs (grtF s x y).1 ∧ s.t ≤ (grtF s x y).1.t := by
  unfold grtF at *
  split
  · exact ⟨h, Int.le_refl _⟩
  · next hv =>
    rw [if_neg hv] at he
    split
    · exact ⟨h, Int.le_refl _⟩
    · next hx =>
      rw [if_neg hx] at he
      split
      · exact ⟨h, Int.le_refl _⟩
      · next hn => rw [if_neg hn] at he; exact absurd rfl he
theorem VotesOk.yes {kvs : List (Int × Value)} {s : St} (h : VotesOk kvs s) {x y : Int} (he : (grtF s x y).2 = 0) : VotesOk (kput kvs x (.int .i64 y)) (grtF s x y).1 ∧ s.t ≤ (grtF s x y).1.t ∧ ∀ u, kget kvs x = some u → u = .int .i64 y := by
  unfold grtF at *
  split
  · next hv => rw [if_pos hv] at he; simp at he
  · next hv =>
    rw [if_neg hv] at he
    have hv2 : ¬ validN y = false := fun e => hv (.inr e)
    have hr := validN_r hv2
    split
    · next hx => rw [if_pos hx] at he; simp at he
    · next hx =>
      rw [if_neg hx] at he
      split
      · next hn =>
        rw [if_pos hn] at he
        have hy : s.n = y := by by_cases e : s.n = y; · exact e
                                · rw [if_neg e] at he; simp at he
        obtain ⟨rfl, hn⟩ := hn
        refine ⟨fun T u hT => ?_, Int.le_refl _, fun u hu => ?_⟩
        · rw [kget_kput] at hT
          by_cases e : T = s.t
          · rw [if_pos e] at hT
            injection hT with hT
            exact ⟨y, hT.symm, by omega, by show T ≤ s.t; omega, fun _ => hy⟩
          · rw [if_neg e] at hT
            exact h T u hT
        · obtain ⟨who, e1, e2, e3, e4⟩ := h _ u hu
          rw [e1, ← e4 rfl, hy]
      · next hn =>
        refine ⟨fun T u hT => ?_, by simp; omega, fun u hu => ?_⟩
        · rw [kget_kput] at hT
          by_cases e : T = x
          · rw [if_pos e] at hT
            injection hT with hT
            exact ⟨y, hT.symm, by omega, by simp; omega, fun _ => rfl⟩
          · rw [if_neg e] at hT
            obtain ⟨who, e1, e2, e3, e4⟩ := h T u hT
            exact ⟨who, e1, e2, by simp; omega, fun e' => absurd e' e⟩
        · obtain ⟨who, e1, e2, e3, e4⟩ := h x u hu
          exfalso
          have hxt : x = s.t := by omega
          have := e4 hxt
          exact hn ⟨hxt, by omega⟩
end Go.Proofs.Ytbhbamgnapcbaaa

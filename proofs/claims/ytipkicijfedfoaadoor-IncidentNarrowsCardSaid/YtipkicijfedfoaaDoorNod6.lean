import Derived.Test.YtipkicijfedfoaaDoorNod5
namespace Go.Inc
/-- the nodes among the numbers of a list -/
def nodesOf (l : List Int) : List Nat := (l.filter (fun n => decide (0 ≤ n) && decide (n < 4096))).map Int.toNat
theorem nodesOf_snoc (l : List Int) (n : Int) : nodesOf (l ++ [n]) = if 0 ≤ n ∧ n < 4096 then nodesOf l ++ [n.toNat] else nodesOf l := by
  unfold nodesOf
  rw [List.filter_append, List.map_append]
  by_cases h : 0 ≤ n ∧ n < 4096
  · rw [if_pos h]; simp [h.1, h.2]
  · rw [if_neg h]
    have : (decide (0 ≤ n) && decide (n < 4096)) = false := by simp; omega
    simp [this]
theorem ofW_snoc (l : List Nat) (n : Nat) : ofW (l ++ [n]) = addW (ofW l) n := by unfold ofW; rw [List.foldl_append]; rfl
theorem nodesOf_lt {l : List Int} : ∀ n ∈ nodesOf l, n < 4096 := fun n hn => by
  unfold nodesOf at hn
  obtain ⟨x, hx, rfl⟩ := List.mem_map.1 hn
  have := (List.mem_filter.1 hx).2
  simp at this
  omega
theorem ofW_word {l : List Nat} (h : ∀ n ∈ l, n < 4096) : ∀ i, gw (ofW l) i < 2 ^ 64 := by
  have : ∀ (l : List Nat) (ws : List Nat), ws.length = 64 → (∀ n ∈ l, n < 4096) → (∀ i, gw ws i < 2 ^ 64) → ∀ i, gw (l.foldl addW ws) i < 2 ^ 64 := by
    intro l
    induction l with
    | nil => intro ws _ _ h i; exact h i
    | cons a r ih =>
      intro ws hw hl h i
      refine ih (addW ws a) (by rw [addW_len, hw]) (fun n hn => hl n (by simp [hn])) (fun i => ?_) i
      have ha := hl a (by simp)
      unfold addW
      rw [gw_set _ _ _ _ (by rw [hw]; omega)]
      split
      · exact Nat.or_lt_two_pow (h _) (Nat.pow_lt_pow_right (by omega) (by omega))
      · exact h i
  refine this l _ (by simp) h (fun i => ?_)
  unfold gw
  rw [List.getD_eq_getElem?_getD, List.getElem?_replicate]
  split <;> simp
end Go.Inc

import Derived.Test.YtnmmiiajcjcccaaQPlain
namespace Go.Aid
open Go.Quo (gd gd_get)
/-! ### Mutual aid, plain: plans -/
def clampI (n : Int) : Int := min (max n 0) 1000
def leftF (f w : List Int) : List Int := List.zipWith (fun a b => clampI a - clampI b) f w
def surF (l : List Int) : List Int := l.map (fun n => max n 0)
def shoF (l : List Int) : List Int := l.map (fun n => max (-n) 0)
theorem gd_out {l : List Int} {k : Nat} (h : l.length ≤ k) : gd l k = 0 := by simp [gd, List.getD, List.getElem?_eq_none h]
theorem gd_sur (l : List Int) (k : Nat) : gd (surF l) k = max (gd l k) 0 := by
  by_cases h : k < l.length
  · rw [gd_get (by simpa [surF] using h), gd_get h]; simp [surF]
  · rw [gd_out (by simpa [surF] using h), gd_out (by omega)]; rfl
theorem gd_sho (l : List Int) (k : Nat) : gd (shoF l) k = max (-gd l k) 0 := by
  by_cases h : k < l.length
  · rw [gd_get (by simpa [shoF] using h), gd_get h]; simp [shoF]
  · rw [gd_out (by simpa [shoF] using h), gd_out (by omega)]; rfl
theorem gd_set (l : List Int) (i k : Nat) (x : Int) (hi : i < l.length) : gd (l.set i x) k = if k = i then x else gd l k := by
  by_cases hk : k < l.length
  · rw [gd_get (by simpa using hk), List.getElem_set, gd_get hk]
    by_cases e : i = k
    · rw [if_pos e, if_pos e.symm]
    · rw [if_neg e, if_neg (fun h => e h.symm)]
  · rw [gd_out (by simp; omega), gd_out (by omega), if_neg (by omega)]
theorem gd_ext {a b : List Int} (hl : a.length = b.length) (h : ∀ k, k < a.length → gd a k = gd b k) : a = b := by
  refine List.ext_getElem hl (fun k h1 h2 => ?_)
  have := h k h1
  rwa [gd_get h1, gd_get h2] at this
/-! the first greatest positive number -/
def grUp (l : List Int) : Nat → Int
  | 0 => -1
  | k + 1 => if 0 < gd l k ∧ (grUp l k < 0 ∨ gd l (grUp l k).toNat < gd l k) then (k : Int) else grUp l k
def grF (l : List Int) : Int := grUp l l.length
def GrIs (l : List Int) (n : Nat) (r : Int) : Prop := (r = -1 ∧ ∀ i, i < n → gd l i ≤ 0) ∨ (∃ k : Nat, r = k ∧ k < n ∧ 0 < gd l k ∧ (∀ i, i < n → gd l i ≤ gd l k) ∧ ∀ i, i < k → gd l i < gd l k)
theorem grUp_is (l : List Int) : ∀ n, GrIs l n (grUp l n)
  | 0 => .inl ⟨rfl, fun i hi => by omega⟩
  | n + 1 => by
    have ih := grUp_is l n
    unfold grUp
    rcases ih with ⟨e, h⟩ | ⟨k, e, hk, hp, hm, hf⟩
    · rw [e]
      by_cases hc : 0 < gd l n
      · rw [if_pos ⟨hc, .inl (by omega)⟩]
        refine .inr ⟨n, rfl, by omega, hc, fun i hi => ?_, fun i hi => by have := h i hi; omega⟩
        rcases (show i < n ∨ i = n by omega) with h1 | rfl
        · have := h i h1; omega
        · exact Int.le_refl _
      · rw [if_neg (fun hh => hc hh.1)]
        refine .inl ⟨rfl, fun i hi => ?_⟩
        rcases (show i < n ∨ i = n by omega) with h1 | rfl
        · exact h i h1
        · omega
    · rw [e]
      by_cases hc : gd l k < gd l n
      · rw [if_pos ⟨by omega, .inr (by simpa using hc)⟩]
        refine .inr ⟨n, rfl, by omega, by omega, fun i hi => ?_, fun i hi => by have := hm i hi; omega⟩
        rcases (show i < n ∨ i = n by omega) with h1 | rfl
        · have := hm i h1; omega
        · exact Int.le_refl _
      · rw [if_neg (fun hh => hh.2.elim (fun e' => by omega) (fun e' => hc (by simpa using e')))]
        refine .inr ⟨k, rfl, by omega, hp, fun i hi => ?_, hf⟩
        rcases (show i < n ∨ i = n by omega) with h1 | rfl
        · exact hm i h1
        · omega
theorem GrIs.uniq {l : List Int} {n : Nat} {r s : Int} (h : GrIs l n r) (k : GrIs l n s) : r = s := by
  rcases h with ⟨h1, h2⟩ | ⟨a, h1, h2, h3, h4, h5⟩
  · rcases k with ⟨k1, k2⟩ | ⟨b, k1, k2, k3, k4, k5⟩
    · omega
    · have := h2 b k2; omega
  · rcases k with ⟨k1, k2⟩ | ⟨b, k1, k2, k3, k4, k5⟩
    · have := k2 a h2; omega
    · rcases (show a < b ∨ a = b ∨ b < a by omega) with e | e | e
      · have := k5 a e; have := h4 b k2; omega
      · omega
      · have := h5 b e; have := k4 a h2; omega
def dec (l : List Int) (a : Int) : List Int := l.set a.toNat (gd l a.toNat - 1)
/-- The program's plan; fuel is the total shortage. -/
def planF : Nat → List Int → List Int → List (Int × Int)
  | 0, _, _ => []
  | n + 1, s, t => if grF s < 0 ∨ grF t < 0 then [] else (grF s, grF t) :: planF n (dec s (grF s)) (dec t (grF t))
/-! the reference's plan -/
def lowUp (l : List Int) : Nat → Nat
  | 0 => 0
  | k + 1 => if gd l k < gd l (lowUp l k) then k else lowUp l k
def highUp (l : List Int) : Nat → Nat
  | 0 => 0
  | k + 1 => if gd l (highUp l k) < gd l k then k else highUp l k
theorem lowUp_is (l : List Int) : ∀ n, 0 < n → lowUp l n < n ∧ (∀ i, i < n → gd l (lowUp l n) ≤ gd l i) ∧ ∀ i, i < lowUp l n → gd l (lowUp l n) < gd l i
  | 0, h => absurd h (by omega)
  | n + 1, _ => by
    by_cases h0 : n = 0
    · subst h0
      have e : lowUp l 1 = 0 := by unfold lowUp lowUp; split <;> rfl
      rw [e]
      exact ⟨by omega, fun i hi => by obtain rfl : i = 0 := by omega
                                      exact Int.le_refl _, fun i hi => by omega⟩
    · obtain ⟨h1, h2, h3⟩ := lowUp_is l n (by omega)
      rw [lowUp]
      by_cases hc : gd l n < gd l (lowUp l n)
      · rw [if_pos hc]
        refine ⟨by omega, fun i hi => ?_, fun i hi => by have := h2 i hi; omega⟩
        rcases (show i < n ∨ i = n by omega) with e | rfl
        · have := h2 i e; omega
        · exact Int.le_refl _
      · rw [if_neg hc]
        refine ⟨by omega, fun i hi => ?_, h3⟩
        rcases (show i < n ∨ i = n by omega) with e | rfl
        · exact h2 i e
        · omega
theorem highUp_is (l : List Int) : ∀ n, 0 < n → highUp l n < n ∧ (∀ i, i < n → gd l i ≤ gd l (highUp l n)) ∧ ∀ i, i < highUp l n → gd l i < gd l (highUp l n)
  | 0, h => absurd h (by omega)
  | n + 1, _ => by
    by_cases h0 : n = 0
    · subst h0
      have e : highUp l 1 = 0 := by unfold highUp highUp; split <;> rfl
      rw [e]
      exact ⟨by omega, fun i hi => by obtain rfl : i = 0 := by omega
                                      exact Int.le_refl _, fun i hi => by omega⟩
    · obtain ⟨h1, h2, h3⟩ := highUp_is l n (by omega)
      rw [highUp]
      by_cases hc : gd l (highUp l n) < gd l n
      · rw [if_pos hc]
        refine ⟨by omega, fun i hi => ?_, fun i hi => by have := h2 i hi; omega⟩
        rcases (show i < n ∨ i = n by omega) with e | rfl
        · have := h2 i e; omega
        · exact Int.le_refl _
      · rw [if_neg hc]
        refine ⟨by omega, fun i hi => ?_, h3⟩
        rcases (show i < n ∨ i = n by omega) with e | rfl
        · exact h2 i e
        · omega
def lowF (l : List Int) : Nat := lowUp l l.length
def highF (l : List Int) : Nat := highUp l l.length
def stepL (l : List Int) : List Int := (l.set (lowF l) (gd l (lowF l) + 1)).set (highF l) (gd (l.set (lowF l) (gd l (lowF l) + 1)) (highF l) - 1)
def planR : Nat → List Int → List (Int × Int)
  | 0, _ => []
  | n + 1, l => if l.length = 0 ∨ 0 ≤ gd l (lowF l) ∨ gd l (highF l) ≤ 0 then [] else ((highF l : Int), (lowF l : Int)) :: planR n (stepL l)
theorem gr_sur {l : List Int} (h0 : 0 < l.length) : grF (surF l) = if gd l (highF l) ≤ 0 then -1 else (highF l : Int) := by
  obtain ⟨h1, h2, h3⟩ := highUp_is l l.length h0
  have hs : (surF l).length = l.length := by simp [surF]
  refine (grUp_is (surF l) (surF l).length).uniq ?_
  rw [hs]
  by_cases hc : gd l (highF l) ≤ 0
  · rw [if_pos hc]
    refine .inl ⟨rfl, fun i hi => ?_⟩
    rw [gd_sur]
    have := h2 i hi
    unfold highF at hc
    omega
  · rw [if_neg hc]
    unfold highF at hc ⊢
    refine .inr ⟨_, rfl, h1, by rw [gd_sur]; omega, fun i hi => ?_, fun i hi => ?_⟩
    · rw [gd_sur, gd_sur]; have := h2 i hi; omega
    · rw [gd_sur, gd_sur]; have := h3 i hi; omega
theorem gr_sho {l : List Int} (h0 : 0 < l.length) : grF (shoF l) = if 0 ≤ gd l (lowF l) then -1 else (lowF l : Int) := by
  obtain ⟨h1, h2, h3⟩ := lowUp_is l l.length h0
  have hs : (shoF l).length = l.length := by simp [shoF]
  refine (grUp_is (shoF l) (shoF l).length).uniq ?_
  rw [hs]
  by_cases hc : 0 ≤ gd l (lowF l)
  · rw [if_pos hc]
    refine .inl ⟨rfl, fun i hi => ?_⟩
    rw [gd_sho]
    have := h2 i hi
    unfold lowF at hc
    omega
  · rw [if_neg hc]
    unfold lowF at hc ⊢
    refine .inr ⟨_, rfl, h1, by rw [gd_sho]; omega, fun i hi => ?_, fun i hi => ?_⟩
    · rw [gd_sho, gd_sho]; have := h2 i hi; omega
    · rw [gd_sho, gd_sho]; have := h3 i hi; omega
theorem stepL_len (l : List Int) : (stepL l).length = l.length := by simp [stepL]
theorem plan_eq : ∀ (n : Nat) (l : List Int), planF n (surF l) (shoF l) = planR n l
  | 0, _ => rfl
  | n + 1, l => by
    unfold planF planR
    by_cases h0 : l.length = 0
    · have : l = [] := List.length_eq_zero_iff.1 h0
      subst this
      simp [surF, shoF, grF, grUp]
    · rw [gr_sur (by omega), gr_sho (by omega)]
      by_cases hh : gd l (highF l) ≤ 0
      · rw [if_pos hh, if_pos (by omega), if_pos (.inr (.inr hh))]
      · by_cases hl : 0 ≤ gd l (lowF l)
        · rw [if_neg hh, if_pos hl, if_pos (by omega), if_pos (.inr (.inl hl))]
        · rw [if_neg hh, if_neg hl, if_neg (by omega), if_neg (by omega)]
          congr 1
          rw [← plan_eq n (stepL l)]
          have hne : highF l ≠ lowF l := fun e => by rw [e] at hh; omega
          obtain ⟨a1, -, -⟩ := highUp_is l l.length (by omega)
          obtain ⟨b1, -, -⟩ := lowUp_is l l.length (by omega)
          have a1' : highF l < l.length := a1
          have b1' : lowF l < l.length := b1
          have hst : ∀ k, gd (stepL l) k = if k = highF l then gd l (highF l) - 1 else if k = lowF l then gd l (lowF l) + 1 else gd l k := fun k => by
            unfold stepL
            rw [gd_set _ _ _ _ (by simpa using a1'), gd_set _ _ _ _ b1', gd_set _ _ _ _ b1', if_neg hne]
          congr 1
          · refine gd_ext (by simp [dec, surF, stepL_len]) (fun k hk => ?_)
            unfold dec
            rw [gd_set _ _ _ _ (by simpa [surF] using a1'), gd_sur, gd_sur, gd_sur, hst, Int.toNat_natCast]
            by_cases e1 : k = highF l
            · rw [if_pos e1, if_pos e1]; omega
            · rw [if_neg e1, if_neg e1]
              by_cases e2 : k = lowF l
              · rw [if_pos e2, e2]; omega
              · rw [if_neg e2]
          · refine gd_ext (by simp [dec, shoF, stepL_len]) (fun k hk => ?_)
            unfold dec
            rw [gd_set _ _ _ _ (by simpa [shoF] using b1'), gd_sho, gd_sho, gd_sho, hst, Int.toNat_natCast]
            by_cases e2 : k = lowF l
            · rw [if_pos e2, if_neg (fun e => hne (e.symm.trans e2)), if_pos e2]; omega
            · rw [if_neg e2]
              by_cases e1 : k = highF l
              · rw [if_pos e1, e1]; omega
              · rw [if_neg e1, if_neg e2]
end Go.Aid

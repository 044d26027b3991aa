import Derived.Test.YtnmmiiajcjcccaaFPlain
namespace Go.Aid
open Go.Quo (gd gd_get)
/-! ### Mutual aid, plain: a plan is fair and of the length it should have -/
theorem gr_max {l : List Int} {k : Nat} (h : grF l = (k : Int)) : k < l.length ∧ 0 < gd l k ∧ ∀ i, i < l.length → gd l i ≤ gd l k := by
  rcases grUp_is l l.length with ⟨e, _⟩ | ⟨j, e, hj, hp, hm, _⟩
  · have : grF l = -1 := e
    omega
  · have e' : grF l = (j : Int) := e
    obtain rfl : j = k := by omega
    exact ⟨hj, hp, hm⟩
theorem tot_zero {l : List Int} (h : ∀ i, i < l.length → gd l i ≤ 0) : tot l = 0 := by
  have := tot_le l 0 (fun k hk => by have := h k hk; omega)
  omega
theorem plan_len : ∀ (m : Nat) (s t : List Int), tot t ≤ m → (planF m s t).length = min (tot s) (tot t)
  | 0, s, t, h => by have : tot t = 0 := by omega
                     rw [this]; simp [planF]
  | m + 1, s, t, h => by
    unfold planF
    rcases gr_cases s with ⟨e, hz⟩ | ⟨a, ea, ha, hpa⟩
    · rw [if_pos (.inl (by omega)), tot_zero hz]; simp
    · rcases gr_cases t with ⟨e, hz⟩ | ⟨b, eb, hb, hpb⟩
      · rw [if_pos (.inr (by omega)), tot_zero hz]; simp
      · rw [if_neg (by omega), ea, eb]
        have h1 := tot_dec ha hpa
        have h2 := tot_dec hb hpb
        have ih := plan_len m (dec s a) (dec t b) (by omega)
        rw [List.length_cons, ih]
        omega
structure GSt (n : Nat) (L : List Int) (s t : List Int) (d : List (Int × Int)) : Prop where
  sl : s.length = n
  tl : t.length = n
  sv : ∀ i, i < n → gd s i = sF L d i ∧ 0 ≤ gd s i
  tv : ∀ i, i < n → gd t i = tF L d i ∧ 0 ≤ gd t i
  ok : ∀ x ∈ d, stepOk n x
  et : ∀ i, i < n → 0 < gotN d i → ∀ k, k < n → gd t k ≤ gd t i + 1
  es : ∀ i, i < n → 0 < lentN d i → ∀ k, k < n → gd s k ≤ gd s i + 1
theorem GSt.start {n : Nat} {L : List Int} (hL : L.length = n) : GSt n L (surF L) (shoF L) [] :=
  ⟨by simpa [surF] using hL, by simpa [shoF] using hL, fun i _ => ⟨by rw [gd_sur]; simp [sF, lentN], by rw [gd_sur]; omega⟩, fun i _ => ⟨by rw [gd_sho]; simp [tF, gotN], by rw [gd_sho]; omega⟩, by simp, fun i _ h => by simp [gotN] at h, fun i _ h => by simp [lentN] at h⟩
theorem GSt.fair {n : Nat} {L s t : List Int} {d : List (Int × Int)} (h : GSt n L s t d) (hs : (∀ i, i < n → gd s i ≤ 0) ∨ (∀ i, i < n → gd t i ≤ 0)) : FairP n L d := by
  refine ⟨h.ok, fun i hi => ?_, fun i hi => ?_, hs.imp (fun g i hi => by rw [← (h.sv i hi).1]; exact g i hi) (fun g i hi => by rw [← (h.tv i hi).1]; exact g i hi), fun i hi hg k hk => ?_, fun i hi hg k hk => ?_⟩
  · have := h.sv i hi; unfold sF at this; omega
  · have := h.tv i hi; unfold tF at this; omega
  · rw [← (h.tv k hk).1, ← (h.tv i hi).1]; exact h.et i hi hg k hk
  · rw [← (h.sv k hk).1, ← (h.sv i hi).1]; exact h.es i hi hg k hk
theorem GSt.next {n : Nat} {L s t : List Int} {d : List (Int × Int)} (h : GSt n L s t d) {a b : Nat} (ea : grF s = (a : Int)) (eb : grF t = (b : Int)) : GSt n L (dec s a) (dec t b) (d ++ [((a : Int), (b : Int))]) := by
  obtain ⟨ha, hpa, hma⟩ := gr_max ea
  obtain ⟨hb, hpb, hmb⟩ := gr_max eb
  rw [h.sl] at ha hma
  rw [h.tl] at hb hmb
  have va := h.sv a ha
  have vb := h.tv b hb
  have hab : a ≠ b := by
    rintro rfl
    unfold sF at va
    unfold tF at vb
    omega
  have gs : ∀ i, gd (dec s a) i = if i = a then gd s a - 1 else gd s i := fun i => by
    unfold dec; rw [gd_set _ _ _ _ (by simpa [h.sl] using ha)]; simp
  have gt : ∀ i, gd (dec t b) i = if i = b then gd t b - 1 else gd t i := fun i => by
    unfold dec; rw [gd_set _ _ _ _ (by simpa [h.tl] using hb)]; simp
  have e1 : ∀ i : Nat, ((a : Int) = (i : Int)) ↔ i = a := fun i => by omega
  have e2 : ∀ i : Nat, ((b : Int) = (i : Int)) ↔ i = b := fun i => by omega
  have ln : ∀ i, lentN (d ++ [((a : Int), (b : Int))]) i = lentN d i + if i = a then 1 else 0 := fun i => by rw [lentN_snoc]; simp only [e1]
  have gn : ∀ i, gotN (d ++ [((a : Int), (b : Int))]) i = gotN d i + if i = b then 1 else 0 := fun i => by rw [gotN_snoc]; simp only [e2]
  refine ⟨by rw [dec_len]; exact h.sl, by rw [dec_len]; exact h.tl, fun i hi => ?_, fun i hi => ?_, fun x hx => ?_, fun i hi hg k hk => ?_, fun i hi hg k hk => ?_⟩
  · have := h.sv i hi
    unfold sF at this ⊢
    rw [gs, ln]
    by_cases e : i = a
    · subst e; simp only [if_true]; omega
    · rw [if_neg e, if_neg e]; omega
  · have := h.tv i hi
    unfold tF at this ⊢
    rw [gt, gn]
    by_cases e : i = b
    · subst e; simp only [if_true]; omega
    · rw [if_neg e, if_neg e]; omega
  · rcases List.mem_append.1 hx with hx | hx
    · exact h.ok x hx
    · obtain rfl : x = ((a : Int), (b : Int)) := by simpa using hx
      exact ⟨by simp, by simp; omega, by simp, by simp; omega, by simp; omega⟩
  · rw [gn] at hg
    rw [gt, gt]
    have hk2 := hmb k hk
    by_cases e : i = b
    · subst e
      rw [if_pos rfl]
      split <;> omega
    · rw [if_neg e] at hg ⊢
      have := h.et i hi (by omega) k hk
      split
      · next e2 => subst e2; omega
      · omega
  · rw [ln] at hg
    rw [gs, gs]
    have hk2 := hma k hk
    by_cases e : i = a
    · subst e
      rw [if_pos rfl]
      split <;> omega
    · rw [if_neg e] at hg ⊢
      have := h.es i hi (by omega) k hk
      split
      · next e2 => subst e2; omega
      · omega
theorem plan_fair {n : Nat} {L : List Int} : ∀ (m : Nat) (s t : List Int) (d : List (Int × Int)), GSt n L s t d → tot t ≤ m → FairP n L (d ++ planF m s t)
  | 0, s, t, d, h, hm => by
    rw [planF, List.append_nil]
    refine h.fair (.inr fun i hi => ?_)
    by_cases h0 : 0 < gd t i
    · have := tot_pos (l := t) (k := i) (by rw [h.tl]; exact hi) h0; omega
    · omega
  | m + 1, s, t, d, h, hm => by
    unfold planF
    rcases gr_cases s with ⟨e, hz⟩ | ⟨a, ea, ha, hpa⟩
    · rw [if_pos (.inl (by omega)), List.append_nil]
      exact h.fair (.inl (by rw [h.sl] at hz; exact hz))
    · rcases gr_cases t with ⟨e, hz⟩ | ⟨b, eb, hb, hpb⟩
      · rw [if_pos (.inr (by omega)), List.append_nil]
        exact h.fair (.inr (by rw [h.tl] at hz; exact hz))
      · rw [if_neg (by omega), ea, eb]
        have h2 := tot_dec hb hpb
        have := plan_fair m (dec s a) (dec t b) (d ++ [((a : Int), (b : Int))]) (h.next ea eb) (by omega)
        simpa using this
theorem tot_take {l : List Int} {k : Nat} (hk : k < l.length) : tot (l.take (k + 1)) = tot (l.take k) + (gd l k).toNat := by
  rw [List.take_succ_eq_append_getElem hk, gd_get hk]
  unfold tot
  rw [List.map_append, List.sum_append]
  simp
end Go.Aid

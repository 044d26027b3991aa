import Derived.Test.YtnmmiiajcjcccaaFPlain
namespace Go.Aid
open Go.Quo (gd gd_get)
/-! ### Mutual aid, plain: what the reference calls fair -/
def lv (L : List Int) (l : List (Int × Int)) (i : Nat) : Int := gd L i - lentN l i + gotN l i
def badI (L : List Int) (l : List (Int × Int)) (i : Nat) : Prop := (0 < lentN l i ∧ (0 < gotN l i ∨ gd L i ≤ 0 ∨ lv L l i < 0)) ∨ (0 < gotN l i ∧ (0 ≤ gd L i ∨ 0 < lv L l i))
def badK (L : List Int) (l : List (Int × Int)) (i k : Nat) : Prop := (0 < gotN l i ∧ lv L l k < lv L l i - 1 ∧ lv L l k < 0) ∨ (0 < lentN l i ∧ lv L l i + 1 < lv L l k ∧ 0 < lv L l k)
def FairR (n : Nat) (L : List Int) (l : List (Int × Int)) : Prop := (∀ x ∈ l, stepOk n x) ∧ (∀ i, i < n → ¬ badI L l i ∧ ∀ k, k < n → ¬ badK L l i k) ∧ ¬ ((∃ i, i < n ∧ lv L l i < 0) ∧ (∃ i, i < n ∧ 0 < lv L l i))
theorem noBad (L : List Int) (l : List (Int × Int)) (i : Nat) : ¬ badI L l i ↔ ((lentN l i : Int) ≤ max (gd L i) 0 ∧ (gotN l i : Int) ≤ max (-gd L i) 0) := by
  unfold badI lv
  omega
theorem sF_lv {L : List Int} {l : List (Int × Int)} {i : Nat} (h1 : (lentN l i : Int) ≤ max (gd L i) 0) (h2 : (gotN l i : Int) ≤ max (-gd L i) 0) : sF L l i = max (lv L l i) 0 ∧ tF L l i = max (-lv L l i) 0 := by
  unfold sF tF lv
  omega
theorem fairR_iff (n : Nat) (L : List Int) (l : List (Int × Int)) : FairR n L l ↔ FairP n L l := by
  constructor
  · rintro ⟨h1, h2, h3⟩
    have hb : ∀ i, i < n → (lentN l i : Int) ≤ max (gd L i) 0 ∧ (gotN l i : Int) ≤ max (-gd L i) 0 := fun i hi => (noBad L l i).1 (h2 i hi).1
    have hs : ∀ i, i < n → sF L l i = max (lv L l i) 0 ∧ tF L l i = max (-lv L l i) 0 := fun i hi => sF_lv (hb i hi).1 (hb i hi).2
    refine ⟨h1, fun i hi => (hb i hi).1, fun i hi => (hb i hi).2, ?_, fun d hd hg k hk => ?_, fun d hd hg k hk => ?_⟩
    · by_cases hc : ∃ i, i < n ∧ lv L l i < 0
      · refine .inl fun i hi => ?_
        rw [(hs i hi).1]
        by_cases h0 : 0 < lv L l i
        · exact absurd ⟨hc, i, hi, h0⟩ h3
        · omega
      · refine .inr fun i hi => ?_
        rw [(hs i hi).2]
        by_cases h0 : lv L l i < 0
        · exact absurd ⟨i, hi, h0⟩ hc
        · omega
    · have := (h2 d hd).2 k hk
      have hd1 := hb d hd
      unfold badK at this
      rw [(hs k hk).2, (hs d hd).2]
      have hv : lv L l d = gd L d - lentN l d + gotN l d := rfl
      omega
    · have := (h2 d hd).2 k hk
      have hd1 := hb d hd
      unfold badK at this
      rw [(hs k hk).1, (hs d hd).1]
      have hv : lv L l d = gd L d - lentN l d + gotN l d := rfl
      omega
  · intro f
    have hs : ∀ i, i < n → sF L l i = max (lv L l i) 0 ∧ tF L l i = max (-lv L l i) 0 := fun i hi => sF_lv (f.lent i hi) (f.got i hi)
    refine ⟨f.ok, fun i hi => ⟨(noBad L l i).2 ⟨f.lent i hi, f.got i hi⟩, fun k hk hb => ?_⟩, ?_⟩
    · have h1 := hs i hi
      have h2 := hs k hk
      have h3 := f.lent i hi
      have h4 := f.got i hi
      have hv : lv L l i = gd L i - lentN l i + gotN l i := rfl
      unfold badK at hb
      rcases hb with ⟨g, a, b⟩ | ⟨g, a, b⟩
      · have := f.et i hi g k hk
        omega
      · have := f.es i hi g k hk
        omega
    · rintro ⟨⟨i, hi, h1⟩, ⟨j, hj, h2⟩⟩
      rcases f.stop with h | h
      · have := h j hj; have := hs j hj; omega
      · have := h i hi; have := hs i hi; omega
end Go.Aid

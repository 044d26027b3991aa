import Derived.Test.YtipkicijfedfoaaDoorMGI
import Derived.Test.YtipkicijfedfoaaDoorMVal
namespace Go.Proofs.YtipkicijfedfoaaDoor
set_option linter.unusedVariables false
set_option linter.unusedSimpArgs false
open Go.RowKit Go.Own Go.Quo Go.Inc Go.Wire
/-- what is known of an incident on the way -/
structure Iv (y : Ic) (n : Nat) : Prop where
  urg : 1 ≤ y.urg ∧ y.urg ≤ 5
  code : y.code.size ≤ 1000
  nodes : InR y.nodes
  nodesL : y.nodes.length ≤ 1000
  since : 0 ≤ y.since ∧ y.since ≤ 1099511627776
  calls : InR y.calls
  callsL : y.calls.length = n
theorem cr_bits {t : Cr} (h : crB t = true) : (1 ≤ t.call ∧ t.call ≤ 1099511627776) ∧ (1 ≤ t.urg ∧ t.urg ≤ 5) ∧ t.code.size ≤ 40 ∧ InR t.nodes ∧ (0 ≤ t.since ∧ t.since ≤ 1099511627776) := by
  unfold crB numB reportB maxT at h
  simp at h
  obtain ⟨⟨⟨a3, a4⟩, -, -⟩, ⟨⟨⟨⟨⟨⟨⟨⟨b1, b2⟩, b3⟩, b4⟩, b5⟩, b6⟩, b7⟩, b8⟩, b9⟩⟩ := h
  exact ⟨⟨a3, a4⟩, ⟨b1, b2⟩, codeB_le b3, inR_inc b5 (by decide) (by decide), ⟨b8, b9⟩⟩
theorem iv_from {id : Int} {t : Cr} (h : crB t = true) (hl : t.nodes.length ≤ 1000) : Iv (fromI id t) 1 := by
  obtain ⟨h1, h2, h3, h4, h5⟩ := cr_bits h
  exact ⟨h2, by show t.code.size ≤ 1000; omega, h4, hl, h5, fun n hn => by
    have : n = t.call := by simpa [fromI] using hn
    omega, rfl⟩
theorem iv_more {y : Ic} {n : Nat} (hy : Iv y n) {t : Cr} (h : crB t = true) : Iv (moreI y t) (n + 1) := by
  obtain ⟨h1, h2, h3, h4, h5⟩ := cr_bits h
  refine ⟨?_, ?_, ?_, ?_, ?_, ?_, ?_⟩
  · show 1 ≤ (if t.urg < y.urg then t.urg else y.urg) ∧ (if t.urg < y.urg then t.urg else y.urg) ≤ 5
    have := hy.urg
    split <;> omega
  · show (if t.urg < y.urg then t.code else y.code).size ≤ 1000
    have := hy.code
    split <;> omega
  · show InR (if 0 < (bothL y.nodes t.nodes).length then bothL y.nodes t.nodes else y.nodes)
    split
    · exact fun n hn => hy.nodes n ((bothL_sub _ _).mem hn)
    · exact hy.nodes
  · show (if 0 < (bothL y.nodes t.nodes).length then bothL y.nodes t.nodes else y.nodes).length ≤ 1000
    have := hy.nodesL
    have := bothL_len y.nodes t.nodes
    split <;> omega
  · show 0 ≤ min y.since t.since ∧ min y.since t.since ≤ 1099511627776
    have := hy.since
    omega
  · show InR (putL y.calls t.call)
    intro n hn
    rcases List.mem_append.1 ((putL_perm _ _).mem_iff.1 hn) with h | h
    · exact hy.calls n h
    · have : n = t.call := by simpa using h
      omega
  · show (putL y.calls t.call).length = n + 1
    rw [putL_length, hy.callsL]
theorem iv_anw : ∀ (l : List Cr) (y z : Ic) (n : Nat), Iv y n → (∀ t ∈ l, crB t = true) → anwS y l = some z → Iv z (n + l.length)
  | [], y, z, n, hy, _, h => by
    have : y = z := by simpa [anwS] using h
    exact this ▸ hy
  | t :: l, y, z, n, hy, hl, h => by
    have h2 : (if hitB y.calls t.call then none else anwS (moreI y t) l) = some z := h
    by_cases hh : hitB y.calls t.call
    · rw [if_pos hh] at h2; cases h2
    · rw [if_neg hh] at h2
      have := iv_anw l (moreI y t) z (n + 1) (iv_more hy (hl t (by simp))) (fun u hu => hl u (by simp [hu])) h2
      rw [List.length_cons]
      rw [show n + (l.length + 1) = n + 1 + l.length by omega]
      exact this
theorem icB_bits {x : Ic} (h : icB x = true) : (1 ≤ x.id ∧ x.id ≤ 1099511627776) ∧ (0 ≤ x.dist ∧ x.dist < 9) ∧ InR x.units ∧ In64 x.merged ∧ x.code.size ≤ 1000 ∧ In64 x.urg ∧ In64 x.since ∧ InR x.nodes ∧ InR x.calls := by
  unfold icB numB reportB maxT at h
  simp at h
  obtain ⟨⟨⟨⟨⟨⟨a1, a2⟩, ⟨⟨⟨⟨⟨⟨⟨⟨b1, b2⟩, b3⟩, b4⟩, b5⟩, b6⟩, b7⟩, b8⟩, b9⟩⟩, c1⟩, c2⟩, c3⟩, c4⟩ := h
  have := codeB_le b3
  refine ⟨⟨a1, a2⟩, ⟨b6, b7⟩, inR_inc c3 (by decide) (by decide), ?_, by omega, ⟨by omega, by omega⟩, ⟨by omega, by omega⟩, inR_inc b5 (by decide) (by decide), inR_inc c2 (by decide) (by decide)⟩
  rcases c4 with h | h
  · rw [h]; exact ⟨by decide, by decide⟩
  · exact ⟨by omega, by omega⟩
theorem icS_anw {x : Ic} {cs : List Cr} (hu : x.units.length ≤ 1000) (hc : ∀ t ∈ cs, t.nodes.length ≤ 1000) (hl : cs.length ≤ 1000) : IcS (anwP x cs).1 := by
  unfold anwP
  by_cases h0 : icB x = false ∨ cs = []
  · rw [if_pos h0]; exact icS_zero
  · rw [if_neg h0]
    by_cases hv : cs.all crB = false
    · rw [if_pos hv]; exact icS_zero
    · rw [if_neg hv]
      rw [Bool.not_eq_false, List.all_eq_true] at hv
      have hi : icB x = true := by
        cases hq : icB x with
        | true => rfl
        | false => exact absurd (.inl hq) h0
      have hln := (sortC_perm cs).length_eq
      have hmem := fun t => (sortC_perm cs).mem_iff (a := t)
      cases hs : sortC cs with
      | nil => exact icS_zero
      | cons t0 r =>
        rw [hs] at hln hmem
        dsimp only
        cases ha : anwS (fromI x.id t0) r with
        | none => exact icS_zero
        | some y =>
          dsimp only
          by_cases hm : x.merged ≠ 0
          · rw [if_pos hm]; exact icS_zero
          · rw [if_neg hm]
            obtain ⟨⟨a1, a2⟩, ⟨a3, a4⟩, a5, a6, -⟩ := icB_bits hi
            have h0m : t0 ∈ cs := (hmem t0).1 (by simp)
            have hy := iv_anw r _ y 1 (iv_from (hv t0 h0m) (hc t0 h0m)) (fun t ht => hv t ((hmem t).1 (by simp [ht]))) ha
            have u := hy.urg
            have s := hy.since
            exact ⟨⟨by show _ ≤ x.id; omega, by show x.id < _; omega⟩, ⟨by show _ ≤ y.urg; omega, by show y.urg < _; omega⟩, hy.code, hy.nodes, hy.nodesL, ⟨by show _ ≤ x.dist; omega, by show x.dist < _; omega⟩, ⟨by show _ ≤ y.since; omega, by show y.since < _; omega⟩, hy.calls, by show y.calls.length ≤ 1000; rw [hy.callsL]; simp at hln; omega, a5, hu, a6⟩
end Go.Proofs.YtipkicijfedfoaaDoor

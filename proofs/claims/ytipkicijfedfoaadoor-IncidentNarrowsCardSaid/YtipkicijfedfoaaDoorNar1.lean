import Derived.Test.YtipkicijfedfoaaDoorAdd
namespace Go.Proofs.YtipkicijfedfoaaDoor
set_option linter.unusedVariables false
open Go.RowKit Go.Own Go.Quo Go.Inc
theorem numB_iff {n lo : Int} : numB n lo = true ↔ lo ≤ n ∧ n ≤ maxT := by unfold numB; simp
theorem report_iff {u : Int} {s : ByteArray} {l : List Int} {d i : Int} : reportB u s l d i = true ↔ 1 ≤ u ∧ u ≤ 5 ∧ codeB s = true ∧ 0 < l.length ∧ incB l 0 4095 = true ∧ 0 ≤ d ∧ d < 9 ∧ 0 ≤ i ∧ i ≤ maxT := by
  unfold reportB
  simp only [Bool.and_eq_true, decide_eq_true_eq, and_assoc]
theorem cr_iff {c : Cr} : crB c = true ↔ numB c.call 1 = true ∧ numB c.inc 0 = true ∧ reportB c.urg c.code c.nodes c.dist c.since = true := by
  unfold crB
  simp only [Bool.and_eq_true, and_assoc]
theorem ic_open_iff {x : Ic} (hm : x.merged = 0) : icB x = true ↔ numB x.id 1 = true ∧ reportB x.urg x.code x.nodes x.dist x.since = true ∧ x.calls.length ≤ 1000 ∧ incB x.calls 1 maxT = true ∧ incB x.units 0 255 = true := by
  unfold icB
  rw [hm]
  simp only [Bool.and_eq_true, decide_eq_true_eq, Bool.or_eq_true, and_assoc]
  constructor
  · rintro ⟨h1, h2, h3, h4, h5, -⟩; exact ⟨h1, h2, h3, h4, h5⟩
  · rintro ⟨h1, h2, h3, h4, h5⟩; exact ⟨h1, h2, h3, h4, h5, .inl trivial⟩
/-- one more call: what is derived stays valid -/
theorem fur_report {x : Ic} {c : Cr} (hx : reportB x.urg x.code x.nodes x.dist x.since = true) (hc : reportB c.urg c.code c.nodes c.dist c.since = true) : reportB (furP x c).urg (furP x c).code (furP x c).nodes (furP x c).dist (furP x c).since = true := by
  rw [report_iff] at hx hc ⊢
  obtain ⟨a1, a2, a3, a4, a5, a6, a7, a8, a9⟩ := hx
  obtain ⟨b1, b2, b3, b4, b5, b6, b7, b8, b9⟩ := hc
  unfold furP
  simp only
  refine ⟨by split <;> omega, by split <;> omega, by split <;> assumption, by split <;> omega, ?_, a6, a7, by omega, by omega⟩
  split
  · exact incB_sub a5 (bothL_sub _ _)
  · exact a5
theorem both_self {l k : List Int} (h : ∀ n ∈ k, n ∈ l) (hs : k.Sublist l) (hl : l.Nodup) : bothL l k = k := by
  induction l generalizing k with
  | nil => cases hs; rfl
  | cons a r ih =>
    rw [List.nodup_cons] at hl
    cases hs with
    | cons _ h2 =>
      have hk : a ∉ k := fun hm => hl.1 (h2.mem hm)
      have e : bothL (a :: r) k = bothL r k := by
        unfold bothL
        rw [List.filter_cons_of_neg]
        unfold hasB
        rw [List.contains_iff_mem]; exact hk
      rw [e]
      exact ih (fun n hn => h2.mem hn) h2 hl.2
    | @cons_cons k' _ _ h2 =>
      have e : bothL (a :: r) (a :: k') = a :: bothL r k' := by
        unfold bothL
        rw [List.filter_cons_of_pos (by unfold hasB; rw [List.contains_iff_mem]; simp)]
        congr 1
        refine List.filter_congr (fun n hn => ?_)
        unfold hasB
        rw [Bool.eq_iff_iff, List.contains_iff_mem, List.contains_iff_mem, List.mem_cons]
        constructor
        · rintro (rfl | h3)
          · exact absurd hn hl.1
          · exact h3
        · exact .inr
      rw [e, ih (fun n hn => h2.mem hn) h2 hl.2]
theorem incB_nodup {l : List Int} {lo hi : Int} (h : incB l lo hi = true) : l.Nodup := (incB_pw.1 h).1.imp (fun h => by omega)
theorem narrow {x : Ic} {c : Cr} {y : Ic} (h : addI x c = (y, 0)) : y.urg ≤ x.urg ∧ y.urg ≤ c.urg ∧ y.since ≤ x.since ∧ 0 < y.nodes.length ∧ (bothL x.nodes y.nodes).length = y.nodes.length ∧ y.calls.length = x.calls.length + 1 ∧ icB y = true ∧ y.id = x.id ∧ y.dist = x.dist ∧ y.nodes.length ≤ x.nodes.length ∧ y.units = x.units ∧ (y.code = x.code ∨ y.code = c.code) := by
  unfold addI at h
  split at h
  · simp at h
  · next h0 =>
    split at h
    · simp at h
    · next h1 =>
      split at h
      · simp at h
      · next h2 =>
        split at h
        · simp at h
        · next h3 =>
          injection h with h _
          simp only [Bool.not_eq_false, Bool.and_eq_true] at h0 h1
          obtain ⟨hx, hc⟩ := h0
          have hm : x.merged = 0 := by unfold openB at h1; simp at h1; exact h1.1
          obtain ⟨x1, x2, x3, x4, x5⟩ := (ic_open_iff hm).1 hx
          obtain ⟨c1, c2, c3⟩ := cr_iff.1 hc
          have hr := fur_report x2 c3
          have hr2 := report_iff.1 hr
          have hnn := (report_iff.1 x2).2.2.2.2.1
          have hcal : (x.calls ++ [c.call]).length = x.calls.length + 1 := by simp
          have hno : c.call ∉ x.calls := fun hm => h2 (by unfold hasB; rw [List.contains_iff_mem]; exact hm)
          have hso := srt_append (incB_pw.1 x4).1 hno
          have hn' : (furP x c).nodes.Sublist x.nodes := by
            unfold furP; simp only
            split
            · exact bothL_sub _ _
            · exact List.Sublist.refl _
          subst h
          refine ⟨by unfold furP; simp only; split <;> omega, by unfold furP; simp only; split <;> omega, by unfold furP; simp only; omega, hr2.2.2.2.1, ?_, by rw [srt_length, hcal], ?_, rfl, rfl, hn'.length_le, rfl, ?_⟩
          · show (bothL x.nodes (furP x c).nodes).length = (furP x c).nodes.length
            rw [both_self (fun n hn => hn'.mem hn) hn' (incB_nodup hnn)]
          · refine (ic_open_iff (x := { furP x c with calls := srt (x.calls ++ [c.call]) }) (show (furP x c).merged = 0 from hm)).2 ⟨x1, hr, by show (srt (x.calls ++ [c.call])).length ≤ 1000; rw [srt_length, hcal]; omega, ?_, x5⟩
            show incB (srt (x.calls ++ [c.call])) 1 maxT = true
            rw [hso, incB_pw]
            refine ⟨putL_sorted (incB_pw.1 x4).1 hno, fun n hn => ?_⟩
            have := (putL_perm x.calls c.call).mem_iff.1 hn
            rcases List.mem_append.1 this with h5 | h5
            · exact (incB_pw.1 x4).2 n h5
            · have : n = c.call := by simpa using h5
              rw [this]; exact numB_iff.1 c1
          · unfold furP; simp only
            split
            · exact .inr rfl
            · exact .inl rfl
end Go.Proofs.YtipkicijfedfoaaDoor

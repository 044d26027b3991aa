import Derived.Test.YtnpfbpfobbadaaaQPlain
import Derived.Lib.SlicesCompact
namespace Go.Quo
open Go.Lib
/-! ### Lists that rise strictly -/
theorem up_ext : ∀ {l r : List Int}, l.Pairwise (· < ·) → r.Pairwise (· < ·) → (∀ x, x ∈ l ↔ x ∈ r) → l = r
  | [], [], _, _, _ => rfl
  | [], b :: r, _, _, h => by have := (h b).2 (by simp); simp at this
  | a :: l, [], _, _, h => by have := (h a).1 (by simp); simp at this
  | a :: l, b :: r, hl, hr, h => by
    rw [List.pairwise_cons] at hl hr
    have hab : a = b := by
      rcases List.mem_cons.1 ((h a).1 (by simp)) with e | e
      · exact e
      · rcases List.mem_cons.1 ((h b).2 (by simp)) with e' | e'
        · exact e'.symm
        · have h1 := hr.1 a e
          have h2 := hl.1 b e'
          omega
    subst hab
    rw [up_ext hl.2 hr.2]
    intro x
    constructor
    · intro hx
      rcases List.mem_cons.1 ((h x).1 (by simp [hx])) with e | e
      · have := hl.1 x hx; omega
      · exact e
    · intro hx
      rcases List.mem_cons.1 ((h x).2 (by simp [hx])) with e | e
      · have := hr.1 x hx; omega
      · exact e
def srt (zs : List Int) : List Int := zs.mergeSort fun x y => decide (x ≤ y)
theorem srt_length (zs : List Int) : (srt zs).length = zs.length := by simp [srt]
theorem srt_perm (zs : List Int) : (srt zs).Perm zs := List.mergeSort_perm zs _
theorem srt_up (zs : List Int) : (srt zs).Pairwise (fun a b => decide (a ≤ b) = true) := List.pairwise_mergeSort (fun a b c => by simp; omega) (fun a b => by simp; omega) zs
theorem srt_mono {zs : List Int} {i j : Nat} (hij : i < j) (hj : j < (srt zs).length) : (srt zs)[i]'(by omega) ≤ (srt zs)[j] := by
  have := List.pairwise_iff_getElem.1 (srt_up zs) i j (by omega) hj hij
  simpa using this
theorem compact_props (d : Array Int) (hs : ∀ i j, i < j → j < d.size → d[i]! ≤ d[j]!) : ∀ m, m ≤ d.size → (compactUpTo d m).Pairwise (· < ·) ∧ (∀ x, x ∈ compactUpTo d m ↔ ∃ j, j < m ∧ d[j]! = x)
  | 0, _ => ⟨by simp [compactUpTo], fun x => by simp [compactUpTo]⟩
  | m + 1, hm => by
    obtain ⟨h1, h2⟩ := compact_props d hs m (by omega)
    rw [compactUpTo_succ]
    by_cases hk : keeps d m = true
    · rw [if_pos hk]
      refine ⟨?_, fun x => ?_⟩
      · rw [List.pairwise_append]
        refine ⟨h1, by simp, fun a ha b hb => ?_⟩
        obtain ⟨j, hj, rfl⟩ := (h2 a).1 ha
        simp at hb
        subst hb
        have hle := hs j m hj (by omega)
        simp [keeps] at hk
        rcases hk with hk | hk
        · omega
        · have h3 : d[j]! ≤ d[m - 1]! := by
            by_cases e : j = m - 1
            · rw [e]; exact Int.le_refl _
            · exact hs j (m - 1) (by omega) (by omega)
          have h4 := hs (m - 1) m (by omega) (by omega)
          have hk' : d[m]! ≠ d[m - 1]! := by simpa using hk
          omega
      · rw [List.mem_append, h2]
        constructor
        · rintro (⟨j, hj, e⟩ | hx)
          · exact ⟨j, by omega, e⟩
          · simp at hx; exact ⟨m, by omega, by simpa using hx.symm⟩
        · rintro ⟨j, hj, e⟩
          by_cases hjm : j < m
          · exact .inl ⟨j, hjm, e⟩
          · have : j = m := by omega
            subst this; right; simpa using e.symm
    · rw [if_neg hk, List.append_nil]
      refine ⟨h1, fun x => ?_⟩
      rw [h2]
      constructor
      · rintro ⟨j, hj, e⟩; exact ⟨j, by omega, e⟩
      · rintro ⟨j, hj, e⟩
        by_cases hjm : j < m
        · exact ⟨j, hjm, e⟩
        · have : j = m := by omega
          subst this
          simp [keeps] at hk
          have hk' : d[j]! = d[j - 1]! := by simpa using hk.2
          exact ⟨j - 1, by omega, by rw [← hk']; exact e⟩
theorem get_bang {l : List Int} {j : Nat} (hj : j < l.length) : l.toArray[j]! = l[j] := by simp [hj]
theorem compact_srt (zs : List Int) : (compact (srt zs)).Pairwise (· < ·) ∧ ∀ x, x ∈ compact (srt zs) ↔ x ∈ zs := by
  obtain ⟨h1, h2⟩ := compact_props (srt zs).toArray (fun i j hij hj => by
    have hj' : j < (srt zs).length := by simpa using hj
    rw [get_bang hj', get_bang (show i < (srt zs).length by omega)]
    exact srt_mono hij hj') (srt zs).length (by simp)
  refine ⟨h1, fun x => ?_⟩
  rw [show compact (srt zs) = compactUpTo (srt zs).toArray (srt zs).length from rfl, h2, ← (srt_perm zs).mem_iff, List.mem_iff_getElem]
  constructor
  · rintro ⟨j, hj, e⟩; exact ⟨j, hj, by rw [← e, get_bang hj]⟩
  · rintro ⟨j, hj, e⟩; exact ⟨j, hj, by rw [get_bang hj]; exact e⟩
/-! ### All members -/
def all64 : List Int := (List.range 64).map (fun k : Nat => (k : Int))
def memF (o n : List Int) : List Int := all64.filter fun m => hasB o m || hasB n m
theorem all64_up : all64.Pairwise (· < ·) := by decide +kernel
theorem mem_all64 (x : Int) : x ∈ all64 ↔ 0 ≤ x ∧ x < 64 := by
  unfold all64
  rw [List.mem_map]
  constructor
  · rintro ⟨k, hk, rfl⟩; simp at hk; omega
  · rintro ⟨h1, h2⟩; exact ⟨x.toNat, by simp; omega, by omega⟩
theorem hasB_mem (l : List Int) (x : Int) : hasB l x = true ↔ x ∈ l := by unfold hasB; exact List.contains_iff_mem
theorem memF_up (o n : List Int) : (memF o n).Pairwise (· < ·) := all64_up.sublist List.filter_sublist
theorem mem_memF (o n : List Int) (x : Int) : x ∈ memF o n ↔ (0 ≤ x ∧ x < 64) ∧ (x ∈ o ∨ x ∈ n) := by
  unfold memF
  rw [List.mem_filter, mem_all64, Bool.or_eq_true, hasB_mem, hasB_mem]
theorem memF_le (o n : List Int) : (memF o n).length ≤ 64 := by
  have := List.length_filter_le (fun m => hasB o m || hasB n m) all64
  have e : all64.length = 64 := by decide
  unfold memF; omega
theorem asc_range {l : List Int} (h : ascB l = true) : ∀ x ∈ l, 0 ≤ x ∧ x < 64 := by
  intro x hx
  obtain ⟨k, hk, e⟩ := List.mem_iff_getElem.1 hx
  unfold ascB at h
  rw [List.all_eq_true] at h
  have := h k (by simpa using hk)
  simp [okAt] at this
  rw [gd_get hk, e] at this
  omega
theorem ml_asc {l : List Int} (h : mlB l = true) : ascB l = true ∧ 1 ≤ l.length ∧ l.length ≤ 9 := by
  unfold mlB at h
  simp only [Bool.and_eq_true, decide_eq_true_eq] at h
  exact ⟨h.2, h.1.1, h.1.2⟩
theorem v_parts {o n : List Int} (h : vB o n = true) : mlB o = true ∧ (n.length = 0 ∨ mlB n = true) := by
  unfold vB at h
  simp only [Bool.and_eq_true, Bool.or_eq_true, decide_eq_true_eq] at h
  exact h
theorem v_lens {o n : List Int} (h : vB o n = true) : 1 ≤ o.length ∧ o.length ≤ 9 ∧ n.length ≤ 9 := by
  obtain ⟨h1, h2⟩ := v_parts h
  have a := ml_asc h1
  rcases h2 with h2 | h2
  · omega
  · have b := ml_asc h2; omega
theorem v_range {o n : List Int} (h : vB o n = true) : ∀ x, (x ∈ o ∨ x ∈ n) → 0 ≤ x ∧ x < 64 := by
  obtain ⟨h1, h2⟩ := v_parts h
  rintro x (hx | hx)
  · exact asc_range (ml_asc h1).1 x hx
  · rcases h2 with h2 | h2
    · rw [List.eq_nil_of_length_eq_zero h2] at hx; simp at hx
    · exact asc_range (ml_asc h2).1 x hx
theorem compact_mem {o n : List Int} (h : vB o n = true) : compact (srt (o ++ n)) = memF o n := by
  obtain ⟨h1, h2⟩ := compact_srt (o ++ n)
  refine up_ext h1 (memF_up o n) (fun x => ?_)
  rw [h2, mem_memF, List.mem_append]
  exact ⟨fun hx => ⟨v_range h x hx, hx⟩, fun hx => hx.2⟩
end Go.Quo

import Derived.Test.YtnpfbpfobbadaaaWire5
import Derived.Test.YtnpfbpfobbadaaaRPlain
namespace Go.Proofs.Ytnpfbpfobbadaaa
set_option linter.unusedVariables false
open Go.RowKit Go.Own Go.Quo Go.Wire
def decF (b : List Int) : List Int × List Int × Int :=
  if (rdIs b).1 = 0 then
    (if (rdIs (rdIs b).2.2).1 = 0 then
      (if (rdIs (rdIs b).2.2).2.2.length = 0 then (if vB (rdIs b).2.1 (rdIs (rdIs b).2.2).2.1 = true then ((rdIs b).2.1, (rdIs (rdIs b).2.2).2.1, 0) else ([], [], 2)) else ([], [], 2))
     else ([], [], (rdIs (rdIs b).2.2).1))
  else ([], [], (rdIs b).1)
def tkO (b : List Int) : List Int := ((b.drop 1).take (gd b 0 / 2).toNat).map (· / 2)
def rsO (b : List Int) : List Int := (b.drop 1).drop (gd b 0 / 2).toNat
def readF (b : List Int) : List Int × List Int × Bool :=
  if b.length = 0 then ([], [], false) else if (rsO b).length = 0 then ([], [], false) else if encM (tkO b) (tkO (rsO b)) = b then (tkO b, tkO (rsO b), true) else ([], [], false)
theorem encM_yes {o n : List Int} (h : vB o n = true) : encM o n = part o ++ part n := by
  obtain ⟨l1, l2, l3⟩ := v_lens h
  unfold encM
  rw [if_pos h, part_enc l2 (fun x hx => v_range h x (.inl hx)), part_enc l3 (fun x hx => v_range h x (.inr hx))]
theorem tk_part (o r : List Int) : tkO (part o ++ r) = o := by
  have e : gd (part o ++ r) 0 / 2 = (o.length : Int) := by simp [gd, part]
  unfold tkO
  rw [e]
  simp only [part, List.cons_append, List.drop_succ_cons, List.drop_zero, Int.toNat_natCast]
  rw [List.take_append_of_le_length (by simp), List.take_of_length_le (by simp), List.map_map]
  have : ((fun x : Int => x / 2) ∘ fun x => 2 * x) = id := by funext x; simp
  rw [this, List.map_id]
theorem rs_part (o r : List Int) : rsO (part o ++ r) = r := by
  have e : gd (part o ++ r) 0 / 2 = (o.length : Int) := by simp [gd, part]
  unfold rsO
  rw [e]
  simp only [part, List.cons_append, List.drop_succ_cons, List.drop_zero, Int.toNat_natCast]
  rw [List.drop_append_of_le_length (by simp), List.drop_eq_nil_of_le (by simp), List.nil_append]
theorem read_enc {o n : List Int} (h : vB o n = true) : readF (encM o n) = (o, n, true) := by
  rw [encM_yes h]
  unfold readF
  rw [tk_part, rs_part]
  have : tkO (part n) = n := by have := tk_part n []; rwa [List.append_nil] at this
  rw [this]
  rw [if_neg (by simp [part]), if_neg (by simp [part])]
  rw [encM_yes h, if_pos rfl]
theorem dec_enc {o n : List Int} (h : vB o n = true) : decF (encM o n) = (o, n, 0) := by
  obtain ⟨l1, l2, l3⟩ := v_lens h
  have hr := v_range h
  have e1 : rdIs (encM o n) = (0, o, encIs n) := by
    unfold encM
    rw [if_pos h]
    exact rdIs_enc (fun x hx => by have := hr x (.inl hx); omega) (by omega) _
  have e2 : rdIs (encIs n) = (0, n, []) := by
    have := rdIs_enc (xs := n) (fun x hx => by have := hr x (.inr hx); omega) (by omega) []
    rwa [List.append_nil] at this
  unfold decF
  rw [e1]
  simp only
  rw [e2]
  simp [h]
theorem dec_ok {b : List Int} (hB : Bytes b) (h : (decF b).2.2 = 0) : vB (decF b).1 (decF b).2.1 = true ∧ encM (decF b).1 (decF b).2.1 = b := by
  unfold decF at h ⊢
  by_cases h1 : (rdIs b).1 = 0
  · rw [if_pos h1] at h ⊢
    by_cases h2 : (rdIs (rdIs b).2.2).1 = 0
    · rw [if_pos h2] at h ⊢
      by_cases h3 : (rdIs (rdIs b).2.2).2.2.length = 0
      · rw [if_pos h3] at h ⊢
        by_cases h4 : vB (rdIs b).2.1 (rdIs (rdIs b).2.2).2.1 = true
        · rw [if_pos h4]
          refine ⟨h4, ?_⟩
          simp only
          unfold encM
          rw [if_pos h4]
          have c1 := rdIs_canon hB h1
          have c2 := rdIs_canon (Bytes.right (by rw [← c1]; exact hB)) h2
          rw [List.eq_nil_of_length_eq_zero h3, List.append_nil] at c2
          rw [← c2]; exact c1.symm
        · rw [if_neg h4] at h; simp at h
      · rw [if_neg h3] at h; simp at h
    · rw [if_neg h2] at h; exact absurd h h2
  · rw [if_neg h1] at h; exact absurd h h1
theorem dec_err (b : List Int) : (decF b).2.2 = 0 ∨ (((decF b).2.2 = 2 ∨ (decF b).2.2 = 11) ∧ (decF b).1 = [] ∧ (decF b).2.1 = []) := by
  unfold decF
  rcases rdIs_err b with h1 | ⟨h1, _⟩
  · rw [if_pos h1]
    rcases rdIs_err (rdIs b).2.2 with h2 | ⟨h2, _⟩
    · rw [if_pos h2]
      split
      · split <;> simp
      · simp
    · rw [if_neg (by omega)]; simp [h2]
  · rw [if_neg (by omega)]; simp [h1]
theorem dec_read_ok {b : List Int} (hB : Bytes b) (h : (decF b).2.2 = 0) : readF b = ((decF b).1, (decF b).2.1, true) := by
  obtain ⟨h1, h2⟩ := dec_ok hB h
  have := read_enc h1
  rwa [h2] at this
theorem dec_read_no {b : List Int} (h : (decF b).2.2 ≠ 0) : readF b = ([], [], false) := by
  unfold readF
  split
  · rfl
  · rename_i h0
    split
    · rfl
    · split
      · rename_i h2
        exfalso
        have hv : vB (tkO b) (tkO (rsO b)) = true := by
          cases hv : vB (tkO b) (tkO (rsO b)) with
          | true => rfl
          | false =>
            unfold encM at h2
            rw [if_neg (by simp [hv])] at h2
            rw [← h2] at h0; simp at h0
        have := dec_enc hv
        rw [h2] at this
        rw [this] at h
        exact h rfl
      · rfl
theorem encM_bytes (o n : List Int) : Bytes (encM o n) := by
  unfold encM
  split
  · rename_i h
    have e := encM_yes h
    unfold encM at e
    rw [if_pos h] at e
    rw [e]
    obtain ⟨l1, l2, l3⟩ := v_lens h
    have hr := v_range h
    intro x hx
    simp only [part, List.mem_append, List.mem_cons, List.mem_map] at hx
    rcases hx with (rfl | ⟨y, hy, rfl⟩) | (rfl | ⟨y, hy, rfl⟩)
    · omega
    · have := hr y (.inl hy); omega
    · omega
    · have := hr y (.inr hy); omega
  · intro x hx; simp at hx
theorem encM_len (o n : List Int) : (encM o n).length ≤ 20 := by
  unfold encM
  split
  · rename_i h
    have e := encM_yes h
    unfold encM at e
    rw [if_pos h] at e
    rw [e]
    obtain ⟨l1, l2, l3⟩ := v_lens h
    rw [List.length_append, part_len, part_len]; omega
  · simp
end Go.Proofs.Ytnpfbpfobbadaaa

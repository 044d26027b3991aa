import Derived.Test.YtnpfbpfobbadaaaQInt
namespace Go.Quo
/-! ### The number that a quorum has reached -/
def cntGe (vs : List Int) (x : Int) : Nat := (vs.filter fun v => decide (x ≤ v)).length
def medF (vs : List Int) : Int := gd (srt vs) (vs.length - (vs.length / 2 + 1))
theorem cntGe_perm {a b : List Int} (h : a.Perm b) (x : Int) : cntGe a x = cntGe b x := (h.filter _).length_eq
theorem cntGe_append (a b : List Int) (x : Int) : cntGe (a ++ b) x = cntGe a x + cntGe b x := by simp [cntGe]
theorem cntGe_le (a : List Int) (x : Int) : cntGe a x ≤ a.length := List.length_filter_le _ _
theorem cntGe_all {a : List Int} {x : Int} (h : ∀ v ∈ a, x ≤ v) : cntGe a x = a.length := by
  unfold cntGe
  rw [List.filter_eq_self.2 (fun v hv => by simpa using h v hv)]
theorem cntGe_none {a : List Int} {x : Int} (h : ∀ v ∈ a, v < x) : cntGe a x = 0 := by
  unfold cntGe
  rw [List.filter_eq_nil_iff.2 (fun v hv => by have := h v hv; simp; omega)]; rfl
theorem med_iff {vs : List Int} (h : 0 < vs.length) (x : Int) : vs.length / 2 + 1 ≤ cntGe vs x ↔ x ≤ medF vs := by
  have hl := srt_length vs
  have hk : vs.length - (vs.length / 2 + 1) < (srt vs).length := by omega
  unfold medF
  rw [gd_get hk, ← cntGe_perm (srt_perm vs) x]
  generalize hkk : vs.length - (vs.length / 2 + 1) = k at *
  constructor
  · intro hc
    by_cases hx : x ≤ (srt vs)[k]
    · exact hx
    · exfalso
      have e : srt vs = (srt vs).take (k + 1) ++ (srt vs).drop (k + 1) := (List.take_append_drop _ _).symm
      rw [e, cntGe_append, cntGe_none (a := (srt vs).take (k + 1))] at hc
      · have := cntGe_le ((srt vs).drop (k + 1)) x
        simp at this
        omega
      · intro v hv
        obtain ⟨i, hi, rfl⟩ := List.mem_iff_getElem.1 hv
        simp at hi
        rw [List.getElem_take]
        rcases Nat.lt_or_ge i k with h1 | h1
        · have := srt_mono h1 hk; omega
        · have : i = k := by omega
          subst this; omega
  · intro hx
    have e : srt vs = (srt vs).take k ++ (srt vs).drop k := (List.take_append_drop _ _).symm
    rw [e, cntGe_append, cntGe_all (a := (srt vs).drop k)]
    · simp; omega
    · intro v hv
      obtain ⟨i, hi, rfl⟩ := List.mem_iff_getElem.1 hv
      simp at hi
      rw [List.getElem_drop]
      rcases Nat.eq_zero_or_pos i with h1 | h1
      · subst h1; simpa using hx
      · have := srt_mono (zs := vs) (i := k) (j := k + i) (by omega) (by omega); omega
theorem med_mem {vs : List Int} (h : 0 < vs.length) : medF vs ∈ vs := by
  have hl := srt_length vs
  have hk : vs.length - (vs.length / 2 + 1) < (srt vs).length := by omega
  unfold medF
  rw [gd_get hk]
  exact (srt_perm vs).mem_iff.1 (List.getElem_mem hk)
/-- The number of a member: what the law's closure answers. -/
def numOf (all hv : List Int) (m : Int) : Int := gd hv (all.findIdx (· == m))
theorem numOf_at {all hv : List Int} {m : Int} {k : Nat} (hk : k < all.length) (hm : gd all k = m) (hn : ∀ j, j < k → gd all j ≠ m) : numOf all hv m = gd hv k := by
  unfold numOf
  congr 1
  rw [List.findIdx_eq hk]
  refine ⟨by rw [← gd_get hk, hm]; simp, fun j hj => ?_⟩
  have := hn j hj
  rw [gd_get (by omega)] at this
  simpa using this
def comF (o n : List Int) (num : Int → Int) : Int := if vB o n = true then (if 0 < n.length then min (medF (o.map num)) (medF (n.map num)) else medF (o.map num)) else 0
def yesF (all hv : List Int) (x : Int) : List Int := ((List.range all.length).filter fun i => decide (x ≤ gd hv i)).map (gd all)
def mostStep (p : Int → Bool) (s : Int × Bool) (x : Int) : Int × Bool := if (p x && (!s.2 || decide (s.1 < x))) = true then (x, true) else s
def mostF (p : Int → Bool) (hv : List Int) : Int := (hv.foldl (mostStep p) (0, false)).1
theorem most_inv (p : Int → Bool) : ∀ (t hv : List Int) (s : Int × Bool), ((s.2 = false → ∀ x ∈ t, p x = false) ∧ (s.2 = true → s.1 ∈ t ∧ p s.1 = true ∧ ∀ x ∈ t, p x = true → x ≤ s.1)) →
    ∀ r, r = hv.foldl (mostStep p) s → ((r.2 = false → ∀ x ∈ t ++ hv, p x = false) ∧ (r.2 = true → r.1 ∈ t ++ hv ∧ p r.1 = true ∧ ∀ x ∈ t ++ hv, p x = true → x ≤ r.1))
  | t, [], s, h, r, hr => by simp at hr; subst hr; simpa using h
  | t, a :: hv, s, h, r, hr => by
    rw [List.foldl_cons] at hr
    have := most_inv p (t ++ [a]) hv (mostStep p s a) ?_ r hr
    · simpa using this
    · unfold mostStep
      split
      · rename_i hc
        simp at hc
        refine ⟨by simp, fun _ => ⟨by simp, hc.1, fun x hx hp => ?_⟩⟩
        rw [List.mem_append, List.mem_singleton] at hx
        rcases hx with hx | rfl
        · rcases hc.2 with h2 | h2
          · have := h.1 h2 x hx; rw [this] at hp; cases hp
          · cases hs : s.2 with
            | false => have := h.1 hs x hx; rw [this] at hp; cases hp
            | true => have := (h.2 hs).2.2 x hx hp; simp only; omega
        · exact Int.le_refl _
      · rename_i hc
        simp at hc
        refine ⟨fun hs x hx => ?_, fun hs => ?_⟩
        · rw [List.mem_append, List.mem_singleton] at hx
          rcases hx with hx | rfl
          · exact h.1 hs x hx
          · cases hp : p x with
            | false => rfl
            | true => have := (hc hp).1; rw [hs] at this; cases this
        · obtain ⟨h1, h2, h3⟩ := h.2 hs
          refine ⟨by simp [h1], h2, fun x hx hp => ?_⟩
          rw [List.mem_append, List.mem_singleton] at hx
          rcases hx with hx | rfl
          · exact h3 x hx hp
          · exact (hc hp).2
theorem most_max {p : Int → Bool} {hv : List Int} {v : Int} (h1 : v ∈ hv) (h2 : p v = true) (h3 : ∀ x ∈ hv, p x = true → x ≤ v) : mostF p hv = v := by
  have := most_inv p [] hv (0, false) (by simp) _ rfl
  rw [List.nil_append] at this
  unfold mostF
  generalize hv.foldl (mostStep p) (0, false) = r at *
  cases hr : r.2 with
  | false => have := this.1 hr v h1; rw [h2] at this; cases this
  | true =>
    obtain ⟨a, b, c⟩ := this.2 hr
    have := c v h1 h2
    have := h3 r.1 a b
    omega
theorem memF_nodup (o n : List Int) : (memF o n).Nodup := List.pairwise_iff_getElem.2 (fun i j hi hj hij => by have := List.pairwise_iff_getElem.1 (memF_up o n) i j hi hj hij; omega)
theorem yes_mem {all hv : List Int} (hn : all.Nodup) {m : Int} (hm : m ∈ all) (x : Int) : hasB (yesF all hv x) m = decide (x ≤ numOf all hv m) := by
  obtain ⟨k, hk, e⟩ := List.mem_iff_getElem.1 hm
  have hu : ∀ j, j < all.length → gd all j = m → j = k := by
    intro j hj hjm
    rw [gd_get hj, ← e] at hjm
    exact (List.getElem_inj hn).1 hjm
  have hnum : numOf all hv m = gd hv k := numOf_at hk (by rw [gd_get hk, e]) (fun j hj hjm => by have := hu j (by omega) hjm; omega)
  rw [hnum]
  have : hasB (yesF all hv x) m = true ↔ x ≤ gd hv k := by
    rw [hasB_mem]
    unfold yesF
    rw [List.mem_map]
    constructor
    · rintro ⟨j, hj, hjm⟩
      rw [List.mem_filter] at hj
      have hjl : j < all.length := by simpa using hj.1
      have := hu j hjl hjm
      subst this
      simpa using hj.2
    · intro hx
      exact ⟨k, by rw [List.mem_filter]; exact ⟨by simpa using hk, by simpa using hx⟩, by rw [gd_get hk, e]⟩
  cases hc : decide (x ≤ gd hv k) with
  | true => exact this.2 (by simpa using hc)
  | false =>
    cases hb : hasB (yesF all hv x) m with
    | false => rfl
    | true => have := this.1 hb; simp at hc; omega
theorem con_med {all hv l : List Int} (hn : all.Nodup) (hs : ∀ m ∈ l, m ∈ all) (h0 : 0 < l.length) (x : Int) : conQ l (yesF all hv x) = decide (x ≤ medF (l.map (numOf all hv))) := by
  have e : cnt l (yesF all hv x) = cntGe (l.map (numOf all hv)) x := by
    unfold cnt cntGe
    rw [List.filter_map, List.length_map]
    congr 1
    apply List.filter_congr
    intro m hm
    rw [yes_mem hn (hs m hm)]; rfl
  unfold conQ
  rw [e]
  have := med_iff (vs := l.map (numOf all hv)) (by simpa using h0) x
  rw [List.length_map] at this
  exact decide_eq_decide.2 this
theorem num_mem {all hv : List Int} (hl : hv.length = all.length) {m : Int} (hm : m ∈ all) : numOf all hv m ∈ hv := by
  unfold numOf
  have : all.findIdx (· == m) < all.length := List.findIdx_lt_length_of_exists ⟨m, hm, by simp⟩
  rw [gd_get (by omega)]
  exact List.getElem_mem _
theorem com_most {o n hv : List Int} (hv' : vB o n = true) (hl : hv.length = (memF o n).length) :
    comF o n (numOf (memF o n) hv) = mostF (fun x => reachB o n (yesF (memF o n) hv x)) hv := by
  obtain ⟨l1, l2, l3⟩ := v_lens hv'
  have hn := memF_nodup o n
  have so : ∀ m ∈ o, m ∈ memF o n := fun m hm => (mem_memF o n m).2 ⟨v_range hv' m (.inl hm), .inl hm⟩
  have sn : ∀ m ∈ n, m ∈ memF o n := fun m hm => (mem_memF o n m).2 ⟨v_range hv' m (.inr hm), .inr hm⟩
  have mo := med_mem (vs := o.map (numOf (memF o n) hv)) (by simp; omega)
  have eo : medF (o.map (numOf (memF o n) hv)) ∈ hv := by
    obtain ⟨m, hm, e⟩ := List.mem_map.1 mo
    rw [← e]; exact num_mem hl (so m hm)
  symm
  by_cases h0 : 0 < n.length
  · have mn := med_mem (vs := n.map (numOf (memF o n) hv)) (by simpa using h0)
    have en : medF (n.map (numOf (memF o n) hv)) ∈ hv := by
      obtain ⟨m, hm, e⟩ := List.mem_map.1 mn
      rw [← e]; exact num_mem hl (sn m hm)
    have hp : ∀ x, reachB o n (yesF (memF o n) hv x) = decide (x ≤ comF o n (numOf (memF o n) hv)) := by
      intro x
      unfold reachB comF
      rw [hv', if_pos rfl, if_pos h0, con_med hn so (by omega), con_med hn sn h0]
      simp
      have : ¬ n.length = 0 := by omega
      have hnn : n ≠ [] := by intro e; rw [e] at h0; simp at h0
      by_cases a : x ≤ medF (o.map (numOf (memF o n) hv)) <;> by_cases b : x ≤ medF (n.map (numOf (memF o n) hv)) <;> simp [a, b, hnn] <;> omega
    apply most_max
    · unfold comF
      rw [if_pos hv', if_pos h0]
      rcases Int.le_total (medF (o.map (numOf (memF o n) hv))) (medF (n.map (numOf (memF o n) hv))) with h | h
      · rw [Int.min_eq_left h]; exact eo
      · rw [Int.min_eq_right h]; exact en
    · simp only [hp]; simp
    · intro x _ hx
      simp only [hp] at hx; simpa using hx
  · have hn0 : n.length = 0 := by omega
    have hp : ∀ x, reachB o n (yesF (memF o n) hv x) = decide (x ≤ comF o n (numOf (memF o n) hv)) := by
      intro x
      unfold reachB comF
      rw [hv', if_pos rfl, if_neg h0, con_med hn so (by omega)]
      simp [hn0]
    apply most_max
    · unfold comF
      rw [if_pos hv', if_neg h0]; exact eo
    · simp only [hp]; simp
    · intro x _ hx
      simp only [hp] at hx; simpa using hx
end Go.Quo

import Derived.Test.YtipkicijfedfoaaDoorMRbl1
namespace Go.Proofs.YtipkicijfedfoaaDoor
set_option linter.unusedVariables false
set_option linter.unusedSimpArgs false
open Go.RowKit Go.Own Go.Quo Go.Inc Go.Wire
/-! ### KeepsCommonNode, plain -/
theorem cr_set {c : Cr} (h : crB c = true) {n at_ : Int} (hn : 1 ≤ n ∧ n ≤ 1099511627776) (ha : 0 ≤ at_ ∧ at_ ≤ 4095) (f : Bool) : crB { c with call := n, nodes := if f = true then [at_] else c.nodes } = true := by
  unfold crB numB reportB maxT at *
  simp only [Bool.and_eq_true, decide_eq_true_eq] at *
  obtain ⟨⟨⟨a1, a2⟩, a3⟩, ⟨⟨⟨⟨⟨⟨⟨⟨b1, b2⟩, b3⟩, b4⟩, b5⟩, b6⟩, b7⟩, b8⟩, b9⟩⟩ := h
  refine ⟨⟨⟨hn.1, hn.2⟩, a3⟩, ⟨⟨⟨⟨⟨⟨⟨⟨b1, b2⟩, b3⟩, ?_⟩, ?_⟩, b6⟩, b7⟩, b8⟩, b9⟩⟩
  · cases f
    · exact b4
    · exact Nat.one_pos
  · cases f
    · exact b5
    · show incB [at_] 0 4095 = true
      rw [incB_pw]
      refine ⟨by simp, fun m hm => ?_⟩
      have : m = at_ := by simpa using hm
      omega
theorem fur_at {a : Ic} {t : Cr} {m : Int} (ha : m ∈ a.nodes) (ht : m ∈ t.nodes) : m ∈ (furP a t).nodes := by
  show m ∈ (if 0 < (bothL a.nodes t.nodes).length then bothL a.nodes t.nodes else a.nodes)
  split
  · exact mem_bothL.2 ⟨ha, ht⟩
  · exact ha
theorem furs_at : ∀ (l : List Cr) (a : Ic) (m : Int), m ∈ a.nodes → (∀ t ∈ l, m ∈ t.nodes) → m ∈ (l.foldl furP a).nodes
  | [], a, m, h, _ => h
  | t :: l, a, m, h, hl => furs_at l _ m (fur_at h (hl t (by simp))) (fun u hu => hl u (by simp [hu]))
theorem furs_inc : ∀ (l : List Cr) (a : Ic), incB a.nodes 0 4095 = true → incB (l.foldl furP a).nodes 0 4095 = true
  | [], a, h => h
  | t :: l, a, h => furs_inc l _ (by
      show incB (if 0 < (bothL a.nodes t.nodes).length then bothL a.nodes t.nodes else a.nodes) 0 4095 = true
      split
      · exact incB_sub h (bothL_sub _ _)
      · exact h)
theorem cr_inc {t : Cr} (h : crB t = true) : incB t.nodes 0 4095 = true := by
  unfold crB reportB at h
  simp only [Bool.and_eq_true] at h
  exact h.2.1.1.1.1.2
theorem icB_from {id : Int} {t : Cr} (hid : numB id 1 = true) (h : crB t = true) : icB (fromI id t) = true := by
  have h1 := cr_call h
  have h2 : incB [t.call] 1 maxT = true := by
    rw [incB_pw]
    refine ⟨by simp, fun n hn => ?_⟩
    have : n = t.call := by simpa using hn
    unfold maxT; omega
  have h3 : incB ([] : List Int) 0 255 = true := by decide
  unfold crB at h
  unfold icB fromI
  simp only [Bool.and_eq_true] at *
  refine ⟨⟨⟨⟨⟨hid, h.2⟩, by simp⟩, h2⟩, h3⟩, by simp⟩
/-- a strictly rising list that holds a node has it once -/
theorem both_one {l : List Int} (h : incB l 0 4095 = true) {m : Int} (hm : m ∈ l) : (bothL l [m]).length = 1 := by
  have hnd := incB_nodup h
  have e : bothL l [m] = l.filter (fun n => n == m) := by
    unfold bothL
    refine List.filter_congr (fun n _ => ?_)
    rw [Bool.eq_iff_iff, beq_iff_eq]
    unfold hasB
    rw [List.contains_iff_mem, List.mem_singleton]
  rw [e]
  have h2 : (l.filter (fun n => n == m)).length = l.count m := by rw [List.count_eq_length_filter]
  rw [h2]
  have h3 := List.nodup_iff_count.1 hnd m
  have h4 := List.count_pos_iff.2 hm
  omega
/-- what comes of calls with numbers that differ, all with one node -/
theorem anw_common {cs : List Cr} {c0 : Cr} {id m : Int} (hid : numB id 1 = true) (h0 : c0 ∈ cs) (hv : ∀ t ∈ cs, crB t = true) (hd : (cs.map (·.call)).Nodup) (hm : ∀ t ∈ cs, m ∈ t.nodes) :
    ∃ Y, anwP (fromI id c0) cs = (Y, 0) ∧ (bothL Y.nodes [m]).length = 1 := by
  have hne : cs ≠ [] := fun e => by rw [e] at h0; simp at h0
  have hi := icB_from (id := id) hid (hv c0 h0)
  have hp := sortC_perm cs
  unfold anwP
  have hno : ¬ (icB (fromI id c0) = false ∨ cs = []) := by
    rintro (h | h)
    · rw [hi] at h; cases h
    · exact hne h
  rw [if_neg hno, if_neg (by rw [Bool.not_eq_false, List.all_eq_true]; exact hv)]
  cases hs : sortC cs with
  | nil => rw [hs] at hp; exact absurd (List.Perm.eq_nil hp.symm) hne
  | cons t0 r =>
    rw [hs] at hp
    have hmem := fun t => hp.mem_iff (a := t)
    have hnd := (hp.map (·.call)).nodup_iff.2 hd
    have hbase : Rl (fromI id t0) (fromI id t0) := ⟨rfl, rfl, rfl, rfl, List.Perm.refl _, by show [t0.call].Pairwise _; simp⟩
    obtain ⟨y, hy, hR⟩ := anwS_ok r (fromI id t0) (fromI id t0) hbase (by show ([t0.call] ++ r.map (·.call)).Nodup; exact hnd)
    dsimp only
    have hy2 : anwS (fromI (fromI id c0).id t0) r = some y := hy
    rw [hy2]
    dsimp only
    rw [if_neg (by show ¬ ((0 : Int) ≠ 0); simp)]
    refine ⟨_, rfl, ?_⟩
    show (bothL y.nodes [m]).length = 1
    rw [← hR.nodes]
    exact both_one (furs_inc r _ (cr_inc (hv t0 ((hmem t0).1 (by simp))))) (furs_at r _ m (hm t0 ((hmem t0).1 (by simp))) (fun t ht => hm t ((hmem t).1 (by simp [ht]))))
theorem nodup_of_idx {α : Type} {l : List α} {f : α → Int} (h : ∀ (i : Nat) u, l[i]? = some u → f u = (i : Int) + 1) : (l.map f).Nodup := by
  rw [List.Nodup, List.pairwise_iff_getElem]
  intro i j hi hj hij
  have hi2 : i < l.length := by simpa using hi
  have hj2 : j < l.length := by simpa using hj
  have a := h i _ (List.getElem?_eq_getElem hi2)
  have b := h j _ (List.getElem?_eq_getElem hj2)
  rw [List.getElem_map, List.getElem_map, a, b]
  omega
end Go.Proofs.YtipkicijfedfoaaDoor

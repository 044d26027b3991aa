import Derived.Test.YtipkicijfedfoaaDoorIPlain
import Derived.Test.YtipkicijfedfoaaDoorNPlain
import Derived.Test.YtipkicijfedfoaaDoorNod6
namespace Go.Inc
open Go.Quo
/-! ### Deriving an incident from calls, plain -/
def bothL (a b : List Int) : List Int := a.filter (fun n => hasB b n)
def furP (x : Ic) (c : Cr) : Ic :=
  { x with
    urg := if c.urg < x.urg then c.urg else x.urg
    code := if c.urg < x.urg then c.code else x.code
    nodes := if 0 < (bothL x.nodes c.nodes).length then bothL x.nodes c.nodes else x.nodes
    since := min x.since c.since
    calls := x.calls ++ [c.call] }
def firP (x : Ic) (c : Cr) : Ic := { x with urg := c.urg, code := c.code, nodes := c.nodes, since := c.since, calls := [c.call] }
def putK (l : List Int) (n : Int) : Nat := (l.takeWhile (fun a => decide (a < n))).length
def putL (l : List Int) (n : Int) : List Int := l.take (putK l n) ++ n :: l.drop (putK l n)
theorem incB_pw {l : List Int} {lo hi : Int} : incB l lo hi = true ↔ l.Pairwise (fun a b => a < b) ∧ ∀ n ∈ l, lo ≤ n ∧ n ≤ hi := by
  constructor
  · intro h
    refine ⟨?_, fun n hn => ?_⟩
    · rw [List.pairwise_iff_getElem]
      intro i j hi hj hij
      have := incB_lt h i j hij hj
      rw [gd_get hi, gd_get hj] at this
      exact this
    · obtain ⟨i, hi, rfl⟩ := List.mem_iff_getElem.1 hn
      have := incB_le h hi
      rw [gd_get hi] at this
      exact this
  · rintro ⟨h1, h2⟩
    rw [incB_iff]
    intro i hi
    have h3 := h2 _ (List.getElem_mem hi)
    unfold incAt
    rw [gd_get hi]
    simp only [Bool.and_eq_true, Bool.or_eq_true, decide_eq_true_eq]
    refine ⟨h3, ?_⟩
    by_cases h0 : i = 0
    · exact .inl h0
    · right
      rw [gd_get (by omega)]
      exact (List.pairwise_iff_getElem.1 h1) (i - 1) i (by omega) hi (by omega)
theorem incB_sub {l k : List Int} {lo hi : Int} (h : incB l lo hi = true) (hs : k.Sublist l) : incB k lo hi = true := by
  rw [incB_pw] at h ⊢
  exact ⟨h.1.sublist hs, fun n hn => h.2 n (hs.mem hn)⟩
theorem bothL_sub (a b : List Int) : (bothL a b).Sublist a := List.filter_sublist
theorem mem_bothL {a b : List Int} {n : Int} : n ∈ bothL a b ↔ n ∈ a ∧ n ∈ b := by
  unfold bothL hasB
  rw [List.mem_filter, List.contains_iff_mem]
/-- what the sets of nodes have in common is what the lists have in common -/
theorem nodesOf_map {l : List Int} (h : incB l 0 4095 = true) : (nodesOf l).map (fun n : Nat => (n : Int)) = l := by
  have h2 := (incB_pw.1 h).2
  unfold nodesOf
  rw [List.filter_eq_self.2 (fun n hn => by have := h2 n hn; simp; omega), List.map_map]
  conv => rhs; rw [← List.map_id l]
  refine List.map_congr_left (fun n hn => ?_)
  have := h2 n hn
  simp only [Function.comp_apply, id_eq]
  omega
theorem nodesOf_pw {l : List Int} (h : incB l 0 4095 = true) : (nodesOf l).Pairwise (fun a b => a < b) := by
  have h1 := (incB_pw.1 h).1
  have e := nodesOf_map h
  rw [← e, List.pairwise_map] at h1
  exact h1.imp (fun h => by omega)
theorem mem_nodesOf {l : List Int} (h : incB l 0 4095 = true) (n : Nat) : n ∈ nodesOf l ↔ (n : Int) ∈ l := by
  have e := nodesOf_map h
  constructor
  · intro hn; rw [← e]; exact List.mem_map_of_mem hn
  · intro hn
    rw [← e] at hn
    obtain ⟨m, hm, hmn⟩ := List.mem_map.1 hn
    have : m = n := by omega
    exact this ▸ hm
def commonN (a b : List Int) : List Int := (listW (andW (ofW (nodesOf a)) (ofW (nodesOf b)))).map (fun n : Nat => (n : Int))
theorem commonN_eq {a b : List Int} (ha : incB a 0 4095 = true) (hb : incB b 0 4095 = true) : commonN a b = bothL a b := by
  unfold commonN
  rw [common_eq (nodesOf_pw ha) nodesOf_lt nodesOf_lt]
  have e := nodesOf_map ha
  have e2 : bothL a b = ((nodesOf a).map (fun n : Nat => (n : Int))).filter (fun n => hasB b n) := by rw [e]; rfl
  rw [e2, List.filter_map]
  congr 1
  refine List.filter_congr (fun n _ => ?_)
  unfold hasB
  rw [Bool.eq_iff_iff, decide_eq_true_eq, mem_nodesOf hb]
  simp
/-! ### Calls in order -/
def leC (a b : Cr) : Prop := a.since < b.since ∨ a.since = b.since ∧ a.call ≤ b.call
def ltC (a b : Cr) : Prop := a.since < b.since ∨ a.since = b.since ∧ a.call < b.call
instance (a b : Cr) : Decidable (ltC a b) := by unfold ltC; infer_instance
theorem not_ltC {a b : Cr} : ¬ ltC a b ↔ leC b a := by unfold ltC leC; omega
def insK (l : List Cr) (t : Cr) : Nat := (l.takeWhile (fun a => decide (ltC a t))).length
def insL (l : List Cr) (t : Cr) : List Cr := l.take (insK l t) ++ t :: l.drop (insK l t)
def sortC (l : List Cr) : List Cr := l.foldl insL []
theorem dw_head {α : Type} (p : α → Bool) : ∀ (l : List α) (x : α) (r : List α), l.dropWhile p = x :: r → p x = false
  | [], x, r, h => by simp at h
  | a :: l, x, r, h => by
    rw [List.dropWhile_cons] at h
    by_cases ha : p a = true
    · rw [if_pos ha] at h; exact dw_head p l x r h
    · rw [if_neg ha] at h
      injection h with h1 h2
      subst h1; simpa using ha
theorem tw_mem {α : Type} {p : α → Bool} : ∀ {l : List α} {x : α}, x ∈ l.takeWhile p → p x = true
  | [], x, h => by simp at h
  | a :: l, x, h => by
    rw [List.takeWhile_cons] at h
    by_cases ha : p a = true
    · rw [if_pos ha] at h
      rcases List.mem_cons.1 h with rfl | h
      · exact ha
      · exact tw_mem h
    · rw [if_neg ha] at h; simp at h
theorem tw_take {α : Type} (p : α → Bool) (l : List α) : l.take (l.takeWhile p).length = l.takeWhile p := by
  conv => lhs; arg 2; rw [← List.takeWhile_append_dropWhile (p := p) (l := l)]
  rw [List.take_left']; rfl
theorem tw_drop {α : Type} (p : α → Bool) (l : List α) : l.drop (l.takeWhile p).length = l.dropWhile p := by
  conv => lhs; arg 2; rw [← List.takeWhile_append_dropWhile (p := p) (l := l)]
  rw [List.drop_left']; rfl
theorem insL_perm (l : List Cr) (t : Cr) : (insL l t).Perm (l ++ [t]) := by
  unfold insL
  refine List.perm_middle.trans ?_
  rw [List.take_append_drop]
  exact (List.perm_append_singleton t l).symm
theorem insL_sorted {l : List Cr} (h : l.Pairwise leC) (t : Cr) : (insL l t).Pairwise leC := by
  unfold insL insK
  rw [tw_take, tw_drop]
  rw [List.pairwise_append, List.pairwise_cons]
  have h1 := h
  rw [← List.takeWhile_append_dropWhile (p := fun a => decide (ltC a t)) (l := l), List.pairwise_append] at h1
  have hd : ∀ b ∈ l.dropWhile (fun a => decide (ltC a t)), leC t b := by
    intro b hb
    cases hc : l.dropWhile (fun a => decide (ltC a t)) with
    | nil => rw [hc] at hb; simp at hb
    | cons x r =>
      have hx : ¬ ltC x t := by
        have := dw_head _ l x r hc
        simpa using this
      rw [hc] at hb
      have hx2 := not_ltC.1 hx
      rcases List.mem_cons.1 hb with rfl | hb
      · exact hx2
      · have h2 := h1.2.1
        rw [hc, List.pairwise_cons] at h2
        have h3 := h2.1 b hb
        unfold leC at *; omega
  refine ⟨h1.1, ⟨hd, h1.2.1⟩, ?_⟩
  intro a ha b hb
  rcases List.mem_cons.1 hb with rfl | hb
  · have := tw_mem ha
    simp only [decide_eq_true_eq] at this
    unfold ltC at this; unfold leC; omega
  · exact h1.2.2 a ha b hb
theorem sortC_aux : ∀ (l a : List Cr), a.Pairwise leC → (l.foldl insL a).Pairwise leC ∧ (l.foldl insL a).Perm (a ++ l)
  | [], a, h => ⟨h, by simp⟩
  | c :: r, a, h => by
    obtain ⟨h1, h2⟩ := sortC_aux r (insL a c) (insL_sorted h c)
    refine ⟨h1, h2.trans ?_⟩
    have := (insL_perm a c).append_right r
    simpa using this
theorem sortC_sorted (l : List Cr) : (sortC l).Pairwise leC := (sortC_aux l [] List.Pairwise.nil).1
theorem sortC_perm (l : List Cr) : (sortC l).Perm l := by
  have := (sortC_aux l [] List.Pairwise.nil).2
  rw [List.nil_append] at this; exact this
theorem sortC_unique {l s : List Cr} (hd : (l.map (·.call)).Nodup) (hp : s.Perm l) (hs : s.Pairwise leC) : s = sortC l := by
  refine List.Perm.eq_of_pairwise (le := leC) (fun a b ha hb h1 h2 => ?_) hs (sortC_sorted l) (hp.trans (sortC_perm l).symm)
  have hc : a.call = b.call := by unfold leC at h1 h2; omega
  exact Own.inj_of_nodup_map (fun c : Cr => c.call) hd (hp.mem_iff.1 ha) ((sortC_perm l).mem_iff.1 hb) hc
/-! ### Calls put in order -/
theorem putL_perm (l : List Int) (n : Int) : (putL l n).Perm (l ++ [n]) := by
  unfold putL
  refine List.perm_middle.trans ?_
  rw [List.take_append_drop]
  exact (List.perm_append_singleton n l).symm
theorem putK_le (l : List Int) (n : Int) : putK l n ≤ l.length := (List.takeWhile_sublist _).length_le
theorem putL_sorted {l : List Int} (h : l.Pairwise (fun a b => a < b)) {n : Int} (hn : n ∉ l) : (putL l n).Pairwise (fun a b => a < b) := by
  unfold putL putK
  rw [tw_take, tw_drop]
  rw [List.pairwise_append, List.pairwise_cons]
  have h1 := h
  rw [← List.takeWhile_append_dropWhile (p := fun a => decide (a < n)) (l := l), List.pairwise_append] at h1
  have hd : ∀ b ∈ l.dropWhile (fun a => decide (a < n)), n < b := by
    intro b hb
    cases hc : l.dropWhile (fun a => decide (a < n)) with
    | nil => rw [hc] at hb; simp at hb
    | cons x r =>
      have hx : ¬ x < n := by
        have := dw_head _ l x r hc
        simpa using this
      have hxl : x ∈ l := (List.dropWhile_sublist (fun a => decide (a < n))).mem (by rw [hc]; simp)
      have hxn : x ≠ n := fun e => hn (e ▸ hxl)
      rw [hc] at hb
      rcases List.mem_cons.1 hb with rfl | hb
      · omega
      · have h2 := h1.2.1
        rw [hc, List.pairwise_cons] at h2
        have h3 := h2.1 b hb
        omega
  refine ⟨h1.1, ⟨hd, h1.2.1⟩, ?_⟩
  intro a ha b hb
  rcases List.mem_cons.1 hb with rfl | hb
  · have := tw_mem ha
    simpa using this
  · exact h1.2.2 a ha b hb
/-- place putK holds n just if n is in the list -/
theorem putK_has {l : List Int} (h : l.Pairwise (fun a b => a < b)) (n : Int) : (∃ _ : putK l n < l.length, gd l (putK l n) = n) ↔ n ∈ l := by
  constructor
  · rintro ⟨hk, e⟩
    rw [gd_get hk] at e
    exact e ▸ List.getElem_mem hk
  · intro hn
    have h1 := h
    rw [← List.takeWhile_append_dropWhile (p := fun a => decide (a < n)) (l := l), List.pairwise_append] at h1
    have hn2 : n ∈ l.dropWhile (fun a => decide (a < n)) := by
      have := hn
      rw [← List.takeWhile_append_dropWhile (p := fun a => decide (a < n)) (l := l), List.mem_append] at this
      rcases this with h2 | h2
      · have := tw_mem h2; simp at this
      · exact h2
    cases hc : l.dropWhile (fun a => decide (a < n)) with
    | nil => rw [hc] at hn2; simp at hn2
    | cons x r =>
      have hx : ¬ x < n := by
        have := dw_head _ l x r hc
        simpa using this
      have hxn : x = n := by
        rw [hc] at hn2
        rcases List.mem_cons.1 hn2 with e | h2
        · exact e.symm
        · have h3 := h1.2.1
          rw [hc, List.pairwise_cons] at h3
          have := h3.1 n h2
          omega
      have hd := tw_drop (fun a => decide (a < n)) l
      rw [hc] at hd
      have hk : putK l n < l.length := by
        unfold putK
        rcases Nat.lt_or_ge (l.takeWhile (fun a => decide (a < n))).length l.length with h2 | h2
        · exact h2
        · rw [List.drop_eq_nil_of_le h2] at hd; cases hd
      refine ⟨hk, ?_⟩
      rw [gd_get hk]
      have := List.getElem_cons_drop hk
      unfold putK at this
      rw [hd] at this
      injection this with e1 e2
      unfold putK
      rw [e1, hxn]
theorem pw_le_unique {s t : List Int} (hp : s.Perm t) (hs : s.Pairwise (fun a b => a ≤ b)) (ht : t.Pairwise (fun a b => a ≤ b)) : s = t :=
  List.Perm.eq_of_pairwise (le := fun a b : Int => a ≤ b) (fun a b _ _ h1 h2 => by omega) hs ht hp
end Go.Inc

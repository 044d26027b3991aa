import Derived.Test.YtipkicijfedfoaaDoorOpen
namespace Go.Quo
/-! ### Member lists and quorums, plain -/
def gd (l : List Int) (k : Nat) : Int := l.getD k 0
theorem gd_get {l : List Int} {k : Nat} (h : k < l.length) : gd l k = l[k] := by simp [gd, List.getD, List.getElem?_eq_getElem h]
def okAt (l : List Int) (i : Nat) : Bool := decide (0 ≤ gd l i) && decide (gd l i ≤ 63) && (decide (i = 0) || decide (gd l (i - 1) < gd l i))
def ascB (l : List Int) : Bool := (List.range l.length).all (okAt l)
def mlB (l : List Int) : Bool := decide (1 ≤ l.length) && decide (l.length ≤ 9) && ascB l
theorem asc_bad {l : List Int} {k : Nat} (hk : k < l.length) (h : okAt l k = false) : ascB l = false := by
  unfold ascB
  rw [List.all_eq_false]
  exact ⟨k, by simpa using hk, by simp [h]⟩
theorem asc_all {l : List Int} (h : ∀ j, j < l.length → okAt l j = true) : ascB l = true := by
  unfold ascB
  rw [List.all_eq_true]
  intro k hk
  exact h k (by simpa using hk)
def hasB (l : List Int) (x : Int) : Bool := l.contains x
def cnt (l yes : List Int) : Nat := (l.filter (hasB yes)).length
theorem cnt_le (l yes : List Int) : cnt l yes ≤ l.length := List.length_filter_le _ _
theorem cnt_step (l yes : List Int) (k : Nat) (hk : k < l.length) : cnt (l.take (k + 1)) yes = cnt (l.take k) yes + if hasB yes (gd l k) = true then 1 else 0 := by
  unfold cnt
  rw [List.take_succ_eq_append_getElem hk, List.filter_append, List.length_append]
  rw [gd_get hk]
  cases h : hasB yes l[k] with
  | true => rw [List.filter_cons_of_pos (by simpa using h)]; simp
  | false => rw [List.filter_cons_of_neg (by simp only [h]; exact Bool.false_ne_true)]; simp
def conQ (l yes : List Int) : Bool := decide (l.length / 2 + 1 ≤ cnt l yes)
def vB (o n : List Int) : Bool := mlB o && (decide (n.length = 0) || mlB n)
def reachB (o n yes : List Int) : Bool := vB o n && conQ o yes && (decide (n.length = 0) || conQ n yes)
theorem has_iff (yes : List Int) (x : Int) : hasB yes x = true ↔ ∃ j, j < yes.length ∧ gd yes j = x := by
  unfold hasB
  rw [List.contains_iff_mem, List.mem_iff_getElem]
  constructor
  · rintro ⟨j, hj, e⟩
    exact ⟨j, hj, by rw [gd_get hj, e]⟩
  · rintro ⟨j, hj, e⟩
    exact ⟨j, hj, by rw [gd_get hj] at e; exact e⟩
theorem has_no {yes : List Int} {x : Int} (h : ∀ j, j < yes.length → gd yes j ≠ x) : hasB yes x = false := by
  cases hc : hasB yes x with
  | false => rfl
  | true =>
    obtain ⟨j, hj, e⟩ := (has_iff yes x).1 hc
    exact absurd e (h j hj)
end Go.Quo

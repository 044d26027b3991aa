import Derived.Test.YtnmmiiajcjcccaaLPlain
namespace Go.Aid
open Go.Quo (gd gd_get)
/-! ### Mutual aid, plain: the order of asking -/
def cmpI (x y : Int) : Int := if x < y then -1 else if y < x then 1 else 0
def firstNZ : List Int → Int
  | [] => 0
  | x :: r => if x = 0 then firstNZ r else x
def askC (D sp : List Int) (x y : Nat) : Int := firstNZ [cmpI (gd D x) (gd D y), cmpI (gd sp y) (gd sp x), cmpI x y]
def askLt (D sp : List Int) (x y : Nat) : Prop := gd D x < gd D y ∨ (gd D x = gd D y ∧ (gd sp y < gd sp x ∨ (gd sp y = gd sp x ∧ x < y)))
instance (D sp : List Int) (x y : Nat) : Decidable (askLt D sp x y) := by unfold askLt; infer_instance
theorem askC_lt (D sp : List Int) (x y : Nat) : askC D sp x y < 0 ↔ askLt D sp x y := by
  unfold askC askLt cmpI
  simp only [firstNZ]
  generalize gd D x = a
  generalize gd D y = b
  generalize gd sp x = c
  generalize gd sp y = d
  by_cases h1 : a < b
  · simp [h1]
  · by_cases h2 : b < a
    · simp [h1, h2]; omega
    · have h3 : a = b := by omega
      subst h3
      by_cases h4 : d < c
      · simp [h4]
      · by_cases h5 : c < d
        · simp [h4, h5]; omega
        · have h6 : c = d := by omega
          subst h6
          by_cases h7 : x < y
          · simp [h7]
          · by_cases h8 : y < x <;> simp [h7, h8]
theorem askLt_irrefl (D sp : List Int) (x : Nat) : ¬ askLt D sp x x := by unfold askLt; omega
theorem askLt_trans {D sp : List Int} {x y z : Nat} (h1 : askLt D sp x y) (h2 : askLt D sp y z) : askLt D sp x z := by unfold askLt at *; omega
theorem askLt_ntrans {D sp : List Int} {x y z : Nat} (h1 : ¬ askLt D sp x y) (h2 : ¬ askLt D sp y z) : ¬ askLt D sp x z := by unfold askLt at *; omega
theorem askLt_total {D sp : List Int} {x y : Nat} (h1 : ¬ askLt D sp x y) (h2 : ¬ askLt D sp y x) : x = y := by unfold askLt at *; omega
def askP (dist : Int) (sp : List Int) (i : Nat) : Bool := (i : Int) != dist && decide (0 < gd sp i)
def askN (dist : Int) (sp : List Int) (k : Nat) : List Nat := (List.range k).filter (askP dist sp)
theorem askN_succ (dist : Int) (sp : List Int) (k : Nat) : askN dist sp (k + 1) = if askP dist sp k = true then askN dist sp k ++ [k] else askN dist sp k := by
  unfold askN
  rw [List.range_succ, List.filter_append]
  by_cases h : askP dist sp k = true
  · rw [if_pos h]; simp [h]
  · rw [if_neg h]; simp [h]
theorem askN_lt {dist : Int} {sp : List Int} {k x : Nat} (h : x ∈ askN dist sp k) : x < k := by
  unfold askN at h
  exact List.mem_range.1 (List.mem_filter.1 h).1
theorem askN_len (dist : Int) (sp : List Int) (k : Nat) : (askN dist sp k).length ≤ k := by
  unfold askN
  exact Nat.le_trans (List.length_filter_le _ _) (by simp)
def askLe (D sp : List Int) (x y : Nat) : Bool := !decide (askLt D sp y x)
def askS (D : List Int) (dist : Int) (sp : List Int) : List Nat := (askN dist sp D.length).mergeSort (askLe D sp)
def askF (D : List Int) (dist : Int) (sp : List Int) : List Int := if dist < 0 ∨ (D.length : Int) ≤ dist ∨ sp.length ≠ D.length then [] else (askS D dist sp).map Int.ofNat
/-- The reference's insertion. -/
def insI (D sp : List Int) (out : List Nat) (i : Nat) : List Nat :=
  match out with
  | [] => [i]
  | x :: r => if gd D x < gd D i ∨ (gd D x = gd D i ∧ gd sp i ≤ gd sp x) then x :: insI D sp r i else i :: x :: r
def refN (D : List Int) (dist : Int) (sp : List Int) : Nat → List Nat
  | 0 => []
  | k + 1 => if askP dist sp k = true then insI D sp (refN D dist sp k) k else refN D dist sp k
theorem insI_perm (D sp : List Int) (i : Nat) : ∀ out, (insI D sp out i).Perm (out ++ [i])
  | [] => List.Perm.refl _
  | x :: r => by
    unfold insI
    split
    · exact (insI_perm D sp i r).cons x
    · exact (List.perm_append_singleton i (x :: r)).symm
theorem insI_sorted {D sp : List Int} {i : Nat} : ∀ {out : List Nat}, out.Pairwise (askLt D sp) → (∀ x ∈ out, x < i) → (insI D sp out i).Pairwise (askLt D sp)
  | [], _, _ => by unfold insI; exact List.pairwise_singleton _ _
  | x :: r, h, hn => by
    have hxi := hn x (by simp)
    rw [List.pairwise_cons] at h
    unfold insI
    split
    · next hc =>
      rw [List.pairwise_cons]
      refine ⟨fun y hy => ?_, insI_sorted h.2 (fun y hy => hn y (by simp [hy]))⟩
      rcases List.mem_append.1 ((insI_perm D sp i r).mem_iff.1 hy) with hy | hy
      · exact h.1 y hy
      · obtain rfl : y = i := by simpa using hy
        unfold askLt; omega
    · next hc =>
      have hix : askLt D sp i x := by unfold askLt; omega
      rw [List.pairwise_cons, List.pairwise_cons]
      refine ⟨fun y hy => ?_, h⟩
      rcases List.mem_cons.1 hy with rfl | hy
      · exact hix
      · exact askLt_trans hix (h.1 y hy)
theorem insI_at : ∀ (D sp : List Int) (out : List Nat) (i k : Nat), k ≤ out.length → (∀ j x, j < k → out[j]? = some x → (gd D x < gd D i ∨ (gd D x = gd D i ∧ gd sp i ≤ gd sp x))) → (∀ x, out[k]? = some x → ¬ (gd D x < gd D i ∨ (gd D x = gd D i ∧ gd sp i ≤ gd sp x))) → insI D sp out i = out.take k ++ [i] ++ out.drop k
  | D, sp, [], i, k, hk, _, _ => by obtain rfl : k = 0 := by simpa using hk
                                    rfl
  | D, sp, x :: r, i, 0, _, _, h => by
    unfold insI
    rw [if_neg (h x rfl)]; rfl
  | D, sp, x :: r, i, k + 1, hk, h1, h2 => by
    unfold insI
    rw [if_pos (h1 0 x (by omega) rfl), insI_at D sp r i k (by simpa using hk) (fun j y hj hy => h1 (j + 1) y (by omega) (by simpa using hy)) (fun y hy => h2 y (by simpa using hy))]
    rfl
theorem refN_perm (D : List Int) (dist : Int) (sp : List Int) : ∀ k, (refN D dist sp k).Perm (askN dist sp k)
  | 0 => List.Perm.refl _
  | k + 1 => by
    rw [askN_succ]
    unfold refN
    split
    · exact (insI_perm D sp k _).trans ((refN_perm D dist sp k).append_right _)
    · exact refN_perm D dist sp k
theorem refN_len (D : List Int) (dist : Int) (sp : List Int) (k : Nat) : (refN D dist sp k).length ≤ k := by
  rw [(refN_perm D dist sp k).length_eq]; exact askN_len _ _ _
theorem refN_lt {D : List Int} {dist : Int} {sp : List Int} {k x : Nat} (h : x ∈ refN D dist sp k) : x < k := askN_lt ((refN_perm D dist sp k).mem_iff.1 h)
theorem refN_sorted (D : List Int) (dist : Int) (sp : List Int) : ∀ k, (refN D dist sp k).Pairwise (askLt D sp)
  | 0 => List.Pairwise.nil
  | k + 1 => by
    unfold refN
    split
    · exact insI_sorted (refN_sorted D dist sp k) (fun x hx => refN_lt hx)
    · exact refN_sorted D dist sp k
theorem refN_eq (D : List Int) (dist : Int) (sp : List Int) : refN D dist sp D.length = askS D dist sp := by
  have hs : (askS D dist sp).Pairwise (fun a b => askLe D sp a b = true) := by
    unfold askS
    refine List.pairwise_mergeSort (fun a b c h1 h2 => ?_) (fun a b => ?_) _
    · unfold askLe at *
      simp only [Bool.not_eq_true', decide_eq_false_iff_not] at *
      exact askLt_ntrans h2 h1
    · unfold askLe
      by_cases h : askLt D sp b a
      · have : ¬ askLt D sp a b := fun h' => askLt_irrefl D sp a (askLt_trans h' h)
        simp [this]
      · simp [h]
  refine List.Perm.eq_of_pairwise (le := fun a b => askLe D sp a b = true) (fun a b _ _ h1 h2 => ?_) ?_ hs ?_
  · unfold askLe at *
    simp only [Bool.not_eq_true', decide_eq_false_iff_not] at *
    exact askLt_total h2 h1
  · refine (refN_sorted D dist sp D.length).imp (fun {a b} h => ?_)
    unfold askLe
    have : ¬ askLt D sp b a := fun h' => askLt_irrefl D sp a (askLt_trans h h')
    simp [this]
  · exact (refN_perm D dist sp _).trans (List.mergeSort_perm _ _).symm
end Go.Aid

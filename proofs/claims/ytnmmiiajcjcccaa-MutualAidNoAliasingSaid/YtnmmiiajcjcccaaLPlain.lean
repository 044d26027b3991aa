import Derived.Test.YtnmmiiajcjcccaaMPlain
namespace Go.Aid
open Go.Quo (gd gd_get)
/-! ### Mutual aid, plain: the ledger -/
structure Ln where
  f : Int
  t : Int
  u : Int
structure LSt where
  n : Nat
  now : List Ln
  all : List Ln
def lnOk (n : Nat) (l : Ln) : Bool := decide (0 ≤ l.f) && decide (l.f < n) && decide (0 ≤ l.t) && decide (l.t < n) && decide (l.f ≠ l.t) && decide (0 ≤ l.u)
def hasU (ls : List Ln) (u : Int) : Bool := ls.any (fun x => x.u == u)
def insU : List Ln → Ln → List Ln
  | [], l => [l]
  | x :: r, l => if x.u < l.u then x :: insU r l else l :: x :: r
def delU (ls : List Ln) (u : Int) : List Ln := ls.filter (fun x => x.u != u)
def lendF (s : LSt) (l : Ln) : LSt × Int := if lnOk s.n l = false then (s, 1) else if hasU s.now l.u = true then (s, 5) else (⟨s.n, insU s.now l, s.all ++ [l]⟩, 0)
def backF (s : LSt) (u : Int) : LSt × Int := if hasU s.now u = true then (⟨s.n, delU s.now u, s.all⟩, 0) else (s, 4)
def bump1 (b : List Int) (k : Int) (d : Int) : List Int := b.set k.toNat (gd b k.toNat + d)
def bump (b : List Int) (l : Ln) : List Int := bump1 (bump1 b l.f 1) l.t (-1)
def debts (n : Nat) (all : List Ln) : List Int := all.foldl bump (List.replicate n 0)
theorem bump_len (b : List Int) (l : Ln) : (bump b l).length = b.length := by simp [bump, bump1]
theorem debts_len (n : Nat) (all : List Ln) : (debts n all).length = n := by
  unfold debts
  have : ∀ (all : List Ln) (b : List Int), (all.foldl bump b).length = b.length := by
    intro all
    induction all with
    | nil => intro b; rfl
    | cons a r ih => intro b; rw [List.foldl_cons, ih, bump_len]
  rw [this]; simp
theorem debts_snoc (n : Nat) (all : List Ln) (l : Ln) : debts n (all ++ [l]) = bump (debts n all) l := by unfold debts; rw [List.foldl_append]; rfl
theorem insU_perm (l : Ln) : ∀ ls, (insU ls l).Perm (ls ++ [l])
  | [] => List.Perm.refl _
  | x :: r => by
    unfold insU
    split
    · exact (insU_perm l r).cons x
    · exact (List.perm_append_singleton l (x :: r)).symm
theorem insU_len (l : Ln) (ls : List Ln) : (insU ls l).length = ls.length + 1 := by have := (insU_perm l ls).length_eq; simpa using this
theorem mem_insU {l x : Ln} {ls : List Ln} : x ∈ insU ls l ↔ x ∈ ls ∨ x = l := by
  rw [(insU_perm l ls).mem_iff]; simp
theorem hasU_iff {ls : List Ln} {u : Int} : hasU ls u = true ↔ ∃ x ∈ ls, x.u = u := by
  unfold hasU; rw [List.any_eq_true]; simp
theorem insU_sorted {l : Ln} : ∀ {ls : List Ln}, ls.Pairwise (fun a b => a.u < b.u) → (∀ x ∈ ls, x.u ≠ l.u) → (insU ls l).Pairwise (fun a b => a.u < b.u)
  | [], _, _ => by unfold insU; exact List.pairwise_singleton _ _
  | x :: r, h, hn => by
    rw [List.pairwise_cons] at h
    unfold insU
    split
    · next hx =>
      rw [List.pairwise_cons]
      refine ⟨fun y hy => ?_, insU_sorted h.2 (fun y hy => hn y (by simp [hy]))⟩
      rcases mem_insU.1 hy with hy | rfl
      · exact h.1 y hy
      · exact hx
    · next hx =>
      have hxl : l.u < x.u := by have := hn x (by simp); omega
      rw [List.pairwise_cons, List.pairwise_cons]
      refine ⟨fun y hy => ?_, h⟩
      rcases List.mem_cons.1 hy with rfl | hy
      · exact hxl
      · have := h.1 y hy; omega
/-- Where the new loan comes to stand. -/
theorem insU_at : ∀ (ls : List Ln) (l : Ln) (k : Nat), k ≤ ls.length → (∀ i x, i < k → ls[i]? = some x → x.u < l.u) → (∀ x, ls[k]? = some x → ¬ x.u < l.u) → insU ls l = ls.take k ++ [l] ++ ls.drop k
  | [], l, k, hk, _, _ => by obtain rfl : k = 0 := by simpa using hk
                             rfl
  | x :: r, l, 0, _, _, h => by
    unfold insU
    rw [if_neg (h x rfl)]; rfl
  | x :: r, l, k + 1, hk, h1, h2 => by
    unfold insU
    rw [if_pos (h1 0 x (by omega) rfl), insU_at r l k (by simpa using hk) (fun i y hi hy => h1 (i + 1) y (by omega) (by simpa using hy)) (fun y hy => h2 y (by simpa using hy))]
    rfl
theorem delU_none {u : Int} : ∀ {ls : List Ln}, (∀ x ∈ ls, x.u ≠ u) → delU ls u = ls := fun {ls} h => by
  unfold delU
  rw [List.filter_eq_self]
  intro x hx; simpa using h x hx
theorem delU_at {ls : List Ln} (hs : ls.Pairwise (fun a b => a.u < b.u)) {k : Nat} {x : Ln} (hx : ls[k]? = some x) : delU ls x.u = ls.take k ++ ls.drop (k + 1) := by
  have hk := (List.getElem?_eq_some_iff.1 hx).1
  have hsp : ls = ls.take k ++ x :: ls.drop (k + 1) := by
    conv => lhs; rw [← List.take_append_drop k ls, List.drop_eq_getElem_cons hk]
    rw [(List.getElem?_eq_some_iff.1 hx).2]
  have h1 : ∀ y ∈ ls.take k, y.u ≠ x.u := fun y hy => by
    rw [hsp, List.pairwise_append] at hs
    have := hs.2.2 y hy x (by simp); omega
  have h2 : ∀ y ∈ ls.drop (k + 1), y.u ≠ x.u := fun y hy => by
    rw [hsp, List.pairwise_append, List.pairwise_cons] at hs
    have := hs.2.1.1 y hy; omega
  conv => lhs; rw [hsp]
  show (ls.take k ++ x :: ls.drop (k + 1)).filter _ = _
  rw [List.filter_append, List.filter_cons_of_neg (by simp)]
  have e1 := delU_none h1
  have e2 := delU_none h2
  unfold delU at e1 e2
  rw [e1, e2]
structure LOk (s : LSt) (k : Nat) : Prop where
  srt : s.now.Pairwise (fun a b => a.u < b.u)
  ok : ∀ l ∈ s.all, lnOk s.n l = true
  nok : ∀ l ∈ s.now, lnOk s.n l = true
  nl : s.now.length ≤ k
  al : s.all.length ≤ k
theorem LOk.new (n : Nat) : LOk ⟨n, [], []⟩ 0 := ⟨List.Pairwise.nil, by simp, by simp, by simp, by simp⟩
theorem LOk.more {s : LSt} {k m : Nat} (h : LOk s k) (hm : k ≤ m) : LOk s m := ⟨h.srt, h.ok, h.nok, Nat.le_trans h.nl hm, Nat.le_trans h.al hm⟩
theorem LOk.lend {s : LSt} {k : Nat} (h : LOk s k) (l : Ln) : LOk (lendF s l).1 (k + 1) := by
  unfold lendF
  split
  · exact h.more (by omega)
  · next hv =>
    split
    · exact h.more (by omega)
    · next hu =>
      have hno : ∀ x ∈ s.now, x.u ≠ l.u := fun x hx e => hu (hasU_iff.2 ⟨x, hx, e⟩)
      have hv' : lnOk s.n l = true := by simpa using hv
      refine ⟨insU_sorted h.srt hno, fun x hx => ?_, fun x hx => ?_, by have := h.nl; simp [insU_len]; omega, by have := h.al; simp; omega⟩
      · rcases List.mem_append.1 hx with hx | hx
        · exact h.ok x hx
        · obtain rfl : x = l := by simpa using hx
          exact hv'
      · rcases mem_insU.1 hx with hx | rfl
        · exact h.nok x hx
        · exact hv'
theorem LOk.back {s : LSt} {k : Nat} (h : LOk s k) (u : Int) : LOk (backF s u).1 (k + 1) := by
  unfold backF
  split
  · have hsub : (delU s.now u).length ≤ s.now.length := List.length_filter_le _ _
    exact ⟨h.srt.filter _, h.ok, fun l hl => h.nok l (List.mem_filter.1 hl).1, by have := h.nl; show (delU s.now u).length ≤ _; omega, by have := h.al; show s.all.length ≤ _; omega⟩
  · exact h.more (by omega)
end Go.Aid

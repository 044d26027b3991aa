import Derived.Test.YtnmmiiajcjcccaaBk5
namespace Go.Proofs.Ytnmmiiajcjcccaa
set_option linter.unusedVariables false
open Go.RowKit Go.Own Go.Quo Go.Aid
theorem rlend_any (B : Nat → Prop) (r : Nat) (s : LSt) (A1 A2 : Option Addr) (c1 c2 : Nat) (l : Ln) (w : World) (h : Bok w B r s A1 A2 c1 c2) (hc1 : s.now.length ≤ c1) (hc2 : s.all.length ≤ c2) (hl1 : s.now.length ≤ 1000) (hl2 : s.all.length ≤ 1000) (hB : ∀ k, w.heap.size ≤ k → B k) (hBr : ¬ B r) :
    Calls Try.prog 35 #[.pointer (some ⟨r, 0, none⟩), lnV l] w (BLendPost B r w (lendF s l)) := by
  unfold lendF
  cases h1 : lnOk s.n l with
  | false =>
    rw [if_pos rfl]
    exact rlend_bad B r s A1 A2 c1 c2 l w h hc1 hc2 hBr h1
  | true =>
    rw [if_neg (by decide)]
    exact rlend_ok B r s A1 A2 c1 c2 l w h hc1 hc2 hl1 hl2 hB hBr h1
/-! ### Ledger and book side by side -/
def NB (p m g r k : Nat) : Prop := k ≠ p ∧ k ≠ m ∧ k ≠ g ∧ k ≠ r
structure Pr (w : World) (p m g r : Nat) (s : LSt) : Prop where
  led : ∃ ls, Led w p m g s ls
  bok : ∃ A1 A2 c1 c2, Bok w (NB p m g r) r s A1 A2 c1 c2 ∧ s.now.length ≤ c1 ∧ s.all.length ≤ c2
  ne : r ≠ p ∧ r ≠ m ∧ r ≠ g
theorem Pr.lt {w : World} {p m g r : Nat} {s : LSt} (h : Pr w p m g r s) : p < w.heap.size ∧ m < w.heap.size ∧ g < w.heap.size ∧ r < w.heap.size := by
  obtain ⟨ls, hl⟩ := h.led
  obtain ⟨A1, A2, c1, c2, hb, -⟩ := h.bok
  exact ⟨hl.ne.2.2.2.1, hl.ne.2.2.2.2.1, hl.ne.2.2.2.2.2, hb.rb.lt⟩
theorem Pr.new {w : World} {p m g r : Nat} {s : LSt} (h : Pr w p m g r s) : ∀ k, w.heap.size ≤ k → NB p m g r k := fun k hk => by
  obtain ⟨h1, h2, h3, h4⟩ := h.lt
  exact ⟨by omega, by omega, by omega, by omega⟩
theorem Bok.fr {S : Nat → Prop} {w w' : World} {B : Nat → Prop} {r : Nat} {s : LSt} {A1 A2 : Option Addr} {c1 c2 : Nat} (h : Bok w B r s A1 A2 c1 c2) (hf : Fr S w w') (hr : ¬ S r) (hB : ∀ k, B k → ¬ S k) : Bok w' B r s A1 A2 c1 c2 := ⟨h.rb.fr hf hr, h.now.fr hf hB, h.all.fr hf hB⟩
theorem Pr.fr {S : Nat → Prop} {w w' : World} {p m g r : Nat} {s : LSt} (h : Pr w p m g r s) (hf : Fr S w w') (hS : ∀ k, S k → w.heap.size ≤ k) : Pr w' p m g r s := by
  obtain ⟨h1, h2, h3, h4⟩ := h.lt
  obtain ⟨ls, hl⟩ := h.led
  obtain ⟨A1, A2, c1, c2, hb, k1, k2⟩ := h.bok
  have hf' : Fr (fun _ => False) w w' := hf.mono (fun k hk hs => by have := hS k hs; omega)
  exact ⟨⟨ls, hl.fr hf' id id id⟩, ⟨A1, A2, c1, c2, hb.fr hf' id (fun _ _ => id), k1, k2⟩, h.ne⟩
theorem Pr.below {w w' : World} {p m g r : Nat} {s : LSt} (h : Pr w p m g r s) (hb : Below w.heap.size w w') : Pr w' p m g r s := h.fr (S := fun _ => False) (Fr.of_below hb) (fun _ h => h.elim)
/-- Both lend. -/
theorem Pr.led_lend {w w' : World} {p m g r : Nat} {s s' : LSt} {ls : List Ln} (h : Pr w p m g r s) (hl : Led w' p m g s' ls) (hf : Fr (fun k => k = m ∨ k = g) w w') : (∃ A1 A2 c1 c2, Bok w' (NB p m g r) r s A1 A2 c1 c2 ∧ s.now.length ≤ c1 ∧ s.all.length ≤ c2) ∧ ∀ k, w'.heap.size ≤ k → NB p m g r k := by
  obtain ⟨A1, A2, c1, c2, hb, k1, k2⟩ := h.bok
  refine ⟨⟨A1, A2, c1, c2, hb.fr hf (fun e => ?_) (fun k hk e => ?_), k1, k2⟩, fun k hk => h.new k (Nat.le_trans hf.size hk)⟩
  · rcases e with e | e
    · exact h.ne.2.1 e
    · exact h.ne.2.2 e
  · rcases e with e | e
    · exact hk.2.1 e
    · exact hk.2.2.1 e
theorem Pr.both {w w' : World} {p m g r : Nat} {s' : LSt} {ls : List Ln} {A1 A2 : Option Addr} {c1 c2 : Nat} (hl : Led w p m g s' ls) (hb : Bok w' (NB p m g r) r s' A1 A2 c1 c2) (k1 : s'.now.length ≤ c1) (k2 : s'.all.length ≤ c2) (hf : Fr (fun k => k = r) w w') (ne : r ≠ p ∧ r ≠ m ∧ r ≠ g) : Pr w' p m g r s' :=
  ⟨⟨ls, hl.fr hf ne.1.symm ne.2.1.symm ne.2.2.symm⟩, ⟨A1, A2, c1, c2, hb, k1, k2⟩, ne⟩
end Go.Proofs.Ytnmmiiajcjcccaa

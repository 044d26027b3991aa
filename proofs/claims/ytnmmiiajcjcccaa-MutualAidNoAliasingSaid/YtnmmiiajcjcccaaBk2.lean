import Derived.Test.YtnmmiiajcjcccaaBk1
import Derived.Test.YtnmmiiajcjcccaaFPlain
namespace Go.Aid
open Go.Quo (gd gd_get)
theorem lnOk_iff {n : Nat} {l : Ln} : lnOk n l = true ↔ ∃ a b : Nat, l.f = a ∧ l.t = b ∧ a < n ∧ b < n ∧ a ≠ b ∧ 0 ≤ l.u := by
  simp only [lnOk, Bool.and_eq_true, decide_eq_true_eq]
  constructor
  · rintro ⟨⟨⟨⟨⟨c1, c2⟩, c3⟩, c4⟩, c5⟩, c6⟩
    exact ⟨l.f.toNat, l.t.toNat, by omega, by omega, by omega, by omega, by omega, c6⟩
  · rintro ⟨a, b, e1, e2, h1, h2, h3, h4⟩
    refine ⟨⟨⟨⟨⟨?_, ?_⟩, ?_⟩, ?_⟩, ?_⟩, h4⟩ <;> omega
theorem bump_at {b : List Int} {l : Ln} {x y : Nat} (hx : l.f = x) (hy : l.t = y) (h1 : x < b.length) (_h2 : y < b.length) (hne : x ≠ y) : bump b l = (b.set x (gd b x + 1)).set y (gd b y - 1) := by
  unfold bump bump1
  rw [hx, hy]
  simp only [Int.toNat_natCast]
  rw [gd_set _ _ _ _ h1, if_neg (fun e => hne e.symm)]
  rfl
theorem bump_gd {b : List Int} {l : Ln} {x y : Nat} (hx : l.f = x) (hy : l.t = y) (h1 : x < b.length) (h2 : y < b.length) (hne : x ≠ y) (i : Nat) : gd (bump b l) i = if i = y then gd b y - 1 else if i = x then gd b x + 1 else gd b i := by
  rw [bump_at hx hy h1 h2 hne, gd_set _ _ _ _ (by simpa using h2), gd_set _ _ _ _ h1]
theorem debts_r {n : Nat} {all : List Ln} (h : ∀ l ∈ all, lnOk n l = true) : ∀ (k : Nat), k ≤ all.length → ∀ i, gd (debts n (all.take k)) i ≤ k ∧ -(k : Int) ≤ gd (debts n (all.take k)) i
  | 0, _, i => by
    have : gd (debts n (all.take 0)) i = 0 := by
      show gd (List.replicate n 0) i = 0
      by_cases hi : i < n
      · rw [gd_get (by simpa using hi)]; simp
      · rw [gd_out (by simp; omega)]
    rw [this]; omega
  | k + 1, hk, i => by
    have ih := debts_r h k (by omega)
    obtain ⟨l, hl⟩ : ∃ l, all[k]? = some l := ⟨_, List.getElem?_eq_getElem (by omega)⟩
    obtain ⟨a, b, e1, e2, h1, h2, h3, -⟩ := lnOk_iff.1 (h l (List.mem_of_getElem? hl))
    rw [take_snoc hl, debts_snoc, bump_gd e1 e2 (by rw [debts_len]; exact h1) (by rw [debts_len]; exact h2) h3]
    have i1 := ih i
    have i2 := ih a
    have i3 := ih b
    push_cast
    split
    · omega
    · split <;> omega
end Go.Aid
namespace Go.Proofs.Ytnmmiiajcjcccaa
set_option linter.unusedVariables false
open Go.RowKit Go.Own Go.Quo Go.Aid
def DebtsPost (n : Nat) (all : List Ln) (w : World) (e : Ending) (w' : World) : Prop := ∃ g, w.heap.size ≤ g ∧ e = .returned (.slice (some ⟨g, 0, none⟩) n n) ∧ IB w' g 2 (debts n all) ∧ Below w.heap.size w w'
set_option maxRecDepth 10000 in
set_option maxHeartbeats 4000000 in
theorem debts_any (B : Nat → Prop) (r : Nat) (s : LSt) (A1 A2 : Option Addr) (c1 c2 : Nat) (w : World) (h : Bok w B r s A1 A2 c1 c2) (hn : s.n ≤ 64) (hl : s.all.length ≤ 1000) (hok : ∀ l ∈ s.all, lnOk s.n l = true) :
    Calls Try.prog 34 #[.pointer (some ⟨r, 0, none⟩)] w (DebtsPost s.n s.all w) := by
  have HRb := Lib.hid h.rb
  have hrl := h.rb.lt
  have hp := h.all.plain (by omega)
  have HA := Lib.hid (h.all.old (by omega))
  clear h
  obtain ⟨l, hl2⟩ : ∃ l, s.all = l := ⟨_, rfl⟩
  obtain ⟨n, hn2⟩ : ∃ n, s.n = n := ⟨_, rfl⟩
  obtain ⟨m, hm⟩ : ∃ m, s.now.length = m := ⟨_, rfl⟩
  rw [hn2, hm, hl2] at HRb
  rw [hl2] at hp HA hl hok ⊢
  rw [hn2] at hn hok ⊢
  have Hok := Lib.hid hok
  have HDr := Lib.hid (debts_r hok)
  clear hl2 hn2 hm hok
  have hmk := run_make1 (P := Try.prog) 53 2 (.int .i64 0) 8 Try.underlying53 info2 rfl n (by omega) (by omega)
  obtain ⟨q0, q1, q2⟩ := HRb.out.facts
  go_enter Try.func34, Try.ntmps34
  go_wp2_with fail
  have hb0 : Below w.heap.size w (w.alloc (.cells (zrow (.int .i64 0) n) 2)) := (Below.refl _ _).alloc (Nat.le_refl _) _
  have hi0 := zrow_ib2 n w
  go_loopw [4] (fun vi wr => ∃ (k : Nat), k ≤ l.length ∧ vi = .int .i64 k ∧ IB wr w.heap.size 2 (debts n (l.take k)) ∧ Below w.heap.size w wr) (fun vi _ => l.length - (intOf vi).toNat)
  case atStart => exact ⟨0, Nat.zero_le _, rfl, hi0, hb0⟩
  case round =>
    obtain ⟨k, hk, rfl, hI, hbel⟩ := hrel
    clear q0 q1 q2
    obtain ⟨q0, q1, q2⟩ := (HRb.out.below hbel hrl).facts
    have hrne : r ≠ w.heap.size := by omega
    have HI := Lib.hid hI
    by_cases hlt : k < l.length
    · have hlt' : (k : Int) < l.length := by omega
      obtain ⟨x, hx⟩ : ∃ x, l[k]? = some x := ⟨_, List.getElem?_eq_getElem hlt⟩
      obtain ⟨y1, y2, -⟩ := ln_cells (HA.out.below hbel (fun _ h => h.2)) hx
      have hbk := HA.out.bk_lt (by omega) (by omega)
      have hbne : bk A2 ≠ w.heap.size := by omega
      have hix := fun W => ix37 hp c2 k hlt W
      obtain ⟨a, b, e1, e2, ha, hb, hab, -⟩ := lnOk_iff.1 (Hok.out x (List.mem_of_getElem? hx))
      rw [e1] at y1
      rw [e2] at y2
      have hdl : (debts n (l.take k)).length = n := debts_len _ _
      have HN := Lib.hid (show debts n (l.take (k + 1)) = ((debts n (l.take k)).set a (gd (debts n (l.take k)) a + 1)).set b (gd (debts n (l.take k)) b - 1) by
        rw [take_snoc hx, debts_snoc, bump_at e1 e2 (by rw [hdl]; exact ha) (by rw [hdl]; exact hb) hab])
      have ra := HDr.out k hk a
      have rb := HDr.out k hk b
      have hixa := fun W => ix53 (g := w.heap.size) n n a ha W
      have hixb := fun W => ix53 (g := w.heap.size) n n b hb W
      have ca := IB.at_ hI (k := a) (by rw [hdl]; exact ha)
      have cb := IB.at_ hI (k := b) (by rw [hdl]; exact hb)
      obtain ⟨x0, -, x2⟩ := hI.facts
      generalize debts n (l.take k) = D at *
      have hw1 : IntKind.i64.wrap (gd D a + 1) = gd D a + 1 := IntWalk.i64_in _ (by omega)
      have hw2 : IntKind.i64.wrap (gd D b - 1) = gd D b - 1 := IntWalk.i64_in _ (by omega)
      clear hx e1 e2 ra rb hI hi0
      go_wp2_with fail
      refine ⟨⟨k + 1, by omega, by go_num, ?_, (hbel.setCell (p := ⟨w.heap.size, a, none⟩) (Nat.le_refl _) _).setCell (p := ⟨w.heap.size, b, none⟩) (Nat.le_refl _) _⟩, by simp [intOf]; omega⟩
      rw [HN.out]
      exact IB.put (IB.put HI.out a _) b _
    · have hlt' : ¬ (k : Int) < l.length := by omega
      have he : k = l.length := by omega
      subst he
      go_wp2_with fail
      go_ret
      rw [List.take_length] at HI
      exact ⟨_, Nat.le_refl _, rfl, HI.out, hbel⟩
end Go.Proofs.Ytnmmiiajcjcccaa

import Derived.Test.YtnmmiiajcjcccaaAwk2
namespace Go.Proofs.Ytnmmiiajcjcccaa
set_option linter.unusedVariables false
open Go.RowKit Go.Own Go.Quo Go.Aid
def LE (W : World) (p m g : Nat) (s : LSt) : Prop := ∃ ls, Led W p m g s ls
theorem LE.below {W W' : World} {p m g : Nat} {s : LSt} (h : LE W p m g s) (hb : Below W.heap.size W W') : LE W' p m g s := h.imp (fun _ h => h.fr (Fr.of_below hb (S := fun _ => False)) id id id)
theorem aw_lend {p m g : Nat} {s : LSt} {l : Ln} {q : LSt × Int} (hq : lendF s l = q) (hd : ∀ i, gd (debts s.n s.all) i ≤ 1000 ∧ -1000 ≤ gd (debts s.n s.all) i) (W : World) (h : LE W p m g s) :
    Calls Try.prog 26 #[.pointer (some ⟨p, 0, none⟩), .agg #[.int .i64 l.f, .int .i64 l.t, .int .i64 l.u]] W (fun e w' => e = .returned (.int .i64 q.2) ∧ LE w' p m g q.1 ∧ Fr (fun k => k = m ∨ k = g) W w') := by
  obtain ⟨ls, hl⟩ := h
  rw [← hq]
  exact (lend_any p m g s ls l W hl hd).mono (fun e w' q => ⟨q.1, q.2.imp (fun _ x => x.1), by obtain ⟨_, _, x⟩ := q.2; exact x⟩)
theorem aw_back {p m g : Nat} {s : LSt} {u : Int} {q : LSt × Int} (hq : backF s u = q) (hd : (s.now.map (·.u)).Nodup) (W : World) (h : LE W p m g s) :
    Calls Try.prog 27 #[.pointer (some ⟨p, 0, none⟩), .int .i64 u] W (fun e w' => e = .returned (.int .i64 q.2) ∧ LE w' p m g q.1 ∧ Fr (fun k => k = m ∨ k = g) W w') := by
  obtain ⟨ls, hl⟩ := h
  rw [← hq]
  exact (return_any p m g s ls u W hl hd).mono (fun e w' q => ⟨q.1, q.2.imp (fun _ x => x.1), by obtain ⟨_, _, x⟩ := q.2; exact x⟩)
theorem aw_bal {p m g : Nat} (W : World) (h : LE W p m g awS1) : Calls Try.prog 25 #[.pointer (some ⟨p, 0, none⟩)] W (fun e w' => ∃ g' c, e = .returned (.slice (some ⟨g', 0, none⟩) 3 c) ∧ Reads w' (fun k => k < w'.heap.size) 1 (some ⟨g', 0, none⟩) 3 [.int .i64 1, .int .i64 (-1), .int .i64 0] ∧ Below W.heap.size W w') := by
  obtain ⟨ls, hl⟩ := h
  have hP := balances_any p m g awS1 ls W hl (by decide)
  rw [aw_debts] at hP
  refine hP.mono ?_
  rintro e w' ⟨g', c, rfl, ho, hb⟩
  exact ⟨g', c, rfl, ((Reads.of_own ho).old (by omega)).more (fun k hk => hk.2), hb⟩
theorem aw_ask23 {p m g : Nat} (W : World) (h : LE W p m g awS1) :
    Calls Try.prog 23 #[.pointer (some ⟨p, 0, none⟩), .int .i64 2, .slice (some ⟨W.heap.size, 0, none⟩) 3 3] (W.alloc (.cells #[.int .i64 3, .int .i64 1, .int .i64 9] 3))
    (fun e w' => ∃ A c, e = .returned (.slice A 2 c) ∧ Reads w' (fun k => k < w'.heap.size) 1 A 2 [.int .i64 1, .int .i64 0] ∧ Below W.heap.size W w') := by
  obtain ⟨ls, hl⟩ := h
  exact aw_call23 p m g ls W hl
theorem aw_same {W : World} {B : Nat → Prop} {A : Option Addr} (c : Nat) (h : Reads W B 1 A 2 [.int .i64 1, .int .i64 0]) :
    Calls Try.prog 22 #[.slice A 2 c, .slice (some ⟨W.heap.size, 0, none⟩) 2 2] (W.alloc (.cells #[.int .i64 1, .int .i64 0] 3)) (fun e w' => e = .returned (.bool true) ∧ Below W.heap.size W w') := by
  have h2 := Reads.newS W [.int .i64 1, .int .i64 0] 3 (0, 0) 2 1 rfl _ rfl
  refine (same_lists B _ A (some ⟨W.heap.size, 0, none⟩) c 2 [1, 0] _ (h.alloc _) h2 (by decide)).mono ?_
  rintro e w' ⟨rfl, hb⟩
  exact ⟨rfl, ((Below.refl W.heap.size W).alloc (Nat.le_refl _) _).trans (hb.mono (by simp))⟩
theorem aw_out {p m g : Nat} (W : World) (h : LE W p m g awS1) : Calls Try.prog 28 #[.pointer (some ⟨p, 0, none⟩)] W (fun e w' => (∃ A c, e = .returned (.slice A 1 c)) ∧ Below W.heap.size W w') := by
  obtain ⟨ls, hl⟩ := h
  refine (out_any p m g awS1 ls W hl (List.pairwise_singleton _ _) (by decide) (by decide)).mono ?_
  rintro e w' ⟨A, c, rfl, -, hb⟩
  exact ⟨⟨A, c, rfl⟩, hb⟩
theorem aw_six {W : World} {g c : Nat} (h : Reads W (fun k => k < W.heap.size) 1 (some ⟨g, 0, none⟩) 3 [.int .i64 1, .int .i64 (-1), .int .i64 0]) : W.cell? ⟨g, 0, none⟩ = some (.int .i64 1) ∧ W.cell? ⟨g, 1, none⟩ = some (.int .i64 (-1)) := by
  have h0 := h.cell2 0 (by omega) (by omega)
  have h1 := h.cell2 1 (by omega) (by omega)
  exact ⟨by simpa [bk, ofs, adr] using h0, by simpa [bk, ofs, adr] using h1⟩
theorem small_debts (n : Nat) (l : List Int) (h : ∀ x ∈ l, x ≤ 1000 ∧ -1000 ≤ x) (i : Nat) : gd l i ≤ 1000 ∧ -1000 ≤ gd l i := by
  by_cases hi : i < l.length
  · rw [gd_get hi]; exact h _ (List.getElem_mem _)
  · rw [gd_out (by omega)]; omega
set_option maxRecDepth 20000 in
set_option maxHeartbeats 8000000 in
theorem awake_any (w : World) : Calls Try.prog 10 #[] w (fun e w' => e = .returned (.bool true) ∧ Below w.heap.size w w') := by
  have H12 := Lib.hid (aw_call12 w)
  have HN3 := Lib.hid fun W => new_ok 3 W (by decide) (by decide)
  have HN0 := Lib.hid fun W => new_bad 0 W (by decide)
  have HL1 := Lib.hid fun (p m g : Nat) (W : World) => aw_lend (p := p) (m := m) (g := g) aw_lend1 (small_debts 3 _ (by decide)) W
  have HL2 := Lib.hid fun (p m g : Nat) (W : World) => aw_lend (p := p) (m := m) (g := g) aw_lend2 (small_debts 3 _ (by decide)) W
  have HR1 := Lib.hid fun (p m g : Nat) (W : World) => aw_back (p := p) (m := m) (g := g) aw_back1 (by decide) W
  have HR2 := Lib.hid fun (p m g : Nat) (W : World) => aw_back (p := p) (m := m) (g := g) aw_back2 (by decide) W
  simp only at HL1 HL2
  have hpe := fun W a b c d => pair_eq W a b c d
  have hng := noGuard28
  go_enter Try.func10, Try.ntmps10
  go_wp2_with (first
    | (go_at_call 12; ((with_reducible refine H12.out.mono ?_); rintro e w2 ⟨A, c, rfl, hr2, hc4, hb2⟩; have R2 := Lib.hid hr2; have B2 := Lib.hid hb2; clear hr2 hb2))
    | (go_at_call 18; ((with_reducible refine (HN3.out _).mono ?_); rintro e w3 ⟨d, p, m, g, hd3, rfl, hl3, hp3, hm3, hg3, hb3⟩; obtain rfl : d = 3 := (by omega); have L3 := Lib.hid (show LE w3 p m g ⟨3, [], []⟩ from ⟨_, hl3⟩); have B3 := Lib.hid hb3; clear hl3 hb3 hd3))
    | (go_at_call 18; ((with_reducible refine (HN0.out _).mono ?_); rintro e w4 ⟨rfl, rfl⟩))
    | (go_at_call 26; ((with_reducible refine (HL1.out _ _ _ _ L3.out).mono ?_); rintro e w5 ⟨rfl, hl5, hf5⟩; have L5 := Lib.hid hl5; have B5 := Lib.hid (B3.out.trans (hf5.below (B := w2.heap.size) B3.out.size (fun k hk e => by omega))); clear hl5 hf5))
    | (go_at_call 26; ((with_reducible refine (HL2.out _ _ _ _ L5.out).mono ?_); rintro e w6 ⟨rfl, hl6, hf6⟩; have L6 := Lib.hid hl6; have B6 := Lib.hid (B5.out.trans (hf6.below (B := w2.heap.size) B5.out.size (fun k hk e => by omega))); clear hl6 hf6))
    | (go_at_call 25; ((with_reducible refine (aw_bal _ L6.out).mono ?_); rintro e w7 ⟨g7, c7, rfl, hr7, hb7⟩; have L7 := Lib.hid (LE.below L6.out hb7); have R7 := Lib.hid hr7; have B7 := Lib.hid (B6.out.trans (hb7.mono B6.out.size)); clear hr7 hb7))
    | (go_at_call 23; ((with_reducible refine (aw_ask23 _ L7.out).mono ?_); rintro e w8 ⟨A8, c8, rfl, hr8, hb8⟩; have L8 := Lib.hid (LE.below L7.out hb8); have R8 := Lib.hid hr8; have B78 := Lib.hid hb8; have B8 := Lib.hid (B7.out.trans (hb8.mono B7.out.size)); clear hr8 hb8; have RA8 := Lib.hid (show awR w8 (fun k => k < w2.heap.size) A from Reads.below R2.out B8.out (fun _ h => h)); obtain ⟨z0, z1, z2, z3, z4, z5, z6, z7⟩ := aw_cells (show awR w8 (fun k => k < w2.heap.size) A from Reads.below R2.out B8.out (fun _ h => h)); have hi0 := (fun W => (aw_ix (Reads.plain R2.out (by omega)) c W).1); have hi1 := (fun W => (aw_ix (Reads.plain R2.out (by omega)) c W).2.1); have hi2 := (fun W => (aw_ix (Reads.plain R2.out (by omega)) c W).2.2.1); have hi3 := (fun W => (aw_ix (Reads.plain R2.out (by omega)) c W).2.2.2)))
    | (go_at_call 15; ((with_reducible refine ((aw_fairs w w8 _ A c RA8.out).1).mono ?_); rintro e w9 ⟨rfl, hb9⟩; have B89 := Lib.hid hb9; have B9 := Lib.hid (B8.out.trans (hb9.mono B8.out.size)); have L9 := Lib.hid (LE.below L8.out hb9); have RA9 := Lib.hid (show awR w9 (fun k => k < w2.heap.size) A from Reads.below R2.out B9.out (fun _ h => h)); clear hb9 z0 z1 z2 z3 z4 z5 z6 z7 hi0 hi1 hi2 hi3))
    | (go_at_call 15; ((with_reducible refine ((aw_fairs w w9 _ A c RA9.out).2).mono ?_); rintro e w10 ⟨rfl, hb10⟩; have B810 := Lib.hid (B89.out.trans (hb10.mono B89.out.size)); have B10 := Lib.hid (B9.out.trans (hb10.mono B9.out.size)); have L10 := Lib.hid (LE.below L9.out hb10); have RS10 := Lib.hid (show Reads w10 (fun k => k < w8.heap.size) 1 A8 2 [.int .i64 1, .int .i64 0] from Reads.below R8.out B810.out (fun _ h => h)); clear hb10; obtain ⟨z0, z1⟩ := aw_six (c := c7) (show Reads w10 (fun k => k < w10.heap.size) 1 (some ⟨g7, 0, none⟩) 3 [.int .i64 1, .int .i64 (-1), .int .i64 0] from (Reads.below R7.out (B78.out.trans (B810.out.mono B78.out.size)) (fun _ h => h)).more (fun k hk => by have := (B78.out.trans (B810.out.mono B78.out.size)).size; omega)); have hi0 := (fun W => ix53 (g := g7) 3 c7 0 (by omega) W); have hi1 := (fun W => ix53 (g := g7) 3 c7 1 (by omega) W)))
    | (go_at_call 22; ((with_reducible refine (aw_same c8 RS10.out).mono ?_); rintro e w11 ⟨rfl, hb11⟩; have B11 := Lib.hid (B10.out.trans (hb11.mono B10.out.size)); have L11 := Lib.hid (LE.below L10.out hb11); clear hb11 z0 z1 hi0 hi1))
    | (go_at_call 28; ((with_reducible refine (aw_out _ L11.out).mono ?_); rintro e w12 ⟨⟨A12, c12, rfl⟩, hb12⟩; have B12 := Lib.hid (B11.out.trans (hb12.mono B11.out.size)); have L12 := Lib.hid (LE.below L11.out hb12); clear hb12))
    | (go_at_call 27; ((with_reducible refine (HR1.out _ _ _ _ L12.out).mono ?_); rintro e w13 ⟨rfl, hl13, hf13⟩; have L13 := Lib.hid hl13; have B13 := Lib.hid (B12.out.trans (hf13.below (B := w2.heap.size) B12.out.size (fun k hk e => by omega))); clear hl13 hf13))
    | (go_at_call 27; ((with_reducible refine (HR2.out _ _ _ _ L13.out).mono ?_); rintro e w14 ⟨rfl, hl14, hf14⟩; have B14 := Lib.hid (B13.out.trans (hf14.below (B := w2.heap.size) B13.out.size (fun k hk e => by omega))); clear hl14 hf14)))
  go_ret
  exact ⟨by first | rfl | simp, B2.out.trans (B14.out.mono B2.out.size)⟩
end Go.Proofs.Ytnmmiiajcjcccaa

import Derived.Test.YtnmmiiajcjcccaaSm1
import Derived.Laws.StructEq
namespace Go.Proofs.Ytnmmiiajcjcccaa
set_option linter.unusedVariables false
open Go.RowKit Go.Own Go.Quo Go.Aid
theorem noGuard56 : Try.prog.eqGuardType Try.prog.depth 56 = false := by kernel_rfl
theorem ln_eq (w : World) (a b c : Int) : (Op.equalIn 10000 56 (.agg #[.int .i64 a, .int .i64 b, .int .i64 c]) (.agg #[.int .i64 a, .int .i64 b, .int .i64 c])).run Try.prog w = .ok true w := by
  rw [run_equalIn_agg _ _ _ _ _ (by kernel_rfl) (by kernel_rfl)]
  obtain ⟨i, hi, hs⟩ := i3x
  simp [Program.fieldsOf, Try.underlying56, Op.eqFields, part, sizeOf, typeInfo, hi, hs, go_sem, run_equalIn_int _ _ _ _ _ _ _ Try.underlying3]
theorem i56x : ∃ i, Try.prog.info? 56 = some i ∧ i.size = 3 := by obtain ⟨i, h, _, h2, _⟩ := info_parts info56; exact ⟨i, h, h2⟩
theorem ix59 {A : Option Addr} {n : Nat} (hA : Plain A n) (c k : Nat) (hk : k < n) (w : World) : (Instr.indexAt 59 (.slice A n c) (.int .i64 (k : Int))).run Try.prog w = .ok (.pointer (some ⟨bk A, ofs A + k * 3, none⟩)) w := by
  obtain ⟨i, h1, h2⟩ := i56x
  exact run_indexAt2 (P := Try.prog) Try.underlying59 h1 h2 hA c k hk w
theorem ix53p {A : Option Addr} {n : Nat} (hA : Plain A n) (c k : Nat) (hk : k < n) (w : World) : (Instr.indexAt 53 (.slice A n c) (.int .i64 (k : Int))).run Try.prog w = .ok (.pointer (some ⟨bk A, ofs A + k, none⟩)) w := by
  obtain ⟨i, h1, h2⟩ := i2x
  have := run_indexAt2 (P := Try.prog) Try.underlying53 h1 h2 hA c k hk w
  simpa using this
set_option maxRecDepth 10000 in
set_option maxHeartbeats 4000000 in
theorem same_any (p m g r : Nat) (s : LSt) (K : Nat) (w : World) (h : Pr w p m g r s) (hk : LOk s K) (hK : K ≤ 1000) (hn : s.n ≤ 64) (hwf : ∀ x ∈ s.now, (Lit.int .i64 x.u).wf = true) :
    Calls Try.prog 19 #[.pointer (some ⟨p, 0, none⟩), .pointer (some ⟨r, 0, none⟩)] w (fun e w' => e = .returned (.bool true) ∧ Below w.heap.size w w') := by
  have hnl : s.now.length ≤ 1000 := by have := hk.nl; omega
  have hal : s.all.length ≤ 1000 := by have := hk.al; omega
  have HOut := Lib.hid (show ∀ W, Below w.heap.size w W → Calls Try.prog 28 #[.pointer (some ⟨p, 0, none⟩)] W (OutPost s.now W) from fun W hW => by
    obtain ⟨ls, hl⟩ := (h.below hW).led
    exact out_any p m g s ls W hl hk.srt hwf hnl)
  have HBal := Lib.hid (show ∀ W, Below w.heap.size w W → Calls Try.prog 25 #[.pointer (some ⟨p, 0, none⟩)] W (I64Post (debts s.n s.all) W) from fun W hW => by
    obtain ⟨ls, hl⟩ := (h.below hW).led
    exact balances_any p m g s ls W hl hn)
  have HDeb := Lib.hid (show ∀ W, Below w.heap.size w W → Calls Try.prog 34 #[.pointer (some ⟨r, 0, none⟩)] W (DebtsPost s.n s.all W) from fun W hW => by
    obtain ⟨A1, A2, c1, c2, hb, -, -⟩ := (h.below hW).bok
    exact debts_any _ r s A1 A2 c1 c2 W hb hn hal hk.ok)
  obtain ⟨A1, A2, c1, c2, hb, -, -⟩ := h.bok
  have HRb := Lib.hid hb.rb
  have hrl := hb.rb.lt
  have HNow := Lib.hid (show Reads w (fun k => k < w.heap.size) 3 A1 s.now.length (s.now.flatMap lnL) from (hb.now.old (by omega)).more (fun k hk => hk.2))
  have hp1 := hb.now.plain (by omega)
  have hdl := debts_len s.n s.all
  clear hb h hk hwf
  generalize s.now = now at *
  generalize s.all = al at *
  generalize s.n = n at *
  obtain ⟨D, hD⟩ : ∃ D, debts n al = D := ⟨_, rfl⟩
  unfold DebtsPost at HDeb
  rw [hD] at HBal HDeb hdl
  clear hD
  subst hdl
  go_enter Try.func19, Try.ntmps19
  go_wp2_with (first
    | (go_at_call 28; ((with_reducible refine (HOut.out _ (Below.refl _ _)).mono ?_); rintro e w3 ⟨A3, c3, rfl, ho3, b3⟩; have O3 := Lib.hid ho3; have B3 := Lib.hid b3; clear ho3 b3))
    | (go_at_call 25; ((with_reducible refine (HBal.out _ B3.out).mono ?_); rintro e w4 ⟨g4, c4, rfl, ho4, b4⟩; have O4 := Lib.hid ho4; have B4 := Lib.hid (B3.out.trans (b4.mono B3.out.size)); have B34 := Lib.hid b4; clear ho4 b4))
    | (go_at_call 34; ((with_reducible refine (HDeb.out _ B4.out).mono ?_); rintro e w5 ⟨g5, hg5, rfl, hi5, b5⟩; have O5 := Lib.hid hi5; have B5 := Lib.hid (B4.out.trans (b5.mono B4.out.size)); have B45 := Lib.hid b5; clear hi5 b5; obtain ⟨y0, y1, y2⟩ := (HRb.out.below B5.out hrl).facts)))
  have B35 := B34.out.trans (B45.out.mono B34.out.size)
  have r3 := Lib.hid (((Reads.of_own O3.out).old (by omega)).more (B' := fun k => k < w3.heap.size) (fun k hk => hk.2))
  have r4 := Lib.hid (((Reads.of_own O4.out).old (by omega)).more (B' := fun k => k < w4.heap.size) (fun k hk => hk.2))
  have hp3 := r3.out.plain (by omega)
  have hp4 := r4.out.plain (by omega)
  have HB35 := Lib.hid B35
  have hs35 := B35.size
  have hs5 := B5.out.size
  clear B35 y0 y1 y2
  go_loopw [37] (fun vi wr => ∃ (k : Nat), k ≤ now.length ∧ vi = .int .i64 k ∧ Below w5.heap.size w5 wr) (fun vi _ => now.length - (intOf vi).toNat)
  case atStart => exact ⟨0, Nat.zero_le _, rfl, Below.refl _ _⟩
  case round =>
    obtain ⟨k, hkl, rfl, hbel⟩ := hrel
    have HB := Lib.hid hbel
    clear hbel
    by_cases hlt : k < now.length
    · have hlt' : (k : Int) < now.length := by omega
      obtain ⟨x, hx⟩ : ∃ x, now[k]? = some x := ⟨_, List.getElem?_eq_getElem hlt⟩
      obtain ⟨z1, z2, z3⟩ := ln_cells (HNow.out.below (B5.out.trans (HB.out.mono hs5)) (fun _ h => h)) hx
      obtain ⟨u1, u2, u3⟩ := ln_cells ((r3.out.below (HB35.out.trans (HB.out.mono hs35)) (fun _ h => h))) hx
      have hix := fun W => ix37 hp1 c1 k hlt W
      have hiy := fun W => ix59 hp3 c3 k hlt W
      have hpe := fun W => ln_eq W x.f x.t x.u
      have hng := noGuard56
      have v1 := (World.cell?_alloc_lt wr (.cells #[.int .i64 x.f, .int .i64 x.t, .int .i64 x.u] 42) _ (World.block_lt_of_cell? _ _ u1)).trans u1
      have v2 := (World.cell?_alloc_lt wr (.cells #[.int .i64 x.f, .int .i64 x.t, .int .i64 x.u] 42) _ (World.block_lt_of_cell? _ _ u2)).trans u2
      have v3 := (World.cell?_alloc_lt wr (.cells #[.int .i64 x.f, .int .i64 x.t, .int .i64 x.u] 42) _ (World.block_lt_of_cell? _ _ u3)).trans u3
      have HB2 := Lib.hid (HB.out.alloc HB.out.size (.cells #[.int .i64 x.f, .int .i64 x.t, .int .i64 x.u] 42))
      have hXb := Blk.new wr 42 #[.int .i64 x.f, .int .i64 x.t, .int .i64 x.u]
      clear hx u1 u2 u3
      go_wp2_with fail
      clear z1 z2 z3
      generalize wr.alloc (.cells #[.int .i64 x.f, .int .i64 x.t, .int .i64 x.u] 42) = W at *
      obtain ⟨x0, x1, x2⟩ := hXb.facts
      clear hXb
      go_quiet (fail)
      go_wp2_with fail
      exact ⟨⟨k + 1, by omega, by go_num, ((Fr.of_below HB2.out (S := fun _ => False)).drewN _).below (Nat.le_refl _) (fun _ _ => id)⟩, by simp [intOf]; omega⟩
    · have hlt' : ¬ (k : Int) < now.length := by omega
      have HB6 := Lib.hid (HB35.out.trans (HB.out.mono hs35))
      have HB45' := Lib.hid (B45.out.trans (HB.out.mono B45.out.size))
      have hs45 := B45.out.size
      have hsr := HB.out.size
      have hi5 := O5.out.lt
      have R4 := Lib.hid (r4.out.below (HB45'.out) (fun _ h => h))
      have R5 := Lib.hid (Blk.below O5.out HB.out hi5)
      have BW := Lib.hid (B5.out.trans (HB.out.mono hs5))
      obtain ⟨wq, rfl⟩ : ∃ wq : World, wq = wr := ⟨_, rfl⟩
      go_wp2_with fail
      go_loopw [57] (fun vi wz => ∃ (k j : Nat), k ≤ D.length ∧ vi = .int .i64 k ∧ wz = wq.drewN j) (fun vi _ => D.length - (intOf vi).toNat)
      case atStart => exact ⟨0, 0, Nat.zero_le _, rfl, rfl⟩
      case round =>
        obtain ⟨k, j, hkl, rfl, hwz⟩ := hrel
        have HW := Lib.hid hwz
        clear hwz
        by_cases hlt : k < D.length
        · have hlt' : (k : Int) < D.length := by omega
          obtain ⟨x, hx⟩ : ∃ x, D[k]? = some x := ⟨_, List.getElem?_eq_getElem hlt⟩
          have hix := fun W => ix53 (g := g4) D.length c4 k hlt W
          have hiy := fun W => ix53 (g := g5) D.length D.length k hlt W
          have e1 : wr.cell? ⟨g4, k, none⟩ = some (.int .i64 x) := by
            have := (R4.out.drewN j).cell2 k (by omega) (by omega)
            rw [HW.out]
            simpa [bk, ofs, adr, hx] using this
          have e2 : wr.cell? ⟨g5, k, none⟩ = some (.int .i64 x) := by
            have := (R5.out.drewN j).cell k
            rw [HW.out, this]
            simp [hx]
          clear hx
          go_wp2_with fail
          go_quiet (fail)
          go_wp2_with fail
          exact ⟨⟨k + 1, _, by omega, by go_num, by rw [HW.out, World.drewN_drewN]⟩, by simp [intOf]; omega⟩
        · have hlt' : ¬ (k : Int) < D.length := by omega
          go_wp2_with fail
          go_ret
          exact ⟨rfl, by rw [HW.out]; exact ((Fr.of_below BW.out (S := fun _ => False)).drewN _).below (Nat.le_refl _) (fun _ _ => id)⟩
end Go.Proofs.Ytnmmiiajcjcccaa

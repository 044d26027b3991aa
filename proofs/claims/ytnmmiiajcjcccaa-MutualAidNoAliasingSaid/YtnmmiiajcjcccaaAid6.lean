import Derived.Test.YtnmmiiajcjcccaaAid5
import Derived.Laws.StructEq
namespace Go.Proofs.Ytnmmiiajcjcccaa
set_option linter.unusedVariables false
open Go.RowKit Go.Own Go.Quo Go.Aid
/-- What the laws about plans ask first: whatever the answer is, yes only for short lists. -/
def FewPost (n n2 : Nat) (w : World) (e : Ending) (w' : World) : Prop := ∃ b : Bool, e = .returned (.bool b) ∧ (b = true → n ≤ 70 ∧ n2 ≤ 70) ∧ w' = w
set_option maxRecDepth 10000 in
set_option maxHeartbeats 2000000 in
theorem few_any (B B2 : Nat → Prop) (A A2 : Option Addr) (c c2 : Nat) (f wa : List Int) (w : World) (h : RI w B A f) (h2 : RI w B2 A2 wa) :
    Calls Try.prog 11 #[.slice A f.length c, .slice A2 wa.length c2] w (FewPost f.length wa.length w) := by
  have hp2 := h2.plain (by omega)
  have HR := Lib.hid h2
  obtain ⟨n, hn⟩ : ∃ n : Nat, f.length = n := ⟨_, rfl⟩
  rw [hn]
  clear h h2 hn
  rcases (by omega : (70 < n) ∨ (¬ 70 < n ∧ 70 < wa.length) ∨ (¬ 70 < n ∧ ¬ 70 < wa.length)) with hc | ⟨hc, hc2⟩ | ⟨hc, hc2⟩
  · have hc' : (70 : Int) < n := by omega
    go_enter Try.func11, Try.ntmps11
    go_wp2_with fail
    go_ret
    exact ⟨false, rfl, by simp, rfl⟩
  · have hc' : ¬ (70 : Int) < n := by omega
    have hc2' : (70 : Int) < wa.length := by omega
    go_enter Try.func11, Try.ntmps11
    go_wp2_with fail
    go_ret
    exact ⟨false, rfl, by simp, rfl⟩
  · have hc' : ¬ (70 : Int) < n := by omega
    have hc2' : ¬ (70 : Int) < wa.length := by omega
    go_enter Try.func11, Try.ntmps11
    go_wp2_with fail
    go_loopw [5, 6] (fun vn vi wr => ∃ (k : Nat) (s : Int), k ≤ wa.length ∧ vi = .int .i64 k ∧ vn = .int .i64 s ∧ 0 ≤ s ∧ s ≤ 1000 * k ∧ wr = w) (fun _ vi _ => wa.length - (intOf vi).toNat)
    case atStart => exact ⟨0, 0, Nat.zero_le _, rfl, rfl, by omega, by omega, rfl⟩
    case round =>
      obtain ⟨k, s, hk, rfl, rfl, hs0, hs1, rfl⟩ := hrel
      by_cases hlt : k < wa.length
      · have hlt' : (k : Int) < wa.length := by omega
        have hix := fun W => ix22 hp2 c2 k hlt W
        have hc1 := RI.at_ HR.out hlt
        have HC := Lib.hid (hold_any (gd wa k) wr)
        have r1 := clamp_r (gd wa k)
        generalize clampI (gd wa k) = x at *
        have hw1 : IntKind.i64.wrap (s + x) = s + x := IntWalk.i64_in _ (by omega)
        go_wp2_with fail
        refine HC.out.mono ?_
        rintro e w2 ⟨rfl, rfl⟩
        go_wp2_with fail
        exact ⟨⟨k + 1, s + x, by omega, by go_num, rfl, by omega, by push_cast; omega, by trivial⟩, by simp [intOf]; omega⟩
      · have hlt' : ¬ (k : Int) < wa.length := by omega
        go_wp2_with fail
        go_ret
        exact ⟨decide (s ≤ 400), rfl, fun _ => by omega, by trivial⟩
theorem prs_cells {w : World} {B : Nat → Prop} {A : Option Addr} {l : List (Int × Int)} (h : Reads w B 2 A l.length (l.flatMap pairsL)) {k : Nat} {x : Int × Int} (hx : l[k]? = some x) :
    w.cell? ⟨bk A, ofs A + k * 2, none⟩ = some (.int .i64 x.1) ∧ w.cell? ⟨bk A, ofs A + k * 2 + 1, none⟩ = some (.int .i64 x.2) := by
  have hk := (List.getElem?_eq_some_iff.1 hx).1
  constructor
  · rw [h.cell2 (k * 2) (by omega) (by omega)]
    simpa [pairsL] using flat_get pairsL 2 pairsL_len l k 0 x hx (by omega)
  · rw [Nat.add_assoc, h.cell2 (k * 2 + 1) (by omega) (by omega)]
    simpa [pairsL] using flat_get pairsL 2 pairsL_len l k 1 x hx (by omega)
theorem i28x : ∃ i, Try.prog.info? 28 = some i ∧ i.size = 2 := by obtain ⟨i, h, _, h2, _⟩ := info_parts info28; exact ⟨i, h, h2⟩
theorem ix25 {A : Option Addr} {n : Nat} (hA : Plain A n) (c k : Nat) (hk : k < n) (w : World) : (Instr.indexAt 25 (.slice A n c) (.int .i64 (k : Int))).run Try.prog w = .ok (.pointer (some ⟨bk A, ofs A + k * 2, none⟩)) w := by
  obtain ⟨i, h1, h2⟩ := i28x
  exact run_indexAt2 (P := Try.prog) Try.underlying25 h1 h2 hA c k hk w
theorem pair_eq (w : World) (a b c d : Int) : (Op.equalIn 10000 28 (.agg #[.int .i64 a, .int .i64 b]) (.agg #[.int .i64 c, .int .i64 d])).run Try.prog w = .ok ((a == c) && (b == d)) w := by
  obtain ⟨i, hi, hs⟩ := i3x
  rw [Op.equalIn]
  simp only [Sem.run_bind, run_underlying Try.underlying28, Result.andThen_ok, sizeOf, typeInfo, hi, Sem.run_pure, hs, run_program]
  rw [Std.Legacy.Range.forIn_eq_forIn_range']
  simp [List.range', part, go_sem, run_equalIn_int _ _ _ _ _ _ _ Try.underlying3]
  by_cases h1 : a = c <;> by_cases h2 : b = d <;> simp [h1, h2]
theorem noGuard28 : Try.prog.eqGuardType Try.prog.depth 28 = false := by kernel_rfl
/-- The program's plan and the reference's are the same list. -/
theorem plans_any (f wa : List Int) : ∃ l : List (Int × Int), l.length ≤ 64000 ∧ ∀ (B B2 : Nat → Prop) (A A2 : Option Addr) (c c2 : Nat) (w : World), RI w B A f → RI w B2 A2 wa →
    Calls Try.prog 12 #[.slice A f.length c, .slice A2 wa.length c2] w (PairsPost l w) ∧ Calls Try.prog 14 #[.slice A f.length c, .slice A2 wa.length c2] w (PairsPost l w) := by
  by_cases hc : f.length = wa.length ∧ f.length ≤ 64
  · obtain ⟨hl, h64⟩ := hc
    have htl : (shoF (leftF f wa)).length ≤ 64 := by simp only [shoF, List.length_map, left_len hl]; exact h64
    have hm : tot (shoF (leftF f wa)) ≤ 64000 := Nat.le_trans (tot_le _ 1000 (fun k _ => by
      rw [gd_sho]
      by_cases hk : k < f.length
      · rw [left_gd hl hk]
        have := clamp_r (gd f k)
        have := clamp_r (gd wa k)
        omega
      · rw [gd_out (by rw [left_len hl]; omega)]; omega)) (by omega)
    have hpl : ∀ (n : Nat) (s t : List Int), (planF n s t).length ≤ n := by
      intro n
      induction n with
      | zero => intro s t; simp [planF]
      | succ n ih =>
        intro s t
        unfold planF
        split
        · simp
        · have := ih (dec s (grF s)) (dec t (grF t)); simp; omega
    refine ⟨planF (tot (shoF (leftF f wa))) (surF (leftF f wa)) (shoF (leftF f wa)), Nat.le_trans (hpl _ _ _) hm, fun B B2 A A2 c c2 w h h2 => ⟨plan_ok B B2 A A2 c c2 f wa w h h2 hl h64, ?_⟩⟩
    rw [plan_eq]
    exact rplan_ok B B2 A A2 c c2 f wa w h h2 hl h64
  · have hc' : f.length ≠ wa.length ∨ 64 < f.length := by omega
    exact ⟨[], by simp, fun B B2 A A2 c c2 w h h2 => ⟨plan_bad A A2 _ _ c c2 w hc', rplan_bad A A2 _ _ c c2 w hc'⟩⟩
/-! ### What the law does for any two plans -/
set_option maxRecDepth 10000 in
set_option maxHeartbeats 4000000 in
theorem plan_law_of (HA : ∀ W, Calls Try.prog 10 #[] W (fun e w' => e = .returned (.bool true) ∧ Below W.heap.size W w')) (A A2 : Option Addr) (c c2 : Nat) (f wa : List Int) (w : World) (h : RI w (· < w.heap.size) A f) (h2 : RI w (· < w.heap.size) A2 wa) :
    Calls Try.prog 3 #[.slice A f.length c, .slice A2 wa.length c2] w fun e w' => e = .returned (.bool true) ∧ Below w.heap.size w w' := by
  have HF := Lib.hid (few_any (· < w.heap.size) (· < w.heap.size) A A2 c c2 f wa)
  have H1 := Lib.hid h
  have H2 := Lib.hid h2
  have HAA := Lib.hid HA
  clear h h2 HA
  obtain ⟨n, hn⟩ : ∃ n : Nat, f.length = n := ⟨_, rfl⟩
  obtain ⟨n2, hn2⟩ : ∃ n : Nat, wa.length = n := ⟨_, rfl⟩
  have HN := Lib.hid hn
  have HN2 := Lib.hid hn2
  rw [hn, hn2] at HF ⊢
  clear hn hn2
  go_enter Try.func3, Try.ntmps3
  go_wp2_with fail
  refine (HAA.out w).mono ?_
  rintro e w1 ⟨rfl, hb1⟩
  go_wp2_with fail
  refine (HF.out w1 (H1.out.below hb1 (fun _ h => h)) (H2.out.below hb1 (fun _ h => h))).mono ?_
  rintro e w2 ⟨b, rfl, hbb, rfl⟩
  cases b with
  | false =>
    go_wp2_with fail
    refine (HAA.out w2).mono ?_
    rintro e w3 ⟨rfl, hb3⟩
    go_wp2_with fail
    go_ret
    exact ⟨rfl, hb1.trans (hb3.mono hb1.size)⟩
  | true =>
    obtain ⟨hn70, hn270⟩ := hbb rfl
    clear hbb
    go_wp2_with fail
    have I1 := ints_any _ A c f w2 (H1.out.below hb1 (fun _ h => h)) (by rw [HN.out]; omega)
    rw [HN.out] at I1
    refine I1.mono ?_
    rintro e w3 ⟨g3, c3, rfl, ho3, hb3⟩
    rw [HN.out]
    go_wp2_with fail
    have I2 := ints_any _ A2 c2 wa w3 (H2.out.below (hb1.trans (hb3.mono hb1.size)) (fun _ h => h)) (by rw [HN2.out]; omega)
    rw [HN2.out] at I2
    refine I2.mono ?_
    rintro e w4 ⟨g4, c4, rfl, ho4, hb4⟩
    obtain ⟨l, hl, hPl⟩ := plans_any f wa
    have P1 := (hPl _ _ _ _ c3 c4 w4 ((Reads.of_own ho3).below hb4 (fun j hj => (ho3.lt j hj).2)) (Reads.of_own ho4)).1
    have HP2 := Lib.hid fun w5 q1 q2 => (hPl (· < w.heap.size) (· < w.heap.size) A A2 c c2 w5 q1 q2).2
    clear hPl
    rw [HN.out, HN2.out] at P1 HP2
    have HP1 := Lib.hid P1
    clear P1
    have b4 : Below w.heap.size w w4 := (hb1.trans (hb3.mono hb1.size)).trans (hb4.mono (by have := hb1.size; have := hb3.size; omega))
    rw [HN2.out]
    clear ho3 ho4 I1 I2
    go_wp2_with fail
    refine HP1.out.mono ?_
    rintro e w5 ⟨A5, c5, rfl, ho5, hb5⟩
    have b5 := b4.trans (hb5.mono b4.size)
    go_wp2_with fail
    refine (HP2.out w5 (H1.out.below b5 (fun _ h => h)) (H2.out.below b5 (fun _ h => h))).mono ?_
    rintro e w6 ⟨A6, c6, rfl, ho6, hb6⟩
    have hlb : ((l.length : Int) != (l.length : Int)) = false := by simp
    have R5 := Lib.hid ((Reads.of_own ho5).below hb6 (fun j hj => (ho5.lt j hj).2))
    have R6 := Lib.hid (Reads.of_own ho6)
    have p5 := R5.out.plain (by omega)
    have p6 := R6.out.plain (by omega)
    have b6 := b5.trans (hb6.mono b5.size)
    clear ho5 ho6
    go_wp2_with fail
    go_loopw [7, 32] (fun _ vi wr => ∃ (k j : Nat), k ≤ l.length ∧ vi = .int .i64 k ∧ wr = w6.drewN j) (fun _ vi _ => l.length - (intOf vi).toNat)
    case atStart => exact ⟨0, 0, Nat.zero_le _, rfl, rfl⟩
    case round =>
      obtain ⟨k, j, hk, rfl, rfl⟩ := hrel
      by_cases hlt : k < l.length
      · have hlt' : (k : Int) < l.length := by omega
        obtain ⟨p, hp⟩ : ∃ p, l[k]? = some p := ⟨_, List.getElem?_eq_getElem hlt⟩
        obtain ⟨x1, x2⟩ := prs_cells R5.out hp
        obtain ⟨y1, y2⟩ := prs_cells R6.out hp
        have hix := fun W => ix25 p5 c5 k hlt W
        have hiy := fun W => ix25 p6 c6 k hlt W
        clear hp
        have hpe := fun W => pair_eq W p.1 p.2 p.1 p.2
        have hng := noGuard28
        go_wp2_with fail
        go_quiet (fail)
        go_wp2_with fail
        exact ⟨⟨k + 1, _, by omega, by go_num, rfl⟩, by simp [intOf]; omega⟩
      · have hlt' : ¬ (k : Int) < l.length := by omega
        go_wp2_with fail
        go_ret
        exact ⟨rfl, below_drewN b6 _⟩
end Go.Proofs.Ytnmmiiajcjcccaa

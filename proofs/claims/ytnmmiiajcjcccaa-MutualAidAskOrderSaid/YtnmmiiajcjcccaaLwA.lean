import Derived.Test.YtnmmiiajcjcccaaAwk3
namespace Go.Proofs.Ytnmmiiajcjcccaa
set_option linter.unusedVariables false
open Go.RowKit Go.Own Go.Quo Go.Aid
theorem askF_len (D : List Int) (dist : Int) (sp : List Int) : (askF D dist sp).length ≤ D.length := by
  unfold askF
  split
  · simp
  · rw [List.length_map]; unfold askS; rw [List.length_mergeSort]; exact askN_len _ _ _
theorem askp_any (p m g r : Nat) (s : LSt) (dist : Int) (sp : List Int) (h64 : s.n ≤ 64) (W : World) (h : Pr W p m g r s) (B : Nat → Prop) (A : Option Addr) (c : Nat) (hr : Reads W B 1 A sp.length (sp.map (Value.int .i64))) :
    Calls Try.prog 23 #[.pointer (some ⟨p, 0, none⟩), .int .i64 dist, .slice A sp.length c] W (AskPost (askF (debts s.n s.all) dist sp) W) := by
  obtain ⟨ls, hl⟩ := h.led
  have hD := debts_len s.n s.all
  unfold askF
  by_cases hb : dist < 0 ∨ (s.n : Int) ≤ dist ∨ sp.length ≠ s.n
  · rw [if_pos (by rw [hD]; exact hb)]
    exact ask_bad B p m g s ls dist A c sp W hl hb
  · rw [if_neg (by rw [hD]; exact hb)]
    exact ask_ok B p m g s ls dist A c sp W hl hr (by omega) (by omega) (by omega) h64
theorem askr_any (p m g r : Nat) (s : LSt) (dist : Int) (sp : List Int) (K : Nat) (hk : LOk s K) (hK : K ≤ 1000) (h64 : s.n ≤ 64) (W : World) (h : Pr W p m g r s) (B : Nat → Prop) (A : Option Addr) (c : Nat) (hr : Reads W B 1 A sp.length (sp.map (Value.int .i64))) :
    Calls Try.prog 24 #[.pointer (some ⟨r, 0, none⟩), .int .i64 dist, .slice A sp.length c] W (RAskPost (askF (debts s.n s.all) dist sp) W) := by
  obtain ⟨A1, A2, c1, c2, hb', -, -⟩ := h.bok
  have hD := debts_len s.n s.all
  unfold askF
  by_cases hb : dist < 0 ∨ (s.n : Int) ≤ dist ∨ sp.length ≠ s.n
  · rw [if_pos (by rw [hD]; exact hb)]
    exact rask_bad _ r s A1 A2 c1 c2 dist A c sp W hb' hb
  · rw [if_neg (by rw [hD]; exact hb)]
    exact rask_ok _ B r s A1 A2 c1 c2 dist A c sp W hb' hr (by omega) (by omega) (by omega) h64 (by have := hk.al; omega) hk.ok
def asV (dist : Int) (A : Option Addr) (n c : Nat) : Value := .agg #[.int .i64 dist, .slice A n c]
set_option maxRecDepth 10000 in
set_option maxHeartbeats 4000000 in
theorem askl_nil (n dist : Int) (A As : Option Addr) (c cs ns : Nat) (l : List Ac) (w : World) (h : (n < 1 ∨ 64 < n) ∨ 60 < l.length) :
    Calls Try.prog 7 #[.int .i64 n, .slice A l.length c, asV dist As ns cs] w (fun e w' => e = .returned (.bool true) ∧ Below w.heap.size w w') := by
  have HAw := Lib.hid fun W => awake_any W
  have HRun := Lib.hid fun W => run_nil n A c l W h
  have HB := Lib.hid ((Below.refl w.heap.size w).alloc (Nat.le_refl _) (.cells #[.int .i64 dist, .slice As ns cs] 48))
  clear h
  unfold asV
  go_enter Try.func7, Try.ntmps7
  go_wp2_with (go_at_call 21; ((with_reducible refine (HRun.out _).mono ?_); rintro e w2 ⟨⟨q, rfl⟩, hb2⟩; have HB2 := Lib.hid (HB.out.trans (hb2.mono HB.out.size)); clear hb2))
  refine (HAw.out _).mono ?_
  rintro e w3 ⟨rfl, b3⟩
  have HB3 := Lib.hid (HB2.out.trans (b3.mono HB2.out.size))
  clear b3
  go_wp2_with fail
  refine (HAw.out _).mono ?_
  rintro e w4 ⟨rfl, b4⟩
  have HB4 := Lib.hid (HB3.out.trans (b4.mono HB3.out.size))
  clear b4
  go_wp2_with fail
  go_ret
  exact ⟨rfl, HB4.out⟩
set_option maxRecDepth 10000 in
set_option maxHeartbeats 4000000 in
theorem askl_long (d : Nat) (dist : Int) (h1 : ¬ (d : Int) < 1) (h2 : ¬ 64 < (d : Int)) (A As : Option Addr) (c cs ns : Nat) (l : List Ac) (w : World) (hr : Reads w (fun k => k < w.heap.size) 4 A l.length (l.flatMap acL)) (hl : ¬ 60 < l.length) (hwf : ∀ a ∈ l, (Lit.int .i64 a.l.u).wf = true) (hs : 70 < ns) :
    Calls Try.prog 7 #[.int .i64 (d : Int), .slice A l.length c, asV dist As ns cs] w (fun e w' => e = .returned (.bool true) ∧ Below w.heap.size w w') := by
  have HAw := Lib.hid fun W => awake_any W
  have HRun := Lib.hid (run_ok _ d h1 h2 A c l (w.alloc (.cells #[.int .i64 dist, .slice As ns cs] 48)) (hr.alloc _) (by omega) hwf)
  have HB := Lib.hid ((Below.refl w.heap.size w).alloc (Nat.le_refl _) (.cells #[.int .i64 dist, .slice As ns cs] 48))
  have HX := Lib.hid (Blk.new w 48 #[.int .i64 dist, .slice As ns cs])
  have n1 : (70 : Int) < ns := by omega
  clear hr hwf h1 h2 hl hs
  unfold asV
  go_enter Try.func7, Try.ntmps7
  go_wp2_with (go_at_call 21; ((with_reducible refine HRun.out.mono ?_); rintro e w2 ⟨p, m, g, r, rfl, -, -, -, -, -, -, -, -, hb2⟩; have HB2 := Lib.hid (HB.out.trans (hb2.mono HB.out.size)); have HX2 := Lib.hid (HX.out.below hb2 HX.out.lt); clear hb2))
  refine (HAw.out _).mono ?_
  rintro e w3 ⟨rfl, b3⟩
  have HB3 := Lib.hid (HB2.out.trans (b3.mono HB2.out.size))
  obtain ⟨x0, x1, x2⟩ := (HX2.out.below b3 HX2.out.lt).facts
  clear b3
  go_wp2_with fail
  refine (HAw.out _).mono ?_
  rintro e w4 ⟨rfl, b4⟩
  have HB4 := Lib.hid (HB3.out.trans (b4.mono HB3.out.size))
  clear b4
  go_wp2_with fail
  go_ret
  exact ⟨rfl, HB4.out⟩
set_option maxRecDepth 10000 in
set_option maxHeartbeats 8000000 in
theorem askl_ok (d : Nat) (dist : Int) (h1 : ¬ (d : Int) < 1) (h2 : ¬ 64 < (d : Int)) (A As : Option Addr) (c cs : Nat) (l : List Ac) (sp : List Int) (w : World) (hr : Reads w (fun k => k < w.heap.size) 4 A l.length (l.flatMap acL)) (hl : ¬ 60 < l.length) (hwf : ∀ a ∈ l, (Lit.int .i64 a.l.u).wf = true) (hs : ¬ 70 < sp.length) (hsr : Reads w (fun k => k < w.heap.size) 1 As sp.length (sp.map (Value.int .i64))) :
    Calls Try.prog 7 #[.int .i64 (d : Int), .slice A l.length c, asV dist As sp.length cs] w (fun e w' => e = .returned (.bool true) ∧ Below w.heap.size w w') := by
  have HAw := Lib.hid fun W => awake_any W
  have HRun := Lib.hid (run_ok _ d h1 h2 A c l (w.alloc (.cells #[.int .i64 dist, .slice As sp.length cs] 48)) (hr.alloc _) (by omega) hwf)
  have HB := Lib.hid ((Below.refl w.heap.size w).alloc (Nat.le_refl _) (.cells #[.int .i64 dist, .slice As sp.length cs] 48))
  have HX := Lib.hid (Blk.new w 48 #[.int .i64 dist, .slice As sp.length cs])
  have HS := Lib.hid hsr
  have n1 : decide ((70 : Int) < sp.length) = false := by simp; omega
  have hsl : sp.length ≤ 1000 := by omega
  clear hr hwf h1 hs hsr
  unfold asV
  go_enter Try.func7, Try.ntmps7
  go_wp2_with (go_at_call 21; ((with_reducible refine HRun.out.mono ?_); rintro e w2 ⟨p, m, g, r, rfl, hpr, hlk, huk, hnn, hgp, hgm, hgg, hgr, hb2⟩; have HB2 := Lib.hid (HB.out.trans (hb2.mono HB.out.size)); have HX2 := Lib.hid (HX.out.below hb2 HX.out.lt); have HP2 := Lib.hid hpr; have HLk := Lib.hid hlk; have HUk := Lib.hid huk; have HNn := Lib.hid hnn; clear hb2 hpr hlk huk hnn))
  refine (HAw.out _).mono ?_
  rintro e w3 ⟨rfl, b3⟩
  have HB3 := Lib.hid (HB2.out.trans (b3.mono HB2.out.size))
  have HX3 := Lib.hid (HX2.out.below b3 HX2.out.lt)
  have HP3 := Lib.hid (HP2.out.below b3)
  obtain ⟨x0, x1, x2⟩ := HX3.out.facts
  clear b3 HX2 HP2 HB2 HX HB
  go_wp2_with fail
  clear x0 x1 x2
  have hs3 := HB3.out.size
  generalize stepsF ⟨d, [], []⟩ l = s at *
  have hn64 : s.n ≤ 64 := by rw [HNn.out]; omega
  have HIn := Lib.hid fun (W : World) (hb : Below w3.heap.size w3 W) => ints_any _ As cs sp W (HS.out.below (HB3.out.trans (hb.mono hs3)) (fun _ h => h)) hsl
  have HAp := Lib.hid fun (W : World) (hb : Below w3.heap.size w3 W) (g2 c2 : Nat) (base : Nat) (hr2 : W.ownsRow base 3 1 (.slice (some ⟨g2, 0, none⟩) sp.length c2) sp.length (sp.map (Value.int .i64))) => askp_any p m g r s dist sp hn64 W (HP3.out.below hb) _ (some ⟨g2, 0, none⟩) c2 (Reads.of_own hr2)
  have HAr := Lib.hid fun (W : World) (hb : Below w3.heap.size w3 W) => askr_any p m g r s dist sp l.length HLk.out (by omega) hn64 W (HP3.out.below hb) _ As cs (HS.out.below (HB3.out.trans (hb.mono hs3)) (fun _ h => h))
  have HSm := Lib.hid fun (W : World) (hb : Below w3.heap.size w3 W) => same_any p m g r s l.length W (HP3.out.below hb) HLk.out (by omega) hn64 HUk.out
  have hal : (askF (debts s.n s.all) dist sp).length ≤ 1000 := by have := askF_len (debts s.n s.all) dist sp; rw [debts_len] at this; omega
  generalize askF (debts s.n s.all) dist sp = xs at *
  have HSl := Lib.hid fun (W : World) (B B2 : Nat → Prop) (A1 A2 : Option Addr) (c1 c2 : Nat) (q1 : Reads W B 1 A1 xs.length (xs.map (Value.int .i64))) (q2 : Reads W B2 1 A2 xs.length (xs.map (Value.int .i64))) => same_lists B B2 A1 A2 c1 c2 xs W q1 q2 hal
  have HB0 := Lib.hid ((((Fr.refl (fun _ => False) w3)).drew).below (B := w3.heap.size) (Nat.le_refl _) (fun _ _ => id))
  have HC := Lib.hid fun (W : World) (hb : Below w3.heap.size w3 W) => (HX3.out.below hb HX3.out.lt).cell
  go_region_held (fun w' => ∀ i, w'.cell? ⟨w.heap.size, i, none⟩ = #[Value.int .i64 dist, .slice As sp.length cs][i]?) (first | exact hHeld | exact HC.out _ HB0.out | exact HC.out _ HBc.out) (first
    | (go_at_call 13; ((with_reducible refine (HIn.out _ HB0.out).mono ?_); rintro e w4 ⟨g4, c4, rfl, ho4, hb4⟩; have HBc := Lib.hid (HB0.out.trans (hb4.mono HB0.out.size)); have HB4 := HBc; have HO4 := Lib.hid ho4; clear ho4 hb4))
    | (go_at_call 23; ((with_reducible refine (HAp.out _ HB4.out _ _ _ HO4.out).mono ?_); rintro e w5 ⟨A5, c5, rfl, hr5, hb5⟩; have HBc := Lib.hid (HB4.out.trans (hb5.mono HB4.out.size)); have HB5 := HBc; have HR5 := Lib.hid ((hr5.old (by omega)).more (B' := fun k => k < w5.heap.size) (fun k hk => hk.2)); clear hr5 hb5))
    | (go_at_call 24; ((with_reducible refine (HAr.out _ HB5.out).mono ?_); rintro e w6 ⟨A6, c6, rfl, hr6, hb6⟩; have HBc := Lib.hid (HB5.out.trans (hb6.mono HB5.out.size)); have HB6 := HBc; have HR6 := Lib.hid hr6; have HR56 := Lib.hid (HR5.out.below hb6 (fun _ h => h)); clear hr6 hb6))
    | (go_at_call 22; ((with_reducible refine (HSl.out _ _ _ _ _ _ _ HR56.out HR6.out).mono ?_); rintro e w7 ⟨rfl, hb7⟩; have HBc := Lib.hid (HB6.out.trans (hb7.mono HB6.out.size)); have HB7 := HBc; clear hb7))
    | (go_at_call 19; ((with_reducible refine (HSm.out _ HB7.out).mono ?_); rintro e w8 ⟨rfl, hb8⟩; have HBc := Lib.hid (HB7.out.trans (hb8.mono HB7.out.size)); have HB8 := HBc; clear hb8)))
  go_wp2_with fail
  go_ret
  exact ⟨by first | rfl | simp, HB3.out.trans (HB8.out.mono hs3)⟩
theorem askl_law (n dist : Int) (A As : Option Addr) (c cs : Nat) (l : List Ac) (sp : List Int) (w : World) (h : Reads w (· < w.heap.size) 4 A l.length (l.flatMap acL) ∧ ∀ a ∈ l, (Lit.int .i64 a.l.u).wf = true) (hs : Reads w (fun k => k < w.heap.size) 1 As sp.length (sp.map (Value.int .i64))) :
    Calls Try.prog 7 #[.int .i64 n, .slice A l.length c, asV dist As sp.length cs] w (fun e w' => e = .returned (.bool true) ∧ Below w.heap.size w w') := by
  by_cases h1 : (n < 1 ∨ 64 < n) ∨ 60 < l.length
  · exact askl_nil n dist A As c cs _ l w h1
  · obtain ⟨d, rfl⟩ : ∃ d : Nat, n = d := ⟨n.toNat, by omega⟩
    by_cases h2 : 70 < sp.length
    · exact askl_long d dist (by omega) (by omega) A As c cs _ l w h.1 (by omega) h.2 h2
    · exact askl_ok d dist (by omega) (by omega) A As c cs l sp w h.1 (by omega) h.2 h2 hs
end Go.Proofs.Ytnmmiiajcjcccaa

import Derived.Test.YtnmmiiajcjcccaaAwk3
import Derived.Test.YtnmmiiajcjcccaaBk2
import Derived.Deep.RegionHeldLaw
namespace Go.Aid
open Go.Quo (gd gd_get)
theorem sum_set (b : List Int) (k : Nat) (v : Int) (hk : k < b.length) : (b.set k v).sum = b.sum + (v - gd b k) := by
  induction b generalizing k with
  | nil => simp at hk
  | cons a r ih =>
    cases k with
    | zero => simp [gd]; omega
    | succ k =>
      have hk' : k < r.length := by simpa using hk
      rw [List.set_cons_succ, List.sum_cons, List.sum_cons, ih k hk']
      have : gd (a :: r) (k + 1) = gd r k := by simp [gd]
      rw [this]; omega
theorem bump_sum {b : List Int} {l : Ln} {n : Nat} (h : lnOk n l = true) (hb : b.length = n) : (bump b l).sum = b.sum := by
  obtain ⟨x, y, hx, hy, h1, h2, hne, -⟩ := lnOk_iff.1 h
  rw [bump_at hx hy (by omega) (by omega) hne, sum_set _ _ _ (by simp; omega), sum_set _ _ _ (by omega), gd_set _ _ _ _ (by omega), if_neg hne.symm]
  omega
theorem debts_sum {n : Nat} {all : List Ln} (h : ∀ l ∈ all, lnOk n l = true) : (debts n all).sum = 0 := by
  have : ∀ (all : List Ln) (b : List Int), b.length = n → (∀ l ∈ all, lnOk n l = true) → (all.foldl bump b).sum = b.sum := by
    intro all
    induction all with
    | nil => intro b _ _; rfl
    | cons a r ih =>
      intro b hb h
      rw [List.foldl_cons, ih _ (by rw [bump_len, hb]) (fun l hl => h l (by simp [hl])), bump_sum (h a (by simp)) hb]
  unfold debts
  rw [this all _ (by simp) h]
  have : ∀ n : Nat, (List.replicate n (0 : Int)).sum = 0 := by
    intro n
    induction n with
    | zero => rfl
    | succ n ih => rw [List.replicate_succ, List.sum_cons, ih]; rfl
  exact this n
theorem sum_take {l : List Int} {k : Nat} (hk : k < l.length) : (l.take (k + 1)).sum = (l.take k).sum + gd l k := by
  rw [List.take_add_one, List.getElem?_eq_getElem hk, gd_get hk]
  simp only [Option.toList_some, List.sum_append, List.sum_cons, List.sum_nil, Int.add_zero]
theorem sum_take_le {l : List Int} (h : ∀ i, gd l i ≤ 1000 ∧ -1000 ≤ gd l i) : ∀ k, k ≤ l.length → (l.take k).sum ≤ k * 1000 ∧ -(k * 1000 : Int) ≤ (l.take k).sum
  | 0, _ => by simp
  | k + 1, hk => by
    have := sum_take_le h k (by omega)
    have h1 := h k
    rw [sum_take (by omega)]
    omega
/-- What a loan does to the balances. -/
theorem lend_debts (s : LSt) (l : Ln) : ((lendF s l).2 ≠ 0 ∧ (lendF s l).1 = s) ∨ ((lendF s l).2 = 0 ∧ ∃ x y : Nat, l.f = x ∧ l.t = y ∧ x < s.n ∧ y < s.n ∧ x ≠ y ∧ ∀ i, gd (debts (lendF s l).1.n (lendF s l).1.all) i = if i = y then gd (debts s.n s.all) i - 1 else if i = x then gd (debts s.n s.all) i + 1 else gd (debts s.n s.all) i) := by
  unfold lendF
  split
  · exact .inl ⟨by simp, rfl⟩
  · next hv =>
    split
    · exact .inl ⟨by simp, rfl⟩
    · right
      have hv' : lnOk s.n l = true := by simpa using hv
      obtain ⟨x, y, hx, hy, h1, h2, hne, -⟩ := lnOk_iff.1 hv'
      refine ⟨rfl, x, y, hx, hy, h1, h2, hne, fun i => ?_⟩
      show gd (debts s.n (s.all ++ [l])) i = _
      rw [debts_snoc, bump_gd hx hy (by rw [debts_len]; omega) (by rw [debts_len]; omega) hne]
      split
      · next e => subst e; rfl
      · split
        · next e => subst e; rfl
        · rfl
theorem back_all (s : LSt) (u : Int) : (backF s u).1.n = s.n ∧ (backF s u).1.all = s.all := by
  unfold backF; split <;> exact ⟨rfl, rfl⟩
theorem lend_case (s : LSt) (l : Ln) : ((lendF s l).2 ≠ 0 ∧ ∀ i, gd (debts (lendF s l).1.n (lendF s l).1.all) i = gd (debts s.n s.all) i) ∨ ((lendF s l).2 = 0 ∧ ∃ x y : Nat, l.f = x ∧ l.t = y ∧ x ≠ y ∧ ∀ i, gd (debts (lendF s l).1.n (lendF s l).1.all) i = if i = y then gd (debts s.n s.all) i - 1 else if i = x then gd (debts s.n s.all) i + 1 else gd (debts s.n s.all) i) := by
  rcases lend_debts s l with ⟨h1, h2⟩ | ⟨h1, x, y, hx, hy, -, -, hne, h⟩
  · exact .inl ⟨h1, fun i => by rw [h2]⟩
  · exact .inr ⟨h1, x, y, hx, hy, hne, h⟩
end Go.Aid
namespace Go.Proofs.Ytnmmiiajcjcccaa
set_option linter.unusedVariables false
open Go.RowKit Go.Own Go.Quo Go.Aid
theorem pr_lend (p m g r : Nat) (s : LSt) (K : Nat) (l : Ln) (W : World) (h : ∃ ls, Led W p m g s ls) (hk : LOk s K) (hK : K ≤ 1000) :
    Calls Try.prog 26 #[.pointer (some ⟨p, 0, none⟩), .agg #[.int .i64 l.f, .int .i64 l.t, .int .i64 l.u]] W (fun e w' => e = .returned (.int .i64 (lendF s l).2) ∧ (∃ ls, Led w' p m g (lendF s l).1 ls) ∧ Fr (fun k => k = m ∨ k = g) W w') := by
  obtain ⟨ls, hl⟩ := h
  exact (lend_any p m g s ls l W hl (debts_small hk hK)).mono (fun e w' q => ⟨q.1, q.2.imp (fun _ x => x.1), by obtain ⟨_, _, x⟩ := q.2; exact x⟩)
theorem pr_back (p m g : Nat) (s : LSt) (K : Nat) (u : Int) (W : World) (h : ∃ ls, Led W p m g s ls) (hk : LOk s K) :
    Calls Try.prog 27 #[.pointer (some ⟨p, 0, none⟩), .int .i64 u] W (fun e w' => e = .returned (.int .i64 (backF s u).2) ∧ (∃ ls, Led w' p m g (backF s u).1 ls) ∧ Fr (fun k => k = m ∨ k = g) W w') := by
  obtain ⟨ls, hl⟩ := h
  exact (return_any p m g s ls u W hl hk.nodup).mono (fun e w' q => ⟨q.1, q.2.imp (fun _ x => x.1), by obtain ⟨_, _, x⟩ := q.2; exact x⟩)
theorem pr_bal (p m g : Nat) (s : LSt) (hn : s.n ≤ 64) (D : List Int) (hD : debts s.n s.all = D) (W : World) (h : ∃ ls, Led W p m g s ls) :
    Calls Try.prog 25 #[.pointer (some ⟨p, 0, none⟩)] W (fun e w' => ∃ g' c, e = .returned (.slice (some ⟨g', 0, none⟩) D.length c) ∧ Reads w' (fun k => W.heap.size ≤ k ∧ k < w'.heap.size) 1 (some ⟨g', 0, none⟩) D.length (D.map (Value.int .i64)) ∧ Below W.heap.size W w') := by
  obtain ⟨ls, hl⟩ := h
  subst hD
  refine (balances_any p m g s ls W hl hn).mono ?_
  rintro e w' ⟨g', c, rfl, ho, hb⟩
  refine ⟨g', c, rfl, ((Reads.of_own ho).old (by omega)).more (fun k hk => ⟨(ho.lt k hk.1).1, hk.2⟩), hb⟩
theorem led_below {W W' : World} {p m g : Nat} {s : LSt} (h : ∃ ls, Led W p m g s ls) (hb : Below W.heap.size W W') : ∃ ls, Led W' p m g s ls := h.imp (fun _ h => h.fr (Fr.of_below hb (S := fun _ => False)) id id id)
set_option maxRecDepth 10000 in
set_option maxHeartbeats 4000000 in
theorem bal_nil (n : Int) (A : Option Addr) (c : Nat) (l : List Ac) (x : Ln) (w : World) (h : (n < 1 ∨ 64 < n) ∨ 60 < l.length) :
    Calls Try.prog 8 #[.int .i64 n, .slice A l.length c, lnV x] w (fun e w' => e = .returned (.bool true) ∧ Below w.heap.size w w') := by
  have HAw := Lib.hid fun W => awake_any W
  have HRun := Lib.hid fun W => run_nil n A c l W h
  have HB := Lib.hid ((Below.refl w.heap.size w).alloc (Nat.le_refl _) (.cells #[.int .i64 x.f, .int .i64 x.t, .int .i64 x.u] 42))
  clear h
  unfold lnV
  go_enter Try.func8, Try.ntmps8
  go_wp2_with (go_at_call 21; ((with_reducible refine (HRun.out _).mono ?_); rintro e w2 ⟨⟨q, rfl⟩, hb2⟩; have HB2 := Lib.hid (HB.out.trans (hb2.mono HB.out.size)); clear hb2))
  refine (HAw.out _).mono ?_
  rintro e w3 ⟨rfl, b3⟩
  have HB3 := Lib.hid (HB2.out.trans (b3.mono HB2.out.size))
  clear b3
  go_wp2_with fail
  refine (HAw.out _).mono ?_
  rintro e w4 ⟨rfl, b4⟩
  have HB4 := Lib.hid (HB3.out.trans (b4.mono HB3.out.size))
  clear b4
  go_wp2_with fail
  go_ret
  exact ⟨rfl, HB4.out⟩
set_option maxRecDepth 10000 in
set_option maxHeartbeats 8000000 in
theorem bal_ok (d : Nat) (h1 : ¬ (d : Int) < 1) (h2 : ¬ 64 < (d : Int)) (A : Option Addr) (c : Nat) (l : List Ac) (x : Ln) (w : World) (hr : Reads w (fun k => k < w.heap.size) 4 A l.length (l.flatMap acL)) (hl : ¬ 60 < l.length) (hwf : ∀ a ∈ l, (Lit.int .i64 a.l.u).wf = true) :
    Calls Try.prog 8 #[.int .i64 (d : Int), .slice A l.length c, lnV x] w (fun e w' => e = .returned (.bool true) ∧ Below w.heap.size w w') := by
  have HAw := Lib.hid fun W => awake_any W
  have HRun := Lib.hid (run_ok _ d h1 h2 A c l (w.alloc (.cells #[.int .i64 x.f, .int .i64 x.t, .int .i64 x.u] 42)) (hr.alloc _) (by omega) hwf)
  have HB := Lib.hid ((Below.refl w.heap.size w).alloc (Nat.le_refl _) (.cells #[.int .i64 x.f, .int .i64 x.t, .int .i64 x.u] 42))
  have HX := Lib.hid (Blk.new w 42 #[.int .i64 x.f, .int .i64 x.t, .int .i64 x.u])
  have hs1 : (w.alloc (.cells #[.int .i64 x.f, .int .i64 x.t, .int .i64 x.u] 42)).heap.size = w.heap.size + 1 := by simp
  clear hr hwf h1
  unfold lnV
  go_enter Try.func8, Try.ntmps8
  go_wp2_with (go_at_call 21; ((with_reducible refine HRun.out.mono ?_); rintro e w2 ⟨p, m, g, r, rfl, hpr, hlk, huk, hnn, hgp, hgm, hgg, hgr, hb2⟩; have HB2 := Lib.hid (HB.out.trans (hb2.mono HB.out.size)); have HX2 := Lib.hid (HX.out.below hb2 HX.out.lt); have HP2 := Lib.hid hpr; have HLk := Lib.hid hlk; have HNn := Lib.hid hnn; clear hb2 hpr hlk huk hnn))
  rw [hs1] at hgp hgm hgg
  refine (HAw.out _).mono ?_
  rintro e w3 ⟨rfl, b3⟩
  have HB3 := Lib.hid (HB2.out.trans (b3.mono HB2.out.size))
  have HX3 := Lib.hid (HX2.out.below b3 HX2.out.lt)
  have HL3 := Lib.hid (HP2.out.below b3).led
  obtain ⟨hp3, hm3, hg3, -⟩ := (HP2.out.below b3).lt
  clear b3 HX2 HP2 HB2 HX HB hs1 HRun
  generalize hss : stepsF ⟨d, [], []⟩ l = s at *
  have hn64 : s.n ≤ 64 := by rw [HNn.out]; omega
  have hd0 : (debts s.n s.all).length = d := by rw [debts_len, HNn.out]
  have hd1 : (debts (lendF s x).1.n (lendF s x).1.all).length = d := by rw [debts_len, lend_n, HNn.out]
  have HLk1 := Lib.hid (HLk.out.lend x)
  have HLk2 := Lib.hid (HLk1.out.back x.u)
  have hlk : l.length ≤ 60 := by omega
  have HC0 := Lib.hid fun W h => pr_bal p m g s hn64 _ rfl W h
  have HCl := Lib.hid fun W h => pr_lend p m g r s l.length x W h HLk.out (by omega)
  have HC1 := Lib.hid fun W h => pr_bal p m g (lendF s x).1 (by rw [lend_n]; exact hn64) _ rfl W h
  have HCb := Lib.hid fun W h => pr_back p m g (lendF s x).1 (l.length + 1) x.u W h HLk1.out
  have HC2 := Lib.hid fun W h => pr_bal p m g (backF (lendF s x).1 x.u).1 (by rw [(back_all _ _).1, lend_n]; exact hn64) (debts (lendF s x).1.n (lendF s x).1.all) (by rw [(back_all _ _).1, (back_all _ _).2]) W h
  have HSmall := Lib.hid (show (∀ i, gd (debts s.n s.all) i ≤ 1000 ∧ -1000 ≤ gd (debts s.n s.all) i) ∧ ∀ i, gd (debts (lendF s x).1.n (lendF s x).1.all) i ≤ 1000 ∧ -1000 ≤ gd (debts (lendF s x).1.n (lendF s x).1.all) i from ⟨debts_small HLk.out (by omega), debts_small HLk1.out (by omega)⟩)
  have HSum := Lib.hid (debts_sum HLk1.out.ok)
  have HCase := Lib.hid (lend_case s x)
  rw [hd0] at HC0
  rw [hd1] at HC1 HC2
  generalize debts s.n s.all = D0 at *
  generalize debts (lendF s x).1.n (lendF s x).1.all = D1 at *
  generalize (lendF s x).2 = q at *
  generalize (backF (lendF s x).1 x.u).2 = q2 at *
  have hBx : w.heap.size ≠ m ∧ w.heap.size ≠ g := by omega
  obtain ⟨x0, x1, x2⟩ := HX3.out.facts
  go_wp2_with (first
    | (go_at_call 25; ((with_reducible refine (HC0.out _ HL3.out).mono ?_); rintro e w4 ⟨g4, c4, rfl, hr4, hb4⟩; have HB4 := Lib.hid (HB3.out.trans (hb4.mono HB3.out.size)); have HX4 := Lib.hid (HX3.out.below hb4 x0); have HL4 := Lib.hid (led_below HL3.out hb4); have HR4 := Lib.hid hr4; have hs34 := hb4.size; clear hr4 hb4 x0 x1 x2; obtain ⟨x0, x1, x2⟩ := HX4.out.facts))
    | (go_at_call 26; ((with_reducible refine (HCl.out _ HL4.out).mono ?_); rintro e w5 ⟨rfl, hl5, hf5⟩; have HL5 := Lib.hid hl5; have HX5 := Lib.hid (HX4.out.fr hf5 (by omega)); have HR5 := Lib.hid (HR4.out.fr hf5 (fun k hk e => by omega)); have hs45 := hf5.size; have HB5 := Lib.hid (HB4.out.trans (hf5.below (B := w.heap.size) (by have := HB4.out.size; omega) (fun k hk e => by omega))); clear hl5 hf5))
    | (go_at_call 25; ((with_reducible refine (HC1.out _ HL5.out).mono ?_); rintro e w6 ⟨g6, c6, rfl, hr6, hb6⟩; have HB6 := Lib.hid (HB5.out.trans (hb6.mono HB5.out.size)); have HX6 := Lib.hid (HX5.out.below hb6 HX5.out.lt); have HL6 := Lib.hid (led_below HL5.out hb6); have HR6 := Lib.hid hr6; have HR46 := Lib.hid (HR5.out.below hb6 (fun k hk => by omega)); have hs56 := hb6.size; clear hr6 hb6 x0 x1 x2; obtain ⟨x0, x1, x2⟩ := HX6.out.facts))
    | (go_at_call 27; ((with_reducible refine (HCb.out _ HL6.out).mono ?_); rintro e w7 ⟨rfl, hl7, hf7⟩; have HL7 := Lib.hid hl7; have HX7 := Lib.hid (HX6.out.fr hf7 (by omega)); have HR47 := Lib.hid (HR46.out.fr hf7 (fun k hk e => by omega)); have HR67 := Lib.hid (HR6.out.fr hf7 (fun k hk e => by omega)); have hs67 := hf7.size; have HB7 := Lib.hid (HB6.out.trans (hf7.below (B := w.heap.size) (by have := HB6.out.size; omega) (fun k hk e => by omega))); clear hl7 hf7))
    | (go_at_call 25; ((with_reducible refine (HC2.out _ HL7.out).mono ?_); rintro e w8 ⟨g8, c8, rfl, hr8, hb8⟩; have HB8 := Lib.hid (HB7.out.trans (hb8.mono HB7.out.size)); have HX8 := Lib.hid (HX7.out.below hb8 HX7.out.lt); have HR8 := Lib.hid hr8; have HR48 := Lib.hid (HR47.out.below hb8 (fun k hk => by omega)); have HR68 := Lib.hid (HR67.out.below hb8 (fun k hk => by omega)); clear hr8 hb8 x0 x1 x2; obtain ⟨x0, x1, x2⟩ := HX8.out.facts)))
  have HXd := Lib.hid HX8.out
  clear x0 x1 x2 HL3 HC0 HCl HC1 HCb HC2
  go_loopw [13, 65] (fun vs vi wr => ∃ (k j : Nat), k ≤ d ∧ vi = .int .i64 k ∧ vs = .int .i64 (D1.take k).sum ∧ wr = w8.drewN j) (fun _ vi _ => d - (intOf vi).toNat)
  case atStart => exact ⟨0, 0, Nat.zero_le _, rfl, rfl, rfl⟩
  case round =>
    obtain ⟨k, j, hkd, rfl, rfl, hwr⟩ := hrel
    have HW := Lib.hid hwr
    clear hwr
    by_cases hlt : k < d
    · have hlt' : (k : Int) < d := by omega
      have i4 := fun W => ix53 (g := g4) d c4 k hlt W
      have i6 := fun W => ix53 (g := g6) d c6 k hlt W
      have i8 := fun W => ix53 (g := g8) d c8 k hlt W
      have e4 : wr.cell? ⟨g4, k, none⟩ = some (.int .i64 (gd D0 k)) := by
        have := (HR48.out.drewN j).cell2 k (by omega) (by omega)
        have hk0 : k < D0.length := by omega
        rw [HW.out, gd_get hk0]; simpa [bk, ofs, adr, hk0] using this
      have e6 : wr.cell? ⟨g6, k, none⟩ = some (.int .i64 (gd D1 k)) := by
        have := (HR68.out.drewN j).cell2 k (by omega) (by omega)
        have hk0 : k < D1.length := by omega
        rw [HW.out, gd_get hk0]; simpa [bk, ofs, adr, hk0] using this
      have e8 : wr.cell? ⟨g8, k, none⟩ = some (.int .i64 (gd D1 k)) := by
        have := (HR8.out.drewN j).cell2 k (by omega) (by omega)
        have hk0 : k < D1.length := by omega
        rw [HW.out, gd_get hk0]; simpa [bk, ofs, adr, hk0] using this
      obtain ⟨x0, x1, x2⟩ := (show Blk wr w.heap.size 42 _ by rw [HW.out]; exact HXd.out.drewN j).facts
      have HSu := Lib.hid (sum_take (l := D1) (k := k) (by omega))
      have hb1 := sum_take_le HSmall.out.2 k (by omega)
      have hb2 := HSmall.out.2 k
      have hb3 := HSmall.out.1 k
      have hw1 : IntKind.i64.wrap ((D1.take k).sum + gd D1 k) = (D1.take k).sum + gd D1 k := IntWalk.i64_in _ (by omega)
      have hCase := HCase.out
      generalize (D1.take k).sum = S0 at *
      rcases hCase with ⟨hq, hD⟩ | ⟨hq, a, b, hxa, hxb, hab, hD⟩
      · have hDk := hD k
        have hq' : (q == 0) = false := by simpa using hq
        have hw2 : IntKind.i64.wrap (gd D1 k + 0) = gd D1 k := by rw [Int.add_zero]; exact IntWalk.i64_in _ (by omega)
        have hw3 : IntKind.i64.wrap (gd D1 k) = gd D1 k := IntWalk.i64_in _ (by omega)
        rw [← hDk] at e4
        clear hD hq hDk
        generalize gd D1 k = v at *
        go_wp2_with fail
        go_quiet (fail)
        go_wp2_with fail
        exact ⟨⟨k + 1, _, by omega, by go_num, by rw [HSu.out], by rw [HW.out, World.drewN_drewN]⟩, by simp [intOf]; omega⟩
      · have hDk := hD k
        have hq' : (q == 0) = true := by simpa using hq
        subst hq
        by_cases hka : k = a
        · have hkb : ¬ k = b := by omega
          rw [if_neg hkb, if_pos hka] at hDk
          have c1 : ((k : Int) == x.f) = true := by simp; omega
          have c2 : ((k : Int) == x.t) = false := by simp; omega
          have hw2 : IntKind.i64.wrap (gd D0 k + 1) = gd D1 k := by rw [hDk]; exact IntWalk.i64_in _ (by omega)
          clear hD hDk hb1 hb2 hb3 hxa hxb hab hka hkb
          generalize gd D1 k = v1 at *
          generalize gd D0 k = v0 at *
          go_wp2_with fail
          go_quiet (fail)
          go_wp2_with fail
          exact ⟨⟨k + 1, _, by omega, by go_num, by rw [HSu.out], by rw [HW.out, World.drewN_drewN]⟩, by simp [intOf]; omega⟩
        · by_cases hkb : k = b
          · rw [if_pos hkb] at hDk
            have c1 : ((k : Int) == x.f) = false := by simp; omega
            have c2 : ((k : Int) == x.t) = true := by simp; omega
            have hw2 : IntKind.i64.wrap (gd D0 k + -1) = gd D1 k := by rw [hDk]; exact IntWalk.i64_in _ (by omega)
            clear hD hDk hb1 hb2 hb3 hxa hxb hab hka hkb
            generalize gd D1 k = v1 at *
            generalize gd D0 k = v0 at *
            go_wp2_with fail
            go_quiet (fail)
            go_wp2_with fail
            exact ⟨⟨k + 1, _, by omega, by go_num, by rw [HSu.out], by rw [HW.out, World.drewN_drewN]⟩, by simp [intOf]; omega⟩
          · rw [if_neg hkb, if_neg hka] at hDk
            have c1 : ((k : Int) == x.f) = false := by simp; omega
            have c2 : ((k : Int) == x.t) = false := by simp; omega
            have hw2 : IntKind.i64.wrap (gd D1 k + 0) = gd D1 k := by rw [Int.add_zero]; exact IntWalk.i64_in _ (by omega)
            have hw3 : IntKind.i64.wrap (gd D1 k) = gd D1 k := IntWalk.i64_in _ (by omega)
            rw [← hDk] at e4
            clear hD hDk hxa hxb hab hka hkb
            generalize gd D1 k = v at *
            go_wp2_with fail
            go_quiet (fail)
            go_wp2_with fail
            exact ⟨⟨k + 1, _, by omega, by go_num, by rw [HSu.out], by rw [HW.out, World.drewN_drewN]⟩, by simp [intOf]; omega⟩
    · have hlt' : ¬ (k : Int) < d := by omega
      have he : k = d := by omega
      have hS : (D1.take k).sum = 0 := by rw [List.take_of_length_le (by omega)]; exact HSum.out
      rw [hS]
      go_wp2_with fail
      go_ret
      exact ⟨by first | rfl | simp, by rw [HW.out]; exact ((Fr.of_below HB8.out (S := fun _ => False)).drewN _).below (Nat.le_refl _) (fun _ _ => id)⟩
theorem bal_law (n : Int) (A : Option Addr) (c : Nat) (l : List Ac) (x : Ln) (w : World) (h : Reads w (· < w.heap.size) 4 A l.length (l.flatMap acL) ∧ ∀ a ∈ l, (Lit.int .i64 a.l.u).wf = true) :
    Calls Try.prog 8 #[.int .i64 n, .slice A l.length c, lnV x] w (fun e w' => e = .returned (.bool true) ∧ Below w.heap.size w w') := by
  by_cases h1 : (n < 1 ∨ 64 < n) ∨ 60 < l.length
  · exact bal_nil n A c l x w h1
  · obtain ⟨d, rfl⟩ : ∃ d : Nat, n = d := ⟨n.toNat, by omega⟩
    exact bal_ok d (by omega) (by omega) A c l x w h.1 (by omega) h.2
end Go.Proofs.Ytnmmiiajcjcccaa
namespace Go.Proofs.Ytnmmiiajcjcccaa
set_option linter.unusedVariables false
open Go.RowKit Go.Own Go.Quo Go.Aid
theorem lend_same {s : LSt} {l : Ln} (h : (lendF s l).2 ≠ 0) : (lendF s l).1 = s := by
  unfold lendF at *
  split
  · rfl
  · next h1 =>
    rw [if_neg h1] at h
    split
    · rfl
    · next h2 => rw [if_neg h2] at h; exact absurd rfl h
theorem back_same {s : LSt} {u : Int} (h : (backF s u).2 ≠ 0) : (backF s u).1 = s := by
  unfold backF at *
  split
  · next h2 => rw [if_pos h2] at h; exact absurd rfl h
  · rfl
set_option maxRecDepth 10000 in
set_option maxHeartbeats 4000000 in
theorem na_nil (n : Int) (A : Option Addr) (c : Nat) (l : List Ac) (x : Ac) (w : World) (h : (n < 1 ∨ 64 < n) ∨ 60 < l.length) :
    Calls Try.prog 9 #[.int .i64 n, .slice A l.length c, acV x] w (fun e w' => e = .returned (.bool true) ∧ Below w.heap.size w w') := by
  have HAw := Lib.hid fun W => awake_any W
  have HRun := Lib.hid fun W => run_nil n A c l W h
  have HB := Lib.hid ((Below.refl w.heap.size w).alloc (Nat.le_refl _) (.cells #[.int .i64 x.k, .int .i64 x.l.f, .int .i64 x.l.t, .int .i64 x.l.u] 44))
  clear h
  unfold acV
  go_enter Try.func9, Try.ntmps9
  go_wp2_with (go_at_call 21; ((with_reducible refine (HRun.out _).mono ?_); rintro e w2 ⟨⟨q, rfl⟩, hb2⟩; have HB2 := Lib.hid (HB.out.trans (hb2.mono HB.out.size)); clear hb2))
  refine (HAw.out _).mono ?_
  rintro e w3 ⟨rfl, b3⟩
  have HB3 := Lib.hid (HB2.out.trans (b3.mono HB2.out.size))
  clear b3
  go_wp2_with fail
  refine (HAw.out _).mono ?_
  rintro e w4 ⟨rfl, b4⟩
  have HB4 := Lib.hid (HB3.out.trans (b4.mono HB3.out.size))
  clear b4
  go_wp2_with fail
  go_ret
  exact ⟨rfl, HB4.out⟩
/-- A row of numbers may be written over. -/
def Wr (W : World) (b o n st off : Nat) : Prop := ∀ i, i < n → ∃ v, W.cell? ⟨b, o + i * st + off, none⟩ = some (.int .i64 v) ∧ W.frozen? ⟨b, o + i * st + off, none⟩ = false
theorem Wr.set {W : World} {b o n st off k : Nat} (h : Wr W b o n st off) (hst : 0 < st) (hk : k < n) (u : Int) : Wr (W.setCell ⟨b, o + k * st + off, none⟩ (.int .i64 u)) b o n st off := fun i hi => by
  obtain ⟨v, h1, h2⟩ := h i hi
  by_cases hik : i = k
  · subst hik
    exact ⟨u, World.cell?_setCell_same' _ _ _ (by rw [h1]; rfl), by rw [World.frozen?_setCell]; exact h2⟩
  · have hne : o + k * st + off ≠ o + i * st + off := fun e => by
      have : k * st = i * st := by omega
      exact hik (Nat.eq_of_mul_eq_mul_right hst this).symm
    refine ⟨v, ?_, by rw [World.frozen?_setCell]; exact h2⟩
    rw [World.cell?_setCell_other _ _ _ _ (fun e => hne (by injection e))]
    exact h1
theorem Wr.below {W W' : World} {b o n st off : Nat} (h : Wr W b o n st off) (hb : Below W.heap.size W W') : Wr W' b o n st off := fun i hi => by
  obtain ⟨v, h1, h2⟩ := h i hi
  have hl := World.block_lt_of_cell? _ _ h1
  have := hb.block b hl
  refine ⟨v, ?_, ?_⟩
  · rw [World.cell?_of_block (a := ⟨b, _, none⟩) this]; exact h1
  · rw [World.frozen?_of_block (a := ⟨b, _, none⟩) this]; exact h2
theorem Wr.of_ownL {W : World} {base : Nat} {A : Option Addr} {c : Nat} {l : List Ln} (h : W.ownsRow base 56 3 (.slice A l.length c) l.length (l.flatMap lnL)) : Wr W (bk A) (ofs A) l.length 3 2 := fun i hi => by
  obtain ⟨-, -, h3⟩ := ln_cells (Reads.of_own h) (List.getElem?_eq_getElem hi)
  refine ⟨_, h3, ?_⟩
  rcases h.2 with ⟨e1, e2⟩ | ⟨g, cap, cur, e1, e2, e3, _⟩
  · omega
  · injection e1 with e1
    subst e1
    exact Blk.frozen (cs := cur) (t := 56) e3 _
theorem Wr.of_ownI {W : World} {base g c : Nat} {l : List Int} (h : W.ownsRow base 2 1 (.slice (some ⟨g, 0, none⟩) l.length c) l.length (l.map (Value.int .i64))) : Wr W g 0 l.length 1 0 := fun i hi => by
  have h3 := h.cellAt i (by omega)
  rw [List.getElem?_map, List.getElem?_eq_getElem hi] at h3
  refine ⟨_, by simpa using h3, ?_⟩
  rcases h.2 with ⟨e1, e2⟩ | ⟨g', cap, cur, e1, e2, e3, _⟩
  · cases e1
  · injection e1 with e1
    injection e1 with e1
    injection e1 with e1
    subst e1
    exact Blk.frozen (cs := cur) (t := 2) e3 _
theorem own_bk {W : World} {base : Nat} {e : TypeId} {size n c : Nat} {A : Option Addr} {xs : List Value} (h : W.ownsRow base e size (.slice A n c) n xs) (hn : 0 < n) : base ≤ bk A := by
  rcases h.2 with ⟨e1, e2⟩ | ⟨g, cap, cur, e1, e2, _⟩
  · omega
  · injection e1 with e1
    subst e1; exact e2
theorem Pr.copy {W W' : World} {p m g r rn : Nat} {s : LSt} {A1 A2 : Option Addr} {c1 c2 : Nat} (h : Pr W p m g r s) (hb : Bok W (NB p m g r) r s A1 A2 c1 c2) (k1 : s.now.length ≤ c1) (k2 : s.all.length ≤ c2) (hf : Below W.heap.size W W') (hrn : W.heap.size ≤ rn)
    (hn : Blk W' rn 39 #[.int .i64 (s.n : Int), .slice A1 s.now.length c1, .slice A2 s.all.length c2]) : Pr W' p m g rn s := by
  obtain ⟨q1, q2, q3, q4⟩ := h.lt
  refine ⟨(h.below hf).led, ⟨A1, A2, c1, c2, ⟨hn, ?_, ?_⟩, k1, k2⟩, by omega, by omega, by omega⟩
  · exact ((hb.now.old (by omega)).below hf (fun k hk => hk.2)).more (fun k hk => ⟨hk.1.1, hk.1.2.1, hk.1.2.2.1, by omega⟩)
  · exact ((hb.all.old (by omega)).below hf (fun k hk => hk.2)).more (fun k hk => ⟨hk.1.1, hk.1.2.1, hk.1.2.2.1, by omega⟩)
set_option maxRecDepth 10000 in
set_option maxHeartbeats 8000000 in
theorem na_ok (d : Nat) (h1 : ¬ (d : Int) < 1) (h2 : ¬ 64 < (d : Int)) (A : Option Addr) (c : Nat) (l : List Ac) (x : Ac) (w : World) (hr : Reads w (fun k => k < w.heap.size) 4 A l.length (l.flatMap acL)) (hl : ¬ 60 < l.length) (hwf : ∀ a ∈ l, (Lit.int .i64 a.l.u).wf = true) :
    Calls Try.prog 9 #[.int .i64 (d : Int), .slice A l.length c, acV x] w (fun e w' => e = .returned (.bool true) ∧ Below w.heap.size w w') := by
  have HAw := Lib.hid fun W => awake_any W
  have HRun := Lib.hid (run_ok _ d h1 h2 A c l (w.alloc (.cells #[.int .i64 x.k, .int .i64 x.l.f, .int .i64 x.l.t, .int .i64 x.l.u] 44)) (hr.alloc _) (by omega) hwf)
  have HB := Lib.hid ((Below.refl w.heap.size w).alloc (Nat.le_refl _) (.cells #[.int .i64 x.k, .int .i64 x.l.f, .int .i64 x.l.t, .int .i64 x.l.u] 44))
  have HX := Lib.hid (Blk.new w 44 #[.int .i64 x.k, .int .i64 x.l.f, .int .i64 x.l.t, .int .i64 x.l.u])
  have hs1 : (w.alloc (.cells #[.int .i64 x.k, .int .i64 x.l.f, .int .i64 x.l.t, .int .i64 x.l.u] 44)).heap.size = w.heap.size + 1 := by simp
  clear hr hwf h1
  unfold acV
  go_enter Try.func9, Try.ntmps9
  go_wp2_with (go_at_call 21; ((with_reducible refine HRun.out.mono ?_); rintro e w2 ⟨p, m, g, r, rfl, hpr, hlk, huk, hnn, hgp, hgm, hgg, hgr, hb2⟩; have HB2 := Lib.hid (HB.out.trans (hb2.mono HB.out.size)); have HX2 := Lib.hid (HX.out.below hb2 HX.out.lt); have HP2 := Lib.hid hpr; have HLk := Lib.hid hlk; have HUk := Lib.hid huk; have HNn := Lib.hid hnn; clear hb2 hpr hlk huk hnn))
  rw [hs1] at hgp hgm hgg hgr
  refine (HAw.out _).mono ?_
  rintro e w3 ⟨rfl, b3⟩
  have HB3 := Lib.hid (HB2.out.trans (b3.mono HB2.out.size))
  have HX3 := Lib.hid (HX2.out.below b3 HX2.out.lt)
  have HP3 := Lib.hid (HP2.out.below b3)
  obtain ⟨hp3, hm3, hg3, hr3⟩ := HP3.out.lt
  have hx3 := HX3.out.lt
  clear b3 HX2 HP2 HB2 HX HB hs1 HRun
  generalize hss : stepsF ⟨d, [], []⟩ l = s at *
  have hlk : l.length ≤ 60 := by omega
  have hn64 : s.n ≤ 64 := by rw [HNn.out]; omega
  have hnow : s.now.length ≤ 1000 := by have := HLk.out.nl; omega
  have HOut := Lib.hid (show ∀ W, Below w3.heap.size w3 W → Calls Try.prog 28 #[.pointer (some ⟨p, 0, none⟩)] W (OutPost s.now W) from fun W hW => by
    obtain ⟨ls, hl⟩ := (HP3.out.below hW).led
    exact out_any p m g s ls W hl HLk.out.srt HUk.out hnow)
  have HBal := Lib.hid (show ∀ W, Below w3.heap.size w3 W → Calls Try.prog 25 #[.pointer (some ⟨p, 0, none⟩)] W (I64Post (debts s.n s.all) W) from fun W hW => by
    obtain ⟨ls, hl⟩ := (HP3.out.below hW).led
    exact balances_any p m g s ls W hl hn64)
  have hDl : (debts s.n s.all).length ≤ 64 := by rw [debts_len]; exact hn64
  generalize debts s.n s.all = D at *
  have HSm := Lib.hid fun (r' : Nat) (W : World) (h : Pr W p m g r' s) => same_any p m g r' s l.length W h HLk.out (by omega) hn64 HUk.out
  go_wp2_with (go_at_call 28; ((with_reducible refine (HOut.out _ (Below.refl _ _)).mono ?_); rintro e w4 ⟨A4, c4, rfl, ho4, hb4⟩; have HW4 := Lib.hid (Wr.of_ownL ho4); have HBk := Lib.hid (fun hn => own_bk ho4 hn); have HPl := (Reads.of_own ho4).plain (by omega); have HB34 := Lib.hid hb4; clear ho4 hb4))
  go_loopw [32] (fun vi wr => ∃ (k : Nat), k ≤ s.now.length ∧ vi = .int .i64 k ∧ Below w3.heap.size w3 wr ∧ Wr wr (bk A4) (ofs A4) s.now.length 3 2) (fun vi _ => s.now.length - (intOf vi).toNat)
  case atStart => exact ⟨0, Nat.zero_le _, rfl, HB34.out, HW4.out⟩
  case round =>
    obtain ⟨k, hk, rfl, hbel, hwr⟩ := hrel
    have HB := Lib.hid hbel
    have HW := Lib.hid hwr
    clear hbel hwr
    by_cases hlt : k < s.now.length
    · have hlt' : (k : Int) < s.now.length := by omega
      have hix := fun W => ix59 HPl c4 k hlt W
      obtain ⟨v, hv1, hv2⟩ := HW.out k hlt
      have hbk := HBk.out (by omega)
      have HNx := Lib.hid (fun u => HW.out.set (by omega) hlt u)
      have HBx := Lib.hid (fun (u : Value) => ((Fr.of_below HB.out (S := fun _ => False)).setCell (p := ⟨bk A4, ofs A4 + k * 3 + 2, none⟩) (.inr hbk) u).below (Nat.le_refl _) (fun _ _ => id))
      go_wp2_with fail
      exact ⟨⟨k + 1, by omega, by go_num, HBx.out _, HNx.out _⟩, by simp [intOf]; omega⟩
    · have hlt' : ¬ (k : Int) < s.now.length := by omega
      clear HW HW4
      go_wp2_with (go_at_call 25; ((with_reducible refine (HBal.out _ HB.out).mono ?_); rintro e w5 ⟨g5, c5, rfl, ho5, hb5⟩; have HW5 := Lib.hid (Wr.of_ownI ho5); have hg5 := (ho5.lt g5 rfl).1; have hs4 := HB.out.size; have HB5 := Lib.hid (HB.out.trans (hb5.mono HB.out.size)); clear ho5 hb5))
      obtain ⟨wq, rfl⟩ : ∃ wq : World, wq = wr := ⟨_, rfl⟩
      go_loopw [48] (fun vi wz => ∃ (k : Nat), k ≤ D.length ∧ vi = .int .i64 k ∧ Below w3.heap.size w3 wz ∧ Wr wz g5 0 D.length 1 0) (fun vi _ => D.length - (intOf vi).toNat)
      case atStart => exact ⟨0, Nat.zero_le _, rfl, HB5.out, HW5.out⟩
      case round =>
        obtain ⟨k, hk, rfl, hbel, hwr⟩ := hrel
        have HB6 := Lib.hid hbel
        have HW6 := Lib.hid hwr
        clear hbel hwr
        by_cases hlt : k < D.length
        · have hlt' : (k : Int) < D.length := by omega
          have hix := fun W => ix53 (g := g5) D.length c5 k hlt W
          obtain ⟨v, hv1, hv2⟩ := HW6.out k hlt
          rw [show 0 + k * 1 + 0 = k by omega] at hv1 hv2
          have HNx := Lib.hid (fun u => HW6.out.set (by omega) hlt u)
          rw [show 0 + k * 1 + 0 = k by omega] at HNx
          have HBx := Lib.hid (fun (u : Value) => ((Fr.of_below HB6.out (S := fun _ => False)).setCell (p := ⟨g5, k, none⟩) (.inr (by show w3.heap.size ≤ g5; omega)) u).below (Nat.le_refl _) (fun _ _ => id))
          go_wp2_with fail
          exact ⟨⟨k + 1, by omega, by go_num, HBx.out _, HNx.out _⟩, by simp [intOf]; omega⟩
        · have hlt' : ¬ (k : Int) < D.length := by omega
          clear HW6 HW5
          have HP6 := Lib.hid (HP3.out.below HB6.out)
          go_wp2_with (go_at_call 19; ((with_reducible refine (HSm.out r _ HP6.out).mono ?_); rintro e w7 ⟨rfl, hb7⟩; have HB7 := Lib.hid (HB6.out.trans (hb7.mono HB6.out.size)); have HP7 := Lib.hid (HP6.out.below hb7); clear hb7))
          obtain ⟨A1, A2, c1, c2, hbk, k1, k2⟩ := HP7.out.bok
          have HBk := Lib.hid hbk
          have HRb := Lib.hid hbk.rb
          clear hbk
          go_region_held (fun w' => ∀ i, w'.cell? ⟨r, i, none⟩ = #[Value.int .i64 (s.n : Int), .slice A1 s.now.length c1, .slice A2 s.all.length c2][i]?) (first | exact HRb.out.cell | exact (HRb.out.alloc _).cell) (fail)
          have HB9 := Lib.hid (show Below w.heap.size w (w7.alloc (.cells #[.int .i64 (s.n : Int), .slice A1 s.now.length c1, .slice A2 s.all.length c2] 39)).drew from (((Fr.of_below (HB3.out.trans (HB7.out.mono HB3.out.size)) (S := fun _ => False)).alloc _).drew).below (Nat.le_refl _) (fun _ _ => id))
          have HB79 := Lib.hid (show Below w7.heap.size w7 (w7.alloc (.cells #[.int .i64 (s.n : Int), .slice A1 s.now.length c1, .slice A2 s.all.length c2] 39)).drew from (((Fr.refl (fun _ => False) w7).alloc _).drew).below (Nat.le_refl _) (fun _ _ => id))
          have HNw := Lib.hid (show Blk (w7.alloc (.cells #[.int .i64 (s.n : Int), .slice A1 s.now.length c1, .slice A2 s.all.length c2] 39)).drew w7.heap.size 39 #[.int .i64 (s.n : Int), .slice A1 s.now.length c1, .slice A2 s.all.length c2] from (Blk.new w7 39 _).drew)
          have hs9 : w7.heap.size + 1 = ((w7.alloc (.cells #[.int .i64 (s.n : Int), .slice A1 s.now.length c1, .slice A2 s.all.length c2] 39)).drew).heap.size := by simp
          generalize (w7.alloc (.cells #[.int .i64 (s.n : Int), .slice A1 s.now.length c1, .slice A2 s.all.length c2] 39)).drew = W9 at *
          have HPn := Lib.hid (HP7.out.copy HBk.out k1 k2 HB79.out (Nat.le_refl _) HNw.out)
          have hs37 := HB7.out.size
          have hw37 := HB3.out.size
          have HX9 := Lib.hid (HX3.out.below (HB7.out.trans (HB79.out.mono hs37)) hx3)
          obtain ⟨x0, x1, x2⟩ := HX9.out.facts
          clear HBk HRb HP7 HP6 HP3
          by_cases e1 : x.k = 1
          · have HCl := Lib.hid (pr_lend p m g w7.heap.size s l.length x.l W9 HPn.out.led HLk.out (by omega))
            have HSame := Lib.hid (fun (h : (lendF s x.l).2 ≠ 0) => lend_same h)
            have k1' : (x.k == 1) = true := by simpa using e1
            clear e1
            generalize (lendF s x.l).2 = q at *
            by_cases hq : q = 0
            · subst hq
              go_wp2_with (go_at_call 26; ((with_reducible refine HCl.out.mono ?_); rintro e w10 ⟨rfl, hl10, hf10⟩; have HF10 := Lib.hid hf10; clear hl10 hf10))
              go_ret
              exact ⟨by first | rfl | simp, HB9.out.trans (HF10.out.below (by omega) (fun k hk e => by omega))⟩
            · have hq' : (q == 0) = false := by simpa using hq
              have HSm2 := Lib.hid (fun (W : World) (hl : ∃ ls, Led W p m g (lendF s x.l).1 ls) (hf : Fr (fun k => k = m ∨ k = g) W9 W) => HSm.out w7.heap.size W (by
                rw [HSame.out hq] at hl
                obtain ⟨ls, hl'⟩ := hl
                exact ⟨⟨ls, hl'⟩, (HPn.out.led_lend hl' hf).1, HPn.out.ne⟩))
              clear hq
              go_wp2_with (first
                | (go_at_call 26; ((with_reducible refine HCl.out.mono ?_); rintro e w10 ⟨rfl, hl10, hf10⟩; have HF10 := Lib.hid hf10; have HL10 := Lib.hid hl10; clear hl10 hf10))
                | (go_at_call 19; ((with_reducible refine (HSm2.out _ HL10.out HF10.out).mono ?_); rintro e w11 ⟨rfl, hb11⟩; have HB11 := Lib.hid hb11; clear hb11)))
              go_ret
              have hb10 := HB9.out.trans (HF10.out.below (B := w.heap.size) (by omega) (fun k hk e => by omega))
              exact ⟨by first | rfl | simp, hb10.trans (HB11.out.mono hb10.size)⟩
          · by_cases e2 : x.k = 2
            · have HCl := Lib.hid (pr_back p m g s l.length x.l.u W9 HPn.out.led HLk.out)
              have HSame := Lib.hid (fun (h : (backF s x.l.u).2 ≠ 0) => back_same h)
              have k1' : (x.k == 1) = false := by simpa using e1
              have k2' : (x.k == 2) = true := by simpa using e2
              clear e1 e2
              generalize (backF s x.l.u).2 = q at *
              by_cases hq : q = 0
              · subst hq
                go_wp2_with (go_at_call 27; ((with_reducible refine HCl.out.mono ?_); rintro e w10 ⟨rfl, hl10, hf10⟩; have HF10 := Lib.hid hf10; clear hl10 hf10))
                go_ret
                exact ⟨by first | rfl | simp, HB9.out.trans (HF10.out.below (by omega) (fun k hk e => by omega))⟩
              · have hq' : (q == 0) = false := by simpa using hq
                have HSm2 := Lib.hid (fun (W : World) (hl : ∃ ls, Led W p m g (backF s x.l.u).1 ls) (hf : Fr (fun k => k = m ∨ k = g) W9 W) => HSm.out w7.heap.size W (by
                  rw [HSame.out hq] at hl
                  obtain ⟨ls, hl'⟩ := hl
                  exact ⟨⟨ls, hl'⟩, (HPn.out.led_lend hl' hf).1, HPn.out.ne⟩))
                clear hq
                go_wp2_with (first
                  | (go_at_call 27; ((with_reducible refine HCl.out.mono ?_); rintro e w10 ⟨rfl, hl10, hf10⟩; have HF10 := Lib.hid hf10; have HL10 := Lib.hid hl10; clear hl10 hf10))
                  | (go_at_call 19; ((with_reducible refine (HSm2.out _ HL10.out HF10.out).mono ?_); rintro e w11 ⟨rfl, hb11⟩; have HB11 := Lib.hid hb11; clear hb11)))
                go_ret
                have hb10 := HB9.out.trans (HF10.out.below (B := w.heap.size) (by omega) (fun k hk e => by omega))
                exact ⟨by first | rfl | simp, hb10.trans (HB11.out.mono hb10.size)⟩
            · have k1' : (x.k == 1) = false := by simpa using e1
              have k2' : (x.k == 2) = false := by simpa using e2
              clear e1 e2
              go_wp2_with fail
              go_ret
              exact ⟨by first | rfl | simp, HB9.out⟩
theorem na_law (n : Int) (A : Option Addr) (c : Nat) (l : List Ac) (x : Ac) (w : World) (h : Reads w (· < w.heap.size) 4 A l.length (l.flatMap acL) ∧ ∀ a ∈ l, (Lit.int .i64 a.l.u).wf = true) :
    Calls Try.prog 9 #[.int .i64 n, .slice A l.length c, acV x] w (fun e w' => e = .returned (.bool true) ∧ Below w.heap.size w w') := by
  by_cases h1 : (n < 1 ∨ 64 < n) ∨ 60 < l.length
  · exact na_nil n A c l x w h1
  · obtain ⟨d, rfl⟩ : ∃ d : Nat, n = d := ⟨n.toNat, by omega⟩
    exact na_ok d (by omega) (by omega) A c l x w h.1 (by omega) h.2
end Go.Proofs.Ytnmmiiajcjcccaa

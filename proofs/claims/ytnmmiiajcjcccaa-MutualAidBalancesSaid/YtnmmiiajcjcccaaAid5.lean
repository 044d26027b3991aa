import Derived.Test.YtnmmiiajcjcccaaAid4
namespace Go.Aid
open Go.Quo (gd gd_get)
theorem sho_step {l : List Int} (h0 : 0 < l.length) (hb : gd l (lowF l) < 0) (ha : 0 < gd l (highF l)) : shoF (stepL l) = dec (shoF l) (lowF l) := by
  have a1' : highF l < l.length := (highUp_is l l.length h0).1
  have b1' : lowF l < l.length := (lowUp_is l l.length h0).1
  have hne : highF l ≠ lowF l := fun e => by rw [e] at ha; omega
  have hst : ∀ k, gd (stepL l) k = if k = highF l then gd l (highF l) - 1 else if k = lowF l then gd l (lowF l) + 1 else gd l k := fun k => by
    unfold stepL
    rw [gd_set _ _ _ _ (by simpa using a1'), gd_set _ _ _ _ b1', gd_set _ _ _ _ b1', if_neg hne]
  refine gd_ext (by simp [dec, shoF, stepL_len]) (fun k hk => ?_)
  unfold dec
  rw [gd_set _ _ _ _ (by simpa [shoF] using b1'), gd_sho, gd_sho, gd_sho, hst, Int.toNat_natCast]
  by_cases e2 : k = lowF l
  · rw [if_pos e2, if_neg (fun e => hne (e.symm.trans e2)), if_pos e2]; omega
  · rw [if_neg e2]
    by_cases e1 : k = highF l
    · rw [if_pos e1, e1]; omega
    · rw [if_neg e1, if_neg e2]
theorem step_hi {l : List Int} (h0 : 0 < l.length) (hb : gd l (lowF l) < 0) (ha : 0 < gd l (highF l)) (hr : ∀ k, gd l k ≤ 1000 ∧ -1000 ≤ gd l k) : ∀ k, gd (stepL l) k ≤ 1000 ∧ -1000 ≤ gd (stepL l) k := fun k => by
  have a1' : highF l < l.length := (highUp_is l l.length h0).1
  have b1' : lowF l < l.length := (lowUp_is l l.length h0).1
  have hne : highF l ≠ lowF l := fun e => by rw [e] at ha; omega
  unfold stepL
  rw [gd_set _ _ _ _ (by simpa using a1'), gd_set _ _ _ _ b1', gd_set _ _ _ _ b1', if_neg hne]
  have := hr k
  have := hr (highF l)
  have := hr (lowF l)
  split
  · omega
  · split <;> omega
/-- What the reference has done and what is still to do. -/
structure RSt (n : Nat) (all : List (Int × Int)) (m : Nat) (l : List Int) (d : List (Int × Int)) : Prop where
  ll : l.length = n
  lr : ∀ k, gd l k ≤ 1000 ∧ -1000 ≤ gd l k
  eq : d ++ planR (tot (shoF l)) l = all
  le : d.length + tot (shoF l) = m
theorem RSt.stop {n : Nat} {all : List (Int × Int)} {m : Nat} {l : List Int} {d : List (Int × Int)} (h : RSt n all m l d) (hs : l.length = 0 ∨ 0 ≤ gd l (lowF l) ∨ gd l (highF l) ≤ 0) : d = all := by
  have := h.eq
  cases hn : tot (shoF l) with
  | zero => rw [hn] at this; simpa [planR] using this
  | succ k => rw [hn, planR, if_pos hs] at this; simpa using this
theorem RSt.next {n : Nat} {all : List (Int × Int)} {m : Nat} {l : List Int} {d : List (Int × Int)} (h : RSt n all m l d) (h0 : 0 < l.length) (hb : gd l (lowF l) < 0) (ha : 0 < gd l (highF l)) :
    RSt n all m (stepL l) (d ++ [((highF l : Int), (lowF l : Int))]) := by
  have b1' : lowF l < l.length := (lowUp_is l l.length h0).1
  have e1 := sho_step h0 hb ha
  have e := tot_dec (l := shoF l) (k := lowF l) (by simpa [shoF] using b1') (by rw [gd_sho]; omega)
  rw [← e1] at e
  refine ⟨by rw [stepL_len]; exact h.ll, step_hi h0 hb ha h.lr, ?_, by have := h.le; simp; omega⟩
  have := h.eq
  rw [← e, planR, if_neg (by omega)] at this
  simpa using this
end Go.Aid
namespace Go.Own
open Go.RowKit
theorem own_drewN {w : World} {base : Nat} {e : TypeId} {size n : Nat} {v : Value} {xs : List Value} (h : w.ownsRow base e size v n xs) (j : Nat) : (w.drewN j).ownsRow base e size v n xs := h
end Go.Own
namespace Go.Proofs.Ytnmmiiajcjcccaa
set_option linter.unusedVariables false
open Go.RowKit Go.Own Go.Quo Go.Aid
set_option maxRecDepth 10000 in
set_option maxHeartbeats 2000000 in
theorem ends_any (B : Nat → Prop) (A : Option Addr) (c : Nat) (l : List Int) (w : World) (h : RI w B A l) (hm : l.length ≤ 1000) :
    Calls Try.prog 32 #[.slice A l.length c] w fun e w' => e = .returned (.tuple #[.int .i64 (lowF l : Nat), .int .i64 (highF l : Nat)]) ∧ ∃ j, w' = w.drewN j := by
  have hp := h.plain (by omega)
  have HR := Lib.hid h
  clear h
  go_enter Try.func32, Try.ntmps32
  go_wp2_with fail
  go_loopw [4, 5, 6] (fun va vb vi wr => ∃ k j : Nat, k ≤ l.length ∧ vi = .int .i64 k ∧ va = .int .i64 (lowUp l k : Nat) ∧ vb = .int .i64 (highUp l k : Nat) ∧ wr = w.drewN j) (fun _ _ vi _ => l.length - (intOf vi).toNat)
  case atStart => exact ⟨0, 0, Nat.zero_le _, rfl, rfl, rfl, rfl⟩
  case round =>
    obtain ⟨k, j, hk, rfl, rfl, rfl, rfl⟩ := hrel
    by_cases hlt : k < l.length
    · have hlt' : (k : Int) < l.length := by omega
      have hll : lowUp l k < l.length := by
        rcases Nat.eq_zero_or_pos k with e | e
        · subst e; exact hlt
        · have := (lowUp_is l k e).1; omega
      have hhl : highUp l k < l.length := by
        rcases Nat.eq_zero_or_pos k with e | e
        · subst e; exact hlt
        · have := (highUp_is l k e).1; omega
      have hix := fun W => ix22 hp c k hlt W
      have hixl := fun W => ix22 hp c _ hll W
      have hixh := fun W => ix22 hp c _ hhl W
      have hc1 := RI.at_ HR.out hlt
      have hc2 := RI.at_ HR.out hll
      have hc3 := RI.at_ HR.out hhl
      have HL := Lib.hid (show lowUp l (k + 1) = if gd l k < gd l (lowUp l k) then k else lowUp l k from rfl)
      have HH := Lib.hid (show highUp l (k + 1) = if gd l (highUp l k) < gd l k then k else highUp l k from rfl)
      generalize lowUp l k = a at *
      generalize highUp l k = b at *
      by_cases x1 : gd l k < gd l a <;> by_cases x2 : gd l b < gd l k
      all_goals
        have HL2 := Lib.hid (by have := HL.out; simp only [x1, if_true, if_false] at this; exact this)
        have HH2 := Lib.hid (by have := HH.out; simp only [x2, if_true, if_false] at this; exact this)
        go_wp2_with fail
        go_quiet (fail)
        go_wp2_with fail
        go_quiet (fail)
        go_wp2_with fail
        exact ⟨⟨k + 1, _, by omega, by go_num, by rw [HL2.out], by rw [HH2.out], rfl⟩, by simp [intOf]; omega⟩
    · have hlt' : ¬ (k : Int) < l.length := by omega
      have he : k = l.length := by omega
      subst he
      go_wp2_with fail
      exact bodyPost_ret (v := .tuple #[.int .i64 (lowUp l l.length : Nat), .int .i64 (highUp l l.length : Nat)]) (by simp [results, Try.results32, go_sem]) rfl ⟨rfl, j, rfl⟩
set_option maxRecDepth 10000 in
set_option maxHeartbeats 4000000 in
theorem rplan_bad (A A2 : Option Addr) (n n2 c c2 : Nat) (w : World) (h : n ≠ n2 ∨ 64 < n) :
    Calls Try.prog 14 #[.slice A n c, .slice A2 n2 c2] w (PairsPost [] w) := by
  have HB := Lib.hid (left_bad A A2 n n2 c c2 w h)
  clear h
  go_enter Try.func14, Try.ntmps14
  go_wp2_with fail
  refine HB.out.mono ?_
  rintro e w' ⟨rfl, rfl⟩
  go_wp2_with fail
  go_loopw [6, 7, 8] (fun v6 _ _ wr => v6 = .slice (some ⟨w.heap.size, 0, none⟩) 0 0 ∧ wr = w.alloc (.cells #[] 28)) (fun _ _ _ _ => 0)
  case atStart => exact ⟨rfl, rfl⟩
  case round =>
    obtain ⟨rfl, rfl⟩ := hrel
    go_wp2_with fail
    go_ret
    exact ⟨_, 0, rfl, World.ownsRow_lit w #[] 0 (Nat.le_refl _) (by simp [maxLen]) (by simp), (Below.refl _ _).alloc (Nat.le_refl _) _⟩
set_option maxRecDepth 10000 in
set_option maxHeartbeats 4000000 in
theorem rplan_ok (B B2 : Nat → Prop) (A A2 : Option Addr) (c c2 : Nat) (f wa : List Int) (w : World) (h : RI w B A f) (h2 : RI w B2 A2 wa) (hl : f.length = wa.length) (h64 : f.length ≤ 64) :
    Calls Try.prog 14 #[.slice A f.length c, .slice A2 wa.length c2] w (PairsPost (planR (tot (shoF (leftF f wa))) (leftF f wa)) w) := by
  have HB := Lib.hid (left_ok B B2 A A2 c c2 f wa w h h2 hl h64)
  obtain ⟨n, hn⟩ : ∃ n : Nat, f.length = n := ⟨_, rfl⟩
  have hLl : (leftF f wa).length = n := by rw [left_len hl, hn]
  have hLr : ∀ k, gd (leftF f wa) k ≤ 1000 ∧ -1000 ≤ gd (leftF f wa) k := fun k => by
    by_cases hk : k < f.length
    · rw [left_gd hl hk]
      have := clamp_r (gd f k)
      have := clamp_r (gd wa k)
      omega
    · rw [gd_out (by rw [hLl]; omega)]; omega
  rw [hn] at HB h64
  rw [← hl, hn] at HB ⊢
  generalize leftF f wa = L at *
  have htl : (shoF L).length = n := by simpa [shoF] using hLl
  have hm : tot (shoF L) ≤ 64000 := Nat.le_trans (tot_le _ 1000 (fun k _ => by rw [gd_sho]; have := hLr k; omega)) (by rw [htl]; omega)
  have HP0 := Lib.hid (show RSt n (planR (tot (shoF L)) L) (tot (shoF L)) L [] from ⟨hLl, hLr, rfl, by simp⟩)
  generalize planR (tot (shoF L)) L = all at *
  generalize tot (shoF L) = M at *
  have HLl := Lib.hid hLl
  clear h h2 hl hn hLr hLl htl
  go_enter Try.func14, Try.ntmps14
  go_wp2_with fail
  refine HB.out.mono ?_
  rintro e w1 ⟨g, cg, rfl, ho1, hbw⟩
  rw [HLl.out] at ho1 ⊢
  go_wp2_with fail
  have hgl := (ho1.lt g rfl).2
  have hgw := (ho1.lt g rfl).1
  have HO1 := Lib.hid (ho1.alloc (.cells #[] 28))
  have HO0 := Lib.hid (World.ownsRow_lit (base := w1.heap.size) (e := 28) (size := 2) w1 #[] 0 (Nat.le_refl _) (by simp [maxLen]) (by simp))
  have HB0 := Lib.hid (hbw.alloc hbw.size (.cells #[] 28))
  clear ho1
  go_loopw [6, 7, 8] (fun v6 _ _ wr => ∃ (A6 : Option Addr) (c6 : Nat) (l : List Int) (d : List (Int × Int)), v6 = .slice A6 d.length c6 ∧ RSt n all M l d ∧ wr.ownsRow w1.heap.size 28 2 (.slice A6 d.length c6) d.length (d.flatMap pairsL) ∧ wr.ownsRow w.heap.size 3 1 (.slice (some ⟨g, 0, none⟩) n cg) n (l.map (Value.int .i64)) ∧ Below w.heap.size w wr ∧ w1.heap.size ≤ wr.heap.size) (fun v6 _ _ _ => M - slen v6)
  case atStart => exact ⟨_, 0, L, [], rfl, HP0.out, HO0.out, HO1.out, HB0.out, by simp⟩
  case round =>
    obtain ⟨A6, c6, l, d, rfl, hP, hO, hL, hbel, hws⟩ := hrel
    have HP := Lib.hid hP
    have HO := Lib.hid hO
    have HL := Lib.hid hL
    have Hll := Lib.hid hP.ll
    have hdl : d.length ≤ 64000 := by have := hP.le; omega
    have HE := ends_any (fun j => (Value.slice (some ⟨g, 0, none⟩) n cg).ownBlock = some j) (some ⟨g, 0, none⟩) cg l wr (by have := Reads.of_own hL; rw [← hP.ll] at this ⊢; exact this) (by rw [hP.ll]; omega)
    rw [hP.ll] at HE
    have HE := Lib.hid HE
    have hLr := Lib.hid hP.lr
    clear hP hO hL
    by_cases h0 : n = 0
    · obtain rfl : d = all := HP.out.stop (.inl (by rw [Hll.out]; exact h0))
      subst h0
      go_wp2_with fail
      go_ret
      exact ⟨A6, c6, rfl, HO.out.mono hbw.size, hbel⟩
    have h0' : (0 : Int) < n := by omega
    have ha := (highUp_is l l.length (by rw [Hll.out]; omega)).1
    have hb := (lowUp_is l l.length (by rw [Hll.out]; omega)).1
    change highF l < _ at ha
    change lowF l < _ at hb
    have HSt := Lib.hid fun hh => HP.out.stop (.inr hh)
    have HNx := Lib.hid fun h1 h2 => HP.out.next (by rw [Hll.out]; omega) h1 h2
    have HSl := Lib.hid (show stepL l = (l.set (lowF l) (gd l (lowF l) + 1)).set (highF l) (gd (l.set (lowF l) (gd l (lowF l) + 1)) (highF l) - 1) from rfl)
    rw [Hll.out] at ha hb
    generalize highF l = a at *
    generalize lowF l = b at *
    have hlc : ∀ k, k < n → (l.map (Value.int .i64))[k]? = some (.int .i64 (gd l k)) := fun k hk => by rw [List.getElem?_map, List.getElem?_eq_getElem (by rw [Hll.out]; exact hk), gd_get (by rw [Hll.out]; exact hk)]; rfl
    have q1 := HL.out.cellAt a (by omega)
    have q2 := HL.out.cellAt b (by omega)
    rw [hlc a ha] at q1
    rw [hlc b hb] at q2
    have HLc := Lib.hid hlc
    clear hlc
    have hixa := fun W => ixg (g := g) n cg a ha W
    have hixb := fun W => ixg (g := g) n cg b hb W
    rcases (by omega : 0 ≤ gd l b ∨ (¬ 0 ≤ gd l b ∧ gd l a ≤ 0) ∨ (¬ 0 ≤ gd l b ∧ ¬ gd l a ≤ 0)) with hc | ⟨hc, hc2⟩ | ⟨hc, hc2⟩
    · obtain rfl : d = all := HSt.out (.inl hc)
      go_wp2_with fail
      refine HE.out.mono ?_
      rintro e w2 ⟨rfl, j, rfl⟩
      go_wp2_with fail
      go_ret
      exact ⟨A6, c6, rfl, HO.out.mono hbw.size, below_drewN hbel _⟩
    · obtain rfl : d = all := HSt.out (.inr hc2)
      go_wp2_with fail
      refine HE.out.mono ?_
      rintro e w2 ⟨rfl, j, rfl⟩
      go_wp2_with fail
      go_ret
      exact ⟨A6, c6, rfl, HO.out.mono hbw.size, below_drewN hbel _⟩
    · have hne : b ≠ a := fun e => by subst e; omega
      have HN := Lib.hid (HNx.out (by omega) (by omega))
      have hra := hLr.out a
      have hrb := hLr.out b
      have hsa : gd (l.set b (gd l b + 1)) a = gd l a := by rw [gd_set _ _ _ _ (by rw [Hll.out]; exact hb), if_neg (fun e => hne e.symm)]
      have HSl2 := Lib.hid (show stepL l = (l.set b (gd l b + 1)).set a (gd l a - 1) by rw [HSl.out, hsa])
      clear HSt HNx HSl hLr hsa
      have hw1 : IntKind.i64.wrap (gd l a - 1) = gd l a - 1 := IntWalk.i64_in _ (by omega)
      have hw2 : IntKind.i64.wrap (gd l b + 1) = gd l b + 1 := IntWalk.i64_in _ (by omega)
      go_wp2_with fail
      refine HE.out.mono ?_
      rintro e w2 ⟨rfl, j, rfl⟩
      have hne1 : (Value.slice (some ⟨g, 0, none⟩) n cg).ownBlock ≠ (Value.slice A6 d.length c6).ownBlock := fun e => by have := (HO.out.lt g e.symm).1; omega
      go_wp2_with (at_builtin; refine wpList_append_any _ rfl _ _ _ rfl w1.heap.size 28 _ 2 16 Try.underlying25 info28 rfl (by omega) (.slice A6 d.length c6) d.length (d.flatMap pairsL) rfl (own_drewN (HO.out.alloc (.cells #[.int .i64 (a : Int), .int .i64 (b : Int)] 28)) j) _ (some ⟨wr.heap.size, 0, none⟩) 1 1 [.int .i64 (a : Int), .int .i64 (b : Int)] rfl ((Reads.newS wr [.int .i64 (a : Int), .int .i64 (b : Int)] 28 (0, 0) 1 2 rfl _ rfl).drewN j) (by simp [Value.oneCell']) (by simp only [maxLen]; omega) (by omega) (by simp; omega) ?_; intro A4 c4 w4 hown4 hgr4 hat4; have J := (own_drewN (HL.out.alloc (.cells #[.int .i64 (a : Int), .int .i64 (b : Int)] 28)) j).kept hgr4 (.inr hne1); have y1 := J.cellAt a (by omega); have y2 := J.cellAt b (by omega); rw [HLc.out a ha] at y1; rw [HLc.out b hb] at y2; have y3 := J.frozenAt a; have y4 := J.frozenAt b; have JJ := Lib.hid J; clear J)
      have e4 : (d ++ [((a : Int), (b : Int))]).length = d.length + 1 := by simp
      obtain ⟨p1, p2⟩ := JJ.out.stored b (.int .i64 (gd l b + 1))
      obtain ⟨p3, p4⟩ := p1.stored a (.int .i64 (gd l a - 1))
      refine ⟨⟨A4, c4, stepL l, d ++ [((a : Int), (b : Int))], by rw [e4], HN.out, ?_, ?_, ?_, ?_⟩, by simp [slen]; have := HN.out.le; omega⟩
      · rw [e4, List.flatMap_append]
        exact ownsRow_setCell_below (ownsRow_setCell_below hown4 (a := ⟨g, b, none⟩) hgl _) (a := ⟨g, a, none⟩) hgl _
      · rw [HSl2.out, List.map_set, List.map_set]; exact p3
      · have hb4 : Below w.heap.size w w4 := Below.grown (below_drewN (hbel.alloc hbel.size _) j) hgr4 (by have := hbel.size; simp; omega) (fun k hk => by have := (HO.out.lt k hk).1; have := hbw.size; omega)
        exact (hb4.setCell (p := ⟨g, b, none⟩) hgw _).setCell (p := ⟨g, a, none⟩) hgw _
      · have := hgr4.size
        simp at this ⊢
        omega
end Go.Proofs.Ytnmmiiajcjcccaa

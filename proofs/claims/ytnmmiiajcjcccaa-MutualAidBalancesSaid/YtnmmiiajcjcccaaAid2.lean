import Derived.Test.YtnmmiiajcjcccaaAid1
namespace Go.Aid
open Go.Quo (gd gd_get)
theorem clamp_r (n : Int) : 0 ≤ clampI n ∧ clampI n ≤ 1000 := by unfold clampI; omega
theorem left_len {f w : List Int} (h : f.length = w.length) : (leftF f w).length = f.length := by simp [leftF, h]
theorem left_gd {f w : List Int} (h : f.length = w.length) {k : Nat} (hk : k < f.length) : gd (leftF f w) k = clampI (gd f k) - clampI (gd w k) := by
  rw [gd_get (by rw [left_len h]; exact hk), gd_get hk, gd_get (by omega)]
  simp [leftF]
/-- The first k numbers of l, zeros behind them. -/
def prt (l : List Int) (k : Nat) : List Int := l.take k ++ List.replicate (l.length - k) 0
theorem prt_zero (l : List Int) : prt l 0 = List.replicate l.length 0 := by simp [prt]
theorem prt_all (l : List Int) : prt l l.length = l := by simp [prt]
theorem prt_len {l : List Int} {k : Nat} (h : k ≤ l.length) : (prt l k).length = l.length := by simp [prt]; omega
theorem prt_set {l : List Int} {k : Nat} (h : k < l.length) : (prt l k).set k (gd l k) = prt l (k + 1) := by
  unfold prt
  have hl : (l.take k).length = k := by simp; omega
  rw [List.set_append_right _ _ (by omega), hl, Nat.sub_self, show l.length - k = (l.length - (k + 1)) + 1 by omega, List.replicate_succ, List.set_cons_zero, List.take_add_one, List.getElem?_eq_getElem h, gd_get h, List.append_assoc]
  rfl
end Go.Aid
namespace Go.Proofs.Ytnmmiiajcjcccaa
set_option linter.unusedVariables false
open Go.RowKit Go.Own Go.Quo Go.Aid
set_option maxRecDepth 10000 in
set_option maxHeartbeats 1000000 in
theorem balance_bad (A A2 : Option Addr) (n n2 c c2 : Nat) (w : World) (h : n ≠ n2 ∨ 64 < n) :
    Calls Try.prog 30 #[.slice A n c, .slice A2 n2 c2] w fun e w' => e = .returned (.tuple #[.slice none 0 0, .slice none 0 0, .bool false]) ∧ w = w' := by
  by_cases hn : n = n2
  · have hb : ((n : Int) != (n2 : Int)) = false := by simp; omega
    have h6 : (64 : Int) < n := by omega
    clear h
    go_enter Try.func30, Try.ntmps30
    go_wp2_with fail
    exact bodyPost_ret (v := .tuple #[.slice none 0 0, .slice none 0 0, .bool false]) (by simp [results, Try.results30, go_sem]) rfl ⟨rfl, rfl⟩
  · have hb : ((n : Int) != (n2 : Int)) = true := by simp; omega
    clear h
    go_enter Try.func30, Try.ntmps30
    go_wp2_with fail
    exact bodyPost_ret (v := .tuple #[.slice none 0 0, .slice none 0 0, .bool false]) (by simp [results, Try.results30, go_sem]) rfl ⟨rfl, rfl⟩
def BalPost (n : Nat) (L : List Int) (w : World) (e : Ending) (w' : World) : Prop :=
  ∃ g1 g2, e = .returned (.tuple #[.slice (some ⟨g1, 0, none⟩) n n, .slice (some ⟨g2, 0, none⟩) n n, .bool true]) ∧ g1 ≠ g2 ∧ w.heap.size ≤ g1 ∧ w.heap.size ≤ g2 ∧ IB w' g1 3 (surF L) ∧ IB w' g2 3 (shoF L) ∧ Below w.heap.size w w'
theorem zrow_ib (n : Nat) (w : World) : IB (w.alloc (.cells (zrow (.int .i64 0) n) 3)) w.heap.size 3 (List.replicate n 0) := by
  have : zrow (.int .i64 0) n = ((List.replicate n (0 : Int)).map (Value.int .i64)).toArray := by
    apply Array.ext'
    simp [zrow]
  rw [this]
  exact Blk.new w 3 _
set_option maxRecDepth 10000 in
set_option maxHeartbeats 2000000 in
theorem balance_ok (B B2 : Nat → Prop) (A A2 : Option Addr) (c c2 : Nat) (f wa : List Int) (w : World) (h : RI w B A f) (h2 : RI w B2 A2 wa) (hl : f.length = wa.length) (h64 : f.length ≤ 64) :
    Calls Try.prog 30 #[.slice A f.length c, .slice A2 wa.length c2] w (BalPost f.length (leftF f wa) w) := by
  have hp := h.plain (by omega)
  have hp2 := h2.plain (by omega)
  rw [← hl] at hp2 ⊢
  have H1 := Lib.hid (h.old (by omega))
  have H2 := Lib.hid (h2.old (by omega))
  obtain ⟨n, hn⟩ : ∃ n : Nat, f.length = n := ⟨_, rfl⟩
  have HN := Lib.hid hn
  have HN2 := Lib.hid (hl ▸ hn : wa.length = n)
  obtain ⟨L, hL⟩ : ∃ L, leftF f wa = L := ⟨_, rfl⟩
  have HLl := Lib.hid (show L.length = n by rw [← hL, left_len hl, hn])
  have HLg := Lib.hid fun k (hk : k < n) => (show gd L k = clampI (gd f k) - clampI (gd wa k) by rw [← hL]; exact left_gd hl (by omega))
  rw [hL]
  rw [hn] at hp hp2 h64 ⊢
  clear h h2 hl hn hL
  have hmk := run_make1 (P := Try.prog) 22 3 (.int .i64 0) 8 Try.underlying22 info3 rfl n (by omega) (by omega)
  have hnb : ((n : Int) != (n : Int)) = false := by simp
  have h6 : ¬ (64 : Int) < n := by omega
  have HC := Lib.hid fun x W => clamp_any x W
  go_enter Try.func30, Try.ntmps30
  go_upto_region 3 with (fail)
  go_cut [7, 8] (fun v7 v8 wx => ∃ g1 g2, v7 = .slice (some ⟨g1, 0, none⟩) n n ∧ v8 = .slice (some ⟨g2, 0, none⟩) n n ∧ g1 ≠ g2 ∧ w.heap.size ≤ g1 ∧ w.heap.size ≤ g2 ∧ IB wx g1 3 (List.replicate n 0) ∧ IB wx g2 3 (List.replicate n 0) ∧ Below w.heap.size w wx)
  case first =>
    have z1 : IB ((w.alloc (.cells (zrow (.int .i64 0) n) 3)).alloc (.cells (zrow (.int .i64 0) n) 3)) w.heap.size 3 (List.replicate n 0) := (zrow_ib n w).alloc _
    have z2 : IB ((w.alloc (.cells (zrow (.int .i64 0) n) 3)).alloc (.cells (zrow (.int .i64 0) n) 3)) (w.heap.size + 1) 3 (List.replicate n 0) := by simpa using zrow_ib n (w.alloc (.cells (zrow (.int .i64 0) n) 3))
    have zb : Below w.heap.size w ((w.alloc (.cells (zrow (.int .i64 0) n) 3)).alloc (.cells (zrow (.int .i64 0) n) 3)) := ((Below.refl _ _).alloc (Nat.le_refl _) _).alloc (by simp) _
    go_region_law (fail)
    all_goals
      go_wp2_with fail
      go_meet
      case rel =>
        first
          | exact ⟨_, _, rfl, rfl, by omega, by omega, by omega, z1, z2, zb.drew⟩
          | exact ⟨_, _, rfl, rfl, by omega, by omega, by omega, z2, z1, zb.drew⟩
  case rest =>
    obtain ⟨g1, g2, rfl, rfl, hne, hg1, hg2, hb1, hb2, hbw⟩ := hcut
    obtain ⟨w3, rfl⟩ : ∃ w3 : World, w3 = wc := ⟨_, rfl⟩
    go_wp2_with fail
    have hl1 := hb1.lt
    have hl2 := hb2.lt
    go_loopw [9, 10, 29] (fun _ _ vi wr => ∃ k : Nat, k ≤ n ∧ vi = .int .i64 k ∧ IB wr g1 3 (prt (surF L) k) ∧ IB wr g2 3 (prt (shoF L) k) ∧ Below w.heap.size w wr) (fun _ _ vi _ => n - (intOf vi).toNat)
    case atStart => exact ⟨0, Nat.zero_le _, rfl, by rw [prt_zero, show (surF L).length = n by simp [surF]; exact HLl.out]; exact hb1, by rw [prt_zero, show (shoF L).length = n by simp [shoF]; exact HLl.out]; exact hb2, hbw⟩
    case round =>
      obtain ⟨k, hk, rfl, k1, k2, hbel⟩ := hrel
      have hsl : (surF L).length = n := by simp [surF]; exact HLl.out
      have htl : (shoF L).length = n := by simp [shoF]; exact HLl.out
      have K1 := Lib.hid k1
      have K2 := Lib.hid k2
      have HSl := Lib.hid hsl
      have HTl := Lib.hid htl
      by_cases hlt : k < n
      · have hlt' : (k : Int) < n := by omega
        have c1 := RI.at_ (H1.out.below hbel (fun _ h => h.2)) (k := k) (by rw [HN.out]; exact hlt)
        have c2' := RI.at_ (H2.out.below hbel (fun _ h => h.2)) (k := k) (by rw [HN2.out]; exact hlt)
        have hix := fun W => ix22 hp c k hlt W
        have hix2 := fun W => ix22 hp2 c2 k hlt W
        have hixa := fun W => ixg (g := g1) n n k hlt W
        have hixb := fun W => ixg (g := g2) n n k hlt W
        have r1 := clamp_r (gd f k)
        have r2 := clamp_r (gd wa k)
        have HG := Lib.hid (HLg.out k hlt)
        have HCa := Lib.hid fun q => (HC.out (gd f k) (wr.drewN q)).mono (fun e w' hh => And.intro hh.1 (⟨q, hh.2.symm⟩ : ∃ n, w' = wr.drewN n))
        have HCb := Lib.hid fun q => (HC.out (gd wa k) (wr.drewN q)).mono (fun e w' hh => And.intro hh.1 (⟨q, hh.2.symm⟩ : ∃ n, w' = wr.drewN n))
        generalize clampI (gd f k) = x1 at *
        generalize clampI (gd wa k) = x2 at *
        have hw1 : IntKind.i64.wrap (x1 - x2) = x1 - x2 := IntWalk.i64_in _ (by omega)
        have hw2 : IntKind.i64.wrap (-(x1 - x2)) = -(x1 - x2) := IntWalk.i64_in _ (by omega)
        have q1 := IB.at_ k1 (k := k) (by rw [prt_len (by rw [hsl]; omega), hsl]; exact hlt)
        have s1 := IB.at_ k2 (k := k) (by rw [prt_len (by rw [htl]; omega), htl]; exact hlt)
        generalize gd (prt (surF L) k) k = y1 at *
        generalize gd (prt (shoF L) k) k = y2 at *
        obtain ⟨q0, -, q2⟩ := k1.facts
        obtain ⟨s0, -, s2⟩ := k2.facts
        clear k1 k2 hsl htl
        by_cases hx : x1 - x2 < 0
        all_goals
          go_wp2_with fail
          go_quiet (first
            | (go_at_call 45; with_reducible exact HCa.out _)
            | (go_at_call 45; with_reducible exact HCb.out _))
          go_wp2_with fail
          refine ⟨⟨k + 1, by omega, by go_num, ?_, ?_, below_drewN ((hbel.setCell (p := ⟨g1, k, none⟩) hg1 _).setCell (p := ⟨g2, k, none⟩) hg2 _) nq⟩, by simp [intOf]; omega⟩
          · rw [← prt_set (l := surF L) (by rw [HSl.out]; exact hlt), gd_sur, HG.out]
            first
              | rw [show max (x1 - x2) 0 = 0 by omega]
              | rw [show max (x1 - x2) 0 = x1 - x2 by omega]
            exact (Blk.far (IB.put K1.out k _) hne _).drewN _
          · rw [← prt_set (l := shoF L) (by rw [HTl.out]; exact hlt), gd_sho, HG.out]
            first
              | rw [show max (-(x1 - x2)) 0 = -(x1 - x2) by omega]
              | rw [show max (-(x1 - x2)) 0 = if x2 < x1 then 0 else -(x1 - x2) by split <;> omega]
            exact (IB.put (Blk.far K2.out (fun e => hne e.symm) _) k _).drewN _
      · have hlt' : ¬ (k : Int) < n := by omega
        have he : k = n := by omega
        subst he
        go_wp2_with fail
        have e1 := K1.out
        have e2 := K2.out
        rw [← HSl.out, prt_all] at e1
        rw [← HTl.out, prt_all] at e2
        exact bodyPost_ret (v := .tuple #[.slice (some ⟨g1, 0, none⟩) k k, .slice (some ⟨g2, 0, none⟩) k k, .bool true]) (by simp [results, Try.results30, go_sem]) rfl ⟨g1, g2, rfl, hne, hg1, hg2, e1, e2, hbel⟩
end Go.Proofs.Ytnmmiiajcjcccaa

import Derived.Test.YtnmmiiajcjcccaaRAsk2
namespace Go.Proofs.Ytnmmiiajcjcccaa
set_option linter.unusedVariables false
open Go.RowKit Go.Own Go.Quo Go.Aid
set_option maxRecDepth 10000 in
set_option maxHeartbeats 8000000 in
theorem rask_ok (B B2 : Nat → Prop) (r : Nat) (s : LSt) (A1 A2 : Option Addr) (c1 c2 : Nat) (dist : Int) (A : Option Addr) (c : Nat) (sp : List Int) (w : World) (h : Bok w B r s A1 A2 c1 c2) (hr : Reads w B2 1 A sp.length (sp.map (Value.int .i64))) (h1 : ¬ dist < 0) (h2 : ¬ (s.n : Int) ≤ dist) (h3 : sp.length = s.n) (h64 : s.n ≤ 64) (hal : s.all.length ≤ 1000) (hok : ∀ l ∈ s.all, lnOk s.n l = true) :
    Calls Try.prog 24 #[.pointer (some ⟨r, 0, none⟩), .int .i64 dist, .slice A sp.length c] w (RAskPost ((askS (debts s.n s.all) dist sp).map Int.ofNat) w) := by
  have HDeb := Lib.hid (show Calls Try.prog 34 #[.pointer (some ⟨r, 0, none⟩)] (w.alloc (.cells #[] 3)) (DebtsPost s.n s.all (w.alloc (.cells #[] 3))) from debts_any B r s A1 A2 c1 c2 _ ⟨h.rb.alloc _, h.now.alloc _, h.all.alloc _⟩ h64 hal hok)
  have hDl := debts_len s.n s.all
  have hrl := h.rb.lt
  have HRb := Lib.hid h.rb
  clear h hok
  unfold DebtsPost at HDeb
  generalize debts s.n s.all = D at *
  generalize s.n = n at *
  subst hDl
  generalize Value.slice A1 s.now.length c1 = v1 at *
  generalize Value.slice A2 s.all.length c2 = v2 at *
  have hrA := hr.plain (by omega)
  rw [h3] at hrA
  have HR := Lib.hid (show Reads w (fun k => k < w.heap.size) 1 A sp.length (sp.map (Value.int .i64)) from (hr.old (by omega)).more (fun k hk => hk.2))
  have HB0 := Lib.hid ((Below.refl w.heap.size w).alloc (Nat.le_refl _) (.cells #[] 3))
  have d1' : decide (dist < 0) = false := by simpa using h1
  have d2' : decide ((D.length : Int) ≤ dist) = false := by simpa using h2
  have hs0 : (w.alloc (.cells #[] 3)).heap.size = w.heap.size + 1 := by simp
  have hr4 := HRb.out.alloc (.cells #[] 3)
  obtain ⟨a0, a1, a2⟩ := hr4.facts
  clear hr hr4
  rw [h3]
  go_enter Try.func24, Try.ntmps24
  go_wp2_with (go_at_call 34; ((with_reducible refine HDeb.out.mono ?_); rintro e w3 ⟨g, hg, rfl, hgb, hb3⟩; have HG := Lib.hid hgb; have HB3 := Lib.hid (HB0.out.trans (hb3.mono HB0.out.size)); have HB13 := Lib.hid hb3; clear hgb hb3; obtain ⟨b0, b1, b2⟩ := (HRb.out.below HB3.out hrl).facts))
  have H3 := Lib.hid h3
  have hs3 := HB13.out.size
  rw [hs0] at hs3 hg
  have hgl := HG.out.lt
  clear h3 a0 a1 a2 b0 b1 b2 HDeb HB0 HB13 hs0
  go_loopw [7, 9] (fun va vi wr => ∃ (i : Nat) (A' : Option Addr) (c' : Nat), i ≤ D.length ∧ vi = .int .i64 i ∧ va = .slice A' (refN D dist sp i).length c' ∧ (refN D dist sp i).length ≤ c' ∧ Reads wr (fun k => w.heap.size ≤ k) 1 A' (refN D dist sp i).length ((refN D dist sp i).map natV) ∧ Below w3.heap.size w3 wr) (fun _ vi _ => D.length - (intOf vi).toNat)
  case atStart => exact ⟨0, some ⟨w.heap.size, 0, none⟩, 0, Nat.zero_le _, rfl, rfl, Nat.le_refl _, Reads.none_, Below.refl _ _⟩
  case round =>
    obtain ⟨i, A', c', hi, rfl, rfl, hcap, hrow, hbel⟩ := hrel
    have HB := Lib.hid hbel
    have hnl := refN_len D dist sp i
    have hsz := hbel.size
    obtain ⟨y0, y1, y2⟩ := (HRb.out.below (HB3.out.trans (hbel.mono (by omega))) hrl).facts
    by_cases hlt : i < D.length
    · have hlt' : (i : Int) < D.length := by omega
      have hix := fun W => ix22 hrA c i hlt W
      have hcell : wr.cell? ⟨bk A, ofs A + i, none⟩ = some (.int .i64 (gd sp i)) := by
        have := ((HR.out.below (HB3.out.trans (hbel.mono (by omega))) (fun _ h => h))).cell2 i (by rw [H3.out]; omega) (by omega)
        have hks : i < sp.length := by rw [H3.out]; exact hlt
        rw [this, gd_get hks]; simp [hks]
      have HRow := Lib.hid hrow
      have hrp := hrow.plain (by omega)
      have HLt := Lib.hid (show ∀ x ∈ refN D dist sp i, x < i from fun x hx => refN_lt hx)
      have HSu := Lib.hid (show refN D dist sp (i + 1) = if askP dist sp i = true then insI D sp (refN D dist sp i) i else refN D dist sp i from rfl)
      clear hrow hbel
      by_cases hp : askP dist sp i = true
      · have hp2 := hp
        unfold askP at hp2
        simp only [Bool.and_eq_true, bne_iff_ne, ne_eq, decide_eq_true_eq] at hp2
        have p1 : ((i : Int) == dist) = false := by simpa using hp2.1
        have p1' : ¬ (i : Int) = dist := hp2.1
        have p2 : decide (gd sp i ≤ 0) = false := by have := hp2.2; simp; omega
        rw [if_pos hp] at HSu
        clear hp hp2
        have HS2 := Lib.hid HSu.out
        clear HSu
        generalize refN D dist sp i = xs at *
        obtain ⟨wo, rfl⟩ : ∃ wo : World, wo = wr := ⟨_, rfl⟩
        go_upto_block 2 with (fail)
        go_cut [10] (fun vk wx => ∃ (k j : Nat), vk = .int .i64 k ∧ k ≤ xs.length ∧ insI D sp xs i = xs.take k ++ [i] ++ xs.drop k ∧ wx = wo.drewN j)
        case first =>
          have HGo := Lib.hid (HG.out.below HB.out hgl)
          have HSo := Lib.hid (show Reads wo (fun k => k < w.heap.size) 1 A sp.length (sp.map (Value.int .i64)) from HR.out.below (HB3.out.trans (HB.out.mono (by omega))) (fun _ h => h))
          clear y0 y1 y2 hcell
          go_wp2_with fail
          go_loopw [10] (fun vk wr => ∃ (k j : Nat), k ≤ xs.length ∧ vk = .int .i64 k ∧ (∀ j x, j < k → xs[j]? = some x → (gd D x < gd D i ∨ (gd D x = gd D i ∧ gd sp i ≤ gd sp x))) ∧ wr = wo.drewN j) (fun vk _ => xs.length - (intOf vk).toNat)
          case atStart => exact ⟨0, 0, Nat.zero_le _, rfl, fun j x hj => by omega, rfl⟩
          case round =>
            obtain ⟨k, j, hk, rfl, hlt0, hwr⟩ := hrel
            have HL0 := Lib.hid hlt0
            have HW := Lib.hid hwr
            clear hlt0 hwr
            by_cases hltk : k < xs.length
            · have hltk' : (k : Int) < xs.length := by omega
              obtain ⟨x, hx⟩ : ∃ x, xs[k]? = some x := ⟨_, List.getElem?_eq_getElem hltk⟩
              have hxi := HLt.out x (List.mem_of_getElem? hx)
              have hik := fun W => ix22 hrp c' k hltk W
              have hdx := fun W => ix53 (g := g) D.length D.length x (by omega) W
              have hdi := fun W => ix53 (g := g) D.length D.length i hlt W
              have hsx := fun W => ix22 hrA c x (by omega) W
              have c1 : wr.cell? ⟨bk A', ofs A' + k, none⟩ = some (.int .i64 (x : Int)) := by
                rw [HW.out]
                have := (HRow.out.drewN j).cell2 k (by omega) (by omega)
                rw [this]; simp [hx, natV]
              have c2 : wr.cell? ⟨g, x, none⟩ = some (.int .i64 (gd D x)) := by
                rw [HW.out, (HGo.out.drewN j).cell x, gd_get (by omega)]
                have : x < D.length := by omega
                simp [this]
              have c3 : wr.cell? ⟨g, i, none⟩ = some (.int .i64 (gd D i)) := by
                rw [HW.out, (HGo.out.drewN j).cell i, gd_get hlt]
                simp [hlt]
              have c4 : wr.cell? ⟨bk A, ofs A + x, none⟩ = some (.int .i64 (gd sp x)) := by
                have hxs : x < sp.length := by rw [H3.out]; omega
                rw [HW.out, (HSo.out.drewN j).cell2 x (by omega) (by omega), gd_get hxs]; simp [hxs]
              have c5 : wr.cell? ⟨bk A, ofs A + i, none⟩ = some (.int .i64 (gd sp i)) := by
                have hxs : i < sp.length := by rw [H3.out]; omega
                rw [HW.out, (HSo.out.drewN j).cell2 i (by omega) (by omega), gd_get hxs]; simp [hxs]
              have HX := Lib.hid hx
              have HNext := Lib.hid (show (gd D x < gd D i ∨ (gd D x = gd D i ∧ gd sp i ≤ gd sp x)) → ∀ j y, j < k + 1 → xs[j]? = some y → (gd D y < gd D i ∨ (gd D y = gd D i ∧ gd sp i ≤ gd sp y)) from fun hc j y hj hy => by
                rcases (by omega : j < k ∨ j = k) with e | rfl
                · exact HL0.out j y e hy
                · rw [hx] at hy; injection hy with hy; rw [← hy]; exact hc)
              have HEnd := Lib.hid (show ¬ (gd D x < gd D i ∨ (gd D x = gd D i ∧ gd sp i ≤ gd sp x)) → insI D sp xs i = xs.take k ++ [i] ++ xs.drop k from fun hc => insI_at D sp xs i k hk HL0.out (fun y hy => by rw [hx] at hy; injection hy with hy; rw [← hy]; exact hc))
              clear hx
              generalize gd D x = dx at *
              generalize gd D i = di at *
              generalize gd sp x = sx at *
              generalize gd sp i = si at *
              by_cases e1 : dx < di
              · have HN := Lib.hid (HNext.out (.inl e1))
                have e1' : decide (dx < di) = true := by simpa using e1
                clear HNext HEnd
                go_wp2_with fail
                go_quiet (fail)
                go_wp2_with fail
                exact ⟨⟨k + 1, _, by omega, by go_num, HN.out, by rw [HW.out, World.drewN_drewN]⟩, by simp [intOf]; omega⟩
              · have e1' : decide (dx < di) = false := by simpa using e1
                by_cases e2 : dx = di
                · have e2' : (dx == di) = true := by simpa using e2
                  by_cases e3 : si ≤ sx
                  · have HN := Lib.hid (HNext.out (.inr ⟨e2, e3⟩))
                    have e3' : decide (si ≤ sx) = true := by simpa using e3
                    clear HNext HEnd
                    subst e2
                    go_wp2_with fail
                    go_quiet (fail)
                    go_wp2_with fail
                    exact ⟨⟨k + 1, _, by omega, by go_num, HN.out, by rw [HW.out, World.drewN_drewN]⟩, by simp [intOf]; omega⟩
                  · have HI := Lib.hid (HEnd.out (by omega))
                    have e3' : decide (si ≤ sx) = false := by simpa using e3
                    clear HNext HEnd
                    subst e2
                    go_wp2_with fail
                    go_quiet (fail)
                    go_wp2_with fail
                    go_meet
                    case rel => exact ⟨k, _, rfl, hk, HI.out, by rw [HW.out, World.drewN_drewN]⟩
                · have HI := Lib.hid (HEnd.out (by omega))
                  have e2' : (dx == di) = false := by simpa using e2
                  clear HNext HEnd
                  go_wp2_with fail
                  go_quiet (fail)
                  go_wp2_with fail
                  go_meet
                  case rel => exact ⟨k, _, rfl, hk, HI.out, by rw [HW.out, World.drewN_drewN]⟩
            · have hltk' : decide ((k : Int) < xs.length) = false := by simp; omega
              have he : k = xs.length := by omega
              have HI := Lib.hid (insI_at D sp xs i k hk HL0.out (fun y hy => by have := (List.getElem?_eq_some_iff.1 hy).1; omega))
              go_wp2_with fail
              go_quiet (fail)
              go_wp2_with fail
              go_meet
              case rel => exact ⟨k, _, rfl, hk, HI.out, by rw [HW.out, World.drewN_drewN]⟩
        case rest =>
          obtain ⟨k, j, rfl, hk, hins, hwc⟩ := hcut
          rename_i KK hKK
          refine hKK _ _ ?_
          have HIns := Lib.hid hins
          have HT := Lib.hid (show Reads wc (fun j => (w.heap.size ≤ j) ∧ j < wc.heap.size) 1 A' k ((xs.take k).map natV) by rw [hwc]; have := (HRow.out.take_ hk).drewN j; rw [Nat.mul_one, ← List.map_take] at this; exact this.old (by omega))
          have HD := Lib.hid (show Reads wc (fun j => (w.heap.size ≤ j) ∧ j < wc.heap.size) 1 (cutG A' c' k 1) (xs.length - k) ((xs.drop k).map natV) by rw [hwc]; have := (HRow.out.cut hk hcap).drewN j; rw [Nat.mul_one, ← List.map_drop] at this; unfold cutG; rw [Nat.mul_one]; exact this.old (by omega))
          have HBc := Lib.hid (show Below w3.heap.size w3 wc by rw [hwc]; exact ((Fr.of_below HB.out (S := fun _ => False)).drewN j).below (Nat.le_refl _) (fun _ _ => id))
          have hsc := HBc.out.size
          refine wp_of_eq rfl (rask_q (fun j => w.heap.size ≤ j) i k xs A' c' wc hk hcap (by omega) HT HD _ _ _ _ _ _ _ _ _ _ _ _ _ _ _ _ _ _ _ _ _ _ _ _ _ _ _ _ _ _ _ _ _ _ _ _ _ _ _ _ _ _ _ _ _ _ _ _ _ _ _ _ _ _ _ _ _ _ _ _ _ _ _ _ _ _ _ _ _ _ _ _ _ _ _ _ _ _ _ _ _ _ _ _ _ _ _ _ _ _ _ _ _ _ _ _ _ _ _ _ _ _ _ _ _ _ _ _ _ _ _ (fun A3 c3 wx v100 v101 v102 v103 v104 v105 v106 v107 v108 v109 v110 v111 hc3 hr3 hf3 => ?_))
          dsimp only [Exit.inBlock, Exit.then]
          go_wp2_with fail
          have hlen : (insI D sp xs i).length = xs.length + 1 := by rw [HIns.out]; simp; omega
          refine ⟨⟨i + 1, A3, c3, by omega, by go_num, by rw [HS2.out, hlen], by rw [HS2.out, hlen]; exact hc3, ?_, HBc.out.trans (hf3.below hsc (fun _ _ => id))⟩, by simp [intOf]; omega⟩
          rw [HS2.out, hlen, HIns.out]
          exact hr3.more (fun j hj => by omega)
      · have e1 := Lib.hid (show refN D dist sp (i + 1) = refN D dist sp i by rw [HSu.out, if_neg hp])
        clear HSu
        by_cases hd : (i : Int) = dist
        · clear hp
          have hd2 : ((i : Int) == dist) = true := by simpa using hd
          generalize hq : refN D dist sp i = xs at *
          subst hd
          go_wp2_with fail
          exact ⟨⟨i + 1, A', c', by omega, by go_num, by rw [e1.out], by rw [e1.out]; exact hcap, by rw [e1.out]; exact HRow.out, HB.out⟩, by simp [intOf]; omega⟩
        · have hd2 : ((i : Int) == dist) = false := by simpa using hd
          have hp2 : decide (gd sp i ≤ 0) = true := by
            unfold askP at hp
            simp only [Bool.and_eq_true, bne_iff_ne, ne_eq, decide_eq_true_eq] at hp
            have : ¬ 0 < gd sp i := fun h => hp ⟨hd, h⟩
            simp; omega
          clear hp
          generalize hq : refN D dist sp i = xs at *
          go_wp2_with fail
          exact ⟨⟨i + 1, A', c', by omega, by go_num, by rw [e1.out], by rw [e1.out]; exact hcap, by rw [e1.out]; exact HRow.out, HB.out⟩, by simp [intOf]; omega⟩
    · have hlt' : ¬ (i : Int) < D.length := by omega
      have he : i = D.length := by omega
      subst he
      have HE := Lib.hid (show RAskPost ((askS D dist sp).map Int.ofNat) w (.returned (.slice A' (refN D dist sp D.length).length c')) wr from by
        have hlen : (refN D dist sp D.length).length = ((askS D dist sp).map Int.ofNat).length := by rw [refN_eq]; simp
        refine ⟨A', c', by rw [hlen], ?_, HB3.out.trans (HB.out.mono (by omega))⟩
        rw [← hlen, ← refN_eq, List.map_map]
        exact hrow)
      clear hrow hbel
      generalize refN D dist sp D.length = xs at *
      go_wp2_with fail
      go_ret
      exact HE.out
end Go.Proofs.Ytnmmiiajcjcccaa

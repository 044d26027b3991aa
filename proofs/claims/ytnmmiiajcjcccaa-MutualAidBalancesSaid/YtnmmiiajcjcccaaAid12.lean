import Derived.Test.YtnmmiiajcjcccaaAid11
namespace Go.Proofs.Ytnmmiiajcjcccaa
set_option linter.unusedVariables false
open Go.RowKit Go.Own Go.Quo Go.Aid
set_option maxRecDepth 10000 in
set_option maxHeartbeats 4000000 in
theorem complete_law_of (HA : ∀ W, Calls Try.prog 10 #[] W (fun e w' => e = .returned (.bool true) ∧ Below W.heap.size W w')) (A A2 : Option Addr) (c c2 : Nat) (f wa : List Int) (w : World) (h : RI w (· < w.heap.size) A f) (h2 : RI w (· < w.heap.size) A2 wa) :
    Calls Try.prog 5 #[.slice A f.length c, .slice A2 wa.length c2] w fun e w' => e = .returned (.bool true) ∧ Below w.heap.size w w' := by
  have HF := Lib.hid (few_any (· < w.heap.size) (· < w.heap.size) A A2 c c2 f wa)
  have H1 := Lib.hid h
  have H2 := Lib.hid h2
  have HAA := Lib.hid HA
  clear h h2 HA
  obtain ⟨n, hn⟩ : ∃ n : Nat, f.length = n := ⟨_, rfl⟩
  obtain ⟨n2, hn2⟩ : ∃ n : Nat, wa.length = n := ⟨_, rfl⟩
  have HN := Lib.hid hn
  have HN2 := Lib.hid hn2
  rw [hn, hn2] at HF
  rw [hn, hn2]
  clear hn hn2
  have hnil1 : ∀ W : World, (binOp .eql 22 (.slice none 0 0) (.slice none 0 0)).run Try.prog W = .ok (.bool true) W := fun _ => by rfl
  have hnil2 : ∀ (a : Addr) (n c : Nat) (W : World), (binOp .eql 22 (.slice (some a) n c) (.slice none 0 0)).run Try.prog W = .ok (.bool false) W := fun _ _ _ _ => by rfl
  go_enter Try.func5, Try.ntmps5
  go_wp2_with fail
  refine (HAA.out w).mono ?_
  rintro e w1 ⟨rfl, hb1⟩
  go_wp2_with fail
  refine (HF.out w1 (H1.out.below hb1 (fun _ h => h)) (H2.out.below hb1 (fun _ h => h))).mono ?_
  rintro e w2 ⟨b, rfl, hbb, rfl⟩
  cases b with
  | false =>
    go_wp2_with fail
    refine (HAA.out w2).mono ?_
    rintro e w3 ⟨rfl, hb3⟩
    go_wp2_with fail
    go_ret
    exact ⟨rfl, hb1.trans (hb3.mono hb1.size)⟩
  | true =>
    obtain ⟨hn70, hn270⟩ := hbb rfl
    clear hbb
    by_cases hc : n = n2 ∧ n ≤ 64
    · obtain ⟨rfl, h64⟩ := hc
      have hl' : f.length = wa.length := by rw [HN.out, HN2.out]
      have hLl : (leftF f wa).length = n := by rw [left_len hl', HN.out]
      have hLr : ∀ k, gd (leftF f wa) k ≤ 1000 ∧ -1000 ≤ gd (leftF f wa) k := fun k => by
        by_cases hk : k < f.length
        · rw [left_gd hl' hk]
          have := clamp_r (gd f k)
          have := clamp_r (gd wa k)
          omega
        · rw [gd_out (by rw [hLl, ← HN.out]; omega)]; omega
      have CL := left_ok _ _ A A2 c c2 f wa w2 (H1.out.below hb1 (fun _ h => h)) (H2.out.below hb1 (fun _ h => h)) hl' (by rw [HN.out]; exact h64)
      rw [HN.out, HN2.out] at CL
      have HPl := Lib.hid fun (B B2 : Nat → Prop) (A A2 : Option Addr) (c c2 : Nat) (w : World) (h : RI w B A f) (h2 : RI w B2 A2 wa) => plan_ok B B2 A A2 c c2 f wa w h h2 hl' (by rw [HN.out]; exact h64)
      have htl : (shoF (leftF f wa)).length = n := by simpa [shoF] using hLl
      have hsl : (surF (leftF f wa)).length = n := by simpa [surF] using hLl
      have hm1 : tot (shoF (leftF f wa)) ≤ 64000 := Nat.le_trans (tot_le _ 1000 (fun k _ => by rw [gd_sho]; have := hLr k; omega)) (by rw [htl]; omega)
      have hlen := plan_len _ (surF (leftF f wa)) (shoF (leftF f wa)) (Nat.le_refl _)
      have hfair := plan_fair _ _ _ [] (GSt.start hLl) (Nat.le_refl (tot (shoF (leftF f wa))))
      rw [List.nil_append] at hfair
      have HFr := Lib.hid (show FairRes f wa (planF (tot (shoF (leftF f wa))) (surF (leftF f wa)) (shoF (leftF f wa))) from ⟨hl', by rw [HN.out]; exact h64, by rw [HN.out]; exact hfair⟩)
      clear hfair
      generalize planF (tot (shoF (leftF f wa))) (surF (leftF f wa)) (shoF (leftF f wa)) = l at *
      have hl5 : l.length ≤ 64000 := by omega
      obtain ⟨b, hbiff, hb⟩ := fairs_any f wa l hl5
      obtain rfl : b = true := hbiff.2 HFr.out
      have HBo := Lib.hid hb
      clear hb hbiff HFr
      generalize leftF f wa = L at *
      have HLl := Lib.hid hLl
      have HLr := Lib.hid hLr
      have HLen := Lib.hid hlen
      have Hm1 := Lib.hid hm1
      have Htl := Lib.hid htl
      have Hsl := Lib.hid hsl
      clear hLl hLr hlen hm1 htl hsl hl'
      obtain ⟨m, hm⟩ : ∃ m : Nat, l.length = m := ⟨_, rfl⟩
      have HM := Lib.hid hm
      rw [hm] at HLen hl5
      clear hm
      go_wp2_with fail
      refine CL.mono ?_
      rintro e w3 ⟨g, cg, rfl, ho3, hb3⟩
      rw [HLl.out] at ho3 ⊢
      have b3 := hb1.trans (hb3.mono hb1.size)
      have HO3 := Lib.hid ho3
      clear ho3 CL
      go_wp2_with fail
      have I1 := ints_any _ A c f w3 (H1.out.below b3 (fun _ h => h)) (by rw [HN.out]; omega)
      rw [HN.out] at I1
      refine I1.mono ?_
      rintro e w4 ⟨g4, c4, rfl, ho4, hb4⟩
      rw [HN.out]
      have b4 := b3.trans (hb4.mono b3.size)
      go_wp2_with fail
      have I2 := ints_any _ A2 c2 wa w4 (H2.out.below b4 (fun _ h => h)) (by rw [HN2.out]; omega)
      rw [HN2.out] at I2
      refine I2.mono ?_
      rintro e w5 ⟨g5, c5, rfl, ho5, hb5⟩
      rw [HN2.out]
      have b5 := b4.trans (hb5.mono b4.size)
      have P1 := HPl.out _ _ _ _ c4 c5 w5 ((Reads.of_own ho4).below hb5 (fun j hj => (ho4.lt j hj).2)) (Reads.of_own ho5)
      rw [HN.out, HN2.out] at P1
      have HP1 := Lib.hid P1
      have HO5 := Lib.hid (own_below (own_below HO3.out hb4 (fun q hq => (HO3.out.lt q hq).2)) hb5 (fun q hq => by have := (HO3.out.lt q hq).2; have := hb4.size; omega))
      clear P1 ho4 ho5 I1 I2
      go_wp2_with fail
      refine HP1.out.mono ?_
      rintro e w6 ⟨A6, c6, rfl, ho6, hb6⟩
      rw [HM.out]
      have b6 := b5.trans (hb6.mono b5.size)
      have HO6 := Lib.hid (own_below HO5.out hb6 (fun q hq => (HO5.out.lt q hq).2))
      have R6 := Lib.hid (Reads.of_own ho6)
      have HL6 := Lib.hid ho6.lt
      clear ho6 HO5 HO3
      go_wp2_with fail
      go_loopw [7, 8, 10, 30] (fun va vs _ vi wr => ∃ (k : Nat), k ≤ n ∧ vi = .int .i64 k ∧ va = .int .i64 (tot ((shoF L).take k) : Nat) ∧ vs = .int .i64 (tot ((surF L).take k) : Nat) ∧ tot ((shoF L).take k) ≤ 1000 * k ∧ tot ((surF L).take k) ≤ 1000 * k ∧ wr = w6) (fun _ _ _ vi _ => n - (intOf vi).toNat)
      case atStart => exact ⟨0, Nat.zero_le _, rfl, by simp [tot], by simp [tot], by simp [tot], by simp [tot], rfl⟩
      case round =>
        obtain ⟨k, hk, rfl, rfl, rfl, hk1, hk2, rfl⟩ := hrel
        by_cases hlt : k < n
        · have hlt' : (k : Int) < n := by omega
          have ck := HO6.out.cellAt k (by omega)
          rw [List.getElem?_map, List.getElem?_eq_getElem (by rw [HLl.out]; exact hlt), ← gd_get (by rw [HLl.out]; exact hlt), Option.map_some] at ck
          have hix := fun W => ixg (g := g) n cg k hlt W
          have e1 := tot_take (l := shoF L) (k := k) (by rw [Htl.out]; exact hlt)
          have e2 := tot_take (l := surF L) (k := k) (by rw [Hsl.out]; exact hlt)
          rw [gd_sho] at e1
          rw [gd_sur] at e2
          have r := HLr.out k
          have E1 := Lib.hid e1
          have E2 := Lib.hid e2
          clear e1 e2
          generalize tot ((shoF L).take k) = ta at *
          generalize tot ((surF L).take k) = tb at *
          generalize gd L k = x at *
          have hw0 : IntKind.i64.wrap (-x) = -x := IntWalk.i64_in _ (by omega)
          by_cases hx : x < 0
          all_goals
            go_wp2_with fail
            refine ⟨⟨k + 1, by omega, by go_num, by rw [E1.out]; congr 1; (try split) <;> omega, by rw [E2.out]; congr 1; (try split) <;> omega, by rw [E1.out]; omega, by rw [E2.out]; omega, by trivial⟩, by simp [intOf]; omega⟩
        · have hlt' : ¬ (k : Int) < n := by omega
          have he : k = n := by omega
          have e1 : (shoF L).take k = shoF L := List.take_of_length_le (by rw [Htl.out]; omega)
          have e2 : (surF L).take k = surF L := List.take_of_length_le (by rw [Hsl.out]; omega)
          rw [e1] at hk1
          rw [e2] at hk2
          rw [e1, e2]
          clear e1 e2
          have hlen := HLen.out
          clear HLen Hm1
          generalize tot (shoF L) = xa at *
          generalize tot (surF L) = xb at *
          have C2 := (HBo.out _ _ _ A A2 A6 c c2 c6 wr (H1.out.below b6 (fun _ h => h)) (H2.out.below b6 (fun _ h => h)) (by rw [HM.out]; rw [HM.out] at R6; exact R6.out)).2
          rw [HN.out, HN2.out, HM.out] at C2
          have HC2 := Lib.hid C2
          clear C2
          have hnk : n = k := he.symm
          subst hnk
          rcases (by omega : (xa < xb ∧ m = xa) ∨ (xa = xb ∧ m = xb) ∨ (xb < xa ∧ m = xb)) with ⟨hx, rfl⟩ | ⟨rfl, rfl⟩ | ⟨hx, rfl⟩
          all_goals
            clear hlen
            go_wp2_with fail
            refine HC2.out.mono ?_
            rintro e w7 ⟨rfl, hb7⟩
            have b7 := b6.trans (hb7.mono b6.size)
            go_wp2_with fail
            have J1 := ints_any _ A c f w7 (H1.out.below b7 (fun _ h => h)) (by rw [HN.out]; omega)
            rw [HN.out] at J1
            refine J1.mono ?_
            rintro e w8 ⟨g8, c8, rfl, ho8, hb8⟩
            rw [HN.out]
            have b8 := b7.trans (hb8.mono b7.size)
            go_wp2_with fail
            have J2 := ints_any _ A2 c2 wa w8 (H2.out.below b8 (fun _ h => h)) (by rw [HN2.out]; omega)
            rw [HN2.out] at J2
            refine J2.mono ?_
            rintro e w9 ⟨g9, c9, rfl, ho9, hb9⟩
            rw [HN2.out]
            have b9 := b8.trans (hb9.mono b8.size)
            have R7 := R6.out.below hb7 (fun j hj => (HL6.out j hj).2)
            have R8 := R7.below hb8 (fun j hj => by have := (HL6.out j hj).2; have := hb7.size; omega)
            have R9 := R8.below hb9 (fun j hj => by have := (HL6.out j hj).2; have := hb7.size; have := hb8.size; omega)
            have C3 := (HBo.out _ _ _ (some ⟨g8, 0, none⟩) (some ⟨g9, 0, none⟩) A6 c8 c9 c6 w9 ((Reads.of_own ho8).below hb9 (fun j hj => (ho8.lt j hj).2)) (Reads.of_own ho9) (by rw [HM.out]; rw [HM.out] at R9; exact R9)).1
            rw [HN.out, HN2.out, HM.out] at C3
            have HC3 := Lib.hid C3
            clear C3 J1 J2 ho8 ho9 R7 R8 R9
            go_wp2_with fail
            refine HC3.out.mono ?_
            rintro e w10 ⟨rfl, hb10⟩
            go_wp2_with fail
            go_ret
            exact ⟨rfl, b9.trans (hb10.mono b9.size)⟩
    · have hc' : n ≠ n2 ∨ 64 < n := by omega
      have CL := Lib.hid (left_bad A A2 n n2 c c2 w2 hc')
      have HPb := Lib.hid fun (A A2 : Option Addr) (c c2 : Nat) (w : World) => plan_bad A A2 n n2 c c2 w hc'
      go_wp2_with fail
      refine CL.out.mono ?_
      rintro e w3 ⟨rfl, rfl⟩
      go_wp2_with fail
      have I1 := ints_any _ A c f w2 (H1.out.below hb1 (fun _ h => h)) (by rw [HN.out]; omega)
      rw [HN.out] at I1
      refine I1.mono ?_
      rintro e w4 ⟨g4, c4, rfl, ho4, hb4⟩
      rw [HN.out]
      have b4 := hb1.trans (hb4.mono hb1.size)
      go_wp2_with fail
      have I2 := ints_any _ A2 c2 wa w4 (H2.out.below b4 (fun _ h => h)) (by rw [HN2.out]; omega)
      rw [HN2.out] at I2
      refine I2.mono ?_
      rintro e w5 ⟨g5, c5, rfl, ho5, hb5⟩
      rw [HN2.out]
      have b5 := b4.trans (hb5.mono b4.size)
      clear I1 I2 ho4 ho5
      go_wp2_with fail
      refine (HPb.out _ _ _ _ w5).mono ?_
      rintro e w6 ⟨A6, c6, rfl, ho6, hb6⟩
      have b6 := b5.trans (hb6.mono b5.size)
      clear ho6
      go_wp2_with fail
      go_loopw [7, 8, 10, 30] (fun va vs _ vi wr => vi = .int .i64 0 ∧ va = .int .i64 0 ∧ vs = .int .i64 0 ∧ wr = w6) (fun _ _ _ _ _ => 0)
      case atStart => exact ⟨rfl, rfl, rfl, rfl⟩
      case round =>
        obtain ⟨rfl, rfl, rfl, rfl⟩ := hrel
        go_wp2_with fail
        go_ret
        exact ⟨rfl, b6⟩
end Go.Proofs.Ytnmmiiajcjcccaa

import Derived.Test.YtnmmiiajcjcccaaAid10
import Derived.Test.YtnmmiiajcjcccaaCPlain
namespace Go.Proofs.Ytnmmiiajcjcccaa
set_option linter.unusedVariables false
open Go.RowKit Go.Own Go.Quo Go.Aid
/-- The program and the reference answer alike. -/
theorem fairs_any (f wa : List Int) (l : List (Int × Int)) (hl5 : l.length ≤ 64000) : ∃ b : Bool, (b = true ↔ FairRes f wa l) ∧ ∀ (B B2 B3 : Nat → Prop) (A A2 A3 : Option Addr) (c c2 c3 : Nat) (w : World), RI w B A f → RI w B2 A2 wa → Reads w B3 2 A3 l.length (l.flatMap pairsL) →
    (Calls Try.prog 15 #[.slice A f.length c, .slice A2 wa.length c2, .slice A3 l.length c3] w fun e w' => e = .returned (.bool b) ∧ Below w.heap.size w w') ∧ (Calls Try.prog 16 #[.slice A f.length c, .slice A2 wa.length c2, .slice A3 l.length c3] w fun e w' => e = .returned (.bool b) ∧ Below w.heap.size w w') := by
  by_cases hc : f.length = wa.length ∧ f.length ≤ 64
  · obtain ⟨hl, h64⟩ := hc
    obtain ⟨b, hb⟩ : ∃ b : Bool, b = true ↔ FairP f.length (leftF f wa) l := ⟨@decide _ (Classical.propDecidable _), by rw [@decide_eq_true_iff _ (Classical.propDecidable _)]⟩
    refine ⟨b, ⟨fun h => ⟨hl, h64, hb.1 h⟩, fun h => hb.2 h.2.2⟩, fun B B2 B3 A A2 A3 c c2 c3 w h h2 h3 => ⟨?_, ?_⟩⟩
    · refine (fair_ok B B2 B3 A A2 A3 c c2 c3 f wa l w h h2 h3 hl h64 hl5).mono ?_
      rintro e w' ⟨b', rfl, hb', hbel⟩
      have : b' = b := Bool.eq_iff_iff.2 (hb'.trans hb.symm)
      exact ⟨by rw [this], hbel⟩
    · refine (rfair_ok B B2 B3 A A2 A3 c c2 c3 f wa l w h h2 h3 hl h64 hl5).mono ?_
      rintro e w' ⟨b', rfl, hb', hbel⟩
      have : b' = b := Bool.eq_iff_iff.2 ((hb'.trans (fairR_iff _ _ _)).trans hb.symm)
      exact ⟨by rw [this], hbel⟩
  · have hc' : f.length ≠ wa.length ∨ 64 < f.length := by omega
    refine ⟨false, ⟨fun h => (by cases h), fun h => absurd ⟨h.1, h.2.1⟩ hc⟩, fun B B2 B3 A A2 A3 c c2 c3 w h h2 h3 => ⟨?_, ?_⟩⟩
    · refine (fair_bad A A2 f.length wa.length c c2 _ w hc').mono ?_
      rintro e w' ⟨rfl, rfl⟩
      exact ⟨rfl, Below.refl _ _⟩
    · refine (rfair_bad A A2 f.length wa.length c c2 _ w hc').mono ?_
      rintro e w' ⟨rfl, rfl⟩
      exact ⟨rfl, Below.refl _ _⟩
theorem prs_one (l : List (Int × Int)) : ∀ u ∈ l.flatMap pairsL, u.oneCell' = true := by
  intro u hu
  obtain ⟨x, -, hx⟩ := List.mem_flatMap.1 hu
  simp [pairsL] at hx
  rcases hx with rfl | rfl <;> rfl
set_option maxRecDepth 10000 in
set_option maxHeartbeats 4000000 in
theorem fair_law_of (HA : ∀ W, Calls Try.prog 10 #[] W (fun e w' => e = .returned (.bool true) ∧ Below W.heap.size W w')) (A A2 A3 : Option Addr) (c c2 c3 : Nat) (f wa : List Int) (l : List (Int × Int)) (w : World) (h : RI w (· < w.heap.size) A f) (h2 : RI w (· < w.heap.size) A2 wa) (h3 : Reads w (· < w.heap.size) 2 A3 l.length (l.flatMap pairsL)) :
    Calls Try.prog 4 #[.slice A f.length c, .slice A2 wa.length c2, .slice A3 l.length c3] w fun e w' => e = .returned (.bool true) ∧ Below w.heap.size w w' := by
  have HF := Lib.hid (few_any (· < w.heap.size) (· < w.heap.size) A A2 c c2 f wa)
  have H1 := Lib.hid h
  have H2 := Lib.hid h2
  have H3 := Lib.hid h3
  have HAA := Lib.hid HA
  clear h h2 h3 HA
  obtain ⟨n, hn⟩ : ∃ n : Nat, f.length = n := ⟨_, rfl⟩
  obtain ⟨n2, hn2⟩ : ∃ n : Nat, wa.length = n := ⟨_, rfl⟩
  obtain ⟨m, hm⟩ : ∃ n : Nat, l.length = n := ⟨_, rfl⟩
  have HN := Lib.hid hn
  have HN2 := Lib.hid hn2
  have HM := Lib.hid hm
  rw [hn, hn2] at HF
  rw [hn, hn2, hm]
  clear hn hn2 hm
  go_enter Try.func4, Try.ntmps4
  go_wp2_with fail
  refine (HAA.out w).mono ?_
  rintro e w1 ⟨rfl, hb1⟩
  go_wp2_with fail
  refine (HF.out w1 (H1.out.below hb1 (fun _ h => h)) (H2.out.below hb1 (fun _ h => h))).mono ?_
  rintro e w2 ⟨b, rfl, hbb, rfl⟩
  cases b with
  | false =>
    go_wp2_with fail
    refine (HAA.out w2).mono ?_
    rintro e w3 ⟨rfl, hb3⟩
    go_wp2_with fail
    go_ret
    exact ⟨rfl, hb1.trans (hb3.mono hb1.size)⟩
  | true =>
    obtain ⟨hn70, hn270⟩ := hbb rfl
    clear hbb
    by_cases hm5 : 500 < m
    · have hm5' : (500 : Int) < m := by omega
      go_wp2_with fail
      refine (HAA.out w2).mono ?_
      rintro e w3 ⟨rfl, hb3⟩
      go_wp2_with fail
      go_ret
      exact ⟨rfl, hb1.trans (hb3.mono hb1.size)⟩
    have hm5' : ¬ (500 : Int) < m := by omega
    obtain ⟨b, -, hb⟩ := fairs_any f wa l (by rw [HM.out]; omega)
    have HBo := Lib.hid hb
    clear hb
    go_wp2_with fail
    have I1 := ints_any _ A c f w2 (H1.out.below hb1 (fun _ h => h)) (by rw [HN.out]; omega)
    rw [HN.out] at I1
    refine I1.mono ?_
    rintro e w3 ⟨g3, c3', rfl, ho3, hb3⟩
    rw [HN.out]
    go_wp2_with fail
    have I2 := ints_any _ A2 c2 wa w3 (H2.out.below (hb1.trans (hb3.mono hb1.size)) (fun _ h => h)) (by rw [HN2.out]; omega)
    rw [HN2.out] at I2
    refine I2.mono ?_
    rintro e w4 ⟨g4, c4', rfl, ho4, hb4⟩
    rw [HN2.out]
    have b4 : Below w.heap.size w w4 := (hb1.trans (hb3.mono hb1.size)).trans (hb4.mono (by have := hb1.size; have := hb3.size; omega))
    have HR4 := Lib.hid (H3.out.below b4 (fun _ h => h))
    rw [HM.out] at HR4
    have K3 := Lib.hid ((Reads.of_own ho3).below hb4 (fun j hj => (ho3.lt j hj).2))
    have K4 := Lib.hid (Reads.of_own ho4)
    have L3 := Lib.hid (fun j hj => (ho3.lt j hj).2 : ∀ j, (Value.slice (some ⟨g3, 0, none⟩) f.length c3').ownBlock = some j → j < w3.heap.size)
    have L4 := Lib.hid (fun j hj => (ho4.lt j hj).2 : ∀ j, (Value.slice (some ⟨g4, 0, none⟩) wa.length c4').ownBlock = some j → j < w4.heap.size)
    have hs34 := hb4.size
    clear ho3 ho4 I1 I2
    go_wp2_with (at_builtin; refine wpList_append_any _ rfl _ _ _ rfl w4.heap.size 28 _ 2 16 Try.underlying25 info28 rfl (by omega) (.slice (some ⟨w4.heap.size, 0, none⟩) 0 0) 0 [] rfl (World.ownsRow_lit w4 #[] 0 (Nat.le_refl _) (by simp [maxLen]) (by simp)) _ A3 m c3 (l.flatMap pairsL) rfl (HR4.out.alloc _) (prs_one l) (by simp only [maxLen]; omega) (by omega) (by simp) ?_; intro A5 c5 w5 hown5 hgr5 hat5)
    have hb5 : Below w4.heap.size w4 w5 := Below.grown (row := some w4.heap.size) ((Below.refl _ _).alloc (Nat.le_refl _) _) hgr5 (by simp) (fun k hk => by cases hk; exact Nat.le_refl _)
    rw [Nat.zero_add, List.nil_append] at *
    have C1 := (HBo.out _ _ _ (some ⟨g3, 0, none⟩) (some ⟨g4, 0, none⟩) A5 c3' c4' c5 w5 (K3.out.below hb5 (fun j hj => by have := L3.out j hj; omega)) (K4.out.below hb5 L4.out) (by rw [HM.out]; exact Reads.of_own hown5)).1
    rw [HN.out, HN2.out, HM.out] at C1
    refine C1.mono ?_
    rintro e w6 ⟨rfl, hb6⟩
    have b6 := (b4.trans (hb5.mono b4.size)).trans (hb6.mono (by have := b4.size; have := hb5.size; omega))
    go_wp2_with fail
    have C2 := (HBo.out _ _ _ A A2 A3 c c2 c3 w6 (H1.out.below b6 (fun _ h => h)) (H2.out.below b6 (fun _ h => h)) (H3.out.below b6 (fun _ h => h))).2
    rw [HN.out, HN2.out, HM.out] at C2
    refine C2.mono ?_
    rintro e w7 ⟨rfl, hb7⟩
    go_wp2_with fail
    go_ret
    exact ⟨rfl, b6.trans (hb7.mono b6.size)⟩
end Go.Proofs.Ytnmmiiajcjcccaa

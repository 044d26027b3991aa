import Derived.Test.YtbhbamgnapcbaaaElc
namespace Go.Proofs.Ytbhbamgnapcbaaa
set_option linter.unusedVariables false
open Go.RowKit Go.Own Go.Quo
set_option maxRecDepth 10000 in
set_option maxHeartbeats 2000000 in
theorem elects_law (m : Ms) (A : Option Addr) (c : Nat) (vs : List Int) (w : World) (h : MO w m) (hr : Reads w (· < w.heap.size) 1 A vs.length (vs.map (Value.int .u8))) (hu : ∀ x ∈ vs, 0 ≤ x ∧ x < 256) :
    Calls Try.prog 7 #[msV m, .slice A vs.length c] w fun e w' => e = .returned (.bool true) ∧ Below w.heap.size w w' := by
  have b1 : Below w.heap.size w (w.alloc (.cells (msC m) 65)) := (Below.refl _ _).alloc (Nat.le_refl _) _
  have g1 : Blk (w.alloc (.cells (msC m) 65)) w.heap.size 65 (msC m) := Blk.new w 65 _
  have HAl := Lib.hid fun W => alive_any W
  by_cases hb1 : 9 < vs.length
  · have hb : (9 : Int) < vs.length := by omega
    clear h hr hu
    go_enter Try.func7, Try.ntmps7
    go_wp2_with fail
    generalize w.alloc (.cells (msC m) 65) = W1 at *
    refine (HAl.out W1).mono ?_
    rintro e w2 ⟨rfl, b2⟩
    have g2 := g1.below b2 g1.lt
    obtain ⟨q0, q1, q2⟩ := g2.facts
    go_wp2_with fail
    go_ret
    exact ⟨rfl, b1.trans (b2.mono b1.size)⟩
  · by_cases hb2 : 12 < m.o.length
    · have hb : ¬ (9 : Int) < vs.length := by omega
      have hc : (12 : Int) < m.o.length := by omega
      clear h hr hu
      go_enter Try.func7, Try.ntmps7
      go_wp2_with fail
      generalize w.alloc (.cells (msC m) 65) = W1 at *
      refine (HAl.out W1).mono ?_
      rintro e w2 ⟨rfl, b2⟩
      have g2 := g1.below b2 g1.lt
      obtain ⟨q0, q1, q2⟩ := g2.facts
      go_wp2_with fail
      go_ret
      exact ⟨rfl, b1.trans (b2.mono b1.size)⟩
    · by_cases hb3 : 12 < m.n.length
      · have hb : ¬ (9 : Int) < vs.length := by omega
        have hc : ¬ (12 : Int) < m.o.length := by omega
        have hd : (12 : Int) < m.n.length := by omega
        clear h hr hu
        go_enter Try.func7, Try.ntmps7
        go_wp2_with fail
        generalize w.alloc (.cells (msC m) 65) = W1 at *
        refine (HAl.out W1).mono ?_
        rintro e w2 ⟨rfl, b2⟩
        have g2 := g1.below b2 g1.lt
        obtain ⟨q0, q1, q2⟩ := g2.facts
        go_wp2_with fail
        go_ret
        exact ⟨rfl, b1.trans (b2.mono b1.size)⟩
      · have HM := Lib.hid (show MR w (· < w.heap.size) m from ⟨h.o, h.n, by omega, by omega⟩)
        cases hv : vB m.o m.n with
        | true => exact elects_main m A c vs w HM.out hr hu (by omega) (by omega) (by omega) hv
        | false =>
          have hb : ¬ (9 : Int) < vs.length := by omega
          have hc : ¬ (12 : Int) < m.o.length := by omega
          have hd : ¬ (12 : Int) < m.n.length := by omega
          have HRi := Lib.hid fun W (x : Below w.heap.size w W) => right_b (· < w.heap.size) m W (HM.out.below x) false hv
          clear h hr hu
          go_enter Try.func7, Try.ntmps7
          go_wp2_with fail
          generalize w.alloc (.cells (msC m) 65) = W1 at *
          refine (HAl.out W1).mono ?_
          rintro e w2 ⟨rfl, b2⟩
          have g2 := g1.below b2 g1.lt
          obtain ⟨q0, q1, q2⟩ := g2.facts
          have bb := b1.trans (b2.mono b1.size)
          go_wp2_with fail
          refine (HRi.out w2 bb).mono ?_
          rintro e w3 ⟨rfl, rfl⟩
          go_wp2_with fail
          go_ret
          exact ⟨rfl, bb.alloc bb.size _⟩
end Go.Proofs.Ytbhbamgnapcbaaa

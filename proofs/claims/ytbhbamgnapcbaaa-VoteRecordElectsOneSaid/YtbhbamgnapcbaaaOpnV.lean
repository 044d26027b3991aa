import Derived.Test.YtbhbamgnapcbaaaCnt
import Derived.Test.YtbhbamgnapcbaaaAli2
import Derived.WideShapes
namespace Go.Proofs.Ytbhbamgnapcbaaa
set_option linter.unusedVariables false
open Go.RowKit Go.Own Go.Quo
section
variable {H : Type} {enc : TypeId × Value → H} {w : World}
theorem c65 : Try.prog.cellsOf 65 = 2 := by kernel_rfl
theorem c63 : Try.prog.cellsOf 63 = 1 := by kernel_rfl
theorem c70 : Try.prog.cellsOf 70 = 2 := by kernel_rfl
theorem c3v : Try.prog.cellsOf 3 = 1 := by kernel_rfl
theorem c5v : Try.prog.cellsOf 5 = 1 := by kernel_rfl
structure MO (w : World) (m : Ms) : Prop where
  o : RI w (· < w.heap.size) m.A m.o
  n : RI w (· < w.heap.size) m.A' m.n
theorem open_is {cs : List Value} (h : Rdy enc Try.prog w 63 cs) : ∃ A c, ∃ l : List Int, cs = [.slice A l.length c] ∧ RI w (· < w.heap.size) A l := by
  obtain ⟨A, c, l, h1, -, -, h2, -⟩ := h.ints Try.underlying63 Try.underlying3 c3v
  exact ⟨A, c, l, h1, h2⟩
set_option maxRecDepth 100000 in
theorem open_ms {b0 : Nat} {r : Reach} {v : Value} {d : DataW H} {p : List MemPlace} (hv : Value.okWide Try.prog w r b0 65 v) (h : DataW.Trod enc Try.prog w 0 (fun _ => true) true 65 v d p) : ∃ m : Ms, v = msV m ∧ MO w m := by
  obtain ⟨cs, rfl, hsz⟩ := Go.WideShapes.okWide_struct Try.underlying65 hv
  have h1 := Rdy.of_trod h
  obtain ⟨-, hf⟩ := h1.struct Try.underlying65
  rw [c65] at hsz
  obtain ⟨l⟩ := cs
  match l, hsz with
  | [e0, e1], _ =>
    have f0 : Rdy enc Try.prog w 63 (([e0, e1].drop 0).take (Try.prog.cellsOf 63)) := hf 0 _ rfl
    have f1 : Rdy enc Try.prog w 63 (([e0, e1].drop 1).take (Try.prog.cellsOf 63)) := hf 1 _ rfl
    rw [c63] at f0 f1
    obtain ⟨A, c, lo, k0, r0⟩ := open_is f0
    obtain ⟨A', c', ln, k1, r1⟩ := open_is f1
    simp at k0 k1
    subst k0 k1
    exact ⟨⟨A, c, lo, A', c', ln⟩, rfl, r0, r1⟩
theorem open_pr (es : List Value) (h : Rdy enc Try.prog w 70 es) : ∃ p : Int × Int, es = prL p ∧ (Lit.int .i64 p.2).wf = true := by
  obtain ⟨hl, hf⟩ := h.array Try.underlying70
  rw [c70] at hl
  rw [c3v] at hf
  match es, hl with
  | [e0, e1], _ =>
    obtain ⟨n0, h0, hw0⟩ := (hf 0 (by omega)).int Try.underlying3
    obtain ⟨n1, h1, hw1⟩ := (hf 1 (by omega)).int Try.underlying3
    simp at h0 h1
    subst h0 h1
    exact ⟨(n0, n1), rfl, hw1⟩
theorem open_prs {v : Value} {d : DataW H} {p : List MemPlace} (h : DataW.Trod enc Try.prog w 0 (fun _ => true) true 66 v d p) {A : Option Addr} {n c : Nat} (hv : v = .slice A n c) : ∃ l : List (Int × Int), n = l.length ∧ Reads w (· < w.heap.size) 2 A l.length (l.flatMap prL) ∧ ∀ p ∈ l, (Lit.int .i64 p.2).wf = true := by
  subst hv
  have h1 := Rdy.of_trod h
  obtain ⟨A', c', l, e, h2, h3, h4, h5⟩ := h1.rows Try.underlying66 c70 (by omega) prL prL_len (fun p => (Lit.int .i64 p.2).wf = true) open_pr
  simp [Value.cells] at e
  obtain ⟨rfl, rfl, rfl⟩ := e
  exact ⟨l, rfl, h4, h5⟩
theorem open_u8s {v : Value} {d : DataW H} {p : List MemPlace} (h : DataW.Trod enc Try.prog w 0 (fun _ => true) true 31 v d p) {A : Option Addr} {n c : Nat} (hv : v = .slice A n c) : ∃ l : List Int, n = l.length ∧ Reads w (· < w.heap.size) 1 A l.length (l.map (Value.int .u8)) ∧ ∀ x ∈ l, 0 ≤ x ∧ x < 256 := by
  subst hv
  obtain ⟨A', c', l, e, -, -, h2, hw⟩ := (Rdy.of_trod h).ints Try.underlying31 Try.underlying5 c5v
  simp [Value.cells] at e
  obtain ⟨rfl, rfl, rfl⟩ := e
  refine ⟨l, rfl, h2, fun x hx => ?_⟩
  have := hw x hx
  have : 0 ≤ x ∧ x ≤ 255 := by simpa [Lit.wf, IntKind.min, IntKind.max, IntKind.signed, IntKind.bits] using this
  omega
end
set_option maxRecDepth 10000 in
set_option maxHeartbeats 2000000 in
theorem counts_law (m : Ms) (A : Option Addr) (c : Nat) (l : List (Int × Int)) (w : World) (h : MO w m) (hr : Reads w (· < w.heap.size) 2 A l.length (l.flatMap prL)) (hwf : ∀ p ∈ l, (Lit.int .i64 p.2).wf = true) :
    Calls Try.prog 6 #[msV m, .slice A l.length c] w fun e w' => e = .returned (.bool true) ∧ Below w.heap.size w w' := by
  have b1 : Below w.heap.size w (w.alloc (.cells (msC m) 65)) := (Below.refl _ _).alloc (Nat.le_refl _) _
  have g1 : Blk (w.alloc (.cells (msC m) 65)) w.heap.size 65 (msC m) := Blk.new w 65 _
  have HAl := Lib.hid fun W => alive_any W
  have HH := Lib.hid h
  have HRd := Lib.hid hr
  have HWf := Lib.hid hwf
  clear h hr hwf
  by_cases hb1 : 30 < l.length
  · have hb : (30 : Int) < l.length := by omega
    go_enter Try.func6, Try.ntmps6
    go_wp2_with fail
    generalize w.alloc (.cells (msC m) 65) = W1 at *
    refine (HAl.out W1).mono ?_
    rintro e w2 ⟨rfl, b2⟩
    have g2 := g1.below b2 g1.lt
    obtain ⟨q0, q1, q2⟩ := g2.facts
    go_wp2_with fail
    go_ret
    exact ⟨rfl, b1.trans (b2.mono b1.size)⟩
  · by_cases hb2 : 12 < m.o.length
    · have hb : ¬ (30 : Int) < l.length := by omega
      have hc : (12 : Int) < m.o.length := by omega
      go_enter Try.func6, Try.ntmps6
      go_wp2_with fail
      generalize w.alloc (.cells (msC m) 65) = W1 at *
      refine (HAl.out W1).mono ?_
      rintro e w2 ⟨rfl, b2⟩
      have g2 := g1.below b2 g1.lt
      obtain ⟨q0, q1, q2⟩ := g2.facts
      go_wp2_with fail
      go_ret
      exact ⟨rfl, b1.trans (b2.mono b1.size)⟩
    · by_cases hb3 : 12 < m.n.length
      · have hb : ¬ (30 : Int) < l.length := by omega
        have hc : ¬ (12 : Int) < m.o.length := by omega
        have hd : (12 : Int) < m.n.length := by omega
        go_enter Try.func6, Try.ntmps6
        go_wp2_with fail
        generalize w.alloc (.cells (msC m) 65) = W1 at *
        refine (HAl.out W1).mono ?_
        rintro e w2 ⟨rfl, b2⟩
        have g2 := g1.below b2 g1.lt
        obtain ⟨q0, q1, q2⟩ := g2.facts
        go_wp2_with fail
        go_ret
        exact ⟨rfl, b1.trans (b2.mono b1.size)⟩
      · have hb : ¬ (30 : Int) < l.length := by omega
        have hc : ¬ (12 : Int) < m.o.length := by omega
        have hd : ¬ (12 : Int) < m.n.length := by omega
        have HM := Lib.hid (show MR w (· < w.heap.size) m from ⟨HH.out.o, HH.out.n, by omega, by omega⟩)
        cases hv : vB m.o m.n with
        | false =>
          have HRi := Lib.hid fun W (x : Below w.heap.size w W) => right_b (· < w.heap.size) m W (HM.out.below x) false hv
          go_enter Try.func6, Try.ntmps6
          go_wp2_with fail
          generalize w.alloc (.cells (msC m) 65) = W1 at *
          refine (HAl.out W1).mono ?_
          rintro e w2 ⟨rfl, b2⟩
          have g2 := g1.below b2 g1.lt
          obtain ⟨q0, q1, q2⟩ := g2.facts
          have bb := b1.trans (b2.mono b1.size)
          go_wp2_with fail
          refine (HRi.out w2 bb).mono ?_
          rintro e w3 ⟨rfl, rfl⟩
          go_wp2_with fail
          go_ret
          exact ⟨rfl, bb.alloc bb.size _⟩
        | true =>
          have HRi := Lib.hid fun W (x : Below w.heap.size w W) => right_b (· < w.heap.size) m W (HM.out.below x) true hv
          have HWi := Lib.hid fun W (x : Below w.heap.size w W) => winner_any (· < w.heap.size) (· < w.heap.size) m A c l W (HM.out.below x) (HRd.out.below x (fun _ h => h)) (by omega) HWf.out
          have HCo := Lib.hid fun W (x : Below w.heap.size w W) => count_any (· < w.heap.size) (· < w.heap.size) m A c l W (HM.out.below x) (HRd.out.below x (fun _ h => h)) (by omega)
          go_enter Try.func6, Try.ntmps6
          go_wp2_with fail
          generalize w.alloc (.cells (msC m) 65) = W1 at *
          refine (HAl.out W1).mono ?_
          rintro e w2 ⟨rfl, b2⟩
          have g2 := g1.below b2 g1.lt
          obtain ⟨q0, q1, q2⟩ := g2.facts
          have bb := b1.trans (b2.mono b1.size)
          go_wp2_with fail
          refine (HRi.out w2 bb).mono ?_
          rintro e w3 ⟨rfl, rfl⟩
          have g3 := g2.alloc (.cells (msC m) 65)
          have b3 := bb.alloc bb.size (.cells (msC m) 65)
          go_wp2_with fail
          generalize w2.alloc (.cells (msC m) 65) = W3 at *
          have HC := Lib.hid fun W' (x : Below W3.heap.size W3 W') => (show W'.cell? ⟨w.heap.size, 0, none⟩ = some (.slice m.A m.o.length m.c) ∧ W'.cell? ⟨w.heap.size, 1, none⟩ = some (.slice m.A' m.n.length m.c') from ⟨(g3.below x g3.lt).cell 0, (g3.below x g3.lt).cell 1⟩)
          have K3 := HC.out _ (Below.refl _ _)
          have HWi3 := Lib.hid fun W' (x : Below W3.heap.size W3 W') => HWi.out W' (b3.trans (x.mono b3.size))
          have HCo3 := Lib.hid fun W' (x : Below W3.heap.size W3 W') => HCo.out W' (b3.trans (x.mono b3.size))
          go_region_held (fun w' => w'.cell? ⟨w.heap.size, 0, none⟩ = some (.slice m.A m.o.length m.c) ∧ w'.cell? ⟨w.heap.size, 1, none⟩ = some (.slice m.A' m.n.length m.c')) (first | assumption | exact K3) (first
            | (((with_reducible refine (HWi3.out _ ((Below.refl _ _).drew)).mono ?_); rintro e wa ⟨r1, rfl, hw1, hba⟩; have Ba := ((Below.refl W3.heap.size W3).drew).trans hba; clear hba; have KBa := HC.out _ Ba))
            | (((with_reducible refine (HCo3.out _ Ba).mono ?_); rintro e wb ⟨r2, rfl, hw2, hbb⟩; have Bb := Ba.trans (hbb.mono Ba.size); clear hbb; have KBb := HC.out _ Bb; obtain rfl := hw1.uniq hw2)))
          all_goals
            go_wp2_with fail
            go_ret
            exact ⟨by simp, b3.trans (Bb.mono b3.size)⟩
end Go.Proofs.Ytbhbamgnapcbaaa

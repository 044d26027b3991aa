import Derived.Test.YtnpfbpfobbadaaaSml2
import Derived.Test.YtnpfbpfobbadaaaQuo11
import Derived.Test.YtnpfbpfobbadaaaOpenQ
import Derived.Deep.DeepCutAuto
namespace Go.Proofs.Ytnpfbpfobbadaaa
set_option linter.unusedVariables false
open Go.RowKit Go.Own Go.Quo Go.Wire
theorem memF_two {o n : List Int} (hv : vB o n = true) : (memF o n).length ≤ o.length + n.length := by
  rw [← compact_mem hv]
  have hcl : ∀ zs : List Int, (Lib.compact zs).length ≤ zs.length := by
    intro zs
    unfold Lib.compact Lib.compactUpTo
    rw [List.length_map]
    exact Nat.le_trans (List.length_filter_le _ _) (by simp)
  have := hcl (srt (o ++ n))
  rw [srt_length, List.length_append] at this
  exact this
theorem small_eq (o n : List Int) : (leastF o n).getD [] = smallF o n ∧ (smallF o n = [] ∨ reachB o n (smallF o n) = true) := by
  cases hv : vB o n with
  | true =>
    obtain ⟨h1, h2⟩ := small_least hv
    rw [h1]
    exact ⟨rfl, .inr h2⟩
  | false =>
    have e : smallF o n = [] := by unfold smallF; rw [if_neg (by simp [hv])]
    rw [e]
    refine ⟨?_, .inl rfl⟩
    unfold leastF
    rw [if_neg (by simp [hv])]
    rfl
theorem sm_len (o n : List Int) : ∀ (r : List Int) (a b left : Int) (q : List Int), (smLoop o n r a b left q).length ≤ q.length + r.length
  | [], a, b, left, q => by simp [smLoop]
  | m :: r, a, b, left, q => by
    rw [smLoop]
    split
    · simp
    · split
      · have := sm_len o n r (dec1 a (hasB o m)) (dec1 b (hasB n m)) (left - 1) (q ++ [m])
        simp at this ⊢; omega
      · have := sm_len o n r a b left q
        simp; omega
theorem small_len (o n : List Int) : (smallF o n).length ≤ 64 := by
  unfold smallF
  split
  · have := sm_len o n (memF o n) (majF o) (majN n) (missF o n (memF o n) (majF o) (majN n)) []
    have h2 := memF_le o n
    rw [List.length_nil] at this
    omega
  · simp
set_option maxRecDepth 10000 in
set_option maxHeartbeats 1000000 in
theorem great_any (B : Nat → Prop) (m : Ms) (w : World) (h1 : m.o.length ≤ 1000) (h2 : m.n.length ≤ 1000) (q : Bool) (hq : decide (12 < m.o.length + m.n.length) = q) :
    Calls Try.prog 14 #[msV m] w fun e w' => e = .returned (.bool q) ∧ w.alloc (.cells (msC m) 24) = w' := by
  have hw : IntKind.i64.wrap ((m.o.length : Int) + m.n.length) = (m.o.length : Int) + m.n.length := IntWalk.i64_in _ (by omega)
  have HQ := Lib.hid hq
  clear hq
  go_enter Try.func14, Try.ntmps14
  go_wp2
  go_ret
  refine ⟨?_, rfl⟩
  rw [← HQ.out]
  congr 2
  simp
  omega
set_option maxRecDepth 10000 in
set_option maxHeartbeats 1000000 in
theorem smallest_long (m : Ms) (w : World) (h : 40 < m.o.length ∨ 40 < m.n.length) :
    Calls Try.prog 4 #[msV m] w (LawPost w) := by
  have HA := Lib.hid awake_any
  by_cases h1 : 40 < m.o.length
  · have h1' : (40 : Int) < m.o.length := by omega
    clear h
    go_enter Try.func4, Try.ntmps4
    go_wp2_with (go_at_call 10; ((with_reducible refine (HA.out _).mono ?_); rintro e w2 ⟨rfl, hb2⟩))
    go_ret
    exact ⟨rfl, ((Below.refl _ _).alloc (Nat.le_refl _) _).trans (hb2.mono (by simp))⟩
  have h1d : decide (40 < m.o.length) = false := by simpa using h1
  have h2 : 40 < m.n.length := by omega
  have h2' : (40 : Int) < m.n.length := by omega
  clear h
  go_enter Try.func4, Try.ntmps4
  go_wp2_with (go_at_call 10; ((with_reducible refine (HA.out _).mono ?_); rintro e w2 ⟨rfl, hb2⟩))
  go_ret
  exact ⟨rfl, ((Below.refl _ _).alloc (Nat.le_refl _) _).trans (hb2.mono (by simp))⟩
set_option maxRecDepth 10000 in
set_option maxHeartbeats 2000000 in
theorem smallest_great (B : Nat → Prop) (m : Ms) (w : World) (h : MR w B m) (h1 : m.o.length ≤ 40) (h2 : m.n.length ≤ 40) (hv : vB m.o m.n = true) (hg : 12 < m.o.length + m.n.length) :
    Calls Try.prog 4 #[msV m] w (LawPost w) := by
  have HA := Lib.hid awake_any
  have h1d : decide (40 < m.o.length) = false := by simpa using h1
  have h2d : decide (40 < m.n.length) = false := by simpa using h2
  have HR := Lib.hid (right_b B m _ (h.alloc (.cells (msC m) 24)) true hv)
  have HG := Lib.hid fun W => great_any B m W (by omega) (by omega) true (by simpa using hg)
  clear h hv hg
  go_enter Try.func4, Try.ntmps4
  go_wp2_with (first
    | (go_at_call 13; ((with_reducible refine HR.out.mono ?_); rintro e w2 ⟨rfl, rfl⟩))
    | (go_at_call 14; ((with_reducible refine (HG.out _).mono ?_); rintro e w3 ⟨rfl, rfl⟩))
    | (go_at_call 10; ((with_reducible refine (HA.out _).mono ?_); rintro e w4 ⟨rfl, hb4⟩)))
  go_ret
  have b3 : Below w.heap.size w (((w.alloc (.cells (msC m) 24)).alloc (.cells (msC m) 24)).alloc (.cells (msC m) 24)) := (((Below.refl _ _).alloc (Nat.le_refl _) _).alloc (by simp) _).alloc (by simp; omega) _
  exact ⟨rfl, b3.trans (hb4.mono b3.size)⟩
set_option maxRecDepth 10000 in
set_option maxHeartbeats 4000000 in
theorem smallest_main (B : Nat → Prop) (m : Ms) (w : World) (h : MR w B m) (h1 : m.o.length ≤ 40) (h2 : m.n.length ≤ 40) (hg : vB m.o m.n = true → m.o.length + m.n.length ≤ 12) :
    Calls Try.prog 4 #[msV m] w (LawPost w) := by
  have HA := Lib.hid awake_any
  have h1d : decide (40 < m.o.length) = false := by simpa using h1
  have h2d : decide (40 < m.n.length) = false := by simpa using h2
  have hal : (allV m.o m.n).length ≤ 12 := by
    unfold allV
    split
    · rename_i hv
      have := memF_two hv
      have := hg hv
      omega
    · simp
  have HS := Lib.hid fun W' (x : MR W' B m) => smallest_any B m W' x
  have HL := Lib.hid fun W' (x : MR W' B m) => least_any B m W' x hal
  obtain ⟨he, hor⟩ := small_eq m.o m.n
  rw [he] at HL
  have HRe := Lib.hid fun (W' : World) (B' : Nat → Prop) (A' : Option Addr) (c' : Nat) (l : List Int) (x : MR W' B m) (y : RI W' B' A' l) (hl : l.length ≤ 1000) => reached_any B B' m A' c' l W' x y hl
  have hsl := small_len m.o m.n
  generalize smallF m.o m.n = sm at *
  have HO := Lib.hid hor
  have HSa := Lib.hid fun (W' : World) (A1 A2 : Option Addr) (c1 c2 : Nat) (B1 B2 : Nat → Prop) (r1 : RI W' B1 A1 sm) (r2 : RI W' B2 A2 sm) => (same_eq B1 B2 A1 A2 sm c1 c2 W' r1 r2 (by omega)).mono (R' := fun e w' => e = .returned (.bool true) ∧ Below W'.heap.size W' w') (fun e w' hx => ⟨hx.1, by obtain ⟨k, e⟩ := hx.2; subst e; exact below_drewN (Below.refl _ _) k⟩)
  clear he hor
  have hm1 := h.alloc (.cells (msC m) 24)
  have g1 : Blk (w.alloc (.cells (msC m) 24)) w.heap.size 24 (msC m) := Blk.new w 24 _
  have b1 : Below w.heap.size w (w.alloc (.cells (msC m) 24)) := (Below.refl _ _).alloc (Nat.le_refl _) _
  have HR := Lib.hid fun q hq => right_b B m _ hm1 q hq
  have HG := Lib.hid fun (hv : vB m.o m.n = true) W => great_any B m W (by omega) (by omega) false (by have := hg hv; simp; omega)
  clear h hg
  go_enter Try.func4, Try.ntmps4
  go_upto_region 1 with (fail)
  generalize w.alloc (.cells (msC m) 24) = W1 at *
  go_cut [21] (fun v wx => v = .bool false ∧ Below W1.heap.size W1 wx)
  case first =>
    obtain ⟨e0, e1, e2⟩ := g1.facts
    cases hv : vB m.o m.n with
    | true =>
      have HR := Lib.hid (HR.out true hv)
      have HG := Lib.hid (HG.out hv)
      clear hv
      go_wp2_with (first
        | (go_at_call 13; ((with_reducible refine HR.out.mono ?_); rintro e w2 ⟨rfl, rfl⟩))
        | (go_at_call 14; ((with_reducible refine (HG.out _).mono ?_); rintro e w3 ⟨rfl, rfl⟩)))
      go_meet
      case rel => exact ⟨by simp; omega, ((Below.refl _ _).alloc (Nat.le_refl _) _).alloc (by simp) _⟩
    | false =>
      have HR := Lib.hid (HR.out false hv)
      clear hv HG
      go_wp2_with (first
        | (go_at_call 13; ((with_reducible refine HR.out.mono ?_); rintro e w2 ⟨rfl, rfl⟩)))
      go_meet
      case rel => exact ⟨by simp; omega, (Below.refl _ _).alloc (Nat.le_refl _) _⟩
  case rest =>
    obtain ⟨rfl, hBc⟩ := hcut
    have hm2 := hm1.below hBc
    have g2 := g1.below hBc g1.lt
    have b2 := b1.trans (hBc.mono b1.size)
    obtain ⟨wd, rfl⟩ : ∃ wd : World, wd = wc := ⟨_, rfl⟩
    clear HR HG hm1 g1 b1
    obtain ⟨e0, e1, e2⟩ := g2.facts
    go_wp2_with fail
    refine (HS.out wd hm2).mono ?_
    rintro e w3 ⟨A3, c3, rfl, r3, hB3, hc3⟩
    have hm3 := hm2.below hB3
    have g3 := g2.below hB3 g2.lt
    have b3 := b2.trans (hB3.mono b2.size)
    obtain ⟨f0, f1, f2⟩ := g3.facts
    go_wp2_with fail
    refine (HL.out w3 hm3).mono ?_
    rintro e w4 ⟨A4, c4, rfl, r4, hB4⟩
    have hm4 := hm3.below hB4
    have g4 := g3.below hB4 g3.lt
    have b4 := b3.trans (hB4.mono b3.size)
    have r34 := r3.fr (S := fun _ => False) (Fr.of_below hB4) (fun _ _ => id)
    have HSa4 := Lib.hid (HSa.out w4 A3 A4 c3 c4 _ _ r34 r4)
    clear HS HL HSa e0 e1 e2 f0 f1 f2
    rcases HO.out with h0 | h0
    · have hl0 : ((sm.length : Int) == 0) = true := by rw [h0]; rfl
      clear h0
      go_wp2_with (first
        | (go_at_call 16; ((with_reducible refine HSa4.out.mono ?_); rintro e w5 ⟨rfl, hB5⟩))
        | (go_at_call 10; ((with_reducible refine (HA.out _).mono ?_); rintro e w6 ⟨rfl, hB6⟩)))
      go_ret
      have b5 := b4.trans (hB5.mono b4.size)
      exact ⟨rfl, b5.trans (hB6.mono b5.size)⟩
    · have hne := reach_ne h0
      have hl0 : ((sm.length : Int) == 0) = false := beq_eq_false_iff_ne.2 (by omega)
      have H0 := Lib.hid h0
      clear h0
      go_wp2_with (first
        | (go_at_call 16; ((with_reducible refine HSa4.out.mono ?_); rintro e w5 ⟨rfl, hB5⟩; have b5 := b4.trans (hB5.mono b4.size); obtain ⟨x0, x1, x2⟩ := (g4.below hB5 g4.lt).facts; have HR5 := Lib.hid (HRe.out w5 _ A3 c3 sm (hm4.below hB5) (r34.fr (S := fun _ => False) (Fr.of_below hB5) (fun _ _ => id)) (by omega)); rw [H0.out] at HR5))
        | (go_at_call 11; ((with_reducible refine HR5.out.mono ?_); rintro e w6 ⟨rfl, hB6⟩))
        | (go_at_call 10; ((with_reducible refine (HA.out _).mono ?_); rintro e w7 ⟨rfl, hB7⟩)))
      go_ret
      have b6 := b5.trans (hB6.mono b5.size)
      exact ⟨rfl, b6.trans (hB7.mono b6.size)⟩
theorem smallest_law (m : Ms) (w : World) (h : MO w m) : Calls Try.prog 4 #[msV m] w (LawPost w) := by
  by_cases hl : 40 < m.o.length ∨ 40 < m.n.length
  · exact smallest_long m w hl
  · by_cases hg : vB m.o m.n = true ∧ 12 < m.o.length + m.n.length
    · exact smallest_great _ m w ⟨h.o, h.n, by omega, by omega⟩ (by omega) (by omega) hg.1 hg.2
    · exact smallest_main _ m w ⟨h.o, h.n, by omega, by omega⟩ (by omega) (by omega) (fun hv => by
        by_cases h12 : 12 < m.o.length + m.n.length
        · exact absurd ⟨hv, h12⟩ hg
        · omega)
end Go.Proofs.Ytnpfbpfobbadaaa

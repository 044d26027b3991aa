import Derived.Test.YtnpfbpfobbadaaaRd4
import Derived.Test.YtnpfbpfobbadaaaQuo10
namespace Go.Proofs.Ytnpfbpfobbadaaa
set_option linter.unusedVariables false
open Go.RowKit Go.Own Go.Quo Go.Wire
theorem rdIs_suf (l : List Int) : ∃ pre, l = pre ++ (rdIs l).2.2 := by
  have hA : ∀ (k : Nat) (acc l : List Int), ∃ pre, l = pre ++ (readA k acc l).2.2 := by
    intro k
    induction k with
    | zero => intro acc l; exact ⟨[], rfl⟩
    | succ k ih =>
      intro acc l
      rw [readA]
      split
      · obtain ⟨p1, e1⟩ := rdI_suf l
        obtain ⟨p2, e2⟩ := ih (acc ++ [(rdI l).2.1]) (rdI l).2.2
        exact ⟨p1 ++ p2, by rw [List.append_assoc, ← e2]; exact e1⟩
      · exact ⟨l, by simp⟩
  obtain ⟨p1, e1⟩ := rdL_suf l
  unfold rdIs
  split
  · exact ⟨p1, e1⟩
  · obtain ⟨p2, e2⟩ := hA (rdL l).2.1.toNat [] (rdL l).2.2
    exact ⟨p1 ++ p2, by rw [List.append_assoc, ← e2]; exact e1⟩
theorem rdIs_bytes {l : List Int} (h : Bytes l) : Bytes (rdIs l).2.2 := by
  obtain ⟨pre, e⟩ := rdIs_suf l
  rw [e] at h
  exact h.right
theorem rdIs_len (l : List Int) : (rdIs l).2.2.length ≤ l.length := by
  obtain ⟨pre, e⟩ := rdIs_suf l
  have := congrArg List.length e
  rw [List.length_append] at this; omega
theorem readA_lenL : ∀ (k : Nat) (acc l : List Int), (readA k acc l).2.1.length ≤ acc.length + k
  | 0, acc, l => by simp [readA]
  | k + 1, acc, l => by
    rw [readA]
    split
    · have := readA_lenL k (acc ++ [(rdI l).2.1]) (rdI l).2.2
      rw [List.length_append] at this
      simp at this; omega
    · simp
theorem rdIs_lenL (l : List Int) : (rdIs l).2.1.length ≤ l.length := by
  have h1 := rdL_len l
  unfold rdIs
  split
  · simp
  · have h2 := readA_lenL (rdL l).2.1.toNat [] (rdL l).2.2
    rcases rdL_err l with h | ⟨h, h3⟩
    · have := rdL_le l h
      simp at h2; omega
    · rw [h3]; simp [readA]
set_option maxRecDepth 10000 in
set_option maxHeartbeats 2000000 in
theorem decode_any (B : Nat → Prop) (A : Option Addr) (c : Nat) (b : List Int) (w : World) (h : Reads w B 1 A b.length (bys b)) (hB : Bytes b) (hl : b.length ≤ 1000) :
    Calls Try.prog 32 #[.slice A b.length c] w (ChPost (fun _ => False) (decF b).1 (decF b).2.1 (decF b).2.2 w) := by
  have h1 := h.alloc (.cells msZ 24)
  have HNr := Lib.hid (newReader_any B A c b _ h1 (by omega))
  have g1 : Blk (w.alloc (.cells msZ 24)) w.heap.size 24 msZ := Blk.new w 24 _
  have b1 : Below w.heap.size w (w.alloc (.cells msZ 24)) := (Below.refl _ _).alloc (Nat.le_refl _) _
  have hs1 : w.heap.size + 1 ≤ (w.alloc (.cells msZ 24)).heap.size := by simp
  have hb2 := rdIs_bytes hB
  have hl2 := rdIs_len b
  have HD := Lib.hid (show decF b = if (rdIs b).1 = 0 then (if (rdIs (rdIs b).2.2).1 = 0 then (if (rdIs (rdIs b).2.2).2.2.length = 0 then (if vB (rdIs b).2.1 (rdIs (rdIs b).2.2).2.1 = true then ((rdIs b).2.1, (rdIs (rdIs b).2.2).2.1, 0) else ([], [], 2)) else ([], [], 2)) else ([], [], (rdIs (rdIs b).2.2).1)) else ([], [], (rdIs b).1) from rfl)
  have HIs := Lib.hid fun p B' W' (x : RdP W' p B' b 0) (hp : ¬ B' p) hBw => ints_ok p B' b W' x hp hBw hB (by omega)
  have HIs2 := Lib.hid fun p B' W' (x : RdP W' p B' (rdIs b).2.2 0) (hp : ¬ B' p) hBw => ints_ok p B' (rdIs b).2.2 W' x hp hBw hb2 (by omega)
  have HE1 := Lib.hid (rdIs_err b)
  have HE2 := Lib.hid (rdIs_err (rdIs b).2.2)
  have hol : (rdIs b).2.1.length ≤ 1000 := Nat.le_trans (rdIs_lenL b) hl
  have hnl : (rdIs (rdIs b).2.2).2.1.length ≤ 1000 := Nat.le_trans (rdIs_lenL _) (Nat.le_trans hl2 hl)
  generalize decF b = D at *
  generalize rdIs (rdIs b).2.2 = R2 at *
  generalize rdIs b = R1 at *
  obtain ⟨e1, o, r1⟩ := R1
  obtain ⟨e2, n, r2⟩ := R2
  simp only at HD HIs HIs2 HE1 HE2 hb2 hl2 hol hnl
  clear h h1
  go_enter Try.func32, Try.ntmps32
  go_wp2_with fail
  generalize w.alloc (.cells msZ 24) = W1 at *
  refine HNr.out.mono ?_
  rintro e w2 ⟨rfl, hrd, hB2⟩
  have g2 := g1.below hB2 g1.lt
  have b2 := b1.trans (hB2.mono b1.size)
  have hs2 := hB2.size
  have hpl : W1.heap.size + 1 < w2.heap.size := by obtain ⟨A1, c1, z, _⟩ := hrd; exact z.lt
  go_wp2_with fail
  refine (HIs.out _ _ w2 hrd (by omega) (fun k hk => by omega)).mono ?_
  rintro e w3 ⟨A3, c3, rfl, r3, hrd3, hf3⟩
  simp only at r3 hrd3
  have hs3 := hf3.size
  have g3 := g2.fr hf3 (by omega)
  have b3 := b2.trans (hf3.below (B := w.heap.size) (by omega) (fun j hj => by omega))
  have r3' := r3.old (by omega)
  clear hrd g1 b1 g2 b2 HNr HIs
  go_wp2_with fail
  by_cases h0 : e1 = 0
  · subst h0
    refine (HIs2.out _ _ w3 hrd3 (by omega) (fun k hk => by omega)).mono ?_
    rintro e w4 ⟨A4, c4, rfl, r4, hrd4, hf4⟩
    simp only at r4 hrd4
    have hs4 := hf4.size
    have g4 := g3.fr hf4 (by omega)
    have b4 := b3.trans (hf4.below (B := w.heap.size) (by omega) (fun j hj => by omega))
    have r34 := r3'.fr hf4 (fun j hj => by omega)
    have m4 : MR w4 (fun k => w.heap.size ≤ k) ⟨A3, c3, o, A4, c4, n⟩ := ⟨r34.more (fun j hj => by omega), r4.more (fun j hj => by omega), hol, hnl⟩
    have m5 := m4.alloc (.cells (msC ⟨A3, c3, o, A4, c4, n⟩) 24)
    have mo5 : RI (w4.alloc (.cells (msC ⟨A3, c3, o, A4, c4, n⟩) 24)) (fun k => w.heap.size + 1 ≤ k) A3 o := (r34.more (fun j hj => by omega)).alloc _
    have mn5 : RI (w4.alloc (.cells (msC ⟨A3, c3, o, A4, c4, n⟩) 24)) (fun k => w.heap.size + 1 ≤ k) A4 n := (r4.more (fun j hj => by omega)).alloc _
    have rd5 := hrd4.alloc (.cells (msC ⟨A3, c3, o, A4, c4, n⟩) 24)
    have g5 := g4.alloc (.cells (msC ⟨A3, c3, o, A4, c4, n⟩) 24)
    have b5 := b4.alloc b4.size (.cells (msC ⟨A3, c3, o, A4, c4, n⟩) 24)
    have k5 : Blk (w4.alloc (.cells (msC ⟨A3, c3, o, A4, c4, n⟩) 24)) w4.heap.size 24 (msC ⟨A3, c3, o, A4, c4, n⟩) := Blk.new w4 24 _
    have HFi := Lib.hid (finish_any _ _ _ _ _ rd5)
    have HVa := Lib.hid fun q hq => valid_b _ ⟨A3, c3, o, A4, c4, n⟩ _ m5 q hq
    clear hrd3 hrd4 r3 r3' r34 r4 g3 g4 b3 b4
    have hne : w.heap.size ≠ w4.heap.size := by omega
    simp only [msC] at *
    go_wp2_with fail
    generalize w4.alloc (.cells #[.slice A3 o.length c3, .slice A4 n.length c4] 24) = W5 at *
    obtain ⟨q0, q1, q2⟩ := g5.facts
    simp only [msZ] at q1
    obtain ⟨p0, p1, p2⟩ := k5.facts
    by_cases h2 : e2 = 0
    · subst h2
      rw [if_pos rfl] at HFi
      by_cases h3 : r2.length = 0
      · rw [if_pos h3] at HFi
        cases hv : vB o n with
        | true =>
          have HE := Lib.hid (show D = (o, n, 0) by rw [HD.out]; simp [h3, hv])
          have HVa := Lib.hid (HVa.out true hv)
          clear h3 hv
          go_wp2_with (first
            | (go_at_call 51; ((with_reducible refine HFi.out.mono ?_); rintro e w6 ⟨rfl, rfl⟩))
            | (go_at_call 29; ((with_reducible refine HVa.out.mono ?_); rintro e w7 ⟨rfl, rfl⟩)))
          refine bodyPost_ret (v := .tuple #[msV ⟨A3, c3, o, A4, c4, n⟩, .int .i64 0]) (by simp [results, Try.results32, go_sem, q0, q1]) rfl ?_
          rw [HE.out]
          refine ⟨⟨A3, c3, o, A4, c4, n⟩, rfl, rfl, rfl, ?_, ?_⟩
          · refine MR.alloc ?_ _
            exact ⟨((mo5.setCell (by simp) _).setCell (by simp) _).more (fun k hk => .inr (by omega)), ((mn5.setCell (by simp) _).setCell (by simp) _).more (fun k hk => .inr (by omega)), hol, hnl⟩
          · have := b5.size
            repeat (first | with_reducible refine Below.alloc ?_ (by simp; omega) _ | with_reducible refine Below.setCell ?_ (by simp) _)
            exact b5
        | false =>
          have HE := Lib.hid (show D = ([], [], 2) by rw [HD.out]; simp [h3, hv])
          have HVa := Lib.hid (HVa.out false hv)
          clear h3 hv
          go_wp2_with (first
            | (go_at_call 51; ((with_reducible refine HFi.out.mono ?_); rintro e w6 ⟨rfl, rfl⟩))
            | (go_at_call 29; ((with_reducible refine HVa.out.mono ?_); rintro e w7 ⟨rfl, rfl⟩)))
          refine bodyPost_ret (v := .tuple #[msV nilM, .int .i64 2]) (by simp [results, Try.results32, go_sem, nilM, q0, q1]) rfl ?_
          rw [HE.out]
          refine ⟨nilM, rfl, rfl, rfl, nilMR _ _, ?_⟩
          · have := b5.size
            repeat (first | with_reducible refine Below.alloc ?_ (by simp; omega) _ | with_reducible refine Below.setCell ?_ (by simp) _)
            exact b5
      · rw [if_neg h3] at HFi
        have HE := Lib.hid (show D = ([], [], 2) by rw [HD.out]; simp [h3])
        clear h3
        go_wp2_with (go_at_call 51; ((with_reducible refine HFi.out.mono ?_); rintro e w6 ⟨rfl, rfl⟩))
        refine bodyPost_ret (v := .tuple #[msV nilM, .int .i64 2]) (by simp [results, Try.results32, go_sem, nilM, q1]) rfl ?_
        rw [HE.out]
        exact ⟨nilM, rfl, rfl, rfl, nilMR _ _, (b5.setCell (by simp) _).setCell (by simp) _⟩
    · rw [if_neg h2] at HFi
      have HE := Lib.hid (show D = ([], [], e2) by rw [HD.out]; simp [h2])
      have h2b : (e2 == 0) = false := by simpa using h2
      clear h2
      go_wp2_with (go_at_call 51; ((with_reducible refine HFi.out.mono ?_); rintro e w6 ⟨rfl, rfl⟩))
      refine bodyPost_ret (v := .tuple #[msV nilM, .int .i64 e2]) (by simp [results, Try.results32, go_sem, nilM, q1]) rfl ?_
      rw [HE.out]
      exact ⟨nilM, rfl, rfl, rfl, nilMR _ _, (b5.setCell (by simp) _).setCell (by simp) _⟩
  · have HE := Lib.hid (show D = ([], [], e1) by rw [HD.out, if_neg h0])
    have HIe := Lib.hid (ints_err _ _ _ _ _ hrd3 h0)
    have rd5 := hrd3.alloc (.cells #[.slice A3 o.length c3, .slice none 0 0] 24)
    have HFi := Lib.hid (finish_any _ _ _ _ _ rd5)
    rw [if_neg h0] at HFi
    have g5 := g3.alloc (.cells #[.slice A3 o.length c3, .slice none 0 0] 24)
    have b5 := b3.alloc b3.size (.cells #[.slice A3 o.length c3, .slice none 0 0] 24)
    have h0b : (e1 == 0) = false := by simpa using h0
    clear h0
    refine HIe.out.mono ?_
    rintro e w4 ⟨rfl, rfl⟩
    go_wp2_with fail
    generalize w3.alloc (.cells #[.slice A3 o.length c3, .slice none 0 0] 24) = W5 at *
    obtain ⟨q0, q1, q2⟩ := g5.facts
    simp only [msZ] at q1
    go_wp2_with (go_at_call 51; ((with_reducible refine HFi.out.mono ?_); rintro e w6 ⟨rfl, rfl⟩))
    refine bodyPost_ret (v := .tuple #[msV nilM, .int .i64 e1]) (by simp [results, Try.results32, go_sem, nilM, q1]) rfl ?_
    rw [HE.out]
    exact ⟨nilM, rfl, rfl, rfl, nilMR _ _, (b5.setCell (by simp) _).setCell (by simp) _⟩
end Go.Proofs.Ytnpfbpfobbadaaa

import Derived.Test.YtipkicijfedfoaaDoorMWr3
namespace Go.Proofs.YtipkicijfedfoaaDoor.Wr
set_option linter.unusedVariables false
set_option linter.unusedSimpArgs false
open Go.RowKit Go.Own Go.Quo Go.Wire Go.Inc
def ByPost (p : Nat) (B : Nat → Prop) (R : Int × List Int × List Int) (w : World) (e : Ending) (w' : World) : Prop :=
  ∃ A c, e = .returned (.slice A R.2.1.length c) ∧ Reads w' (w.heap.size ≤ ·) 1 A R.2.1.length (bys R.2.1) ∧ RdP w' p B R.2.2 R.1 ∧ Fr (· = p) w w'
set_option maxRecDepth 10000 in
set_option maxHeartbeats 2000000 in
theorem bytes_err (p : Nat) (B : Nat → Prop) (rest : List Int) (err : Int) (w : World) (h : RdP w p B rest err) (he : err ≠ 0) :
    Calls Tryd.prog 82 #[.pointer (some ⟨p, 0, none⟩)] w fun e w' => e = .returned (.slice none 0 0) ∧ w = w' := by
  have HI := Lib.hid (length_err p B rest err w h he)
  clear h he
  go_enter Tryd.func82, Tryd.ntmps82
  go_wp2_with (go_at_call 83; ((with_reducible refine HI.out.mono ?_); rintro e w1 ⟨rfl, rfl⟩))
  go_ret
  exact ⟨rfl, rfl⟩
set_option maxRecDepth 10000 in
set_option maxHeartbeats 2000000 in
theorem bytes_ok (p : Nat) (B : Nat → Prop) (rest : List Int) (w : World) (h : RdP w p B rest 0) (hp : ¬ B p) (hBw : ∀ k, B k → k < w.heap.size) (hB : Bytes rest) (hl : rest.length ≤ 1000000) :
    Calls Tryd.prog 82 #[.pointer (some ⟨p, 0, none⟩)] w (ByPost p B (rdS rest) w) := by
  have HI := Lib.hid (length_ok p B rest w h hp hB)
  have HR := Lib.hid (show rdS rest = ((rdL rest).1, (rdL rest).2.2.take (rdL rest).2.1.toNat, (rdL rest).2.2.drop (rdL rest).2.1.toNat) from rfl)
  have hLe := rdL_le rest
  have hLl := rdL_len rest
  have HEr := Lib.hid (rdL_err rest)
  generalize rdS rest = RR at *
  generalize rdL rest = R0 at *
  obtain ⟨e1, n0, r1⟩ := R0
  simp only at HI HR hLe HEr hLl
  clear h hB
  go_enter Tryd.func82, Tryd.ntmps82
  go_wp2_with fail
  refine HI.out.mono ?_
  rintro e w1 ⟨rfl, hrd, hfr⟩
  have hs1 := hfr.size
  by_cases h0 : n0 = 0
  · have h0b : (n0 == 0) = true := by simpa using h0
    have HE := Lib.hid (show RR = (e1, [], r1) by rw [HR.out, h0]; simp)
    clear h0
    go_wp2
    go_ret
    rw [HE.out]
    exact ⟨none, 0, rfl, Reads.none_, hrd, hfr⟩
  · have h0b : (n0 == 0) = false := by simpa using h0
    have he1 : e1 = 0 := by
      rcases HEr.out with h | ⟨_, h⟩
      · exact h
      · injection h with h2 _; exact absurd h2 h0
    subst he1
    obtain ⟨hn1, hn2⟩ := hLe rfl
    obtain ⟨n, rfl⟩ : ∃ n : Nat, n0 = (n : Int) := ⟨n0.toNat, by omega⟩
    have hn3 : n ≤ r1.length := by omega
    have hn4 : 0 < n := by omega
    have HE := Lib.hid (show RR = (0, r1.take n, r1.drop n) by rw [HR.out]; simp)
    clear h0
    obtain ⟨A1, c1, hk1, hr1, hc1⟩ := hrd
    obtain ⟨xs, hxs⟩ : ∃ xs, xs = r1.take n := ⟨_, rfl⟩
    have hl1 : xs.length = n := by rw [hxs, List.length_take]; omega
    have HXs := Lib.hid hxs
    have hk2 := hk1.alloc (.cells (zrow (.int .u8 0) n) 5)
    have hk3 := hk1.alloc (.cells (bys xs).toArray 5)
    obtain ⟨q0, q1, q2⟩ := hk2.facts
    obtain ⟨t0, t1, t2⟩ := hk3.facts
    have hmk := run_make1 (P := Tryd.prog) 40 5 (.int .u8 0) 1 Tryd.underlying40 info5 rfl n (by omega) (by omega)
    have hcp1 := run_copy_part (P := Tryd.prog) 40 40 3 5 Tryd.underlying40 size5 (c := c1) (d := n) 5 (zrow (.int .u8 0) n) hr1 (bys_one r1) hn3 hn4 (size_zrow _ _) w1.heap.size rfl
    have hcp2 : (Builtin.copy_ #[40, 40] 3 #[.slice (some ⟨w1.heap.size, 0, none⟩) n n, .slice A1 r1.length c1]).run Tryd.prog (w1.alloc (.cells (zrow (.int .u8 0) n) 5)) = .ok (goInt n) (w1.alloc (.cells (bys xs).toArray 5)) := by
      rw [hcp1, hxs, bys, bys, List.map_take]
    have hct := fun W => run_cutB (A := A1) (n := r1.length) (c := c1) n hn3 W
    have hct2 := fun W => run_cutB2 (A := A1) (n := r1.length) (c := c1) n hn3 W
    have HLx := Lib.hid hl1
    clear hcp1 hxs hl1
    go_wp2
    go_ret
    rw [HE.out]
    have hl1 := HLx.out
    rw [← HXs.out]
    have hl2 : (r1.drop n).length = r1.length - n := List.length_drop
    refine ⟨some ⟨w1.heap.size, 0, none⟩, n, by simp only [hl1]; rfl, ?_, ⟨cutA A1 c1 n, c1 - n, ?_, ?_, by show (r1.drop n).length ≤ _; omega⟩, ?_⟩
    · have h5 := Reads.newS w1 (bys xs) 5 (0, 0) xs.length 1 (by simp [bys]) w1.heap.size rfl
      have h6 := h5.setCell (p := ⟨p, 0, none⟩) (fun e => by have e2 : p = w1.heap.size := e; have := hk1.lt; omega) (.slice (cutA A1 c1 n) (r1.length - n) (c1 - n))
      exact h6.more (fun b hb => by have e2 : b = w1.heap.size := hb; omega)
    · have := hk3.set_ 0 (.slice (cutA A1 c1 n) (r1.length - n) (c1 - n))
      rw [hl2]
      simpa using this
    · have h5 := Reads.cutB hr1 (k := n) (c := c1) hn3 hc1
      exact ((h5.alloc _).setCell (p := ⟨p, 0, none⟩) (fun e => hp e) _)
    · exact (hfr.alloc _).setCell (p := ⟨p, 0, none⟩) (.inl rfl) _
/-! ### over states -/
theorem rd_int (p : Nat) (B : Nat → Prop) (s : Sd) (w : World) (h : RdP w p B s.2 s.1) (hp : ¬ B p) (hB : Bytes s.2) :
    Calls Tryd.prog 47 #[.pointer (some ⟨p, 0, none⟩)] w fun e w' => e = .returned (.int .i64 (sI s).1) ∧ RdP w' p B (sI s).2.2 (sI s).2.1 ∧ Fr (· = p) w w' := by
  obtain ⟨err, l⟩ := s
  by_cases h0 : err = 0
  · subst h0
    exact int_ok p B l w h hp hB
  · have e : sI (err, l) = (0, (err, l)) := by unfold sI; rw [if_neg h0]
    rw [e]
    exact (int_err p B l err w h h0).mono (fun e w' ⟨h1, h2⟩ => ⟨h1, h2 ▸ h, h2 ▸ Fr.refl _ _⟩)
theorem rd_ints (p : Nat) (B : Nat → Prop) (s : Sd) (w : World) (h : RdP w p B s.2 s.1) (hp : ¬ B p) (hBw : ∀ k, B k → k < w.heap.size) (hB : Bytes s.2) (hl : s.2.length ≤ 1000000) :
    Calls Tryd.prog 49 #[.pointer (some ⟨p, 0, none⟩)] w fun e w' => ∃ A c, e = .returned (.slice A (sL s).1.length c) ∧ RI w' (w.heap.size ≤ ·) A (sL s).1 ∧ RdP w' p B (sL s).2.2 (sL s).2.1 ∧ Fr (· = p) w w' := by
  obtain ⟨err, l⟩ := s
  by_cases h0 : err = 0
  · subst h0
    exact ints_ok p B l w h hp hBw hB hl
  · have e : sL (err, l) = ([], (err, l)) := by unfold sL; rw [if_neg h0]
    rw [e]
    exact (ints_err p B l err w h h0).mono (fun e w' ⟨h1, h2⟩ => ⟨none, 0, h1, Reads.none_, h2 ▸ h, h2 ▸ Fr.refl _ _⟩)
set_option maxRecDepth 10000 in
set_option maxHeartbeats 2000000 in
theorem rd_str (p : Nat) (B : Nat → Prop) (s : Sd) (w : World) (h : RdP w p B s.2 s.1) (hp : ¬ B p) (hBw : ∀ k, B k → k < w.heap.size) (hB : Bytes s.2) (hl : s.2.length ≤ 1000000) :
    Calls Tryd.prog 48 #[.pointer (some ⟨p, 0, none⟩)] w fun e w' => e = .returned (.string (strOfNums (sS s).1)) ∧ RdP w' p B (sS s).2.2 (sS s).2.1 ∧ Fr (· = p) w w' := by
  have H : Calls Tryd.prog 82 #[.pointer (some ⟨p, 0, none⟩)] w (fun e w' => ∃ A c, e = .returned (.slice A (sS s).1.length c) ∧ Reads w' (fun _ => True) 1 A (sS s).1.length (bys (sS s).1) ∧ RdP w' p B (sS s).2.2 (sS s).2.1 ∧ Fr (· = p) w w') := by
    obtain ⟨err, l⟩ := s
    by_cases h0 : err = 0
    · subst h0
      exact (bytes_ok p B l w h hp hBw hB hl).mono (fun e w' ⟨A, c, h1, h2, h3, h4⟩ => ⟨A, c, h1, h2.more (fun _ _ => trivial), h3, h4⟩)
    · have e : sS (err, l) = ([], (err, l)) := by unfold sS; rw [if_neg h0]
      rw [e]
      exact (bytes_err p B l err w h h0).mono (fun e w' ⟨h1, h2⟩ => ⟨none, 0, h1, Reads.none_, h2 ▸ h, h2 ▸ Fr.refl _ _⟩)
  have HH := Lib.hid H
  clear H h hp hBw hB hl
  generalize sS s = R at *
  obtain ⟨xs, st⟩ := R
  go_enter Tryd.func48, Tryd.ntmps48
  go_wp2_with (go_at_call 82; ((with_reducible refine HH.out.mono ?_); rintro e w1 ⟨A, c, rfl, hr, hq, hf⟩; have hcv := run_convert_reads (P := Tryd.prog) Tryd.underlying40 Tryd.underlying5 Tryd.underlying9 hr c))
  go_ret
  exact ⟨rfl, hq, hf⟩
set_option maxRecDepth 10000 in
set_option maxHeartbeats 2000000 in
theorem rd_bool (p : Nat) (B : Nat → Prop) (s : Sd) (w : World) (h : RdP w p B s.2 s.1) (hp : ¬ B p) (hB : Bytes s.2) :
    Calls Tryd.prog 50 #[.pointer (some ⟨p, 0, none⟩)] w fun e w' => e = .returned (.bool (sB s).1) ∧ RdP w' p B (sB s).2.2 (sB s).2.1 ∧ Fr (· = p) w w' := by
  obtain ⟨err, l⟩ := s
  by_cases h0 : err = 0
  · subst h0
    cases l with
    | nil =>
      have HN := Lib.hid (next_none p B w h)
      clear h hB
      go_enter Tryd.func50, Tryd.ntmps50
      go_wp2_with (go_at_call 80; ((with_reducible refine HN.out.mono ?_); rintro e w1 ⟨rfl, hq, hf⟩))
      go_ret
      exact ⟨rfl, hq, hf⟩
    | cons b r =>
      have hb := hB b (by simp)
      have HN := Lib.hid (next_some p B b r w h hp)
      by_cases h1 : 1 < b
      · have d1 : decide ((1 : Int) < b) = true := decide_eq_true h1
        have HE := Lib.hid (show sB (0, b :: r) = (false, (2, [])) by simp [sB, rdB, h1])
        have HF := Lib.hid fun (w1 : World) (hq : RdP w1 p B r 0) => fail_any p B r 0 2 w1 hq
        clear h hB h1
        go_enter Tryd.func50, Tryd.ntmps50
        go_wp2_with (first | (go_at_call 80; ((with_reducible refine HN.out.mono ?_); rintro e w1 ⟨rfl, hq, hf⟩)) | (go_at_call 81; ((with_reducible refine (HF.out _ hq).mono ?_); rintro e w2 ⟨rfl, hq2, hf2⟩)))
        go_ret
        rw [HE.out]
        exact ⟨rfl, hq2, hf.trans hf2⟩
      · have d1 : decide ((1 : Int) < b) = false := decide_eq_false h1
        have HE := Lib.hid (show sB (0, b :: r) = (decide (b = 1), (0, r)) by simp [sB, rdB, h1])
        have HD := Lib.hid (show (b == 1) = decide (b = 1) from rfl)
        clear h hB h1
        go_enter Tryd.func50, Tryd.ntmps50
        go_wp2_with (go_at_call 80; ((with_reducible refine HN.out.mono ?_); rintro e w1 ⟨rfl, hq, hf⟩))
        go_ret
        rw [HE.out]
        exact ⟨by first | rfl | (congr 1), hq, hf⟩
  · have e : sB (err, l) = (false, (err, l)) := by unfold sB; rw [if_neg h0]
    have HN := Lib.hid (next_err p B l err w h h0)
    have HQ := Lib.hid h
    rw [e]
    clear h hB h0 e
    go_enter Tryd.func50, Tryd.ntmps50
    go_wp2_with (go_at_call 80; ((with_reducible refine HN.out.mono ?_); rintro e w1 ⟨rfl, rfl⟩))
    go_ret
    exact ⟨rfl, HQ.out, Fr.refl _ _⟩
theorem rd_fin (p : Nat) (B : Nat → Prop) (s : Sd) (w : World) (h : RdP w p B s.2 s.1) :
    Calls Tryd.prog 51 #[.pointer (some ⟨p, 0, none⟩)] w fun e w' => e = .returned (.int .i64 (endS s)) ∧ w = w' := finish_any p B s.2 s.1 w h
end Go.Proofs.YtipkicijfedfoaaDoor.Wr

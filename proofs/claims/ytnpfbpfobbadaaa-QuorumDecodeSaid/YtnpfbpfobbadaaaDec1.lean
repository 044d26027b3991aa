import Derived.Test.YtnpfbpfobbadaaaRd6
import Derived.Test.YtnpfbpfobbadaaaQuo11
import Derived.Deep.DeepCutAuto
import Derived.Test.YtnpfbpfobbadaaaOpenQ
namespace Go.Proofs.Ytnpfbpfobbadaaa
set_option linter.unusedVariables false
open Go.RowKit Go.Own Go.Quo Go.Wire
set_option maxRecDepth 10000 in
set_option maxHeartbeats 1000000 in
theorem encoded_cap (p : Nat) (out : List Int) (w : World) (hw : WrP w p out) (hl : out.length ≤ 1000000000) :
    Calls Try.prog 48 #[.pointer (some ⟨p, 0, none⟩)] w (fun e w' => ∃ A c, e = .returned (.slice A out.length c) ∧ Reads w' (w.heap.size ≤ ·) 1 A out.length (bys out) ∧ Below w.heap.size w w' ∧ out.length ≤ c) := by
  obtain ⟨A, c, hk, hown⟩ := hw
  have hr := Reads.of_own hown
  have hmk := run_make1 (P := Try.prog) 45 5 (.int .u8 0) 1 Try.underlying45 info5 rfl out.length (by omega) (by omega)
  have hcp1 := run_copy_new (P := Try.prog) 45 45 3 5 Try.underlying45 size5 (c := c) (d := out.length) 5 (zrow (.int .u8 0) out.length) hr (bys_one out) (size_zrow _ _) w.heap.size rfl
  obtain ⟨q0, q1, q2⟩ := hk.facts
  clear hown hr
  go_enter Try.func48, Try.ntmps48
  go_wp2
  go_ret
  refine ⟨_, _, rfl, ?_, (Below.refl _ _).alloc (Nat.le_refl _) _, Nat.le_refl _⟩
  have := Reads.new w (bys out) 5 (0, 0)
  simp only [List.length_map] at this
  exact this.more (fun k hk => by omega)
def BysCap (out : List Int) (w : World) (e : Ending) (w' : World) : Prop := ∃ A c, e = .returned (.slice A out.length c) ∧ Reads w' (w.heap.size ≤ ·) 1 A out.length (bys out) ∧ Below w.heap.size w w' ∧ out.length ≤ c
set_option maxRecDepth 10000 in
set_option maxHeartbeats 1000000 in
theorem encode_cap (B : Nat → Prop) (m : Ms) (w : World) (h : MR w B m) (hv : vB m.o m.n = true) :
    Calls Try.prog 30 #[msV m] w (BysCap (encM m.o m.n) w) := by
  have HEm := Lib.hid (show encM m.o m.n = encIs m.o ++ encIs m.n by unfold encM; rw [if_pos hv])
  obtain ⟨hl1, hl2, hl3⟩ := v_lens hv
  have HR := Lib.hid (v_range hv)
  have lo := encIs_len (l := m.o) (by omega) (fun x hx => HR.out x (.inl hx))
  have ln := encIs_len (l := m.n) (by omega) (fun x hx => HR.out x (.inr hx))
  have h1 := h.alloc (.cells (msC m) 24)
  have HO := Lib.hid (valid_b B m _ h1 true hv)
  have g1 : Blk (w.alloc (.cells (msC m) 24)) w.heap.size 24 (msC m) := Blk.new w 24 _
  have b1 : Below w.heap.size w (w.alloc (.cells (msC m) 24)) := (Below.refl _ _).alloc (Nat.le_refl _) _
  clear h hv
  go_enter Try.func30, Try.ntmps30
  go_wp2_with (go_at_call 29; ((with_reducible refine HO.out.mono ?_); rintro e w1 ⟨rfl, rfl⟩))
  have hm3 : MR (((w.alloc (.cells (msC m) 24)).alloc (.cells (msC m) 24)).alloc (.cells #[.slice none 0 0] 59)) (· < w.heap.size + 1 + 1) m := by
    have h2 := h1.alloc (.cells (msC m) 24)
    exact ⟨((h2.o.old (by omega)).alloc _).more (fun k hk => by simpa using hk.2), ((h2.n.old (by omega)).alloc _).more (fun k hk => by simpa using hk.2), h2.ol, h2.nl⟩
  have g3 := (g1.alloc (.cells (msC m) 24)).alloc (.cells #[.slice none 0 0] 59)
  have b3 := (b1.alloc b1.size (.cells (msC m) 24)).alloc (by simp; omega) (.cells #[.slice none 0 0] 59)
  have hw3 : WrP (((w.alloc (.cells (msC m) 24)).alloc (.cells (msC m) 24)).alloc (.cells #[.slice none 0 0] 59)) (w.heap.size + 1 + 1) [] := by simpa using WrP.new ((w.alloc (.cells (msC m) 24)).alloc (.cells (msC m) 24))
  clear h1 HO g1 b1
  generalize ((w.alloc (.cells (msC m) 24)).alloc (.cells (msC m) 24)).alloc (.cells #[.slice none 0 0] 59) = W3 at *
  refine (wints_any _ m.A m.c m.o [] W3 hw3 hm3.o (fun x hx => by have := HR.out x (.inl hx); omega) (by omega) (by simp)).mono ?_
  rintro e w4 ⟨rfl, hw4, hb4⟩
  have hn4 : RI w4 (· < w.heap.size + 1 + 1) m.A' m.n := hm3.n.below hb4 (fun _ h => h)
  have g4 := g3.below hb4 (by omega)
  have b4 := b3.trans (hb4.mono (by omega))
  obtain ⟨q0, q1, q2⟩ := g4.facts
  go_wp2_with fail
  refine (wints_any _ m.A' m.c' m.n _ w4 hw4 hn4 (fun x hx => by have := HR.out x (.inr hx); omega) (by omega) (by simp; omega)).mono ?_
  rintro e w5 ⟨rfl, hw5, hb5⟩
  have b5 := b4.trans (hb5.mono (by omega))
  rw [List.nil_append, ← HEm.out] at hw5
  have hlm : (encM m.o m.n).length ≤ 1000000000 := by rw [HEm.out, List.length_append]; omega
  go_wp2_with fail
  refine (encoded_cap _ _ w5 hw5 hlm).mono ?_
  rintro e w6 ⟨A6, c6, rfl, hr6, hb6, hc6⟩
  go_wp2
  go_ret
  exact ⟨A6, c6, rfl, hr6.more (fun k hk => Nat.le_trans b5.size hk), b5.trans (hb6.mono b5.size), hc6⟩
set_option maxRecDepth 10000 in
set_option maxHeartbeats 1000000 in
theorem decode_long (m : Ms) (A : Option Addr) (n c : Nat) (w : World) (h : 60 < n ∨ 40 < m.o.length ∨ 40 < m.n.length) :
    Calls Try.prog 9 #[.slice A n c, msV m] w (LawPost w) := by
  have HA := Lib.hid awake_any
  by_cases h3 : 60 < n
  · have h3' : (60 : Int) < n := by omega
    clear h
    go_enter Try.func9, Try.ntmps9
    go_wp2_with (go_at_call 10; ((with_reducible refine (HA.out _).mono ?_); rintro e w2 ⟨rfl, hb2⟩))
    go_ret
    exact ⟨rfl, ((Below.refl _ _).alloc (Nat.le_refl _) _).trans (hb2.mono (by simp))⟩
  have h3d : decide (60 < n) = false := by simpa using h3
  by_cases h1 : 40 < m.o.length
  · have h1' : (40 : Int) < m.o.length := by omega
    clear h
    go_enter Try.func9, Try.ntmps9
    go_wp2_with (go_at_call 10; ((with_reducible refine (HA.out _).mono ?_); rintro e w2 ⟨rfl, hb2⟩))
    go_ret
    exact ⟨rfl, ((Below.refl _ _).alloc (Nat.le_refl _) _).trans (hb2.mono (by simp))⟩
  have h1d : decide (40 < m.o.length) = false := by simpa using h1
  have h2 : 40 < m.n.length := by omega
  have h2' : (40 : Int) < m.n.length := by omega
  clear h
  go_enter Try.func9, Try.ntmps9
  go_wp2_with (go_at_call 10; ((with_reducible refine (HA.out _).mono ?_); rintro e w2 ⟨rfl, hb2⟩))
  go_ret
  exact ⟨rfl, ((Below.refl _ _).alloc (Nat.le_refl _) _).trans (hb2.mono (by simp))⟩
set_option maxRecDepth 10000 in
set_option maxHeartbeats 4000000 in
theorem decode_short (m : Ms) (A : Option Addr) (c : Nat) (b : List Int) (w : World) (h : MR w (· < w.heap.size) m) (hy : Reads w (· < w.heap.size) 1 A b.length (bys b)) (hB : Bytes b) (h3 : b.length ≤ 60) (h1 : m.o.length ≤ 40) (h2 : m.n.length ≤ 40) :
    Calls Try.prog 9 #[.slice A b.length c, msV m] w (LawPost w) := by
  have HA := Lib.hid awake_any
  have h1d : decide (40 < m.o.length) = false := by simpa using h1
  have h2d : decide (40 < m.n.length) = false := by simpa using h2
  have h3d : decide (60 < b.length) = false := by simpa using h3
  have hm1 := h.alloc (.cells (msC m) 24)
  have hy1 := hy.alloc (.cells (msC m) 24)
  have g1 : Blk (w.alloc (.cells (msC m) 24)) w.heap.size 24 (msC m) := Blk.new w 24 _
  have b1 : Below w.heap.size w (w.alloc (.cells (msC m) 24)) := (Below.refl _ _).alloc (Nat.le_refl _) _
  have HDe := Lib.hid fun W' (x : Reads W' (· < w.heap.size) 1 A b.length (bys b)) => decode_any _ A c b W' x hB (by omega)
  have HRe := Lib.hid fun W' (x : Reads W' (· < w.heap.size) 1 A b.length (bys b)) => read_any _ A c b W' x hB (by omega)
  have HErr := Lib.hid (dec_err b)
  have HOk := Lib.hid fun h => dec_read_ok hB (b := b) h
  have HNo := Lib.hid fun h => dec_read_no (b := b) h
  generalize decF b = D at *
  generalize readF b = F at *
  obtain ⟨d1, d2, er⟩ := D
  obtain ⟨f1, f2, ok⟩ := F
  simp only at HDe HRe HErr HOk HNo
  clear h hy
  go_enter Try.func9, Try.ntmps9
  go_wp2_with fail
  generalize w.alloc (.cells (msC m) 24) = W1 at *
  refine (HDe.out W1 hy1).mono ?_
  rintro e w2 ⟨mx, ex1, ex2, rfl, rx, hB2⟩
  have EX1 := Lib.hid ex1; have EX2 := Lib.hid ex2; clear ex1 ex2
  have hm2 := (hm1.below hB2).alloc (.cells (msC mx) 24)
  have hy2 := (hy1.below hB2 (fun _ hk => by have := b1.size; omega)).alloc (.cells (msC mx) 24)
  have g2 := (g1.below hB2 g1.lt).alloc (.cells (msC mx) 24)
  have b2a := b1.trans (hB2.mono b1.size)
  have b2 := b2a.alloc b2a.size (.cells (msC mx) 24)
  have rx2 := rx.alloc (.cells (msC mx) 24)
  have kx2 : Blk (w2.alloc (.cells (msC mx) 24)) w2.heap.size 24 (msC mx) := Blk.new w2 24 _
  clear hm1 hy1 g1 b1 rx b2a hB2
  go_wp2_with fail
  generalize w2.alloc (.cells (msC mx) 24) = W2 at *
  refine (HRe.out W2 hy2).mono ?_
  rintro e w3 ⟨mw, ew1, ew2, rfl, rw3, hB3⟩
  have EW1 := Lib.hid ew1; have EW2 := Lib.hid ew2; clear ew1 ew2
  have hm3 := (hm2.below hB3).alloc (.cells (msC mw) 24)
  have g3 := (g2.below hB3 g2.lt).alloc (.cells (msC mw) 24)
  have b3a := b2.trans (hB3.mono b2.size)
  have b3 := b3a.alloc b3a.size (.cells (msC mw) 24)
  have rx3 := (rx2.below hB3).alloc (.cells (msC mw) 24)
  have kx3 := (kx2.below hB3 kx2.lt).alloc (.cells (msC mw) 24)
  have rw3' := rw3.alloc (.cells (msC mw) 24)
  have kw3 : Blk (w3.alloc (.cells (msC mw) 24)) w3.heap.size 24 (msC mw) := Blk.new w3 24 _
  clear hm2 hy2 g2 b2 rx2 kx2 rw3 b3a hB3
  have HOne : Hid (mw.o = mx.o ∧ mw.n = mx.n ∧ (er = 0 ↔ ok = true) ∧ (er = 0 ∨ er = 2 ∨ er = 11)) := by
    show _ ∧ _
    rw [EX1.out, EX2.out, EW1.out, EW2.out]
    rcases HErr.out with h0 | ⟨h0, h4, h5⟩
    · have := HOk.out h0
      simp only [Prod.mk.injEq] at this
      obtain ⟨z1, z2, z3⟩ := this
      exact ⟨z1, z2, by simp [h0, z3], .inl h0⟩
    · have := HNo.out (by omega)
      simp only [Prod.mk.injEq] at this
      obtain ⟨z1, z2, z3⟩ := this
      exact ⟨by rw [z1, h4], by rw [z2, h5], by rw [z3]; exact ⟨fun hh => by omega, fun hh => by cases hh⟩, .inr h0⟩
  obtain ⟨ho, hn, hio, hie⟩ := HOne.out
  have HOn := Lib.hid (one_eq _ _ mx mw _ rx3 rw3' ho hn)
  clear ho hn HErr HOk HNo HDe HRe HOne
  go_upto_region 5 with (fail)
  generalize w3.alloc (.cells (msC mw) 24) = W3 at *
  go_cut [63] (fun v wx => v = .bool false ∧ Below W3.heap.size W3 wx)
  case first =>
    obtain ⟨e0, e1, e2⟩ := kx3.facts
    obtain ⟨f0, f1, f2⟩ := kw3.facts
    rcases hie with rfl | rfl | rfl
    · obtain rfl : ok = true := hio.1 rfl
      clear hio
      go_wp2_with (go_at_call 26; ((with_reducible refine HOn.out.mono ?_); rintro e w4 ⟨rfl, hB4⟩))
      go_meet
      case rel => exact ⟨rfl, hB4⟩
    · obtain rfl : ok = false := by cases ok with | false => rfl | true => exact absurd (hio.2 rfl) (by decide)
      clear hio
      go_wp2_with (go_at_call 26; ((with_reducible refine HOn.out.mono ?_); rintro e w4 ⟨rfl, hB4⟩))
      go_meet
      case rel => exact ⟨rfl, hB4⟩
    · obtain rfl : ok = false := by cases ok with | false => rfl | true => exact absurd (hio.2 rfl) (by decide)
      clear hio
      go_wp2_with (go_at_call 26; ((with_reducible refine HOn.out.mono ?_); rintro e w4 ⟨rfl, hB4⟩))
      go_meet
      case rel => exact ⟨rfl, hB4⟩
  case rest =>
    obtain ⟨rfl, hBc⟩ := hcut
    have hm4 := hm3.below hBc
    have g4 := g3.below hBc g3.lt
    have b4 := b3.trans (hBc.mono b3.size)
    obtain ⟨wd, rfl⟩ : ∃ wd : World, wd = wc := ⟨_, rfl⟩
    clear HOn hio hie hm3 g3 b3 rx3 kx3 rw3' kw3
    obtain ⟨e0, e1, e2⟩ := g4.facts
    have HRt := Lib.hid fun q hq => right_b _ m wd hm4 q hq
    cases hv : vB m.o m.n with
    | false =>
      have HRt := Lib.hid (HRt.out false hv)
      clear hv
      go_wp2_with (first
        | (go_at_call 13; ((with_reducible refine HRt.out.mono ?_); rintro e w5 ⟨rfl, rfl⟩))
        | (go_at_call 10; ((with_reducible refine (HA.out _).mono ?_); rintro e w6 ⟨rfl, hb6⟩)))
      go_ret
      have b5 := b4.alloc b4.size (.cells (msC m) 24)
      exact ⟨rfl, b5.trans (hb6.mono b5.size)⟩
    | true =>
      have HRt := Lib.hid (HRt.out true hv)
      have hm5 := hm4.alloc (.cells (msC m) 24)
      have g5 := g4.alloc (.cells (msC m) 24)
      have b5 := b4.alloc b4.size (.cells (msC m) 24)
      have HEn := Lib.hid (encode_cap _ m _ hm5 hv)
      have hel : 2 ≤ (encM m.o m.n).length := by rw [encM_yes hv, List.length_append, part_len, part_len]; omega
      have hel2 := encM_len m.o m.n
      have heB := encM_bytes m.o m.n
      have HDe := Lib.hid fun (W' : World) (B' : Nat → Prop) (A' : Option Addr) (c' : Nat) (x : Reads W' B' 1 A' (encM m.o m.n).length (bys (encM m.o m.n))) => by
        have := decode_any B' A' c' (encM m.o m.n) W' x heB (by omega)
        rw [dec_enc hv] at this
        exact this
      have hB1 : Bytes ((encM m.o m.n).drop 1) := fun x hx => heB x (List.mem_of_mem_drop hx)
      have hl1 : ((encM m.o m.n).drop 1).length ≤ 1000 := by rw [List.length_drop]; omega
      have HD1 := Lib.hid fun (W' : World) (B' : Nat → Prop) (A' : Option Addr) (c' : Nat) (x : Reads W' B' 1 A' ((encM m.o m.n).drop 1).length (bys ((encM m.o m.n).drop 1))) => decode_any B' A' c' ((encM m.o m.n).drop 1) W' x hB1 hl1
      have HR1 := Lib.hid fun (W' : World) (B' : Nat → Prop) (A' : Option Addr) (c' : Nat) (x : Reads W' B' 1 A' ((encM m.o m.n).drop 1).length (bys ((encM m.o m.n).drop 1))) => read_any B' A' c' ((encM m.o m.n).drop 1) W' x hB1 hl1
      have HErr := Lib.hid (dec_err ((encM m.o m.n).drop 1))
      have HOk := Lib.hid fun h => dec_read_ok hB1 h
      have HNo := Lib.hid fun h => dec_read_no (b := (encM m.o m.n).drop 1) h
      have HDr := Lib.hid (show ((encM m.o m.n).drop 1).length = (encM m.o m.n).length - 1 by rw [List.length_drop])
      generalize decF ((encM m.o m.n).drop 1) = D at *
      generalize readF ((encM m.o m.n).drop 1) = F at *
      generalize encM m.o m.n = es at *
      obtain ⟨d1', d2', er'⟩ := D
      obtain ⟨f1', f2', ok'⟩ := F
      simp only at HD1 HR1 HErr HOk HNo
      rw [HDr.out] at HD1 HR1
      clear hv heB hB1
      have hel0 : ((es.length : Int) == 0) = false := beq_eq_false_iff_ne.2 (by omega)
      go_wp2_with (go_at_call 13; ((with_reducible refine HRt.out.mono ?_); rintro e w5 ⟨rfl, rfl⟩))
      generalize wd.alloc (.cells (msC m) 24) = W5 at *
      refine HEn.out.mono ?_
      rintro e w6 ⟨A6, c6, rfl, r6, hB6, hc6⟩
      have hm6 := hm5.below hB6
      have g6 := g5.below hB6 g5.lt
      have b6 := b5.trans (hB6.mono b5.size)
      have r6c := (Reads.cutB r6 (k := 1) (by omega) hc6).old (by omega)
      rw [HDr.out] at r6c
      have r6o := r6.old (by omega)
      have hcut : ∀ W : World, (Instr.slice 45 (.slice A6 es.length c6) (some (.int .i64 1)) none none).run Try.prog W = .ok (.slice (cutA A6 c6 1) (es.length - 1) (c6 - 1)) W := fun W => by
        simpa using run_cutB (A := A6) (n := es.length) (c := c6) 1 (by omega) W
      have hcut2 : ∀ W : World, (Instr.sliceAt 45 (.slice A6 es.length c6) (some (.int .i64 1)) none none).run Try.prog W = .ok (.slice (cutA A6 c6 1) (es.length - 1) (c6 - 1)) W := fun W => by
        simpa using run_cutB2 (A := A6) (n := es.length) (c := c6) 1 (by omega) W
      clear hm5 g5 b5 HEn HRt r6 hm4 g4 b4 e0 e1 e2 hBc
      go_wp2_with fail
      refine (HDe.out w6 _ A6 c6 r6o).mono ?_
      rintro e w7 ⟨my, ey1, ey2, rfl, ry, hB7⟩
      have EY1 := Lib.hid ey1; have EY2 := Lib.hid ey2; clear ey1 ey2
      have hm7 := (hm6.below hB7).alloc (.cells (msC my) 24)
      have g7 := (g6.below hB7 g6.lt).alloc (.cells (msC my) 24)
      have b7a := b6.trans (hB7.mono b6.size)
      have b7 := b7a.alloc b7a.size (.cells (msC my) 24)
      have ry7 := ry.alloc (.cells (msC my) 24)
      have ky7 : Blk (w7.alloc (.cells (msC my) 24)) w7.heap.size 24 (msC my) := Blk.new w7 24 _
      have r7c := (r6c.below hB7 (fun _ hk => hk.2)).alloc (.cells (msC my) 24)
      clear hm6 g6 b6 r6c r6o b7a ry hB7 HDe
      go_wp2_with fail
      generalize w7.alloc (.cells (msC my) 24) = W7 at *
      with_reducible refine (HD1.out W7 _ _ _ r7c).mono ?_
      rintro e w8 ⟨mz, ez1, ez2, rfl, rz, hB8⟩
      have EZ1 := Lib.hid ez1; have EZ2 := Lib.hid ez2; clear ez1 ez2
      have hm8 := (hm7.below hB8).alloc (.cells (msC mz) 24)
      have g8 := (g7.below hB8 g7.lt).alloc (.cells (msC mz) 24)
      have ky8 := (ky7.below hB8 ky7.lt).alloc (.cells (msC mz) 24)
      have ry8 := (ry7.below hB8).alloc (.cells (msC mz) 24)
      have b8a := b7.trans (hB8.mono b7.size)
      have b8 := b8a.alloc b8a.size (.cells (msC mz) 24)
      have rz8 := rz.alloc (.cells (msC mz) 24)
      have kz8 : Blk (w8.alloc (.cells (msC mz) 24)) w8.heap.size 24 (msC mz) := Blk.new w8 24 _
      have r8c := ((r7c.old (by omega)).below hB8 (fun _ hk => hk.2)).alloc (.cells (msC mz) 24)
      clear hm7 g7 b7 ky7 ry7 r7c b8a rz hB8 HD1
      go_wp2_with fail
      generalize w8.alloc (.cells (msC mz) 24) = W8 at *
      with_reducible refine (HR1.out W8 _ _ _ r8c).mono ?_
      rintro e w9 ⟨ms, es1, es2, rfl, rs, hB9⟩
      have ES1 := Lib.hid es1; have ES2 := Lib.hid es2; clear es1 es2
      have hm9 := (hm8.below hB9).alloc (.cells (msC ms) 24)
      have g9 := (g8.below hB9 g8.lt).alloc (.cells (msC ms) 24)
      have ky9 := (ky8.below hB9 ky8.lt).alloc (.cells (msC ms) 24)
      have ry9 := (ry8.below hB9).alloc (.cells (msC ms) 24)
      have kz9 := (kz8.below hB9 kz8.lt).alloc (.cells (msC ms) 24)
      have rz9 := (rz8.below hB9).alloc (.cells (msC ms) 24)
      have b9a := b8.trans (hB9.mono b8.size)
      have b9 := b9a.alloc b9a.size (.cells (msC ms) 24)
      have rs9 := rs.alloc (.cells (msC ms) 24)
      have ks9 : Blk (w9.alloc (.cells (msC ms) 24)) w9.heap.size 24 (msC ms) := Blk.new w9 24 _
      clear hm8 g8 b8 ky8 ry8 kz8 rz8 r8c b9a rs hB9 HR1
      have HOne : Hid (ms.o = mz.o ∧ ms.n = mz.n ∧ (er' = 0 ↔ ok' = true) ∧ (er' = 0 ∨ er' = 2 ∨ er' = 11)) := by
        show _ ∧ _
        rw [EZ1.out, EZ2.out, ES1.out, ES2.out]
        rcases HErr.out with h0 | ⟨h0, h4, h5⟩
        · have := HOk.out h0
          simp only [Prod.mk.injEq] at this
          obtain ⟨z1, z2, z3⟩ := this
          exact ⟨z1, z2, by simp [h0, z3], .inl h0⟩
        · have := HNo.out (by omega)
          simp only [Prod.mk.injEq] at this
          obtain ⟨z1, z2, z3⟩ := this
          exact ⟨by rw [z1, h4], by rw [z2, h5], by rw [z3]; exact ⟨fun hh => by omega, fun hh => by cases hh⟩, .inr h0⟩
      obtain ⟨ho, hn, hio, hie⟩ := HOne.out
      have HO1 := Lib.hid (one_eq _ _ my m _ ry9 hm9 EY1.out.symm EY2.out.symm)
      have HO2 := Lib.hid fun (W' : World) (Ba Bb : Nat → Prop) (x1 : MR W' Ba mz) (x2 : MR W' Bb ms) => one_eq Ba Bb mz ms W' x1 x2 ho hn
      clear ho hn HErr HOk HNo HOne
      go_upto_region 15 with (fail)
      generalize w9.alloc (.cells (msC ms) 24) = W9 at *
      obtain ⟨x0, x1, x2⟩ := ky9.facts
      obtain ⟨y0, y1, y2⟩ := g9.facts
      have hq : ∃ q : Bool, (er' == 0) = q ∧ ok' = q := by
        cases ok' with
        | true => exact ⟨true, by simpa using hio.2 rfl, rfl⟩
        | false => exact ⟨false, by cases hz : (er' == 0) with | false => rfl | true => exact absurd (hio.1 (by simpa using hz)) (by decide), rfl⟩
      obtain ⟨q, hq1, rfl⟩ := hq
      go_wp2_with (first
        | (go_at_call 26; ((with_reducible refine HO1.out.mono ?_); rintro e w10 ⟨rfl, hB10⟩; have HO3 := Lib.hid (HO2.out w10 _ _ (rz9.below hB10) (rs9.below hB10)); obtain ⟨p0, p1, p2⟩ := (kz9.below hB10 kz9.lt).facts; obtain ⟨r0, r1, r2⟩ := (ks9.below hB10 ks9.lt).facts))
        | (go_at_call 26; ((with_reducible refine HO3.out.mono ?_); rintro e w11 ⟨rfl, hB11⟩))
        | (go_at_call 10; ((with_reducible refine (HA.out _).mono ?_); rintro e w12 ⟨rfl, hB12⟩)))
      go_ret
      have b10 := b9.trans (hB10.mono b9.size)
      have b11 := b10.trans (hB11.mono b10.size)
      exact ⟨rfl, b11.trans (hB12.mono b11.size)⟩
theorem decode_law (m : Ms) (A : Option Addr) (c : Nat) (b : List Int) (w : World) (hy : Reads w (· < w.heap.size) 1 A b.length (bys b) ∧ Bytes b) (h : MO w m) :
    Calls Try.prog 9 #[.slice A b.length c, msV m] w (LawPost w) := by
  by_cases hl : 60 < b.length ∨ 40 < m.o.length ∨ 40 < m.n.length
  · exact decode_long m A b.length c w hl
  · exact decode_short m A c b w ⟨h.o, h.n, by omega, by omega⟩ hy.1 hy.2 (by omega) (by omega) (by omega)
section
variable {H : Type} {enc : TypeId × Value → H} {w : World}
theorem c5x : Try.prog.cellsOf 5 = 1 := by kernel_rfl
theorem open_bytes {v : Value} {d : DataW H} {p : List MemPlace} (h : DataW.Trod enc Try.prog w 0 (fun _ => true) true 45 v d p) {A : Option Addr} {n c : Nat} (hv : v = .slice A n c) : ∃ l : List Int, n = l.length ∧ Reads w (· < w.heap.size) 1 A l.length (bys l) ∧ Bytes l := by
  subst hv
  obtain ⟨A', c', l, e, -, -, h2, h3⟩ := (Rdy.of_trod h).ints Try.underlying45 Try.underlying5 c5x
  simp [Value.cells] at e
  obtain ⟨rfl, rfl, rfl⟩ := e
  refine ⟨l, rfl, h2, fun x hx => ?_⟩
  have := h3 x hx
  simp [Lit.wf, IntKind.min, IntKind.max, IntKind.bits, IntKind.signed] at this
  omega
end
end Go.Proofs.Ytnpfbpfobbadaaa

import Derived.Test.YtnpfbpfobbadaaaRd3
namespace Go.Wire
theorem rdL_le (l : List Int) (h : (rdL l).1 = 0) : 0 ≤ (rdL l).2.1 ∧ (rdL l).2.1 ≤ (rdL l).2.2.length := by
  unfold rdL at h ⊢
  by_cases h0 : (rdI l).1 = 0
  · rw [if_pos h0] at h ⊢
    by_cases h1 : (rdI l).2.1 < 0
    · rw [if_pos h1] at h; simp at h
    · rw [if_neg h1] at h ⊢
      by_cases h2 : ((rdI l).2.2.length : Int) < (rdI l).2.1
      · rw [if_pos h2] at h; simp at h
      · rw [if_neg h2]; omega
  · rw [if_neg h0] at h; exact absurd h h0
theorem rdL_suf (l : List Int) : ∃ pre, l = pre ++ (rdL l).2.2 := by
  unfold rdL
  split
  · split
    · exact ⟨l, by simp⟩
    · split
      · exact ⟨l, by simp⟩
      · exact rdI_suf l
  · exact ⟨l, by simp⟩
theorem rdL_bytes {l : List Int} (h : Bytes l) : Bytes (rdL l).2.2 := by
  obtain ⟨pre, e⟩ := rdL_suf l
  rw [e] at h
  exact h.right
theorem rdL_len (l : List Int) : (rdL l).2.2.length ≤ l.length := by
  obtain ⟨pre, e⟩ := rdL_suf l
  have := congrArg List.length e
  rw [List.length_append] at this; omega
end Go.Wire
namespace Go.Proofs.Ytnpfbpfobbadaaa
set_option linter.unusedVariables false
open Go.RowKit Go.Own Go.Quo Go.Wire
set_option maxRecDepth 10000 in
set_option maxHeartbeats 1000000 in
theorem newReader_any (B : Nat → Prop) (A : Option Addr) (c : Nat) (l : List Int) (w : World) (h : Reads w B 1 A l.length (bys l)) (hl : l.length ≤ 1000000000) :
    Calls Try.prog 49 #[.slice A l.length c] w fun e w' => e = .returned (.pointer (some ⟨w.heap.size + 1, 0, none⟩)) ∧ RdP w' (w.heap.size + 1) (· = w.heap.size) l 0 ∧ Below w.heap.size w w' := by
  have hmk := run_make1 (P := Try.prog) 45 5 (.int .u8 0) 1 Try.underlying45 info5 rfl l.length (by omega) (by omega)
  have hcp1 := run_copy_new (P := Try.prog) 45 45 3 5 Try.underlying45 size5 (c := c) (d := l.length) 5 (zrow (.int .u8 0) l.length) h (bys_one l) (size_zrow _ _) w.heap.size rfl
  go_enter Try.func49, Try.ntmps49
  go_wp2
  go_ret
  refine ⟨rfl, ⟨some ⟨w.heap.size, 0, none⟩, l.length, by simpa using Blk.new (w.alloc (.cells (bys l).toArray 5)) 74 #[.slice (some ⟨w.heap.size, 0, none⟩) l.length l.length, .int .i64 0], ?_, Nat.le_refl _⟩, ((Below.refl _ _).alloc (Nat.le_refl _) _).alloc (by simp) _⟩
  have := Reads.new w (bys l) 5 (0, 0)
  simp only [List.length_map] at this
  exact this.alloc _
def IsPost (p : Nat) (B : Nat → Prop) (R : Int × List Int × List Int) (w : World) (e : Ending) (w' : World) : Prop :=
  ∃ A c, e = .returned (.slice A R.2.1.length c) ∧ RI w' (w.heap.size ≤ ·) A R.2.1 ∧ RdP w' p B R.2.2 R.1 ∧ Fr (· = p) w w'
set_option maxRecDepth 10000 in
set_option maxHeartbeats 1000000 in
theorem ints_err (p : Nat) (B : Nat → Prop) (rest : List Int) (err : Int) (w : World) (h : RdP w p B rest err) (he : err ≠ 0) :
    Calls Try.prog 50 #[.pointer (some ⟨p, 0, none⟩)] w fun e w' => e = .returned (.slice none 0 0) ∧ w = w' := by
  have HI := Lib.hid (length_err p B rest err w h he)
  clear h he
  go_enter Try.func50, Try.ntmps50
  go_wp2_with (go_at_call 57; ((with_reducible refine HI.out.mono ?_); rintro e w1 ⟨rfl, rfl⟩))
  go_ret
  exact ⟨rfl, rfl⟩
theorem RdP.alloc {w : World} {p : Nat} {B : Nat → Prop} {rest : List Int} {err : Int} (h : RdP w p B rest err) (o : Obj) : RdP (w.alloc o) p B rest err := by
  obtain ⟨A, c, h1, h2, h3⟩ := h
  exact ⟨A, c, h1.alloc o, h2.alloc o, h3⟩
set_option maxRecDepth 10000 in
set_option maxHeartbeats 2000000 in
theorem ints_ok (p : Nat) (B : Nat → Prop) (rest : List Int) (w : World) (h : RdP w p B rest 0) (hp : ¬ B p) (hBw : ∀ k, B k → k < w.heap.size) (hB : Bytes rest) (hl : rest.length ≤ 1000000) :
    Calls Try.prog 50 #[.pointer (some ⟨p, 0, none⟩)] w (IsPost p B (rdIs rest) w) := by
  have HI := Lib.hid (length_ok p B rest w h hp hB)
  have HR := Lib.hid (show rdIs rest = if (rdL rest).2.1 = 0 then ((rdL rest).1, [], (rdL rest).2.2) else readA (rdL rest).2.1.toNat [] (rdL rest).2.2 from rfl)
  have hLe := rdL_le rest
  have hLb := rdL_bytes hB
  have hLl := rdL_len rest
  have HEr := Lib.hid (rdL_err rest)
  generalize rdIs rest = RR at *
  generalize rdL rest = R0 at *
  obtain ⟨e1, n0, r1⟩ := R0
  simp only at HI HR hLe hLb HEr hLl
  clear h hB
  go_enter Try.func50, Try.ntmps50
  go_wp2_with fail
  refine HI.out.mono ?_
  rintro e w1 ⟨rfl, hrd, hfr⟩
  have hs1 := hfr.size
  by_cases h0 : n0 = 0
  · have h0b : (n0 == 0) = true := by simpa using h0
    have HE := Lib.hid (show RR = (e1, [], r1) by rw [HR.out, if_pos h0])
    clear h0
    go_wp2
    go_ret
    rw [HE.out]
    exact ⟨none, 0, rfl, Reads.none_, hrd, hfr⟩
  · have h0b : (n0 == 0) = false := by simpa using h0
    obtain ⟨rfl, hn0, hnr⟩ : e1 = 0 ∧ 0 ≤ n0 ∧ n0 ≤ r1.length := by
      rcases HEr.out with h | ⟨_, h⟩
      · exact ⟨h, (hLe h).1, (hLe h).2⟩
      · exfalso; apply h0; simpa using congrArg Prod.fst h
    obtain ⟨n, rfl⟩ : ∃ n : Nat, n0 = (n : Int) := ⟨n0.toNat, by omega⟩
    have HE := Lib.hid (show RR = readA n [] r1 by rw [HR.out, if_neg h0]; rfl)
    have hr1l : r1.length ≤ 1000000 := Nat.le_trans hLl hl
    clear h0 HR HI hLe HEr
    have hmk := run_make1 (P := Try.prog) 22 3 (.int .i64 0) 8 Try.underlying22 info3 rfl n (by omega) (by omega)
    have k1 : Blk (w1.alloc (.cells (zrow (.int .i64 0) n) 3)) w1.heap.size 3 (ivs (List.replicate n 0)).toArray := by
      have := Blk.new w1 3 (zrow (.int .i64 0) n)
      simpa [zrow, ivs] using this
    have hrd2 := hrd.alloc (.cells (zrow (.int .i64 0) n) 3)
    have f2 : Fr (fun x => x = p) w (w1.alloc (.cells (zrow (.int .i64 0) n) 3)) := hfr.alloc _
    have hp1 : p < w1.heap.size := by obtain ⟨A1, c1, hk1, _⟩ := hrd; exact hk1.lt
    have hBp : ¬ B w1.heap.size := fun hb => by have := hBw _ hb; omega
    clear hrd hfr
    go_wp2_with fail
    clear hmk
    generalize w1.alloc (.cells (zrow (.int .i64 0) n) 3) = W2 at *
    go_loopw [14] (fun vi wr => ∃ (k : Nat) (acc q r : List Int), k ≤ n ∧ vi = .int .i64 k ∧ acc.length = k ∧ q.length = n ∧ (∀ j, j < k → gd q j = gd acc j) ∧ readA (n - k) acc r = RR ∧ Bytes r ∧ r.length ≤ 1000000 ∧ Blk wr w1.heap.size 3 (ivs q).toArray ∧ RdP wr p B r 0 ∧ Fr (fun x => x = p) w wr) (fun i _ => n - (intOf i).toNat)
    case atStart => exact ⟨0, [], List.replicate n 0, r1, Nat.zero_le _, rfl, rfl, by simp, fun j hj => absurd hj (by omega), HE.out.symm, hLb, hr1l, k1, hrd2, f2⟩
    case round =>
      obtain ⟨k, acc, q, r, hk, rfl, hal, hql, hqv, hrr, hBr, hrl, hkq, hrd, hfr⟩ := hrel
      have HA := Lib.hid hal
      have HQl := Lib.hid hql
      have HQv := Lib.hid hqv
      have HRr := Lib.hid hrr
      have hq1 : q.length ≤ n := by omega
      have hq2 : n ≤ q.length := by omega
      clear hal hql hqv hrr k1 hrd2 f2
      by_cases hlt : k < n
      · have hlt' : (k : Int) < n := by omega
        have HI := Lib.hid (int_ok p B r wr hrd hp hBr)
        have HSt := Lib.hid (show RR = if (rdI r).1 = 0 then readA (n - (k + 1)) (acc ++ [(rdI r).2.1]) (rdI r).2.2 else ((rdI r).1, [], []) by
          rw [← HRr.out, show n - k = (n - (k + 1)) + 1 by omega, readA])
        have hIb := rdI_bytes hBr
        have hIl := rdI_len r
        have HIe := Lib.hid (rdI_err r)
        generalize rdI r = R1 at *
        obtain ⟨e', x, r'⟩ := R1
        simp only at HI HSt hIb hIl HIe
        clear hrd hBr
        have hix : ∀ W : World, (Instr.indexAt 22 (.slice (some ⟨w1.heap.size, 0, none⟩) n n) (.int .i64 (k : Int))).run Try.prog W = .ok (.pointer (some ⟨w1.heap.size, k, none⟩)) W := fun W => by
          have := ix22 (A := some ⟨w1.heap.size, 0, none⟩) (n := n) (fun _ => ⟨w1.heap.size, 0, rfl⟩) n k hlt W
          simpa [bk, ofs, adr] using this
        go_wp2_with fail
        refine HI.out.mono ?_
        rintro e w2 ⟨rfl, hrd, hf2⟩
        have kq2 := hkq.fr hf2 (by omega)
        have a0 := kq2.lt
        have a2 := kq2.frozen
        have hcq : w2.cell? ⟨w1.heap.size, k, none⟩ = some (.int .i64 (gd q k)) := by rw [kq2.cell]; exact ivs_get (by omega)
        have hrd3 : RdP (w2.setCell ⟨w1.heap.size, k, none⟩ (.int .i64 x)) p B r' e' := by
          obtain ⟨A3, c3, z1, z2, z3⟩ := hrd
          exact ⟨A3, c3, z1.far (by simp; omega) _, z2.setCell (by simpa using hBp) _, z3⟩
        have kq3 := kq2.set_ k (.int .i64 x)
        rw [ivs_set] at kq3
        have f3 : Fr (fun x => x = p) w (w2.setCell ⟨w1.heap.size, k, none⟩ (.int .i64 x)) := (hfr.trans hf2).setCell (.inr (by simp; omega)) _
        obtain ⟨A3, c3, z1, z2, z3⟩ := hrd
        obtain ⟨y0, y1, y2⟩ := z1.facts
        have hne : p ≠ w1.heap.size := by omega
        by_cases h0 : e' = 0
        · have h0b : (e' == 0) = true := by simpa using h0
          have HS2 := Lib.hid (show readA (n - (k + 1)) (acc ++ [x]) r' = RR by rw [HSt.out, if_pos h0])
          subst h0
          go_wp2_with fail
          refine ⟨⟨k + 1, acc ++ [x], q.set k x, r', by omega, by go_num, by rw [List.length_append, HA.out]; rfl, by rw [List.length_set]; exact HQl.out, fun j hj => ?_, HS2.out, hIb, by omega, kq3, hrd3, f3⟩, by simp [intOf]; omega⟩
          rw [gd_set (by omega)]
          have hal := HA.out
          rcases (show j < k ∨ j = k by omega) with hjk | hjk
          · rw [if_neg (by omega), HQv.out j hjk, gd_get (by omega), gd_get (by rw [List.length_append]; omega), List.getElem_append_left]
          · subst hjk
            rw [if_pos rfl, gd_get (by rw [List.length_append, hal]; simp), List.getElem_append_right (by omega)]
            simp [hal]
        · have h0b : (e' == 0) = false := by simpa using h0
          have HS2 := Lib.hid (show RR = (e', [], []) by rw [HSt.out, if_neg h0])
          obtain rfl : r' = [] := by
            rcases HIe.out with h | ⟨_, h⟩
            · exact absurd h h0
            · simpa using congrArg Prod.snd h
          clear h0
          go_wp2_with fail
          go_ret
          rw [HS2.out]
          exact ⟨none, 0, rfl, Reads.none_, hrd3, f3⟩
      · have hge : ¬ ((k : Int) < n) := by omega
        have HK := Lib.hid (show RR = (0, acc, r) by rw [← HRr.out, show n - k = 0 by omega, readA])
        have hqe : q = acc := gd_ext (by rw [HQl.out, HA.out]; omega) (fun j hj => HQv.out j (by have := HA.out; omega))
        subst hqe
        go_wp2
        go_ret
        rw [HK.out]
        refine ⟨some ⟨w1.heap.size, 0, none⟩, n, by rw [HQl.out]; rfl, ?_, hrd, hfr⟩
        have := Reads.of_blk (B := (w.heap.size ≤ ·)) (n := q.length) (size := 1) hkq (by simp) hs1
        have h2 : (ivs q).toArray.toList.take (q.length * 1) = ivs q := List.take_of_length_le (by simp)
        rw [h2] at this
        exact this
end Go.Proofs.Ytnpfbpfobbadaaa

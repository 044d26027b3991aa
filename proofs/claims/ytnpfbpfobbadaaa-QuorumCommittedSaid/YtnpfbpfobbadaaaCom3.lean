import Derived.Test.YtnpfbpfobbadaaaCom2
namespace Go.Proofs.Ytnpfbpfobbadaaa
set_option linter.unusedVariables false
open Go.RowKit Go.Own Go.Quo Go.Wire
theorem com_eq {o n hv : List Int} (hl : hv.length = (allV o n).length) : comF o n (numOf (allV o n) hv) = mostF (fun x => reachB o n (yesF (allV o n) hv x)) hv := by
  cases h : vB o n with
  | true =>
    have e : allV o n = memF o n := by unfold allV; rw [if_pos h]
    rw [e] at hl ⊢
    exact com_most h hl
  | false =>
    have e : allV o n = [] := by unfold allV; rw [if_neg (by simp [h])]
    rw [e] at hl
    have e2 : hv = [] := List.eq_nil_of_length_eq_zero hl
    subst e2
    unfold comF
    rw [if_neg (by simp [h])]; rfl
theorem com_any (B : Nat → Prop) (m : Ms) (w : World) (h : MR w B m) (p5 p6 p9 : Nat) (num : Int → Int)
    (HC : ∀ W, Below w.heap.size w W → ∀ x ∈ allV m.o m.n, Calls Try.prog 20 #[.int .i64 x, .pointer (some ⟨p5, 0, none⟩), .pointer (some ⟨p6, 0, none⟩), .pointer (some ⟨p9, 0, none⟩)] W fun e w' => e = .returned (.int .i64 (num x)) ∧ W = w') :
    Calls Try.prog 19 #[msV m, .func (.func 20) #[] #[.pointer (some ⟨p5, 0, none⟩), .pointer (some ⟨p6, 0, none⟩), .pointer (some ⟨p9, 0, none⟩)]] w fun e w' => e = .returned (.int .i64 (comF m.o m.n num)) ∧ Below w.heap.size w w' := by
  cases hv : vB m.o m.n with
  | true =>
    have e : allV m.o m.n = memF m.o m.n := by unfold allV; rw [if_pos hv]
    rw [e] at HC
    exact com_yes B m w h hv p5 p6 p9 num HC
  | false => exact com_no B m w h hv _ num
def hvTo (l : List Int) (k : Nat) : List Int := (List.range k).map fun i => if i < l.length then gd l i else 0
theorem hvTo_len (l : List Int) (k : Nat) : (hvTo l k).length = k := by simp [hvTo]
theorem hvTo_succ (l : List Int) (k : Nat) : hvTo l (k + 1) = hvTo l k ++ [if k < l.length then gd l k else 0] := by
  unfold hvTo
  rw [List.range_succ, List.map_append]; rfl
set_option maxRecDepth 10000 in
set_option maxHeartbeats 1000000 in
theorem committed_long (m : Ms) (A : Option Addr) (n c : Nat) (w : World) (h : 40 < m.o.length ∨ 40 < m.n.length ∨ 40 < n) :
    Calls Try.prog 5 #[msV m, .slice A n c] w (LawPost w) := by
  have HA := Lib.hid awake_any
  by_cases h1 : 40 < m.o.length
  · have h1' : (40 : Int) < m.o.length := by omega
    clear h
    go_enter Try.func5, Try.ntmps5
    go_wp2_with (go_at_call 10; ((with_reducible refine (HA.out _).mono ?_); rintro e w2 ⟨rfl, hb2⟩))
    go_ret
    exact ⟨rfl, ((Below.refl _ _).alloc (Nat.le_refl _) _).trans (hb2.mono (by simp))⟩
  have h1d : decide (40 < m.o.length) = false := by simpa using h1
  by_cases h2 : 40 < m.n.length
  · have h2' : (40 : Int) < m.n.length := by omega
    clear h
    go_enter Try.func5, Try.ntmps5
    go_wp2_with (go_at_call 10; ((with_reducible refine (HA.out _).mono ?_); rintro e w2 ⟨rfl, hb2⟩))
    go_ret
    exact ⟨rfl, ((Below.refl _ _).alloc (Nat.le_refl _) _).trans (hb2.mono (by simp))⟩
  have h2d : decide (40 < m.n.length) = false := by simpa using h2
  have h3 : 40 < n := by omega
  have h3' : (40 : Int) < n := by omega
  clear h
  go_enter Try.func5, Try.ntmps5
  go_wp2_with (go_at_call 10; ((with_reducible refine (HA.out _).mono ?_); rintro e w2 ⟨rfl, hb2⟩))
  go_ret
  exact ⟨rfl, ((Below.refl _ _).alloc (Nat.le_refl _) _).trans (hb2.mono (by simp))⟩
set_option maxRecDepth 10000 in
set_option maxHeartbeats 4000000 in
theorem committed_short (m : Ms) (A : Option Addr) (c : Nat) (l : List Int) (w : World) (h : MR w (· < w.heap.size) m) (hy : RI w (· < w.heap.size) A l) (h1 : m.o.length ≤ 40) (h2 : m.n.length ≤ 40) (h3 : l.length ≤ 40) :
    Calls Try.prog 5 #[msV m, .slice A l.length c] w (LawPost w) := by
  have HA := Lib.hid awake_any
  have h1d : decide (40 < m.o.length) = false := by simpa using h1
  have h2d : decide (40 < m.n.length) = false := by simpa using h2
  have h3d : decide (40 < l.length) = false := by simpa using h3
  have hm1 := h.alloc (.cells (msC m) 24)
  have hy1 := hy.alloc (.cells (msC m) 24)
  have g1 : Blk (w.alloc (.cells (msC m) 24)) w.heap.size 24 (msC m) := Blk.new w 24 _
  have b1 : Below w.heap.size w (w.alloc (.cells (msC m) 24)) := (Below.refl _ _).alloc (Nat.le_refl _) _
  have hpl := hy.plain (by omega)
  have hal := allV_le m.o m.n
  have HAl := Lib.hid fun W' (x : MR W' (· < w.heap.size) m) => all_any _ m W' x
  have HCm := Lib.hid fun W' (x : MR W' (· < w.heap.size) m) p5 p6 p9 num HC => com_any _ m W' x p5 p6 p9 num HC
  have HMs := Lib.hid fun W' (B2 : Nat → Prop) (x : MR W' (· < w.heap.size) m) A2 c2 hv (r : RI W' B2 A2 hv) hl => most_any2 _ B2 m A2 c2 hv W' x r hl
  have HEq := Lib.hid fun hv hl => com_eq (o := m.o) (n := m.n) (hv := hv) hl
  generalize allV m.o m.n = al at *
  have hmf : ∀ (fn : Fn) (first cap : Array Value) (w : World), (Instr.makeFunc fn first cap).run Try.prog w = .ok (.func fn first cap) w := fun _ _ _ _ => rfl
  clear h hy
  go_enter Try.func5, Try.ntmps5
  go_wp2_with fail
  generalize w.alloc (.cells (msC m) 24) = W1 at *
  refine (HAl.out W1 hm1).mono ?_
  rintro e W2 ⟨A5, c5, rfl, r5, hB2⟩
  have hs2 := b1.size
  have hm2 := hm1.below hB2
  have hy2 := hy1.below hB2 (fun _ hk => by omega)
  have g2 := g1.below hB2 g1.lt
  have b2 := b1.trans (hB2.mono b1.size)
  have r5o := r5.old (by omega)
  have p5 := r5.plain (by omega)
  go_wp2_with fail
  have hm3 := (hm2.alloc (.cells #[.slice A5 al.length c5] 22)).alloc (.cells #[.slice none 0 0] 31)
  have hy3 := (hy2.alloc (.cells #[.slice A5 al.length c5] 22)).alloc (.cells #[.slice none 0 0] 31)
  have g3 := (g2.alloc (.cells #[.slice A5 al.length c5] 22)).alloc (.cells #[.slice none 0 0] 31)
  have r3 := (r5o.alloc (.cells #[.slice A5 al.length c5] 22)).alloc (.cells #[.slice none 0 0] 31)
  have b3 := (b2.alloc b2.size (.cells #[.slice A5 al.length c5] 22)).alloc (Nat.le_trans b2.size (by simp)) (.cells #[.slice none 0 0] 31)
  have k3 : Blk ((W2.alloc (.cells #[.slice A5 al.length c5] 22)).alloc (.cells #[.slice none 0 0] 31)) W2.heap.size 22 #[.slice A5 al.length c5] := (Blk.new W2 22 _).alloc _
  have j3 : Blk ((W2.alloc (.cells #[.slice A5 al.length c5] 22)).alloc (.cells #[.slice none 0 0] 31)) (W2.heap.size + 1) 31 #[.slice none 0 0] := by simpa using Blk.new (W2.alloc (.cells #[.slice A5 al.length c5] 22)) 31 #[.slice none 0 0]
  have s3 : W2.heap.size + 2 ≤ ((W2.alloc (.cells #[.slice A5 al.length c5] 22)).alloc (.cells #[.slice none 0 0] 31)).heap.size := by simp
  have sw2 := b2.size
  have gl2 := g2.lt
  clear hm1 hy1 g1 b1 hm2 hy2 g2 b2 r5 r5o hB2 HAl
  generalize (W2.alloc (.cells #[.slice A5 al.length c5] 22)).alloc (.cells #[.slice none 0 0] 31) = W3 at *
  go_loopw [31] (fun vi wr => ∃ (k : Nat) (A : Option Addr) (c : Nat), k ≤ al.length ∧ vi = .int .i64 k ∧ Blk wr (W2.heap.size + 1) 31 #[.slice A k c] ∧ wr.ownsRow W3.heap.size 2 1 (.slice A k c) k (ivs (hvTo l k)) ∧ Fr (fun b => b = W2.heap.size + 1) W3 wr) (fun i _ => al.length - (intOf i).toNat)
  case atStart => exact ⟨0, none, 0, Nat.zero_le _, rfl, j3, World.ownsRow_nil _ _ _ _, Fr.refl _ _⟩
  case round =>
    obtain ⟨k, Ah, ch, hk, rfl, jr, hown, hfr⟩ := hrel
    obtain ⟨a0, a1, a2⟩ := jr.facts
    have hfs := hfr.size
    have hyr := hy3.fr hfr (fun j hj => by omega)
    have HSu := Lib.hid (hvTo_succ l k)
    by_cases hlt : k < al.length
    · have hlt' : (k : Int) < al.length := by omega
      by_cases hkl : k < l.length
      · have hkl' : (k : Int) < l.length := by omega
        have hix := fun W => ix31 hpl c k hkl W
        have hc := RI.at_ hyr hkl
        have HS1 := Lib.hid (show hvTo l (k + 1) = hvTo l k ++ [gd l k] by rw [HSu.out, if_pos hkl])
        generalize gd l k = v at *
        go_wp2_with (at_builtin; refine wpList_append_any _ rfl _ _ _ rfl W3.heap.size 2 _ 1 8 Try.underlying31 info2 rfl (by omega) (.slice Ah k ch) k (ivs (hvTo l k)) rfl (hown.alloc _) _ (some ⟨wr.heap.size, 0, none⟩) 1 1 [.int .i64 v] rfl (Reads.newS _ [.int .i64 v] 2 (0, 0) 1 1 rfl _ rfl) (by simp [Value.oneCell']) (by simp only [maxLen]; omega) (by omega) (by simp; omega) ?_; intro A4 c4 w4 hown4 hgr4 hat4; have j4 := (jr.alloc _).grown hgr4 (by intro e; have := (hown.lt _ e.symm).1; omega); obtain ⟨d0, d1, d2⟩ := j4.facts)
        refine ⟨⟨k + 1, A4, c4, by omega, by go_num, by simpa using j4.set_ 0 (.slice A4 (k + 1) c4), ?_, ((hfr.alloc _).grown hgr4 (fun b hb => .inr (by have := (hown.lt b hb).1; omega))).setCell (.inl rfl) _⟩, by simp [intOf]; omega⟩
        rw [HS1.out]
        have := own_far hown4 (p := ⟨W2.heap.size + 1, 0, none⟩) (by simp; omega) (.slice A4 (k + 1) c4)
        simpa using this
      · have hkl' : ¬ (k : Int) < l.length := by omega
        have HS1 := Lib.hid (show hvTo l (k + 1) = hvTo l k ++ [0] by rw [HSu.out, if_neg hkl])
        go_wp2_with (at_builtin; refine wpList_append_any _ rfl _ _ _ rfl W3.heap.size 2 _ 1 8 Try.underlying31 info2 rfl (by omega) (.slice Ah k ch) k (ivs (hvTo l k)) rfl (hown.alloc _) _ (some ⟨wr.heap.size, 0, none⟩) 1 1 [.int .i64 0] rfl (Reads.newS _ [.int .i64 0] 2 (0, 0) 1 1 rfl _ rfl) (by simp [Value.oneCell']) (by simp only [maxLen]; omega) (by omega) (by simp; omega) ?_; intro A4 c4 w4 hown4 hgr4 hat4; have j4 := (jr.alloc _).grown hgr4 (by intro e; have := (hown.lt _ e.symm).1; omega); obtain ⟨d0, d1, d2⟩ := j4.facts)
        refine ⟨⟨k + 1, A4, c4, by omega, by go_num, by simpa using j4.set_ 0 (.slice A4 (k + 1) c4), ?_, ((hfr.alloc _).grown hgr4 (fun b hb => .inr (by have := (hown.lt b hb).1; omega))).setCell (.inl rfl) _⟩, by simp [intOf]; omega⟩
        rw [HS1.out]
        have := own_far hown4 (p := ⟨W2.heap.size + 1, 0, none⟩) (by simp; omega) (.slice A4 (k + 1) c4)
        simpa using this
    · have hge : ¬ ((k : Int) < al.length) := by omega
      have HK := Lib.hid (show k = al.length by omega)
      have hm4 := (show MR wr (· < w.heap.size) m from ⟨hm3.o.fr hfr (fun j hj => by omega), hm3.n.fr hfr (fun j hj => by omega), hm3.ol, hm3.nl⟩).alloc (.cells #[.bool true] 4)
      have g4 := (g3.fr hfr (by omega)).alloc (.cells #[.bool true] 4)
      have k4 := (k3.fr hfr (by omega)).alloc (.cells #[.bool true] 4)
      have j4 := jr.alloc (.cells #[.bool true] 4)
      have r4 := (r3.fr hfr (fun j hj => by omega)).alloc (.cells #[.bool true] 4)
      have b4 := (b3.trans (hfr.below (B := w.heap.size) b3.size (fun j hj => by omega))).alloc (Nat.le_trans b3.size hfs) (.cells #[.bool true] 4)
      have q4 : Blk (wr.alloc (.cells #[.bool true] 4)) wr.heap.size 4 #[.bool true] := Blk.new wr 4 _
      have o4 := Reads.of_own (hown.alloc (.cells #[.bool true] 4))
      have HLn := Lib.hid (hvTo_len l k)
      generalize hvTo l k = hv at *
      have h4s : wr.heap.size < (wr.alloc (.cells #[.bool true] 4)).heap.size := by simp
      obtain ⟨e0, e1, e2⟩ := (g3.fr hfr (by omega)).facts
      go_wp2_with fail
      generalize wr.alloc (.cells #[.bool true] 4) = W5 at *
      obtain rfl := HK.out
      have HC : ∀ W, Below W5.heap.size W5 W → ∀ x ∈ al, Calls Try.prog 20 #[.int .i64 x, .pointer (some ⟨W2.heap.size, 0, none⟩), .pointer (some ⟨W2.heap.size + 1, 0, none⟩), .pointer (some ⟨wr.heap.size, 0, none⟩)] W fun e w' => e = .returned (.int .i64 (numOf al hv x)) ∧ W = w' := by
        intro W hW x hx
        have hj := j4.below hW j4.lt
        have ho := o4.fr (S := fun _ => False) (Fr.of_below hW) (fun _ _ => id)
        have e : al.length = hv.length := HLn.out.symm
        rw [e] at hj ho
        exact closure_any _ _ W2.heap.size (W2.heap.size + 1) wr.heap.size A5 Ah c5 ch al hv x W (k4.below hW k4.lt) hj (r4.fr (S := fun _ => False) (Fr.of_below hW) (fun _ _ => id)) ho (by omega) (by omega) hal hx
      refine (HCm.out W5 hm4 W2.heap.size (W2.heap.size + 1) wr.heap.size (numOf al hv) HC).mono ?_
      rintro e w6 ⟨rfl, hB6⟩
      have HMo := Lib.hid (HMs.out w6 _ (hm4.below hB6) Ah ch hv (show RI w6 _ Ah hv from by
        have ho := o4.fr (S := fun _ => False) (Fr.of_below hB6) (fun _ _ => id)
        rw [← HLn.out] at ho
        exact ho) HLn.out)
      rw [← HEq.out hv HLn.out, HLn.out] at HMo
      generalize comF m.o m.n (numOf al hv) = v at *
      clear HC HCm HMs HEq
      have b6 := b4.trans (hB6.mono b4.size)
      obtain ⟨x0, x1, x2⟩ := (g4.below hB6 g4.lt).facts
      obtain ⟨y0, y1, y2⟩ := (q4.below hB6 q4.lt).facts
      obtain ⟨z0, z1, z2⟩ := (j4.below hB6 j4.lt).facts
      go_wp2_with (first
        | (go_at_call 21; ((with_reducible refine HMo.out.mono ?_); rintro e w7 ⟨rfl, hB7⟩))
        | (go_at_call 10; ((with_reducible refine (HA.out _).mono ?_); rintro e w8 ⟨rfl, hB8⟩)))
      go_ret
      have b7 := b6.trans (hB7.mono b6.size)
      exact ⟨rfl, b7.trans (hB8.mono b7.size)⟩
theorem committed_law (m : Ms) (A : Option Addr) (c : Nat) (l : List Int) (w : World) (h : MO w m) (hy : RI w (· < w.heap.size) A l) :
    Calls Try.prog 5 #[msV m, .slice A l.length c] w (LawPost w) := by
  by_cases hl : 40 < m.o.length ∨ 40 < m.n.length ∨ 40 < l.length
  · exact committed_long m A l.length c w hl
  · exact committed_short m A c l w ⟨h.o, h.n, by omega, by omega⟩ hy (by omega) (by omega) (by omega)
section
variable {H : Type} {enc : TypeId × Value → H} {w : World}
theorem c2x : Try.prog.cellsOf 2 = 1 := by kernel_rfl
theorem open_il64 {v : Value} {d : DataW H} {p : List MemPlace} (h : DataW.Trod enc Try.prog w 0 (fun _ => true) true 31 v d p) {A : Option Addr} {n c : Nat} (hv : v = .slice A n c) : ∃ l : List Int, n = l.length ∧ RI w (· < w.heap.size) A l := by
  subst hv
  obtain ⟨A', c', l, e, -, -, h2, -⟩ := (Rdy.of_trod h).ints Try.underlying31 Try.underlying2 c2x
  simp [Value.cells] at e
  obtain ⟨rfl, rfl, rfl⟩ := e
  exact ⟨l, rfl, h2⟩
end
end Go.Proofs.Ytnpfbpfobbadaaa

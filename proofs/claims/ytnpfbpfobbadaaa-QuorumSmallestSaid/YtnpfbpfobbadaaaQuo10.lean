import Derived.Test.YtnpfbpfobbadaaaQuo9
namespace Go.Proofs.Ytnpfbpfobbadaaa
set_option linter.unusedVariables false
open Go.RowKit Go.Own Go.Quo
set_option maxRecDepth 10000 in
set_option maxHeartbeats 1000000 in
theorem end_bad (B : Nat → Prop) (m : Ms) (w : World) (h : MR w B m) (hv : vB m.o m.n = false) :
    Calls Try.prog 23 #[msV m] w (ChPost B [] [] 1 w) := by
  have h1 := (h.alloc (.cells (msC m) 24)).alloc (.cells msZ 24)
  have HO := Lib.hid (valid_b B m _ h1 false hv)
  clear h h1 hv
  go_enter Try.func23, Try.ntmps23
  go_wp2_with (go_at_call 29; ((with_reducible refine HO.out.mono ?_); rintro e w1 ⟨rfl, rfl⟩))
  refine bodyPost_ret (v := .tuple #[msV nilM, .int .i64 1]) (by simp [results, Try.results23, go_sem, nilM]) rfl ⟨nilM, rfl, rfl, rfl, nilMR _ _, ?_⟩
  exact (((Below.refl _ _).alloc (Nat.le_refl _) _).alloc (by simp) _).alloc (by simp; omega) _
set_option maxRecDepth 10000 in
set_option maxHeartbeats 1000000 in
theorem end_still (B : Nat → Prop) (m : Ms) (w : World) (h : MR w B m) (hv : vB m.o m.n = true) (hn : m.n.length = 0) :
    Calls Try.prog 23 #[msV m] w (ChPost B [] [] 8 w) := by
  have h1 := (h.alloc (.cells (msC m) 24)).alloc (.cells msZ 24)
  have HO := Lib.hid (valid_b B m _ h1 true hv)
  have hn' : ((m.n.length : Int) == 0) = true := by rw [beq_iff_eq]; omega
  have hn'' : (m.n.length == 0) = true := by rw [beq_iff_eq]; omega
  clear h h1 hv hn
  go_enter Try.func23, Try.ntmps23
  go_wp2_with (go_at_call 29; ((with_reducible refine HO.out.mono ?_); rintro e w1 ⟨rfl, rfl⟩))
  refine bodyPost_ret (v := .tuple #[msV nilM, .int .i64 8]) (by simp [results, Try.results23, go_sem, nilM]) rfl ⟨nilM, rfl, rfl, rfl, nilMR _ _, ?_⟩
  exact (((Below.refl _ _).alloc (Nat.le_refl _) _).alloc (by simp) _).alloc (by simp; omega) _
set_option maxRecDepth 10000 in
set_option maxHeartbeats 1000000 in
theorem settle_bad (B : Nat → Prop) (m : Ms) (w : World) (h : MR w B m) (hv : vB m.o m.n = false) :
    Calls Try.prog 25 #[msV m] w (ChPost B [] [] 1 w) := by
  have h1 := (h.alloc (.cells (msC m) 24)).alloc (.cells msZ 24)
  have HO := Lib.hid (right_b B m _ h1 false hv)
  clear h h1 hv
  go_enter Try.func25, Try.ntmps25
  go_wp2_with (go_at_call 13; ((with_reducible refine HO.out.mono ?_); rintro e w1 ⟨rfl, rfl⟩))
  refine bodyPost_ret (v := .tuple #[msV nilM, .int .i64 1]) (by simp [results, Try.results25, go_sem, nilM]) rfl ⟨nilM, rfl, rfl, rfl, nilMR _ _, ?_⟩
  exact (((Below.refl _ _).alloc (Nat.le_refl _) _).alloc (by simp) _).alloc (by simp; omega) _
set_option maxRecDepth 10000 in
set_option maxHeartbeats 1000000 in
theorem settle_still (B : Nat → Prop) (m : Ms) (w : World) (h : MR w B m) (hv : vB m.o m.n = true) (hn : m.n.length = 0) :
    Calls Try.prog 25 #[msV m] w (ChPost B [] [] 8 w) := by
  have h1 := (h.alloc (.cells (msC m) 24)).alloc (.cells msZ 24)
  have HO := Lib.hid (right_b B m _ h1 true hv)
  have hn' : ((m.n.length : Int) == 0) = true := by rw [beq_iff_eq]; omega
  have hn'' : (m.n.length == 0) = true := by rw [beq_iff_eq]; omega
  clear h h1 hv hn
  go_enter Try.func25, Try.ntmps25
  go_wp2_with (go_at_call 13; ((with_reducible refine HO.out.mono ?_); rintro e w1 ⟨rfl, rfl⟩))
  refine bodyPost_ret (v := .tuple #[msV nilM, .int .i64 8]) (by simp [results, Try.results25, go_sem, nilM]) rfl ⟨nilM, rfl, rfl, rfl, nilMR _ _, ?_⟩
  exact (((Below.refl _ _).alloc (Nat.le_refl _) _).alloc (by simp) _).alloc (by simp; omega) _
set_option maxRecDepth 10000 in
set_option maxHeartbeats 1000000 in
theorem settle_ok (B : Nat → Prop) (m : Ms) (w : World) (h : MR w B m) (hv : vB m.o m.n = true) (hn : m.n.length ≠ 0) :
    Calls Try.prog 25 #[msV m] w (ChPost B m.n [] 0 w) := by
  have h1 := (h.alloc (.cells (msC m) 24)).alloc (.cells msZ 24)
  have HO := Lib.hid (right_b B m _ h1 true hv)
  have hn' : ((m.n.length : Int) == 0) = false := by rw [beq_eq_false_iff_ne]; omega
  have hn'' : (m.n.length == 0) = false := by rw [beq_eq_false_iff_ne]; omega
  have HH := Lib.hid h
  clear h h1 hv hn
  go_enter Try.func25, Try.ntmps25
  go_wp2_with (go_at_call 13; ((with_reducible refine HO.out.mono ?_); rintro e w1 ⟨rfl, rfl⟩))
  refine bodyPost_ret (v := .tuple #[msV ⟨m.A', m.c', m.n, none, 0, []⟩, .int .i64 0]) (by simp [results, Try.results25, go_sem]) rfl ⟨⟨m.A', m.c', m.n, none, 0, []⟩, rfl, rfl, rfl, ?_, ?_⟩
  · exact ⟨(((HH.out.n.alloc _).alloc _).alloc _).more (fun k hk => .inl hk), Reads.none_, HH.out.nl, by simp⟩
  · exact (((Below.refl _ _).alloc (Nat.le_refl _) _).alloc (by simp) _).alloc (by simp; omega) _
set_option maxRecDepth 10000 in
set_option maxHeartbeats 1000000 in
theorem end_ok (B : Nat → Prop) (m : Ms) (w : World) (h : MR w B m) (hv : vB m.o m.n = true) (hn : m.n.length ≠ 0) :
    Calls Try.prog 23 #[msV m] w (ChPost B m.n [] 0 w) := by
  have h1 := (h.alloc (.cells (msC m) 24)).alloc (.cells msZ 24)
  have HO := Lib.hid (valid_b B m _ h1 true hv)
  have hn' : ((m.n.length : Int) == 0) = false := by rw [beq_eq_false_iff_ne]; omega
  have hn'' : (m.n.length == 0) = false := by rw [beq_eq_false_iff_ne]; omega
  have h3 := h1.alloc (.cells (msC m) 24)
  clear h h1 hv hn
  go_enter Try.func23, Try.ntmps23
  go_wp2_with (go_at_call 29; ((with_reducible refine HO.out.mono ?_); rintro e w1 ⟨rfl, rfl⟩))
  generalize hW : ((w.alloc (.cells (msC m) 24)).alloc (.cells msZ 24)).alloc (.cells (msC m) 24) = W at *
  have g1 : Blk W (w.heap.size + 1) 24 msZ := by rw [← hW]; simpa using (Blk.new (w.alloc _) 24 _).alloc _
  have b1 : Below w.heap.size w W := by rw [← hW]; exact (((Below.refl _ _).alloc (Nat.le_refl _) _).alloc (by simp) _).alloc (by simp; omega) _
  clear hW HO
  refine (clone_any B m.A' m.c' m.n W h3.n h3.nl).mono ?_
  rintro e w2 ⟨A2, c2, rfl, r2, hB2⟩
  have g2 := g1.below hB2 g1.lt
  have b2 := b1.trans (hB2.mono b1.size)
  have r2' := r2.old (by omega)
  have hg1 := g1.lt
  have hs2 := hB2.size
  obtain ⟨q0, q1, q2⟩ := g2.facts
  simp only [msZ] at q1
  go_wp2
  refine bodyPost_ret (v := .tuple #[msV ⟨A2, c2, m.n, none, 0, []⟩, .int .i64 0]) (by simp [results, Try.results23, go_sem, q1]) rfl ⟨⟨A2, c2, m.n, none, 0, []⟩, rfl, rfl, rfl, ?_, ?_⟩
  · refine ⟨?_, Reads.none_, h3.nl, by simp⟩
    exact ((r2'.setCell (by simp; omega) _).setCell (by simp; omega) _).more (fun k hk => .inr (by have := b1.size; omega))
  · exact (b2.setCell (by simp) _).setCell (by simp) _
set_option maxRecDepth 10000 in
set_option maxHeartbeats 1000000 in
theorem one_eq (B1 B2 : Nat → Prop) (a b : Ms) (w : World) (h1 : MR w B1 a) (h2 : MR w B2 b) (ho : b.o = a.o) (hn : b.n = a.n) :
    Calls Try.prog 26 #[msV a, msV b] w fun e w' => e = .returned (.bool true) ∧ Below w.heap.size w w' := by
  obtain ⟨bA, bc, bo, bA', bc', bn⟩ := b
  simp only at ho hn
  subst ho hn
  have k1 := (h1.alloc (.cells (msC a) 24)).alloc (.cells (msC ⟨bA, bc, a.o, bA', bc', a.n⟩) 24)
  have k2 := (h2.alloc (.cells (msC a) 24)).alloc (.cells (msC ⟨bA, bc, a.o, bA', bc', a.n⟩) 24)
  have b1 : Below w.heap.size w ((w.alloc (.cells (msC a) 24)).alloc (.cells (msC ⟨bA, bc, a.o, bA', bc', a.n⟩) 24)) := ((Below.refl _ _).alloc (Nat.le_refl _) _).alloc (by simp) _
  have g1 : Blk ((w.alloc (.cells (msC a) 24)).alloc (.cells (msC ⟨bA, bc, a.o, bA', bc', a.n⟩) 24)) w.heap.size 24 (msC a) := (Blk.new w 24 _).alloc _
  have g2 : Blk ((w.alloc (.cells (msC a) 24)).alloc (.cells (msC ⟨bA, bc, a.o, bA', bc', a.n⟩) 24)) (w.heap.size + 1) 24 (msC ⟨bA, bc, a.o, bA', bc', a.n⟩) := by simpa using Blk.new (w.alloc _) 24 _
  clear h1 h2
  go_enter Try.func26, Try.ntmps26
  go_wp2_with fail
  generalize (w.alloc (.cells (msC a) 24)).alloc (.cells (msC ⟨bA, bc, a.o, bA', bc', a.n⟩) 24) = W at *
  refine (same_eq B1 B2 a.A bA a.o a.c bc W k1.o k2.o k1.ol).mono ?_
  rintro e w1 ⟨rfl, j, rfl⟩
  obtain ⟨p0, p1, p2⟩ := g1.facts
  obtain ⟨q0, q1, q2⟩ := g2.facts
  have HS := Lib.hid (same_eq B1 B2 a.A' bA' a.n a.c' bc' (W.drewN j) (k1.n.drewN j) (k2.n.drewN j) k1.nl)
  go_wp2_with fail
  refine HS.out.mono ?_
  rintro e w1 ⟨rfl, j2, rfl⟩
  go_wp2
  go_ret
  exact ⟨rfl, below_drewN b1 (j + j2)⟩
def begF (o n nx : List Int) : List Int × List Int × Int := if (vB o n && mlB nx) = true then (if 0 < n.length then ([], [], 8) else (o, nx, 0)) else ([], [], 1)
def setF (o n : List Int) : List Int × List Int × Int := if vB o n = true then (if n.length = 0 then ([], [], 8) else (n, [], 0)) else ([], [], 1)
theorem begin_any (B B2 : Nat → Prop) (m : Ms) (A : Option Addr) (c : Nat) (nx : List Int) (w : World) (h : MR w B m) (hy : RI w B2 A nx) (hl : nx.length ≤ 1000) :
    Calls Try.prog 22 #[msV m, .slice A nx.length c] w (ChPost (fun k => B k ∨ B2 k) (begF m.o m.n nx).1 (begF m.o m.n nx).2.1 (begF m.o m.n nx).2.2 w) := by
  unfold begF
  cases hv : (vB m.o m.n && mlB nx) with
  | false =>
    rw [if_neg (by simp)]
    rw [Bool.and_eq_false_iff] at hv
    exact begin_bad B B2 m A c nx w h hy hl hv
  | true =>
    rw [if_pos rfl]
    rw [Bool.and_eq_true] at hv
    by_cases hn : 0 < m.n.length
    · rw [if_pos hn]; exact begin_busy B B2 m A c nx w h hy hl hv.1 hv.2 hn
    · rw [if_neg hn]; exact begin_ok B B2 m A c nx w h hy hl hv.1 hv.2 (by omega)
theorem rbegin_any (B B2 : Nat → Prop) (m : Ms) (A : Option Addr) (c : Nat) (nx : List Int) (w : World) (h : MR w B m) (hy : RI w B2 A nx) (hl : nx.length ≤ 1000) :
    Calls Try.prog 24 #[msV m, .slice A nx.length c] w (ChPost (fun k => B k ∨ B2 k) (begF m.o m.n nx).1 (begF m.o m.n nx).2.1 (begF m.o m.n nx).2.2 w) := by
  unfold begF
  cases hv : (vB m.o m.n && mlB nx) with
  | false =>
    rw [if_neg (by simp)]
    rw [Bool.and_eq_false_iff] at hv
    exact rbegin_bad B B2 m A c nx w h hy hl hv
  | true =>
    rw [if_pos rfl]
    rw [Bool.and_eq_true] at hv
    by_cases hn : 0 < m.n.length
    · rw [if_pos hn]; exact rbegin_busy B B2 m A c nx w h hy hl hv.1 hv.2 hn
    · rw [if_neg hn]; exact rbegin_ok B B2 m A c nx w h hy hl hv.1 hv.2 (by omega)
theorem end_any (B : Nat → Prop) (m : Ms) (w : World) (h : MR w B m) :
    Calls Try.prog 23 #[msV m] w (ChPost B (setF m.o m.n).1 (setF m.o m.n).2.1 (setF m.o m.n).2.2 w) := by
  unfold setF
  cases hv : vB m.o m.n with
  | false => rw [if_neg (by simp)]; exact end_bad B m w h hv
  | true =>
    rw [if_pos rfl]
    by_cases hn : m.n.length = 0
    · rw [if_pos hn]; exact end_still B m w h hv hn
    · rw [if_neg hn]; exact end_ok B m w h hv hn
theorem settle_any (B : Nat → Prop) (m : Ms) (w : World) (h : MR w B m) :
    Calls Try.prog 25 #[msV m] w (ChPost B (setF m.o m.n).1 (setF m.o m.n).2.1 (setF m.o m.n).2.2 w) := by
  unfold setF
  cases hv : vB m.o m.n with
  | false => rw [if_neg (by simp)]; exact settle_bad B m w h hv
  | true =>
    rw [if_pos rfl]
    by_cases hn : m.n.length = 0
    · rw [if_pos hn]; exact settle_still B m w h hv hn
    · rw [if_neg hn]; exact settle_ok B m w h hv hn
end Go.Proofs.Ytnpfbpfobbadaaa

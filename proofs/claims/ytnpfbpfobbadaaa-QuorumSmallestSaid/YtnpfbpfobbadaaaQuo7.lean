import Derived.Test.YtnpfbpfobbadaaaQuo6
namespace Go.Quo
theorem small_ex : smallF [0, 1, 2] [3, 4, 5] = [0, 1, 3, 4] := by decide +kernel
theorem reach_ex1 : reachB [0, 1, 2] [3, 4, 5] [0, 1] = false := by decide +kernel
theorem reach_ex2 : reachB [0, 1, 2] [3, 4, 5] [4, 3, 1, 0] = true := by decide +kernel
theorem cnt_more (l yes : List Int) (x : Int) : cnt l yes ≤ cnt l (x :: yes) := by
  unfold cnt
  induction l with
  | nil => simp
  | cons a r ih =>
    cases h : hasB yes a with
    | true =>
      have h2 : hasB (x :: yes) a = true := by rw [hasB_mem] at h ⊢; exact List.mem_cons_of_mem _ h
      rw [List.filter_cons_of_pos (by simpa using h), List.filter_cons_of_pos (by simpa using h2)]
      simp; exact ih
    | false =>
      rw [List.filter_cons_of_neg (by simp [h])]
      cases h2 : hasB (x :: yes) a with
      | true => rw [List.filter_cons_of_pos (by simpa using h2)]; simp; omega
      | false => rw [List.filter_cons_of_neg (by simp [h2])]; exact ih
theorem con_more {l yes : List Int} (h : conQ l yes = true) (x : Int) : conQ l (x :: yes) = true := by
  unfold conQ at h ⊢
  have := cnt_more l yes x
  simp only [decide_eq_true_eq] at h ⊢
  omega
theorem reach_more {o n yes : List Int} (h : reachB o n yes = true) (x : Int) : reachB o n (x :: yes) = true := by
  unfold reachB at h ⊢
  simp only [Bool.and_eq_true, Bool.or_eq_true] at h ⊢
  obtain ⟨⟨h1, h2⟩, h3⟩ := h
  exact ⟨⟨h1, con_more h2 x⟩, h3.elim .inl (fun h => .inr (con_more h x))⟩
end Go.Quo
namespace Go.Proofs.Ytnpfbpfobbadaaa
set_option linter.unusedVariables false
open Go.RowKit Go.Own Go.Quo
attribute [local irreducible] Go.wpQuiet
theorem RI.new (w : World) (l : List Int) (t : TypeId) (g : Nat) (hg : g = w.heap.size) : RI (w.alloc (.cells (l.map (Value.int .i64)).toArray t)) (· = w.heap.size) (some ⟨g, 0, none⟩) l :=
  Reads.newS w _ t (0, 0) l.length 1 (by simp) g hg
set_option maxRecDepth 10000 in
set_option maxHeartbeats 1000000 in
theorem awake_any (w : World) : Calls Try.prog 10 #[] w fun e w' => e = .returned (.bool true) ∧ Below w.heap.size w w' := by
  go_enter Try.func10, Try.ntmps10
  go_wp2_with fail
  generalize hW : (((w.alloc (.cells #[.int .i64 0, .int .i64 1, .int .i64 2] 3)).alloc (.cells #[.int .i64 3, .int .i64 4, .int .i64 5] 3)).alloc (.cells #[.slice (some ⟨w.heap.size, 0, none⟩) 3 3, .slice (some ⟨w.heap.size + 1, 0, none⟩) 3 3] 24)) = W
  obtain ⟨mx, hmx⟩ : ∃ mx : Ms, mx = ⟨some ⟨w.heap.size, 0, none⟩, 3, [0, 1, 2], some ⟨w.heap.size + 1, 0, none⟩, 3, [3, 4, 5]⟩ := ⟨_, rfl⟩
  have hmr : MR W (· < W.heap.size) mx := by
    rw [hmx, ← hW]
    refine ⟨?_, ?_, by simp, by simp⟩
    · exact (((RI.new w [0, 1, 2] 3 w.heap.size rfl).alloc _).alloc _).more (fun k hk => by subst hk; simp; omega)
    · exact ((RI.new (w.alloc _) [3, 4, 5] 3 (w.heap.size + 1) (by simp)).alloc _).more (fun k hk => by subst hk; simp)
  have hblk : Blk W (w.heap.size + 1 + 1) 24 #[.slice (some ⟨w.heap.size, 0, none⟩) 3 3, .slice (some ⟨w.heap.size + 1, 0, none⟩) 3 3] := by
    rw [← hW]; simpa using Blk.new ((w.alloc _).alloc _) 24 _
  have hbW : Below w.heap.size w W := by rw [← hW]; exact (((Below.refl _ _).alloc (Nat.le_refl _) _).alloc (by simp) _).alloc (by simp; omega) _
  have hsz : w.heap.size + 1 + 1 + 1 = W.heap.size := by rw [← hW]; simp
  rw [hsz]
  clear hW
  have R1 := Lib.hid fun W' (hb : Below W.heap.size W W') => (show Calls Try.prog 11 #[.agg #[.slice (some ⟨w.heap.size, 0, none⟩) 3 3, .slice (some ⟨w.heap.size + 1, 0, none⟩) 3 3], .slice (some ⟨W'.heap.size, 0, none⟩) 2 2] (W'.alloc (.cells #[.int .i64 0, .int .i64 1] 3)) fun e w' => e = .returned (.bool false) ∧ Below (W'.alloc (.cells #[.int .i64 0, .int .i64 1] 3)).heap.size (W'.alloc (.cells #[.int .i64 0, .int .i64 1] 3)) w' from by
    have := reached_any _ _ mx _ 2 [0, 1] _ ((hmr.below hb).alloc (.cells #[.int .i64 0, .int .i64 1] 3)) (RI.new W' [0, 1] 3 W'.heap.size rfl) (by simp)
    rw [hmx] at this
    simp only [reach_ex1] at this
    exact this)
  have R2 := Lib.hid fun W' (hb : Below W.heap.size W W') => (show Calls Try.prog 11 #[.agg #[.slice (some ⟨w.heap.size, 0, none⟩) 3 3, .slice (some ⟨w.heap.size + 1, 0, none⟩) 3 3], .slice (some ⟨W'.heap.size, 0, none⟩) 4 4] (W'.alloc (.cells #[.int .i64 4, .int .i64 3, .int .i64 1, .int .i64 0] 3)) fun e w' => e = .returned (.bool true) ∧ Below (W'.alloc (.cells #[.int .i64 4, .int .i64 3, .int .i64 1, .int .i64 0] 3)).heap.size (W'.alloc (.cells #[.int .i64 4, .int .i64 3, .int .i64 1, .int .i64 0] 3)) w' from by
    have := reached_any _ _ mx _ 4 [4, 3, 1, 0] _ ((hmr.below hb).alloc (.cells #[.int .i64 4, .int .i64 3, .int .i64 1, .int .i64 0] 3)) (RI.new W' [4, 3, 1, 0] 3 W'.heap.size rfl) (by simp)
    rw [hmx] at this
    simp only [reach_ex2] at this
    exact this)
  have R3 := Lib.hid fun W' (hb : Below W.heap.size W W') => (show Calls Try.prog 15 #[.agg #[.slice (some ⟨w.heap.size, 0, none⟩) 3 3, .slice (some ⟨w.heap.size + 1, 0, none⟩) 3 3]] W' (MemPost [0, 1, 3, 4] W') from by
    have := smallest_any _ mx W' (hmr.below hb)
    rw [hmx] at this
    simp only [small_ex] at this
    exact this)
  have HB := Lib.hid fun W' (hb : Below W.heap.size W W') => (hblk.below hb hblk.lt).facts
  clear hmr hmx hblk hsz
  refine (R1.out W (Below.refl _ _)).mono ?_
  rintro e w2 ⟨rfl, hB2⟩
  have b2 : Below W.heap.size W w2 := ((Below.refl _ _).alloc (Nat.le_refl _) _).trans (hB2.mono (by simp))
  obtain ⟨p0, p1, p2⟩ := HB.out _ b2
  go_wp2_with fail
  refine (R2.out w2 b2).mono ?_
  rintro e w3 ⟨rfl, hB3⟩
  have b3 : Below W.heap.size W w3 := (b2.alloc b2.size _).trans (hB3.mono (by have := b2.size; simp; omega))
  clear p0 p1 p2
  obtain ⟨p0, p1, p2⟩ := HB.out _ b3
  go_wp2_with fail
  refine (R3.out w3 b3).mono ?_
  rintro e w4 ⟨A4, c4, rfl, r4, hB4, -⟩
  have b4 := b3.trans (hB4.mono b3.size)
  have HSm := Lib.hid (show Calls Try.prog 16 #[.slice A4 4 c4, .slice (some ⟨w4.heap.size, 0, none⟩) 4 4] (w4.alloc (.cells #[.int .i64 0, .int .i64 1, .int .i64 3, .int .i64 4] 3)) _ from same_eq _ _ A4 _ [0, 1, 3, 4] c4 4 _ (r4.alloc _) (RI.new w4 [0, 1, 3, 4] 3 w4.heap.size rfl) (by simp))
  clear p0 p1 p2
  go_wp2_with fail
  refine HSm.out.mono ?_
  rintro e w5 ⟨rfl, j, rfl⟩
  go_wp2
  go_ret
  refine ⟨rfl, ?_⟩
  exact hbW.trans ((below_drewN (b4.alloc b4.size _) j).mono hbW.size)
end Go.Proofs.Ytnpfbpfobbadaaa

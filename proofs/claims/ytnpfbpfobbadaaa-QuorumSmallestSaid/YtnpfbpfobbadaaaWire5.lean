import Derived.Test.YtnpfbpfobbadaaaWire4
namespace Go.Proofs.Ytnpfbpfobbadaaa
set_option linter.unusedVariables false
open Go.RowKit Go.Own Go.Quo Go.Wire
def IntsPost (l : List Int) (w : World) (e : Ending) (w' : World) : Prop := ∃ A c, e = .returned (.slice A l.length c) ∧ RI w' (w.heap.size ≤ ·) A l ∧ Below w.heap.size w w'
def memTo (o n : List Int) (k : Nat) : List Int := ((List.range k).map (fun j : Nat => (j : Int))).filter fun m => hasB o m || hasB n m
theorem memTo_succ (o n : List Int) (k : Nat) : memTo o n (k + 1) = memTo o n k ++ (if (hasB o k || hasB n k) = true then [(k : Int)] else []) := by
  unfold memTo
  rw [List.range_succ, List.map_append, List.filter_append]
  congr 1
  rw [List.map_cons, List.map_nil, List.filter_cons, List.filter_nil]
theorem memTo_le (o n : List Int) (k : Nat) : (memTo o n k).length ≤ k := by
  have := List.length_filter_le (fun m => hasB o m || hasB n m) ((List.range k).map (fun j : Nat => (j : Int)))
  unfold memTo; simpa using this
def allV (o n : List Int) : List Int := if vB o n = true then memF o n else []
set_option maxRecDepth 10000 in
set_option maxHeartbeats 1000000 in
theorem all_no (B : Nat → Prop) (m : Ms) (w : World) (h : MR w B m) (hv : vB m.o m.n = false) :
    Calls Try.prog 18 #[msV m] w (IntsPost (allV m.o m.n) w) := by
  have HEm := Lib.hid (show allV m.o m.n = [] by unfold allV; rw [if_neg (by simp [hv])])
  have HO := Lib.hid (right_b B m _ (h.alloc (.cells (msC m) 24)) false hv)
  have g1 : Blk (w.alloc (.cells (msC m) 24)) w.heap.size 24 (msC m) := Blk.new w 24 _
  obtain ⟨q0, q1, q2⟩ := g1.facts
  clear h hv
  go_enter Try.func18, Try.ntmps18
  go_wp2_with fail
  go_loopw [3, 4] (fun vo vi wr => vo = .slice none 0 0 ∧ vi = .int .i64 0 ∧ wr = w.alloc (.cells (msC m) 24)) (fun _ _ _ => 0)
  case atStart => exact ⟨rfl, rfl, rfl⟩
  case round =>
    obtain ⟨rfl, rfl, rfl⟩ := hrel
    go_wp2_with (go_at_call 13; ((with_reducible refine HO.out.mono ?_); rintro e w1 ⟨rfl, rfl⟩))
    go_ret
    rw [HEm.out]
    exact ⟨none, 0, rfl, Reads.none_, ((Below.refl _ _).alloc (Nat.le_refl _) _).alloc (by simp) _⟩
set_option maxRecDepth 10000 in
set_option maxHeartbeats 2000000 in
theorem all_yes (B : Nat → Prop) (m : Ms) (w : World) (h : MR w B m) (hv : vB m.o m.n = true) :
    Calls Try.prog 18 #[msV m] w (IntsPost (allV m.o m.n) w) := by
  obtain ⟨hl1, hl2, hl3⟩ := v_lens hv
  have HEm := Lib.hid (show allV m.o m.n = memTo m.o m.n 64 by unfold allV; rw [if_pos hv]; rfl)
  have HO := Lib.hid fun W (hw : MR W B m) => right_b B m W hw true hv
  have h1 := h.alloc (.cells (msC m) 24)
  have g1 : Blk (w.alloc (.cells (msC m) 24)) w.heap.size 24 (msC m) := Blk.new w 24 _
  have b1 : Below w.heap.size w (w.alloc (.cells (msC m) 24)) := (Below.refl _ _).alloc (Nat.le_refl _) _
  clear h hv
  go_enter Try.func18, Try.ntmps18
  go_wp2_with fail
  generalize w.alloc (.cells (msC m) 24) = W1 at *
  go_loopw [3, 4] (fun vo vi wr => ∃ (k : Nat) (A : Option Addr) (c : Nat), k ≤ 64 ∧ vi = .int .i64 k ∧ vo = .slice A (memTo m.o m.n k).length c ∧ wr.ownsRow W1.heap.size 3 1 (.slice A (memTo m.o m.n k).length c) (memTo m.o m.n k).length ((memTo m.o m.n k).map (Value.int .i64)) ∧ Below W1.heap.size W1 wr) (fun _ i _ => 64 - (intOf i).toNat)
  case atStart => exact ⟨0, none, 0, by omega, rfl, rfl, World.ownsRow_nil _ _ _ _, Below.refl _ _⟩
  case round =>
    obtain ⟨k, A, c, hk, rfl, rfl, hown, hb⟩ := hrel
    have hs := hb.size
    have gr := g1.below hb g1.lt
    obtain ⟨q0, q1, q2⟩ := gr.facts
    by_cases hlt : k < 64
    · have hlt' : (k : Int) < 64 := by omega
      have hmr := h1.below hb
      have hmr2 := hmr.alloc (.cells (msC m) 24)
      have gr2 := gr.alloc (.cells (msC m) 24)
      have HOr := Lib.hid (HO.out wr hmr)
      have HSu := Lib.hid (memTo_succ m.o m.n k)
      have hUl := memTo_le m.o m.n k
      have hown2 := hown.alloc (.cells (msC m) 24)
      have hb2 := hb.alloc hs (.cells (msC m) 24)
      have HH1 := Lib.hid fun q hq => has_b B m.A m.c m.o (k : Int) _ hmr2.o (by omega) q hq
      have HH2 := Lib.hid fun q hq => has_b B m.A' m.c' m.n (k : Int) _ hmr2.n (by omega) q hq
      generalize memTo m.o m.n k = U at *
      cases h1o : hasB m.o k with
      | true =>
        have HH1 := Lib.hid (HH1.out true h1o)
        rw [h1o] at HSu
        clear h1o HH2 hmr hmr2
        go_wp2_with (first
          | (go_at_call 13; ((with_reducible refine HOr.out.mono ?_); rintro e w1 ⟨rfl, rfl⟩))
          | (go_at_call 27; ((with_reducible refine HH1.out.mono ?_); rintro e w1 ⟨rfl, rfl⟩))
          | (at_builtin; refine wpList_append_any _ rfl _ _ _ rfl W1.heap.size 3 _ 1 8 Try.underlying22 info3 rfl (by omega) (.slice A U.length c) U.length (U.map (Value.int .i64)) rfl (hown2.alloc _) _ (some ⟨wr.heap.size + 1, 0, none⟩) 1 1 [.int .i64 (k : Int)] rfl (Reads.newS _ [.int .i64 (k : Int)] 3 (0, 0) 1 1 rfl _ (by simp)) (by simp [Value.oneCell']) (by simp only [maxLen]; omega) (by omega) (by simp; omega) ?_; intro A4 c4 w4 hown4 hgr4 hat4))
        have HS := Lib.hid (show memTo m.o m.n (k + 1) = U ++ [(k : Int)] by rw [HSu.out]; simp)
        have e4 : (U ++ [(k : Int)]).length = U.length + 1 := by simp
        refine ⟨⟨k + 1, A4, c4, by omega, by go_num, by rw [HS.out, e4], by rw [HS.out]; simpa using hown4, (hb2.alloc (Nat.le_trans hs (by simp)) _).grown hgr4 (by simp; omega) (fun g hg => by have := (hown.lt g hg).1; omega)⟩, by simp [intOf]; omega⟩
      | false =>
        have HH1 := Lib.hid (HH1.out false h1o)
        rw [h1o] at HSu
        clear h1o
        cases h2o : hasB m.n k with
        | true =>
          have HH2 := Lib.hid (HH2.out true h2o)
          rw [h2o] at HSu
          clear h2o hmr hmr2
          go_wp2_with (first
            | (go_at_call 13; ((with_reducible refine HOr.out.mono ?_); rintro e w1 ⟨rfl, rfl⟩))
            | (go_at_call 27; ((with_reducible refine HH1.out.mono ?_); rintro e w1 ⟨rfl, rfl⟩))
            | (go_at_call 27; ((with_reducible refine HH2.out.mono ?_); rintro e w1 ⟨rfl, rfl⟩))
            | (at_builtin; refine wpList_append_any _ rfl _ _ _ rfl W1.heap.size 3 _ 1 8 Try.underlying22 info3 rfl (by omega) (.slice A U.length c) U.length (U.map (Value.int .i64)) rfl (hown2.alloc _) _ (some ⟨wr.heap.size + 1, 0, none⟩) 1 1 [.int .i64 (k : Int)] rfl (Reads.newS _ [.int .i64 (k : Int)] 3 (0, 0) 1 1 rfl _ (by simp)) (by simp [Value.oneCell']) (by simp only [maxLen]; omega) (by omega) (by simp; omega) ?_; intro A4 c4 w4 hown4 hgr4 hat4))
          have HS := Lib.hid (show memTo m.o m.n (k + 1) = U ++ [(k : Int)] by rw [HSu.out]; simp)
          have e4 : (U ++ [(k : Int)]).length = U.length + 1 := by simp
          refine ⟨⟨k + 1, A4, c4, by omega, by go_num, by rw [HS.out, e4], by rw [HS.out]; simpa using hown4, (hb2.alloc (Nat.le_trans hs (by simp)) _).grown hgr4 (by simp; omega) (fun g hg => by have := (hown.lt g hg).1; omega)⟩, by simp [intOf]; omega⟩
        | false =>
          have HH2 := Lib.hid (HH2.out false h2o)
          rw [h2o] at HSu
          clear h2o hmr hmr2
          go_wp2_with (first
            | (go_at_call 13; ((with_reducible refine HOr.out.mono ?_); rintro e w1 ⟨rfl, rfl⟩))
            | (go_at_call 27; ((with_reducible refine HH1.out.mono ?_); rintro e w1 ⟨rfl, rfl⟩))
            | (go_at_call 27; ((with_reducible refine HH2.out.mono ?_); rintro e w1 ⟨rfl, rfl⟩))
            | (at_builtin; refine wpList_append_any _ rfl _ _ _ rfl W1.heap.size 3 _ 1 8 Try.underlying22 info3 rfl (by omega) (.slice A U.length c) U.length (U.map (Value.int .i64)) rfl (hown2.alloc _) _ (some ⟨wr.heap.size + 1, 0, none⟩) 1 1 [.int .i64 (k : Int)] rfl (Reads.newS _ [.int .i64 (k : Int)] 3 (0, 0) 1 1 rfl _ (by simp)) (by simp [Value.oneCell']) (by simp only [maxLen]; omega) (by omega) (by simp; omega) ?_; intro A4 c4 w4 hown4 hgr4 hat4))
          have HS := Lib.hid (show memTo m.o m.n (k + 1) = U by rw [HSu.out]; simp)
          exact ⟨⟨k + 1, A, c, by omega, by go_num, by rw [HS.out], by rw [HS.out]; exact hown2, hb2⟩, by simp [intOf]; omega⟩
    · have hge : ¬ ((k : Int) < 64) := by omega
      have HK := Lib.hid (show k = 64 by omega)
      go_wp2
      go_ret
      rw [HEm.out]
      obtain rfl := HK.out
      exact ⟨A, c, rfl, (Reads.of_own hown).more (fun g hg => by have := (hown.lt g hg).1; have := b1.size; omega), b1.trans (hb.mono b1.size)⟩
theorem all_any (B : Nat → Prop) (m : Ms) (w : World) (h : MR w B m) : Calls Try.prog 18 #[msV m] w (IntsPost (allV m.o m.n) w) := by
  cases hv : vB m.o m.n with
  | false => exact all_no B m w h hv
  | true => exact all_yes B m w h hv
end Go.Proofs.Ytnpfbpfobbadaaa

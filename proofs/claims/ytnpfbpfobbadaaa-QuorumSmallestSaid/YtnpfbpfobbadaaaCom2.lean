import Derived.Test.YtnpfbpfobbadaaaCom1
import Derived.Test.YtnpfbpfobbadaaaQuo13
namespace Go.Proofs.Ytnpfbpfobbadaaa
set_option linter.unusedVariables false
open Go.RowKit Go.Own Go.Quo Go.Wire
def yesTo (al hv : List Int) (x : Int) (j : Nat) : List Int := ((List.range j).filter fun i => decide (x ≤ gd hv i)).map (gd al)
theorem yesTo_succ (al hv : List Int) (x : Int) (j : Nat) : yesTo al hv x (j + 1) = yesTo al hv x j ++ (if x ≤ gd hv j then [gd al j] else []) := by
  unfold yesTo
  rw [List.range_succ, List.filter_append, List.map_append]
  congr 1
  by_cases h : x ≤ gd hv j
  · rw [if_pos h, List.filter_cons_of_pos (by simpa using h)]; rfl
  · rw [if_neg h, List.filter_cons_of_neg (by simpa using h)]; rfl
theorem yesTo_le (al hv : List Int) (x : Int) (j : Nat) : (yesTo al hv x j).length ≤ j := by
  have := List.length_filter_le (fun i => decide (x ≤ gd hv i)) (List.range j)
  unfold yesTo; simpa using this
theorem most_take (p : Int → Bool) (hv : List Int) (k : Nat) (hk : k < hv.length) : (hv.take (k + 1)).foldl (mostStep p) (0, false) = mostStep p ((hv.take k).foldl (mostStep p) (0, false)) (gd hv k) := by
  rw [List.take_succ_eq_append_getElem hk, List.foldl_append, gd_get hk]; rfl
set_option maxRecDepth 10000 in
set_option maxHeartbeats 4000000 in
theorem most_any2 (B B2 : Nat → Prop) (m : Ms) (A2 : Option Addr) (c2 : Nat) (hv : List Int) (w : World) (h : MR w B m) (hr : RI w B2 A2 hv) (hl : hv.length = (allV m.o m.n).length) :
    Calls Try.prog 21 #[msV m, .slice A2 hv.length c2] w fun e w' => e = .returned (.int .i64 (mostF (fun x => reachB m.o m.n (yesF (allV m.o m.n) hv x)) hv)) ∧ Below w.heap.size w w' := by
  have hal := allV_le m.o m.n
  have hl1 : hv.length ≤ (allV m.o m.n).length := by omega
  have hl2 : (allV m.o m.n).length ≤ hv.length := by omega
  clear hl
  have hm1 := h.alloc (.cells (msC m) 24)
  have hr1 := hr.alloc (.cells (msC m) 24)
  have g1 : Blk (w.alloc (.cells (msC m) 24)) w.heap.size 24 (msC m) := Blk.new w 24 _
  have b1 : Below w.heap.size w (w.alloc (.cells (msC m) 24)) := (Below.refl _ _).alloc (Nat.le_refl _) _
  have HAl := Lib.hid fun W' (x : MR W' B m) => all_any B m W' x
  have HF := Lib.hid (show mostF (fun x => reachB m.o m.n (yesF (allV m.o m.n) hv x)) hv = (hv.foldl (mostStep (fun x => reachB m.o m.n (yesF (allV m.o m.n) hv x))) (0, false)).1 from rfl)
  have HP := Lib.hid fun x => (show (fun x => reachB m.o m.n (yesF (allV m.o m.n) hv x)) x = reachB m.o m.n (yesTo (allV m.o m.n) hv x (allV m.o m.n).length) from rfl)
  have HT := Lib.hid fun k (hk : k < hv.length) => most_take (fun x => reachB m.o m.n (yesF (allV m.o m.n) hv x)) hv k hk
  generalize (fun x => reachB m.o m.n (yesF (allV m.o m.n) hv x)) = p at *
  generalize allV m.o m.n = al at *
  clear h hr
  go_enter Try.func21, Try.ntmps21
  go_wp2_with fail
  generalize w.alloc (.cells (msC m) 24) = W1 at *
  refine (HAl.out W1 hm1).mono ?_
  rintro e W2 ⟨A5, c5, rfl, r5, hB2⟩
  have hm2 := hm1.below hB2
  have hr2 := hr1.fr (S := fun _ => False) (Fr.of_below hB2) (fun _ _ => id)
  have g2 := g1.below hB2 g1.lt
  have b2 := b1.trans (hB2.mono b1.size)
  have p2 := hr2.plain (by omega)
  have p5 := r5.plain (by omega)
  clear hm1 hr1 g1 b1 hB2 HAl
  go_wp2_with fail
  go_loopw [6, 7, 17] (fun vb va vi wr => ∃ (k : Nat) (s : Int × Bool), k ≤ hv.length ∧ vi = .int .i64 k ∧ s = (hv.take k).foldl (mostStep p) (0, false) ∧ vb = .int .i64 s.1 ∧ va = .bool s.2 ∧ Below W2.heap.size W2 wr) (fun _ _ i _ => hv.length - (intOf i).toNat)
  case atStart => exact ⟨0, (0, false), Nat.zero_le _, rfl, rfl, rfl, rfl, Below.refl _ _⟩
  case round =>
    obtain ⟨k, ⟨best, any⟩, hk, rfl, hs, rfl, rfl, hb⟩ := hrel
    have HS := Lib.hid hs
    clear hs
    have hsr := hb.size
    by_cases hlt : k < hv.length
    · have hlt' : (k : Int) < hv.length := by omega
      have hix := fun W => ix31 p2 c2 k hlt W
      have hc := RI.at_ (hr2.fr (S := fun _ => False) (Fr.of_below hb) (fun _ _ => id)) hlt
      have HTk := Lib.hid (HT.out k hlt)
      generalize gd hv k = x at *
      have HPx := Lib.hid (HP.out x)
      have HYs := Lib.hid (yesTo_succ al hv x)
      have HYl := Lib.hid (yesTo_le al hv x)
      have HY0 := Lib.hid (show yesTo al hv x 0 = [] from rfl)
      generalize yesTo al hv x = Y at *
      obtain ⟨wo, rfl⟩ : ∃ wo : World, wo = wr := ⟨_, rfl⟩
      go_wp2_with fail
      go_loopw [10, 23] (fun vy vj wr => ∃ (j : Nat) (A : Option Addr) (c : Nat), j ≤ al.length ∧ vj = .int .i64 j ∧ vy = .slice A (Y j).length c ∧ wr.ownsRow wo.heap.size 3 1 (.slice A (Y j).length c) (Y j).length (ivs (Y j)) ∧ Below wo.heap.size wo wr) (fun _ i _ => al.length - (intOf i).toNat)
      case atStart => exact ⟨0, none, 0, Nat.zero_le _, rfl, by rw [HY0.out]; rfl, by rw [HY0.out]; exact World.ownsRow_nil _ _ _ _, Below.refl _ _⟩
      case round =>
        obtain ⟨j, A, c, hj, rfl, rfl, hown, hbj⟩ := hrel
        have hsj := hbj.size
        have hB := hb.trans (hbj.mono hsr)
        have hYl := HYl.out j
        by_cases hjl : j < al.length
        · have hjl' : (j : Int) < al.length := by omega
          have hixj := fun W => ix22 p5 c5 j hjl W
          have hcj := RI.at_ (r5.fr (S := fun _ => False) (Fr.of_below hB) (fun _ _ => id)) hjl
          have hix2 := fun W => ix31 p2 c2 j (show j < hv.length by omega) W
          have hc2 := RI.at_ (hr2.fr (S := fun _ => False) (Fr.of_below hB) (fun _ _ => id)) (show j < hv.length by omega)
          have HYj := Lib.hid (HYs.out j)
          generalize Y j = U at *
          by_cases hge : x ≤ gd hv j
          · have HS1 := Lib.hid (show Y (j + 1) = U ++ [gd al j] by rw [HYj.out, if_pos hge])
            go_wp2_with (at_builtin; refine wpList_append_any _ rfl _ _ _ rfl wo.heap.size 3 _ 1 8 Try.underlying22 info3 rfl (by omega) (.slice A U.length c) U.length (ivs U) rfl (hown.alloc _) _ (some ⟨wr.heap.size, 0, none⟩) 1 1 [.int .i64 (gd al j)] rfl (Reads.newS _ [.int .i64 (gd al j)] 3 (0, 0) 1 1 rfl _ rfl) (by simp [Value.oneCell']) (by simp only [maxLen]; omega) (by omega) (by simp; omega) ?_; intro A4 c4 w4 hown4 hgr4 hat4)
            have e4 : (U ++ [gd al j]).length = U.length + 1 := by simp
            refine ⟨⟨j + 1, A4, c4, by omega, by go_num, by rw [HS1.out, e4], by rw [HS1.out]; simpa using hown4, (hbj.alloc hsj _).grown hgr4 (by simp; omega) (fun g hg => by have := (hown.lt g hg).1; omega)⟩, by simp [intOf]; omega⟩
          · have HS1 := Lib.hid (show Y (j + 1) = U by rw [HYj.out, if_neg hge]; simp)
            go_wp2_with fail
            exact ⟨⟨j + 1, A, c, by omega, by go_num, by rw [HS1.out], by rw [HS1.out]; exact hown, hbj⟩, by simp [intOf]; omega⟩
        · have hjl' : ¬ (j : Int) < al.length := by omega
          have HYe := Lib.hid (show Y j = Y al.length by rw [show j = al.length by omega])
          have HI := Lib.hid (is_any B _ m A c (Y j) wr (hm2.below hB) (Reads.of_own hown) (by omega))
          have g6 := g2.below hB g2.lt
          obtain ⟨e0, e1, e2⟩ := g6.facts
          have HPx2 := Lib.hid (show p x = reachB m.o m.n (Y j) by rw [HPx.out, HYe.out])
          generalize Y j = U at *
          generalize reachB m.o m.n U = q at *
          have HNw := Lib.hid (show (hv.take (k + 1)).foldl (mostStep p) (0, false) = if (q && (!any || decide (best < x))) = true then (x, true) else (best, any) by rw [HTk.out, ← HS.out]; unfold mostStep; rw [HPx2.out])
          clear HPx2 HPx HYe
          cases q with
          | false =>
            go_wp2_with (go_at_call 12; ((with_reducible refine HI.out.mono ?_); rintro e w6 ⟨rfl, hB6⟩))
            exact ⟨⟨k + 1, (best, any), by omega, by go_num, by rw [HNw.out]; rfl, rfl, rfl, hB.trans (hB6.mono hB.size)⟩, by simp [intOf]; omega⟩
          | true =>
            cases any with
            | false =>
              go_wp2_with (go_at_call 12; ((with_reducible refine HI.out.mono ?_); rintro e w6 ⟨rfl, hB6⟩))
              exact ⟨⟨k + 1, (x, true), by omega, by go_num, by rw [HNw.out]; rfl, rfl, rfl, hB.trans (hB6.mono hB.size)⟩, by simp [intOf]; omega⟩
            | true =>
              by_cases hbx : best < x
              · have HNw2 := Lib.hid (show (hv.take (k + 1)).foldl (mostStep p) (0, false) = (x, true) by rw [HNw.out, if_pos (by simpa using hbx)])
                go_wp2_with (go_at_call 12; ((with_reducible refine HI.out.mono ?_); rintro e w6 ⟨rfl, hB6⟩))
                exact ⟨⟨k + 1, (x, true), by omega, by go_num, by rw [HNw2.out], rfl, rfl, hB.trans (hB6.mono hB.size)⟩, by simp [intOf]; omega⟩
              · have HNw2 := Lib.hid (show (hv.take (k + 1)).foldl (mostStep p) (0, false) = (best, true) by rw [HNw.out, if_neg (by simpa using hbx)])
                go_wp2_with (go_at_call 12; ((with_reducible refine HI.out.mono ?_); rintro e w6 ⟨rfl, hB6⟩))
                exact ⟨⟨k + 1, (best, true), by omega, by go_num, by rw [HNw2.out], rfl, rfl, hB.trans (hB6.mono hB.size)⟩, by simp [intOf]; omega⟩
    · have hge : ¬ ((k : Int) < hv.length) := by omega
      have HK := Lib.hid (show hv.take k = hv from List.take_of_length_le (by omega))
      go_wp2
      go_ret
      exact ⟨by rw [HF.out]; rw [HK.out] at HS; rw [← HS.out]; rfl, b2.trans (hb.mono b2.size)⟩
end Go.Proofs.Ytnpfbpfobbadaaa

import Derived.Test.YtnpfbpfobbadaaaQuo5
import Derived.IntWalk
namespace Go.Quo
def dec1 (a : Int) (h : Bool) : Int := if h = true then a - 1 else a
def smLoop (o n : List Int) : List Int → Int → Int → Int → List Int → List Int
  | [], _, _, _, q => q
  | m :: r, a, b, left, q =>
    if left = 0 then q
    else if missF o n r (dec1 a (hasB o m)) (dec1 b (hasB n m)) = left - 1 then smLoop o n r (dec1 a (hasB o m)) (dec1 b (hasB n m)) (left - 1) (q ++ [m])
    else smLoop o n r a b left q
def majF (l : List Int) : Int := ((l.length / 2 + 1 : Nat) : Int)
def majN (n : List Int) : Int := if 0 < n.length then majF n else 0
def smallF (o n : List Int) : List Int := if vB o n = true then smLoop o n (memF o n) (majF o) (majN n) (missF o n (memF o n) (majF o) (majN n)) [] else []
theorem miss_bd (o n r : List Int) (a b : Int) (hr : r.length ≤ 1000) (ha : a ≤ 1000) (hb : b ≤ 1000) : -1 ≤ missF o n r a b ∧ missF o n r a b ≤ 3100 := by
  unfold missF
  refine best_bd _ _ a b ha hb _ ?_
  have : bothN o n r ≤ r.length := List.length_filter_le _ _
  omega
theorem dec_bd (a : Int) (h : Bool) : a - 1 ≤ dec1 a h ∧ dec1 a h ≤ a := by unfold dec1; split <;> omega
theorem sm_stop (o n ms : List Int) (k : Nat) (a b left : Int) (q : List Int) (h : ms.length ≤ k ∨ left = 0) : smLoop o n (ms.drop k) a b left q = q := by
  cases hd : ms.drop k with
  | nil => rfl
  | cons m r =>
    rcases h with h | h
    · rw [List.drop_eq_nil_of_le h] at hd; cases hd
    · rw [smLoop, if_pos h]
theorem sm_step (o n ms : List Int) (k : Nat) (hk : k < ms.length) (a b left : Int) (q : List Int) (hl : left ≠ 0) : smLoop o n (ms.drop k) a b left q =
    if missF o n (ms.drop (k + 1)) (dec1 a (hasB o (gd ms k))) (dec1 b (hasB n (gd ms k))) = left - 1 then smLoop o n (ms.drop (k + 1)) (dec1 a (hasB o (gd ms k))) (dec1 b (hasB n (gd ms k))) (left - 1) (q ++ [gd ms k])
    else smLoop o n (ms.drop (k + 1)) a b left q := by
  rw [List.drop_eq_getElem_cons hk, smLoop, if_neg hl, gd_get hk]
end Go.Quo
namespace Go.Proofs.Ytnpfbpfobbadaaa
set_option linter.unusedVariables false
open Go.RowKit Go.Own Go.Quo
def cutA (A : Option Addr) (c k : Nat) : Option Addr := if c = k then A else A.map (·.add k)
theorem run_cut {A : Option Addr} {l : List Int} {c : Nat} (k : Nat) (hk : k < l.length) (W : World) :
    (Instr.slice 22 (.slice A l.length c) (some (.int .i64 ((k : Int) + 1))) none none).run Try.prog W = .ok (.slice (cutA A c (k + 1)) (l.drop (k + 1)).length (c - (k + 1))) W := by
  have hu : Try.prog.underlying 22 = some (.slice (Try.prog.elem 22)) := by kernel_rfl
  have he : Try.prog.elem 22 = 3 := by kernel_rfl
  obtain ⟨i3, hi3, hi31⟩ := i3x
  rw [run_slice_l W 22 A l.length c hu .i64 ((k : Int) + 1) (by omega) (by omega), he]
  simp [sizeOf, typeInfo, hi3, hi31, sliced, cutA, List.length_drop]
theorem run_cut2 {A : Option Addr} {l : List Int} {c : Nat} (k : Nat) (hk : k < l.length) (W : World) :
    (Instr.sliceAt 22 (.slice A l.length c) (some (.int .i64 ((k : Int) + 1))) none none).run Try.prog W = .ok (.slice (cutA A c (k + 1)) (l.drop (k + 1)).length (c - (k + 1))) W := by
  have hu : Try.prog.underlying 22 = some (.slice (Try.prog.elem 22)) := by kernel_rfl
  rw [run_sliceAt_slice W 22 _ _ _ _ hu]
  exact run_cut k hk W
theorem RI.cut {w : World} {B : Nat → Prop} {A : Option Addr} {l : List Int} (h : RI w B A l) {k c : Nat} (hk : k ≤ l.length) (hc : l.length ≤ c) : RI w B (cutA A c k) (l.drop k) := by
  have := Reads.cut h hk hc
  simp only [Nat.mul_one] at this
  show Reads w B 1 _ (l.drop k).length _
  rw [List.length_drop, List.map_drop]
  exact this
set_option maxRecDepth 10000 in
set_option maxHeartbeats 1000000 in
theorem smallest_no (B : Nat → Prop) (m : Ms) (w : World) (h : MR w B m) (hv : vB m.o m.n = false) :
    Calls Try.prog 15 #[msV m] w (MemPost (smallF m.o m.n) w) := by
  have HO := Lib.hid (valid_b B m _ (h.alloc (.cells (msC m) 24)) false hv)
  have HE : Hid (smallF m.o m.n = []) := by show _ = _; unfold smallF; rw [if_neg (by simp [hv])]
  clear h hv
  go_enter Try.func15, Try.ntmps15
  go_wp2_with (go_at_call 29; ((with_reducible refine HO.out.mono ?_); rintro e w1 ⟨rfl, rfl⟩))
  go_ret
  rw [HE.out]
  exact ⟨none, 0, rfl, Reads.none_, ((Below.refl _ _).alloc (Nat.le_refl _) _).alloc (by simp) _, Nat.le_refl _⟩
theorem own_below {w w' : World} {base : Nat} {e : TypeId} {size n : Nat} {v : Value} {xs : List Value} (h : w.ownsRow base e size v n xs) (hb : Below w.heap.size w w') : w'.ownsRow base e size v n xs :=
  h.kept (row := none) ⟨hb.os, hb.tape, hb.output, hb.size, fun k hk _ => hb.block k hk⟩ (by cases v.ownBlock <;> simp)
theorem MR.drew {w : World} {B : Nat → Prop} {m : Ms} (h : MR w B m) : MR w.drew B m := ⟨h.o.drew, h.n.drew, h.ol, h.nl⟩
set_option maxRecDepth 10000 in
set_option maxHeartbeats 10000000 in
theorem smallest_yes (B : Nat → Prop) (m : Ms) (w : World) (h : MR w B m) (hv : vB m.o m.n = true) :
    Calls Try.prog 15 #[msV m] w (MemPost (smallF m.o m.n) w) := by
  have HO := Lib.hid (valid_b B m _ (h.alloc (.cells (msC m) 24)) true hv)
  have hlen := v_lens hv
  have HE : Hid (smallF m.o m.n = smLoop m.o m.n (memF m.o m.n) (majF m.o) (majN m.n) (missF m.o m.n (memF m.o m.n) (majF m.o) (majN m.n)) []) := by show _ = _; unfold smallF; rw [if_pos hv]
  have HMm := Lib.hid fun W' (hh : MR W' B m) => members_yes B m W' hh hv
  have hms := memF_le m.o m.n
  generalize memF m.o m.n = ms at *
  clear hv
  go_enter Try.func15, Try.ntmps15
  go_wp2_with (go_at_call 29; ((with_reducible refine HO.out.mono ?_); rintro e w1 ⟨rfl, rfl⟩))
  have hw1 := (h.alloc (.cells (msC m) 24)).alloc (.cells (msC m) 24)
  have g1 : Blk ((w.alloc (.cells (msC m) 24)).alloc (.cells (msC m) 24)) w.heap.size 24 (msC m) := (Blk.new w 24 _).alloc _
  have b1 : Below w.heap.size w ((w.alloc (.cells (msC m) 24)).alloc (.cells (msC m) 24)) := ((Below.refl _ _).alloc (Nat.le_refl _) _).alloc (by simp) _
  clear h
  generalize (w.alloc (.cells (msC m) 24)).alloc (.cells (msC m) 24) = W1 at *
  refine (HMm.out W1 hw1).mono ?_
  rintro e W2 ⟨A3, c3, rfl, hr2, hB2, hc3⟩
  have hm2 := hw1.below hB2
  have g2 := g1.below hB2 g1.lt
  have b2 := b1.trans (hB2.mono b1.size)
  obtain ⟨q0, q1, q2⟩ := g2.facts
  have HJo := Lib.hid fun W' => (show Calls Try.prog 37 #[.slice m.A m.o.length m.c] W' fun e w' => e = .returned (.int .i64 (majF m.o)) ∧ W' = w' from majority_any m.A m.o.length m.c W' (by omega))
  have HJn := Lib.hid fun W' => (show Calls Try.prog 37 #[.slice m.A' m.n.length m.c'] W' fun e w' => e = .returned (.int .i64 (majF m.n)) ∧ W' = w' from majority_any m.A' m.n.length m.c' W' (by omega))
  have p3 := hr2.plain (by omega)
  have hxo : 0 ≤ majF m.o ∧ majF m.o ≤ 10 := by unfold majF; omega
  have hxn : 0 ≤ majF m.n ∧ majF m.n ≤ 10 := by unfold majF; omega
  have HE2 : Hid (smallF m.o m.n = smLoop m.o m.n ms (majF m.o) (if 0 < m.n.length then majF m.n else 0) (missF m.o m.n ms (majF m.o) (if 0 < m.n.length then majF m.n else 0)) []) := HE
  generalize majF m.o = x0 at *
  generalize majF m.n = y0 at *
  clear hw1 g1 b1 hB2 HO HMm HE
  have HMs := Lib.hid fun (x y : Int) (hx0 : 0 ≤ x) (hx1 : x ≤ 100) (hy0 : 0 ≤ y) (hy1 : y ≤ 100) => missing_any B _ m A3 c3 ms x y W2 hm2 hr2 (by omega) (by omega) (by omega) (by omega) (by omega)
  have HLoop : Hid (∃ yy : Int, 0 ≤ yy ∧ yy ≤ 10 ∧ ((0 < m.n.length ∧ yy = y0) ∨ (¬ 0 < m.n.length ∧ yy = 0)) ∧ smallF m.o m.n = smLoop m.o m.n ms x0 yy (missF m.o m.n ms x0 yy) []) := by
    show ∃ _, _
    by_cases hn : 0 < m.n.length
    · exact ⟨y0, hxn.1, hxn.2, .inl ⟨hn, rfl⟩, by have := HE2.out; rwa [if_pos hn] at this⟩
    · exact ⟨0, by omega, by omega, .inr ⟨hn, rfl⟩, by have := HE2.out; rwa [if_neg hn] at this⟩
  obtain ⟨yy, hyy0, hyy1, hcase, hsm⟩ := HLoop.out
  have HSm := Lib.hid hsm
  have hz := miss_bd m.o m.n ms x0 yy (by omega) (by omega) (by omega)
  clear hsm HLoop HE2
  rcases hcase with ⟨hn, rfl⟩ | ⟨hn, rfl⟩
  · have hn' : (0 : Int) < m.n.length := by omega
    have HMs2 := Lib.hid (HMs.out x0 yy hxo.1 (by omega) hyy0 (by omega))
    clear HMs
    generalize missF m.o m.n ms x0 yy = z0 at *
    go_wp2_with (first
      | (go_at_call 37; ((with_reducible refine (HJo.out _).mono ?_); rintro e w3 ⟨rfl, rfl⟩))
      | (go_at_call 37; ((with_reducible refine (HJn.out _).mono ?_); rintro e w3 ⟨rfl, rfl⟩))
      | (go_at_call 38; ((with_reducible refine HMs2.out.mono ?_); rintro e W5 ⟨rfl, hB5⟩)))
    have hm5 := hm2.below hB5
    have g5 := g2.below hB5 g2.lt
    have b5 := b2.trans (hB5.mono b2.size)
    have hr5 := (hr2.old (by omega)).below hB5 (fun _ hk => hk.2)
    have hs25 := hB5.size
    have h5lt := g5.lt
    clear hm2 g2 hr2 q0 q1 q2 hB5 HMs2 HJo HJn b2
    go_loopw [4, 5, 6, 7, 34] (fun va vb vl vq vi wr => ∃ (k : Nat) (x y z : Int) (qs : List Int) (A : Option Addr) (c : Nat), k ≤ ms.length ∧ vi = .int .i64 k ∧ va = .int .i64 x ∧ vb = .int .i64 y ∧ vl = .int .i64 z ∧ vq = .slice A qs.length c ∧ wr.ownsRow W5.heap.size 3 1 (.slice A qs.length c) qs.length (qs.map (Value.int .i64)) ∧ qs.length ≤ k ∧ (-(k : Int) ≤ x ∧ x ≤ 10) ∧ (-(k : Int) ≤ y ∧ y ≤ 10) ∧ (-1 - (k : Int) ≤ z ∧ z ≤ 3100) ∧ smallF m.o m.n = smLoop m.o m.n (ms.drop k) x y z qs ∧ Below W5.heap.size W5 wr) (fun _ _ _ _ i _ => ms.length - (intOf i).toNat)
    case atStart => exact ⟨0, x0, yy, z0, [], none, 0, Nat.zero_le _, rfl, rfl, rfl, rfl, rfl, World.ownsRow_nil _ _ _ _, Nat.le_refl _, by omega, by omega, by omega, HSm.out, Below.refl _ _⟩
    case round =>
      obtain ⟨k, x, y, z, qs, A, c, hk, rfl, rfl, rfl, rfl, rfl, hown, hqk, hx, hy, hzz, hsm, hbr⟩ := hrel
      have HS2 := Lib.hid hsm
      clear hsm HSm
      have hszr := hbr.size
      have gr := g5.below hbr g5.lt
      have hmr := hm5.below hbr
      have hrr := hr5.below hbr (fun _ hk => Nat.lt_of_lt_of_le hk.2 hs25)
      obtain ⟨q0, q1, q2⟩ := gr.facts
      by_cases hlt : k < ms.length
      · have hlt' : (k : Int) < ms.length := by omega
        have hix := fun W => ix22 p3 c3 k hlt W
        have c0 := RI.at_ hrr hlt
        by_cases hz0 : z = 0
        · have HF := Lib.hid (show smallF m.o m.n = qs by rw [HS2.out]; exact sm_stop _ _ _ _ _ _ _ _ (.inr hz0))
          have hzb : (z == 0) = true := by rw [hz0]; rfl
          clear hz0 HS2
          generalize gd ms k = mm at *
          go_wp2
          go_ret
          rw [HF.out]
          refine ⟨A, c, rfl, ?_, b5.trans (hbr.mono b5.size), ?_⟩
          · exact (Reads.of_own hown).more (fun j hj => by have := (hown.lt j hj).1; omega)
          · rcases hown.2 with ⟨e, _⟩ | ⟨g, cap, cur, e, _, _, hnc, _⟩
            · injection e with e1 e2 e3; omega
            · injection e with e1 e2 e3; omega
        have hzb : (z == 0) = false := by rw [beq_eq_false_iff_ne]; exact hz0
        have HStep := Lib.hid (sm_step m.o m.n ms k hlt x y z qs hz0)
        have hdr : (ms.drop (k + 1)).length ≤ 64 := by simp; omega
        have HCut := Lib.hid (RI.cut hrr (k := k + 1) (by omega) hc3)
        have hsl := fun W => run_cut (A := A3) (c := c3) k hlt W
        have hsl2 := fun W => run_cut2 (A := A3) (c := c3) k hlt W
        have HW1 := Lib.hid (IntWalk.i64_in ((k : Int) + 1) (by omega))
        have HW2 := Lib.hid (IntWalk.i64_in (z - 1) (by omega))
        have HW3 : Hid (((k : Int) + 1).toNat = k + 1) := by show _ = _; omega
        have hk10 : (0 : Int) ≤ (k : Int) + 1 := by omega
        clear hz0
        have HCo := Lib.hid fun q hq => contains_b B m.A m.c m.o (gd ms k) wr hmr.o hmr.ol q hq
        have HCn := Lib.hid fun q hq => contains_b B m.A' m.c' m.n (gd ms k) wr hmr.n hmr.nl q hq
        generalize gd ms k = mm at *
        have db1 := dec_bd x (hasB m.o mm)
        have db2 := dec_bd y (hasB m.n mm)
        have HMs := Lib.hid fun (x' y' : Int) (h1 : -1000 ≤ x') (h2 : x' ≤ 1000) (h3 : -1000 ≤ y') (h4 : y' ≤ 1000) => missing_any B _ m (cutA A3 c3 (k + 1)) (c3 - (k + 1)) (ms.drop (k + 1)) x' y' wr.drew hmr.drew HCut.out.drew (by omega) h1 h2 h3 h4
        have HM7 := HMs.out (dec1 x (hasB m.o mm)) (dec1 y (hasB m.n mm)) (by omega) (by omega) (by omega) (by omega)
        generalize hrest : ms.drop (k + 1) = rest at *
        have HRest := Lib.hid hrest; clear hrest
        generalize missF m.o m.n rest (dec1 x (hasB m.o mm)) (dec1 y (hasB m.n mm)) = v at HStep HM7
        have hs := HStep.out
        rw [← HS2.out] at hs
        clear HS2 HStep HMs
        cases hvz : (v == z - 1)
        · have hvz' : ¬ v = z - 1 := by simpa using hvz
          rw [if_neg hvz'] at hs
          have HS3 := Lib.hid hs
          clear hs hvz' db1 db2
          cases ho : hasB m.o mm <;> cases hn2 : hasB m.n mm
          all_goals
            rw [ho, hn2] at HM7
            simp only [dec1, if_true, Bool.false_eq_true, if_false] at HM7
            have HM8 := Lib.hid HM7
            have HC1 := Lib.hid (HCo.out _ ho)
            have HC2 := Lib.hid (HCn.out _ hn2)
            clear HM7 ho hn2 HCo HCn
            go_wp2_with (first
              | (go_at_call 39; ((with_reducible refine HC1.out.mono ?_); rintro e w6 ⟨rfl, rfl⟩))
              | (go_at_call 39; ((with_reducible refine HC2.out.mono ?_); rintro e w6 ⟨rfl, rfl⟩)))
            have hw1 := HW1.out; have hw2 := HW2.out; have hw3 := HW3.out
            go_region_with (go_at_call 38; ((with_reducible refine HM8.out.mono ?_); rintro e w7 ⟨rfl, hB7⟩))
            all_goals
              clear hw1 hw2 hw3
              have hB7' : Below wr.heap.size wr w7 := ((Below.refl wr.heap.size wr).drew).trans hB7
              go_wp2
              go_roundw
              case rel => exact ⟨k + 1, x, y, z, qs, A, c, by omega, by go_num, rfl, rfl, rfl, rfl, own_below hown hB7', by omega, by omega, by omega, by omega, by rw [HRest.out]; exact HS3.out, hbr.trans (hB7'.mono hszr)⟩
              case measure => simp [intOf]; omega
        · have hvz' : v = z - 1 := by simpa using hvz
          rw [if_pos hvz'] at hs
          have HS3 := Lib.hid hs
          clear hs hvz'
          cases ho : hasB m.o mm <;> cases hn2 : hasB m.n mm
          all_goals
            rw [ho] at db1
            rw [hn2] at db2
            rw [ho, hn2] at HM7 HS3
            simp only [dec1, if_true, Bool.false_eq_true, if_false] at HM7 HS3 db1 db2
            have HM8 := Lib.hid HM7
            have HC1 := Lib.hid (HCo.out _ ho)
            have HC2 := Lib.hid (HCn.out _ hn2)
            clear HM7 ho hn2 HCo HCn
            go_wp2_with (first
              | (go_at_call 39; ((with_reducible refine HC1.out.mono ?_); rintro e w6 ⟨rfl, rfl⟩))
              | (go_at_call 39; ((with_reducible refine HC2.out.mono ?_); rintro e w6 ⟨rfl, rfl⟩)))
            have hw1 := HW1.out; have hw2 := HW2.out; have hw3 := HW3.out
            go_region_with (go_at_call 38; ((with_reducible refine HM8.out.mono ?_); rintro e w7 ⟨rfl, hB7⟩))
            all_goals
              clear hw1 hw2 hw3
              have hB7' : Below wr.heap.size wr w7 := ((Below.refl wr.heap.size wr).drew).trans hB7
              have hown7 := own_below hown hB7'
              have hb7 := hbr.trans (hB7'.mono hszr)
              have hs7 := hb7.size
              have hql : qs.length ≤ 64 := by omega
              go_wp2_with (at_builtin; refine wpList_append_any _ rfl _ _ _ rfl W5.heap.size 3 (.int .i64 0) 1 8 Try.underlying22 info3 rfl (by omega) (.slice A qs.length c) qs.length (qs.map (Value.int .i64)) rfl (hown7.alloc _) _ (some ⟨w7.heap.size, 0, none⟩) 1 1 [.int .i64 mm] rfl (Reads.newS _ [.int .i64 mm] 3 (0, 0) 1 1 rfl _ rfl) (by simp [Value.oneCell']) (by simp only [maxLen]; omega) (by omega) (by simp; omega) ?_; intro A8 c8 w8 hown8 hgr8 hat8)
              go_roundw
              case rel =>
                have hrow : ∀ g, (Value.slice A qs.length c).ownBlock = some g → W5.heap.size ≤ g := fun g hg => (hown.lt g hg).1
                have el : (qs ++ [mm]).length = qs.length + 1 := by simp
                refine ⟨k + 1, _, _, z - 1, qs ++ [mm], A8, c8, by omega, by go_num, rfl, rfl, rfl, by rw [el], ?_, by rw [el]; omega, by omega, by omega, by omega, by rw [HRest.out]; exact HS3.out, ?_⟩
                · rw [el]; simpa using hown8
                · exact (hb7.alloc hs7 _).grown hgr8 (by simp; omega) (fun g hg => hrow g hg)
              case measure => simp [intOf]; omega
      · have hge : ¬ ((k : Int) < ms.length) := by omega
        have HF := Lib.hid (show smallF m.o m.n = qs by rw [HS2.out]; exact sm_stop _ _ _ _ _ _ _ _ (.inl (by omega)))
        clear HS2
        go_wp2
        go_ret
        rw [HF.out]
        refine ⟨A, c, rfl, ?_, b5.trans (hbr.mono b5.size), ?_⟩
        · exact (Reads.of_own hown).more (fun j hj => by have := (hown.lt j hj).1; have := b5.size; omega)
        · rcases hown.2 with ⟨e, _⟩ | ⟨g, cap, cur, e, _, _, hnc, _⟩
          · injection e with e1 e2 e3; omega
          · injection e with e1 e2 e3; omega
  · have hn' : ¬ (0 : Int) < m.n.length := by omega
    have HMs2 := Lib.hid (HMs.out x0 0 hxo.1 (by omega) (by omega) (by omega))
    clear HMs
    generalize missF m.o m.n ms x0 0 = z0 at *
    go_wp2_with (first
      | (go_at_call 37; ((with_reducible refine (HJo.out _).mono ?_); rintro e w3 ⟨rfl, rfl⟩))
      | (go_at_call 38; ((with_reducible refine HMs2.out.mono ?_); rintro e W5 ⟨rfl, hB5⟩)))
    have hm5 := hm2.below hB5
    have g5 := g2.below hB5 g2.lt
    have b5 := b2.trans (hB5.mono b2.size)
    have hr5 := (hr2.old (by omega)).below hB5 (fun _ hk => hk.2)
    have hs25 := hB5.size
    have h5lt := g5.lt
    clear hm2 g2 hr2 q0 q1 q2 hB5 HMs2 HJo HJn b2
    go_loopw [4, 5, 6, 7, 34] (fun va vb vl vq vi wr => ∃ (k : Nat) (x y z : Int) (qs : List Int) (A : Option Addr) (c : Nat), k ≤ ms.length ∧ vi = .int .i64 k ∧ va = .int .i64 x ∧ vb = .int .i64 y ∧ vl = .int .i64 z ∧ vq = .slice A qs.length c ∧ wr.ownsRow W5.heap.size 3 1 (.slice A qs.length c) qs.length (qs.map (Value.int .i64)) ∧ qs.length ≤ k ∧ (-(k : Int) ≤ x ∧ x ≤ 10) ∧ (-(k : Int) ≤ y ∧ y ≤ 10) ∧ (-1 - (k : Int) ≤ z ∧ z ≤ 3100) ∧ smallF m.o m.n = smLoop m.o m.n (ms.drop k) x y z qs ∧ Below W5.heap.size W5 wr) (fun _ _ _ _ i _ => ms.length - (intOf i).toNat)
    case atStart => exact ⟨0, x0, 0, z0, [], none, 0, Nat.zero_le _, rfl, rfl, rfl, rfl, rfl, World.ownsRow_nil _ _ _ _, Nat.le_refl _, by omega, by omega, by omega, HSm.out, Below.refl _ _⟩
    case round =>
      obtain ⟨k, x, y, z, qs, A, c, hk, rfl, rfl, rfl, rfl, rfl, hown, hqk, hx, hy, hzz, hsm, hbr⟩ := hrel
      have HS2 := Lib.hid hsm
      clear hsm HSm
      have hszr := hbr.size
      have gr := g5.below hbr g5.lt
      have hmr := hm5.below hbr
      have hrr := hr5.below hbr (fun _ hk => Nat.lt_of_lt_of_le hk.2 hs25)
      obtain ⟨q0, q1, q2⟩ := gr.facts
      by_cases hlt : k < ms.length
      · have hlt' : (k : Int) < ms.length := by omega
        have hix := fun W => ix22 p3 c3 k hlt W
        have c0 := RI.at_ hrr hlt
        by_cases hz0 : z = 0
        · have HF := Lib.hid (show smallF m.o m.n = qs by rw [HS2.out]; exact sm_stop _ _ _ _ _ _ _ _ (.inr hz0))
          have hzb : (z == 0) = true := by rw [hz0]; rfl
          clear hz0 HS2
          generalize gd ms k = mm at *
          go_wp2
          go_ret
          rw [HF.out]
          refine ⟨A, c, rfl, ?_, b5.trans (hbr.mono b5.size), ?_⟩
          · exact (Reads.of_own hown).more (fun j hj => by have := (hown.lt j hj).1; omega)
          · rcases hown.2 with ⟨e, _⟩ | ⟨g, cap, cur, e, _, _, hnc, _⟩
            · injection e with e1 e2 e3; omega
            · injection e with e1 e2 e3; omega
        have hzb : (z == 0) = false := by rw [beq_eq_false_iff_ne]; exact hz0
        have HStep := Lib.hid (sm_step m.o m.n ms k hlt x y z qs hz0)
        have hdr : (ms.drop (k + 1)).length ≤ 64 := by simp; omega
        have HCut := Lib.hid (RI.cut hrr (k := k + 1) (by omega) hc3)
        have hsl := fun W => run_cut (A := A3) (c := c3) k hlt W
        have hsl2 := fun W => run_cut2 (A := A3) (c := c3) k hlt W
        have HW1 := Lib.hid (IntWalk.i64_in ((k : Int) + 1) (by omega))
        have HW2 := Lib.hid (IntWalk.i64_in (z - 1) (by omega))
        have HW3 : Hid (((k : Int) + 1).toNat = k + 1) := by show _ = _; omega
        have hk10 : (0 : Int) ≤ (k : Int) + 1 := by omega
        clear hz0
        have HCo := Lib.hid fun q hq => contains_b B m.A m.c m.o (gd ms k) wr hmr.o hmr.ol q hq
        have HCn := Lib.hid fun q hq => contains_b B m.A' m.c' m.n (gd ms k) wr hmr.n hmr.nl q hq
        generalize gd ms k = mm at *
        have db1 := dec_bd x (hasB m.o mm)
        have db2 := dec_bd y (hasB m.n mm)
        have HMs := Lib.hid fun (x' y' : Int) (h1 : -1000 ≤ x') (h2 : x' ≤ 1000) (h3 : -1000 ≤ y') (h4 : y' ≤ 1000) => missing_any B _ m (cutA A3 c3 (k + 1)) (c3 - (k + 1)) (ms.drop (k + 1)) x' y' wr.drew hmr.drew HCut.out.drew (by omega) h1 h2 h3 h4
        have HM7 := HMs.out (dec1 x (hasB m.o mm)) (dec1 y (hasB m.n mm)) (by omega) (by omega) (by omega) (by omega)
        generalize hrest : ms.drop (k + 1) = rest at *
        have HRest := Lib.hid hrest; clear hrest
        generalize missF m.o m.n rest (dec1 x (hasB m.o mm)) (dec1 y (hasB m.n mm)) = v at HStep HM7
        have hs := HStep.out
        rw [← HS2.out] at hs
        clear HS2 HStep HMs
        cases hvz : (v == z - 1)
        · have hvz' : ¬ v = z - 1 := by simpa using hvz
          rw [if_neg hvz'] at hs
          have HS3 := Lib.hid hs
          clear hs hvz' db1 db2
          cases ho : hasB m.o mm <;> cases hn2 : hasB m.n mm
          all_goals
            rw [ho, hn2] at HM7
            simp only [dec1, if_true, Bool.false_eq_true, if_false] at HM7
            have HM8 := Lib.hid HM7
            have HC1 := Lib.hid (HCo.out _ ho)
            have HC2 := Lib.hid (HCn.out _ hn2)
            clear HM7 ho hn2 HCo HCn
            go_wp2_with (first
              | (go_at_call 39; ((with_reducible refine HC1.out.mono ?_); rintro e w6 ⟨rfl, rfl⟩))
              | (go_at_call 39; ((with_reducible refine HC2.out.mono ?_); rintro e w6 ⟨rfl, rfl⟩)))
            have hw1 := HW1.out; have hw2 := HW2.out; have hw3 := HW3.out
            go_region_with (go_at_call 38; ((with_reducible refine HM8.out.mono ?_); rintro e w7 ⟨rfl, hB7⟩))
            all_goals
              clear hw1 hw2 hw3
              have hB7' : Below wr.heap.size wr w7 := ((Below.refl wr.heap.size wr).drew).trans hB7
              go_wp2
              go_roundw
              case rel => exact ⟨k + 1, x, y, z, qs, A, c, by omega, by go_num, rfl, rfl, rfl, rfl, own_below hown hB7', by omega, by omega, by omega, by omega, by rw [HRest.out]; exact HS3.out, hbr.trans (hB7'.mono hszr)⟩
              case measure => simp [intOf]; omega
        · have hvz' : v = z - 1 := by simpa using hvz
          rw [if_pos hvz'] at hs
          have HS3 := Lib.hid hs
          clear hs hvz'
          cases ho : hasB m.o mm <;> cases hn2 : hasB m.n mm
          all_goals
            rw [ho] at db1
            rw [hn2] at db2
            rw [ho, hn2] at HM7 HS3
            simp only [dec1, if_true, Bool.false_eq_true, if_false] at HM7 HS3 db1 db2
            have HM8 := Lib.hid HM7
            have HC1 := Lib.hid (HCo.out _ ho)
            have HC2 := Lib.hid (HCn.out _ hn2)
            clear HM7 ho hn2 HCo HCn
            go_wp2_with (first
              | (go_at_call 39; ((with_reducible refine HC1.out.mono ?_); rintro e w6 ⟨rfl, rfl⟩))
              | (go_at_call 39; ((with_reducible refine HC2.out.mono ?_); rintro e w6 ⟨rfl, rfl⟩)))
            have hw1 := HW1.out; have hw2 := HW2.out; have hw3 := HW3.out
            go_region_with (go_at_call 38; ((with_reducible refine HM8.out.mono ?_); rintro e w7 ⟨rfl, hB7⟩))
            all_goals
              clear hw1 hw2 hw3
              have hB7' : Below wr.heap.size wr w7 := ((Below.refl wr.heap.size wr).drew).trans hB7
              have hown7 := own_below hown hB7'
              have hb7 := hbr.trans (hB7'.mono hszr)
              have hs7 := hb7.size
              have hql : qs.length ≤ 64 := by omega
              go_wp2_with (at_builtin; refine wpList_append_any _ rfl _ _ _ rfl W5.heap.size 3 (.int .i64 0) 1 8 Try.underlying22 info3 rfl (by omega) (.slice A qs.length c) qs.length (qs.map (Value.int .i64)) rfl (hown7.alloc _) _ (some ⟨w7.heap.size, 0, none⟩) 1 1 [.int .i64 mm] rfl (Reads.newS _ [.int .i64 mm] 3 (0, 0) 1 1 rfl _ rfl) (by simp [Value.oneCell']) (by simp only [maxLen]; omega) (by omega) (by simp; omega) ?_; intro A8 c8 w8 hown8 hgr8 hat8)
              go_roundw
              case rel =>
                have hrow : ∀ g, (Value.slice A qs.length c).ownBlock = some g → W5.heap.size ≤ g := fun g hg => (hown.lt g hg).1
                have el : (qs ++ [mm]).length = qs.length + 1 := by simp
                refine ⟨k + 1, _, _, z - 1, qs ++ [mm], A8, c8, by omega, by go_num, rfl, rfl, rfl, by rw [el], ?_, by rw [el]; omega, by omega, by omega, by omega, by rw [HRest.out]; exact HS3.out, ?_⟩
                · rw [el]; simpa using hown8
                · exact (hb7.alloc hs7 _).grown hgr8 (by simp; omega) (fun g hg => hrow g hg)
              case measure => simp [intOf]; omega
      · have hge : ¬ ((k : Int) < ms.length) := by omega
        have HF := Lib.hid (show smallF m.o m.n = qs by rw [HS2.out]; exact sm_stop _ _ _ _ _ _ _ _ (.inl (by omega)))
        clear HS2
        go_wp2
        go_ret
        rw [HF.out]
        refine ⟨A, c, rfl, ?_, b5.trans (hbr.mono b5.size), ?_⟩
        · exact (Reads.of_own hown).more (fun j hj => by have := (hown.lt j hj).1; have := b5.size; omega)
        · rcases hown.2 with ⟨e, _⟩ | ⟨g, cap, cur, e, _, _, hnc, _⟩
          · injection e with e1 e2 e3; omega
          · injection e with e1 e2 e3; omega
theorem smallest_any (B : Nat → Prop) (m : Ms) (w : World) (h : MR w B m) : Calls Try.prog 15 #[msV m] w (MemPost (smallF m.o m.n) w) := by
  cases hv : vB m.o m.n with
  | false => exact smallest_no B m w h hv
  | true => exact smallest_yes B m w h hv
end Go.Proofs.Ytnpfbpfobbadaaa

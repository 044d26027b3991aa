import Derived.Test.YtnpfbpfobbadaaaSml1
namespace Go.Quo
theorem reach_ne {o n l : List Int} (h : reachB o n l = true) : 0 < l.length := by
  obtain ⟨_, h1, _⟩ := reach_parts h
  cases l with
  | nil =>
    unfold conQ cnt at h1
    have : o.filter (hasB []) = [] := List.filter_eq_nil_iff.2 (fun x _ => by simp [hasB])
    rw [this] at h1
    simp at h1
  | cons => simp
end Go.Quo
namespace Go.Proofs.Ytnpfbpfobbadaaa
set_option linter.unusedVariables false
open Go.RowKit Go.Own Go.Quo Go.Wire
set_option maxRecDepth 10000 in
set_option maxHeartbeats 4000000 in
theorem least_any (B : Nat → Prop) (m : Ms) (w : World) (h : MR w B m) (hL : (allV m.o m.n).length ≤ 12) :
    Calls Try.prog 17 #[msV m] w (IntsPost ((leastF m.o m.n).getD []) w) := by
  have hm1 := h.alloc (.cells (msC m) 24)
  have g1 : Blk (w.alloc (.cells (msC m) 24)) w.heap.size 24 (msC m) := Blk.new w 24 _
  have b1 : Below w.heap.size w (w.alloc (.cells (msC m) 24)) := (Below.refl _ _).alloc (Nat.le_refl _) _
  have HAl := Lib.hid fun W' (x : MR W' B m) => all_any B m W' x
  have HF := Lib.hid (show leastF m.o m.n = leastTo (reachB m.o m.n) (allV m.o m.n) (2 ^ (allV m.o m.n).length - 1) from rfl)
  have HNe := Lib.hid fun l (h : reachB m.o m.n l = true) => reach_ne h
  have HSub := Lib.hid fun b => (pick_sub (allV m.o m.n) b).length_le
  have HSu := Lib.hid (leastTo_succ (reachB m.o m.n) (allV m.o m.n))
  have HS0 := Lib.hid (show leastTo (reachB m.o m.n) (allV m.o m.n) 0 = none from rfl)
  generalize leastF m.o m.n = LF at *
  generalize allV m.o m.n = al at *
  have hpw : 2 ^ al.length ≤ 2 ^ 12 := Nat.pow_le_pow_right (by decide) hL
  have hpw2 : 2 ^ al.length ≤ 4096 := hpw
  have hpw1 : 1 ≤ 2 ^ al.length := Nat.one_le_two_pow
  obtain ⟨N, hN⟩ : ∃ N : Nat, N = 2 ^ al.length := ⟨_, rfl⟩
  have hNi : (2 : Int) ^ al.length = (N : Int) := by rw [hN]; simp
  rw [← hN] at HF hpw2 hpw1
  have HN := Lib.hid hN
  clear hN hpw h
  have hwr : IntKind.i64.wrap (N : Int) = N := IntWalk.i64_in _ (by omega)
  have hnil1 : ∀ W : World, (binOp .eql 22 (.slice none 0 0) (.slice none 0 0)).run Try.prog W = .ok (.bool true) W := fun _ => by rfl
  have hnil2 : ∀ (a : Addr) (n c : Nat) (W : World), (binOp .eql 22 (.slice (some a) n c) (.slice none 0 0)).run Try.prog W = .ok (.bool false) W := fun _ _ _ _ => by rfl
  go_enter Try.func17, Try.ntmps17
  go_wp2_with fail
  generalize w.alloc (.cells (msC m) 24) = W1 at *
  refine (HAl.out W1 hm1).mono ?_
  rintro e W2 ⟨A5, c5, rfl, r5, hB2⟩
  have hm2 := hm1.below hB2
  have g2 := g1.below hB2 g1.lt
  have b2 := b1.trans (hB2.mono b1.size)
  have p5 := r5.plain (by omega)
  clear hm1 g1 b1 hB2 HAl
  go_wp2_with fail
  go_loopw [4, 5] (fun vb vi wr => ∃ (t : Nat) (s : Option (List Int)), 1 ≤ t ∧ t ≤ N ∧ vi = .int .i64 (t : Int) ∧ s = leastTo (reachB m.o m.n) al (t - 1) ∧ ((s = none ∧ vb = .slice none 0 0) ∨ ∃ (l : List Int) (b o c : Nat), s = some l ∧ vb = .slice (some ⟨b, o, none⟩) l.length c ∧ l.length ≤ 12 ∧ RI wr (w.heap.size ≤ ·) (some ⟨b, o, none⟩) l) ∧ Below W2.heap.size W2 wr) (fun _ i _ => N - (intOf i).toNat)
  case atStart => exact ⟨1, none, by omega, by omega, rfl, HS0.out.symm, .inl ⟨rfl, rfl⟩, Below.refl _ _⟩
  case round =>
    obtain ⟨t, s, ht, hk, rfl, hs, hst, hb⟩ := hrel
    have HS := Lib.hid hs
    clear hs HS0
    have hsr := hb.size
    have sw := b2.size
    by_cases hlt : t < N
    · have hlt' : (t : Int) < N := by omega
      have HPk := Lib.hid (pick_any _ A5 al c5 t wr (r5.fr (S := fun _ => False) (Fr.of_below hb) (fun _ _ => id)) (by omega) (by omega))
      have hl12 := HSub.out t
      have HSk := Lib.hid (show leastTo (reachB m.o m.n) al t = leastStep (reachB m.o m.n) (leastTo (reachB m.o m.n) al (t - 1)) (pickF al t) by have := HSu.out (t - 1); rwa [show t - 1 + 1 = t by omega] at this)
      have HNl := Lib.hid (HNe.out (pickF al t))
      generalize pickF al t = l at *
      have HSk2 := Lib.hid (show leastTo (reachB m.o m.n) al t = leastStep (reachB m.o m.n) s l by rw [HSk.out, ← HS.out])
      have gr := g2.below hb g2.lt
      have HI := Lib.hid fun (W' : World) (B' : Nat → Prop) (A' : Option Addr) (c' : Nat) (x : RI W' B' A' l) (y : MR W' B m) => is_any B B' m A' c' l W' y x (by omega)
      have HAh := Lib.hid fun (W' : World) (B' B'' : Nat → Prop) (A' A'' : Option Addr) (c' c'' : Nat) (l' : List Int) (hl' : l'.length ≤ 12) (x : RI W' B' A' l) (y : RI W' B'' A'' l') => ahead_any B' B'' A' A'' l l' c' c'' W' x y (by omega) (by omega)
      have HStep := Lib.hid (show leastStep (reachB m.o m.n) s l = if (reachB m.o m.n l && betterB s l) = true then some l else s from rfl)
      generalize leastTo (reachB m.o m.n) al = LT at *
      generalize leastStep (reachB m.o m.n) s l = st' at *
      generalize reachB m.o m.n l = q at *
      clear r5
      cases q with
      | false =>
        have HE := Lib.hid (show LT t = s by rw [HSk2.out, HStep.out]; rfl)
        go_wp2_with (first
          | (go_at_call 40; ((with_reducible refine HPk.out.mono ?_); rintro e w6 ⟨A6, c6, rfl, r6, hB6⟩; have B6 := hb.trans (hB6.mono hsr); have HI6 := Lib.hid (HI.out w6 _ _ c6 r6 (hm2.below B6)); obtain ⟨y0, y1, y2⟩ := (g2.below B6 g2.lt).facts))
          | (go_at_call 12; ((with_reducible refine HI6.out.mono ?_); rintro e w7 ⟨rfl, hB7⟩; have B7 := B6.trans (hB7.mono B6.size))))
        refine ⟨⟨t + 1, s, by omega, by omega, by go_num, HE.out.symm, ?_, B7⟩, by simp [intOf]; omega⟩
        rcases hst with h1 | ⟨l', b', o', c', h1, h2, h3, h4⟩
        · exact .inl h1
        · exact .inr ⟨l', b', o', c', h1, h2, h3, (h4.fr (S := fun _ => False) (Fr.of_below hB6) (fun _ _ => id)).fr (S := fun _ => False) (Fr.of_below hB7) (fun _ _ => id)⟩
      | true =>
        have hl0 := HNl.out rfl
        rcases hst with ⟨rfl, rfl⟩ | ⟨l', b', o', c', rfl, rfl, h3, h4⟩
        · have HE := Lib.hid (show LT t = some l by rw [HSk2.out, HStep.out]; rfl)
          go_wp2_with (first
            | (go_at_call 40; ((with_reducible refine HPk.out.mono ?_); rintro e w6 ⟨A6, c6, rfl, r6, hB6⟩; obtain ⟨bb, oo, rfl⟩ := r6.plain (by omega) hl0; have B6 := hb.trans (hB6.mono hsr); have HI6 := Lib.hid (HI.out w6 _ _ c6 r6 (hm2.below B6)); obtain ⟨y0, y1, y2⟩ := (g2.below B6 g2.lt).facts))
            | (go_at_call 12; ((with_reducible refine HI6.out.mono ?_); rintro e w7 ⟨rfl, hB7⟩; have B7 := B6.trans (hB7.mono B6.size))))
          exact ⟨⟨t + 1, some l, by omega, by omega, by go_num, HE.out.symm, .inr ⟨l, bb, oo, c6, rfl, rfl, by omega, (r6.more (fun g hg => by omega)).fr (S := fun _ => False) (Fr.of_below hB7) (fun _ _ => id)⟩, B7⟩, by simp [intOf]; omega⟩
        · cases hz : aheadB l l' with
          | true =>
            have HE := Lib.hid (show LT t = some l by rw [HSk2.out, HStep.out]; simp only [betterB, hz]; rfl)
            go_wp2_with (first
              | (go_at_call 40; ((with_reducible refine HPk.out.mono ?_); rintro e w6 ⟨A6, c6, rfl, r6, hB6⟩; obtain ⟨bb, oo, rfl⟩ := r6.plain (by omega) hl0; have B6 := hb.trans (hB6.mono hsr); have HI6 := Lib.hid (HI.out w6 _ _ c6 r6 (hm2.below B6)); obtain ⟨y0, y1, y2⟩ := (g2.below B6 g2.lt).facts))
              | (go_at_call 12; ((with_reducible refine HI6.out.mono ?_); rintro e w7 ⟨rfl, hB7⟩; have B7 := B6.trans (hB7.mono B6.size); have HA8 := Lib.hid (HAh.out w7 _ _ _ _ c6 c' l' h3 (r6.fr (S := fun _ => False) (Fr.of_below hB7) (fun _ _ => id)) ((h4.fr (S := fun _ => False) (Fr.of_below hB6) (fun _ _ => id)).fr (S := fun _ => False) (Fr.of_below hB7) (fun _ _ => id))); rw [hz] at HA8))
              | (go_at_call 41; ((with_reducible refine HA8.out.mono ?_); rintro e w8 ⟨rfl, hB8⟩)))
            exact ⟨⟨t + 1, some l, by omega, by omega, by go_num, HE.out.symm, .inr ⟨l, bb, oo, c6, rfl, rfl, by omega, ((r6.more (fun g hg => by omega)).fr (S := fun _ => False) (Fr.of_below hB7) (fun _ _ => id)).fr (S := fun _ => False) (Fr.of_below hB8) (fun _ _ => id)⟩, B7.trans (hB8.mono B7.size)⟩, by simp [intOf]; omega⟩
          | false =>
            have HE := Lib.hid (show LT t = some l' by rw [HSk2.out, HStep.out]; simp only [betterB, hz]; rfl)
            go_wp2_with (first
              | (go_at_call 40; ((with_reducible refine HPk.out.mono ?_); rintro e w6 ⟨A6, c6, rfl, r6, hB6⟩; obtain ⟨bb, oo, rfl⟩ := r6.plain (by omega) hl0; have B6 := hb.trans (hB6.mono hsr); have HI6 := Lib.hid (HI.out w6 _ _ c6 r6 (hm2.below B6)); obtain ⟨y0, y1, y2⟩ := (g2.below B6 g2.lt).facts))
              | (go_at_call 12; ((with_reducible refine HI6.out.mono ?_); rintro e w7 ⟨rfl, hB7⟩; have B7 := B6.trans (hB7.mono B6.size); have HA8 := Lib.hid (HAh.out w7 _ _ _ _ c6 c' l' h3 (r6.fr (S := fun _ => False) (Fr.of_below hB7) (fun _ _ => id)) ((h4.fr (S := fun _ => False) (Fr.of_below hB6) (fun _ _ => id)).fr (S := fun _ => False) (Fr.of_below hB7) (fun _ _ => id))); rw [hz] at HA8))
              | (go_at_call 41; ((with_reducible refine HA8.out.mono ?_); rintro e w8 ⟨rfl, hB8⟩)))
            exact ⟨⟨t + 1, some l', by omega, by omega, by go_num, HE.out.symm, .inr ⟨l', b', o', c', rfl, rfl, h3, ((h4.fr (S := fun _ => False) (Fr.of_below hB6) (fun _ _ => id)).fr (S := fun _ => False) (Fr.of_below hB7) (fun _ _ => id)).fr (S := fun _ => False) (Fr.of_below hB8) (fun _ _ => id)⟩, B7.trans (hB8.mono B7.size)⟩, by simp [intOf]; omega⟩
    · have hge : ¬ ((t : Int) < N) := by omega
      have HK := Lib.hid (show LF = s by rw [HF.out, HS.out, show N - 1 = t - 1 by omega])
      rcases hst with ⟨rfl, rfl⟩ | ⟨l', b', o', c', rfl, rfl, h3, h4⟩
      · go_wp2_with fail
        go_ret
        rw [HK.out]
        exact ⟨none, 0, rfl, Reads.none_, b2.trans (hb.mono b2.size)⟩
      · go_wp2_with fail
        go_ret
        rw [HK.out]
        exact ⟨_, c', rfl, h4, b2.trans (hb.mono b2.size)⟩
end Go.Proofs.Ytnpfbpfobbadaaa

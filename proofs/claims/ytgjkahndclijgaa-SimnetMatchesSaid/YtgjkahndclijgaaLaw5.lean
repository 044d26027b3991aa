import Derived.Test.YtgjkahndclijgaaLaw4
namespace Go.Proofs.Ytgjkahndclijgaa
set_option linter.unusedVariables false
open Go.RowKit Go.Own
theorem Agree.ids {G : Nat} {N : NetS} {R : RefS} {k : Nat} (h : Agree G N R k) : idsR R.items = N.items.map (·.1) := by
  have := congrArg (List.map (fun x : Int × Int × Int × List Int => x.1)) h.it
  rw [List.map_map, List.map_map] at this
  exact this.symm
theorem filter_con (f : Int → Int → Bool) : ∀ (l : List (Int × Pk)) (r : List It), l.map key = r.map keyR → (r.filter fun x => f x.frm x.to).map (·.id) = (l.filter fun x => f x.2.frm x.2.to).map (·.1)
  | [], [], _ => rfl
  | [], b :: r, h => by simp at h
  | a :: l, [], h => by simp at h
  | a :: l, b :: r, h => by
    simp only [List.map_cons, List.cons.injEq] at h
    have ih := filter_con f l r h.2
    have h1 := h.1
    simp only [key, keyR, Prod.mk.injEq] at h1
    rw [List.filter_cons, List.filter_cons, h1.2.1, h1.2.2.1]
    by_cases hf : f b.frm b.to = true
    · rw [if_pos hf, if_pos hf, List.map_cons, List.map_cons, ih, h1.1]
    · rw [if_neg hf, if_neg hf, ih]
theorem Agree.can {G : Nat} {N : NetS} {R : RefS} {k : Nat} (h : Agree G N R k) : canR R R.items = (delI N N.items).map (·.1) := by
  have h1 : (fun x : It => joinB R x.frm x.to) = fun x : It => conB N.groups x.frm x.to := by funext x; exact h.con _ _
  unfold canR delI
  rw [h1]
  exact filter_con (conB N.groups) _ _ h.it
set_option maxRecDepth 10000 in
set_option maxHeartbeats 1000000 in
theorem matches_nil (G : Int) (A : Option Addr) (c : Nat) (l : List ActS) (w : World) (h : ActsR w A l) (hf : fewB l = false ∨ (G < 1 ∨ 512 < G)) :
    Calls Try.prog 8 #[.int .i64 G, .slice A l.length c] w (LawPost w) := by
  have HP : Hid (Calls Try.prog 15 #[.int .i64 G, .slice A l.length c] w (PlayNil w)) := by
    show Calls _ _ _ _ _
    cases hfw : fewB l with
    | false => exact played_many G A c l w h hfw
    | true =>
      rcases hf with hf | hf
      · rw [hfw] at hf; cases hf
      · exact played_bad G hf A c l w h hfw
  have HA := Lib.hid awake_any
  clear h hf
  go_enter Try.func8, Try.ntmps8
  go_wp2_with (first
    | (go_at_call 15; ((with_reducible refine HP.out.mono ?_); rintro e w1 ⟨rfl, hb⟩))
    | (go_at_call 10; ((with_reducible refine (HA.out _).mono ?_); rintro e w2 ⟨rfl, hb2⟩)))
  go_ret
  refine ⟨rfl, ?_⟩
  have hs := hb.size
  exact (hb.alloc hs _).trans (hb2.mono (by simp; omega))
set_option maxRecDepth 10000 in
set_option maxHeartbeats 2000000 in
theorem matches_ok (G : Nat) (hG1 : 1 ≤ G) (hG2 : G ≤ 512) (A : Option Addr) (c : Nat) (l : List ActS) (w : World) (h : ActsR w A l) (hf : fewB l = true) :
    Calls Try.prog 8 #[.int .i64 G, .slice A l.length c] w (LawPost w) := by
  have HP := Lib.hid (played_ok G hG1 hG2 A c l w h hf)
  have HA := Lib.hid awake_any
  clear h hf
  go_enter Try.func8, Try.ntmps8
  go_wp2_with (
    (go_at_call 15; ((with_reducible refine HP.out.mono ?_); rintro e w1 ⟨p, m, g, N, R, rfl, hag, hwd, hb, hp, hm, hg⟩)))
  generalize hW : w1.alloc (.cells (refC R) 40) = W
  have hb0 : Blk W w1.heap.size 40 (refC R) := by rw [← hW]; exact Blk.new w1 40 (refC R)
  have hwdW : Wd W p m g N R (fun _ => False) := by rw [← hW]; exact hwd.below ((Below.refl _ _).alloc (Nat.le_refl _) _)
  have hbW : Below w.heap.size w W := by rw [← hW]; exact hb.alloc hb.size _
  clear hW hwd
  have hcnt := hag.cnt
  have hcR := hag.count
  have HC := Lib.hid fun w' (h : Below W.heap.size W w') => (hb0.below h hb0.lt).facts
  have HX1 := Lib.hid fun w' (h : Below W.heap.size W w') => pending_ids p N w' (hwdW.below h).net (by omega) hag.up
  have HX2 := Lib.hid fun w' (h : Below W.heap.size W w') => by
    have := all_any R _ w' (hwdW.below h).ref (by omega)
    rw [hag.ids] at this; exact this
  have HX3 := Lib.hid fun w' (h : Below W.heap.size W w') => deliverable_ids p N w' (hwdW.below h).net (by omega) hag.up
  have HX4 := Lib.hid fun w' (h : Below W.heap.size W w') => by
    have := can_any R _ w' (hwdW.below h).ref (by omega)
    rw [hag.can] at this; exact this
  have hl1 : (N.items.map (·.1)).length ≤ 1000 := by simp; omega
  have hl2 : ((delI N N.items).map (·.1)).length ≤ 1000 := by
    have := List.length_filter_le (fun x : Int × Pk => conB N.groups x.2.frm x.2.to) N.items
    simp [delI]; omega
  generalize N.items.map (·.1) = xs at HX1 HX2 hl1
  generalize (delI N N.items).map (·.1) = ys at HX3 HX4 hl2
  obtain ⟨q0, q1, q2⟩ := hb0.facts
  simp only [refC] at q1
  clear hwdW hag hb0 hcnt hcR
  go_region_with (first
    | (go_at_call 18; ((with_reducible refine (HX1.out _ ((Below.refl _ _).drew)).mono ?_); rintro e w2 ⟨A2, c2, rfl, r2, -, b2⟩; have B2 := ((Below.refl W.heap.size W).drew).trans b2; obtain ⟨d0, d1, d2⟩ := HC.out _ B2; simp only [refC] at d1))
    | (go_at_call 25; ((with_reducible refine (HX2.out _ B2).mono ?_); rintro e w3 ⟨A3, c3, rfl, r3, b3⟩; have B3 := B2.trans (b3.mono B2.size); have r2' := (r2.old (by omega)).below b3 (fun _ hk => hk.2); obtain ⟨f0, f1, f2⟩ := HC.out _ B3; simp only [refC] at f1; clear d0 d1 d2))
    | (go_at_call 24; ((with_reducible refine (numbers_yes _ _ A2 A3 xs c2 c3 _ r2' r3 hl1).mono ?_); rintro e w4 ⟨rfl, j, rfl⟩; have B4 := below_drewN B3 j))
    | (go_at_call 26; ((with_reducible refine (HX3.out _ B4).mono ?_); rintro e w5 ⟨A5, c5, rfl, r5, -, b5⟩; have B5 := B4.trans (b5.mono B4.size); clear f0 f1 f2; obtain ⟨d0, d1, d2⟩ := HC.out _ B5; simp only [refC] at d1))
    | (go_at_call 27; ((with_reducible refine (HX4.out _ B5).mono ?_); rintro e w6 ⟨A6, c6, rfl, r6, b6⟩; have B6 := B5.trans (b6.mono B5.size); have r5' := (r5.old (by omega)).below b6 (fun _ hk => hk.2); clear d0 d1 d2))
    | (go_at_call 24; ((with_reducible refine (numbers_yes _ _ A5 A6 ys c5 c6 _ r5' r6 hl2).mono ?_); rintro e w7 ⟨rfl, j2, rfl⟩; have B7 := below_drewN B6 j2))
    | (go_at_call 10; ((with_reducible refine (HA.out _).mono ?_); rintro e w8 ⟨rfl, b8⟩; have B8 := B7.trans (b8.mono B7.size))))
  all_goals
    go_wp2
    go_ret
    exact ⟨rfl, hbW.trans (B8.mono hbW.size)⟩
theorem matches_law (G : Int) (A : Option Addr) (c : Nat) (l : List ActS) (w : World) (h : ActsR w A l) :
    Calls Try.prog 8 #[.int .i64 G, .slice A l.length c] w (LawPost w) := by
  cases hf : fewB l with
  | false => exact matches_nil G A c l w h (.inl hf)
  | true =>
    by_cases hG : G < 1 ∨ 512 < G
    · exact matches_nil G A c l w h (.inr hG)
    · obtain ⟨n, rfl⟩ := Int.eq_ofNat_of_zero_le (show 0 ≤ G by omega)
      exact matches_ok n (by omega) (by omega) A c l w h hf
end Go.Proofs.Ytgjkahndclijgaa

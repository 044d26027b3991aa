import Derived.Test.YtnmmiiajcjcccaaAid3
namespace Go.Proofs.Ytnmmiiajcjcccaa
set_option linter.unusedVariables false
open Go.RowKit Go.Own Go.Quo Go.Aid
set_option maxHeartbeats 400000 in
theorem hold_any (n : Int) (w : World) : Calls Try.prog 29 #[.int .i64 n] w fun e w' => e = .returned (.int .i64 (clampI n)) ∧ w = w' := by
  go_enter Try.func29, Try.ntmps29
  rcases (by omega : n < 0 ∨ (¬ n < 0 ∧ 1000 < n) ∨ (¬ n < 0 ∧ ¬ 1000 < n)) with h | ⟨h, h2⟩ | ⟨h, h2⟩
  all_goals
    go_wp2_with fail
    go_ret
    refine ⟨?_, rfl⟩
    simp [clampI]
    try omega
theorem ints_one (l : List Int) : ∀ u ∈ l.map (Value.int .i64), u.oneCell' = true := by
  intro u hu
  obtain ⟨x, -, rfl⟩ := List.mem_map.1 hu
  rfl
/-- Numbers in a slice of the call's own that is not nil. -/
def IntsPost (l : List Int) (w : World) (e : Ending) (w' : World) : Prop :=
  ∃ g c, e = .returned (.slice (some ⟨g, 0, none⟩) l.length c) ∧ w'.ownsRow w.heap.size 3 1 (.slice (some ⟨g, 0, none⟩) l.length c) l.length (l.map (Value.int .i64)) ∧ Below w.heap.size w w'
theorem own_not_nil {w w' : World} {base n m c c' : Nat} {A : Option Addr} {g : Nat} {e : TypeId} {xs : List Value} (h : w'.ownsRow base e 1 (.slice A n c) n xs) (h2 : (Value.slice A n c).ownBlock = (Value.slice (some ⟨g, 0, none⟩) m c').ownBlock ∨ (Value.slice A n c).ownBlock = some w.heap.size) : ∃ g', A = some ⟨g', 0, none⟩ := by
  rcases h.2 with ⟨e1, e2⟩ | ⟨g', cap, cur, e1, _⟩
  · injection e1 with e1
    subst e1
    rcases h2 with h2 | h2 <;> simp [Value.ownBlock] at h2
  · injection e1 with e1
    exact ⟨g', e1⟩
set_option maxHeartbeats 1000000 in
theorem ints_any (B : Nat → Prop) (A : Option Addr) (c : Nat) (l : List Int) (w : World) (h : RI w B A l) (hl : l.length ≤ 1000) :
    Calls Try.prog 13 #[.slice A l.length c] w (IntsPost l w) := by
  have HR := Lib.hid h
  clear h
  go_enter Try.func13, Try.ntmps13
  go_wp2_with (at_builtin; refine wpList_append_any _ rfl _ _ _ rfl w.heap.size 3 (.int .i64 0) 1 8 Try.underlying22 info3 rfl (by omega) (.slice (some ⟨w.heap.size, 0, none⟩) 0 0) 0 [] rfl (World.ownsRow_lit w #[] 0 (Nat.le_refl _) (by simp [maxLen]) (by simp)) _ A l.length c (l.map (Value.int .i64)) rfl (HR.out.alloc _) (ints_one l) (by simp only [maxLen]; omega) (by omega) (by simp) ?_; intro A2 c2 w2 hown hgr hat)
  go_ret
  rw [Nat.zero_add] at *
  obtain ⟨g, rfl⟩ := own_not_nil hown hat
  refine ⟨g, c2, rfl, by simpa using hown, ?_⟩
  exact (Below.grown (row := some w.heap.size) ((Below.refl _ _).alloc (Nat.le_refl _) _) hgr (by simp) (fun k hk => by cases hk; exact Nat.le_refl _))
theorem left_bad (A A2 : Option Addr) (n n2 c c2 : Nat) (w : World) (h : n ≠ n2 ∨ 64 < n) :
    Calls Try.prog 17 #[.slice A n c, .slice A2 n2 c2] w fun e w' => e = .returned (.slice none 0 0) ∧ w = w' := by
  by_cases hn : n = n2
  · have hb : ((n : Int) != (n2 : Int)) = false := by simp; omega
    have h6 : (64 : Int) < n := by omega
    clear h
    go_enter Try.func17, Try.ntmps17
    go_wp2_with fail
    go_ret
    exact ⟨rfl, rfl⟩
  · have hb : ((n : Int) != (n2 : Int)) = true := by simp; omega
    clear h
    go_enter Try.func17, Try.ntmps17
    go_wp2_with fail
    go_ret
    exact ⟨rfl, rfl⟩
set_option maxRecDepth 10000 in
set_option maxHeartbeats 4000000 in
theorem left_ok (B B2 : Nat → Prop) (A A2 : Option Addr) (c c2 : Nat) (f wa : List Int) (w : World) (h : RI w B A f) (h2 : RI w B2 A2 wa) (hl : f.length = wa.length) (h64 : f.length ≤ 64) :
    Calls Try.prog 17 #[.slice A f.length c, .slice A2 wa.length c2] w (IntsPost (leftF f wa) w) := by
  have hp := h.plain (by omega)
  have hp2 := h2.plain (by omega)
  rw [← hl] at hp2 ⊢
  have H1 := Lib.hid (h.old (by omega))
  have H2 := Lib.hid (h2.old (by omega))
  obtain ⟨n, hn⟩ : ∃ n : Nat, f.length = n := ⟨_, rfl⟩
  have HN := Lib.hid hn
  have HN2 := Lib.hid (hl ▸ hn : wa.length = n)
  obtain ⟨L, hL⟩ : ∃ L, leftF f wa = L := ⟨_, rfl⟩
  have HLl := Lib.hid (show L.length = n by rw [← hL, left_len hl, hn])
  have HLg := Lib.hid fun k (hk : k < n) => (show gd L k = clampI (gd f k) - clampI (gd wa k) by rw [← hL]; exact left_gd hl (by omega))
  rw [hL]
  rw [hn] at hp hp2 h64 ⊢
  clear h h2 hl hn hL
  have hnb : ((n : Int) != (n : Int)) = false := by simp
  have h6 : ¬ (64 : Int) < n := by omega
  have HC := Lib.hid fun x W => hold_any x W
  go_enter Try.func17, Try.ntmps17
  go_wp2_with fail
  have hO0 := Lib.hid (World.ownsRow_lit (base := w.heap.size) (e := 3) (size := 1) w #[] 0 (Nat.le_refl _) (by simp [maxLen]) (by simp))
  have hb0 : Below w.heap.size w (w.alloc (.cells #[] 3)) := (Below.refl _ _).alloc (Nat.le_refl _) _
  go_loopw [5, 6] (fun v5 vi wr => ∃ (k g c5 : Nat), k ≤ n ∧ vi = .int .i64 k ∧ v5 = .slice (some ⟨g, 0, none⟩) k c5 ∧ wr.ownsRow w.heap.size 3 1 (.slice (some ⟨g, 0, none⟩) k c5) k ((L.take k).map (Value.int .i64)) ∧ Below w.heap.size w wr) (fun _ vi _ => n - (intOf vi).toNat)
  case atStart => exact ⟨0, _, 0, Nat.zero_le _, rfl, rfl, hO0.out, hb0⟩
  case round =>
    obtain ⟨k, g, c5, hk, rfl, rfl, hO, hbel⟩ := hrel
    have HO := Lib.hid hO
    have hbs := hbel.size
    clear hO
    by_cases hlt : k < n
    · have hlt' : (k : Int) < n := by omega
      have c1 := RI.at_ (H1.out.below hbel (fun _ h => h.2)) (k := k) (by rw [HN.out]; exact hlt)
      have c2' := RI.at_ (H2.out.below hbel (fun _ h => h.2)) (k := k) (by rw [HN2.out]; exact hlt)
      have hix := fun W => ix22 hp c k hlt W
      have hix2 := fun W => ix22 hp2 c2 k hlt W
      have r1 := clamp_r (gd f k)
      have r2 := clamp_r (gd wa k)
      have HG := Lib.hid (show (L.take (k + 1)).map (Value.int .i64) = (L.take k).map (Value.int .i64) ++ [.int .i64 (clampI (gd f k) - clampI (gd wa k))] by
        have hkl : k < L.length := by rw [HLl.out]; exact hlt
        rw [← HLg.out k hlt, List.take_succ_eq_append_getElem hkl, gd_get hkl, List.map_append]; rfl)
      have HCa := Lib.hid fun W => HC.out (gd f k) W
      have HCb := Lib.hid fun W => HC.out (gd wa k) W
      generalize clampI (gd f k) = x1 at *
      generalize clampI (gd wa k) = x2 at *
      generalize gd f k = y1 at *
      generalize gd wa k = y2 at *
      have hw1 : IntKind.i64.wrap (x1 - x2) = x1 - x2 := IntWalk.i64_in _ (by omega)
      clear r1 r2
      go_wp2_with fail
      go_region_law (first
        | (refine step_append_any _ (by rfl) (.tmp 24) (.tmp 36) _ (by rfl) w.heap.size 3 (.int .i64 0) 1 8 Try.underlying22 info3 rfl (by omega) (.slice (some ⟨g, 0, none⟩) k c5) k ((L.take k).map (Value.int .i64)) (by rfl) ((HO.out.alloc (.cells #[.int .i64 (x1 - x2)] 3)).drew) _ (some ⟨wr.heap.size, 0, none⟩) 1 1 [.int .i64 (x1 - x2)] (by rfl) ((Reads.newS wr [.int .i64 (x1 - x2)] 3 (0, 0) 1 1 rfl _ rfl).drew) (by simp [Value.oneCell']) (by simp only [maxLen]; omega) (by omega) (by simp; omega) ?_
           intro A4 c4 w4 hown4 hgr4 hat4)
        | (go_simp; (with_reducible refine (HCa.out _).mono ?_); rintro e w5 ⟨rfl, rfl⟩)
        | (go_simp; (with_reducible refine (HCb.out _).mono ?_); rintro e w5 ⟨rfl, rfl⟩))
      all_goals
        go_wp2_with fail
        obtain ⟨g4, rfl⟩ : ∃ g', A4 = some ⟨g', 0, none⟩ := by
          rcases hown4.2 with ⟨e1, e2⟩ | ⟨g', cap, cur, e1, _⟩
          · injection e1 with e1 e3; omega
          · injection e1 with e1; exact ⟨g', e1⟩
        refine ⟨⟨k + 1, g4, c4, by omega, by go_num, rfl, ?_, ?_⟩, by simp [intOf]; omega⟩
        · rw [HG.out]; exact hown4
        · exact Below.grown (Below.drew (hbel.alloc hbs _)) hgr4 (by simp; omega) (fun j hj => (HO.out.lt j hj).1)
    · have hlt' : ¬ (k : Int) < n := by omega
      have he : k = n := by omega
      subst he
      go_wp2_with fail
      go_ret
      have e : L.take k = L := by rw [← HLl.out, List.take_length]
      have o := HO.out
      rw [e] at o
      rw [← HLl.out] at o ⊢
      exact ⟨g, c5, rfl, o, hbel⟩
end Go.Proofs.Ytnmmiiajcjcccaa

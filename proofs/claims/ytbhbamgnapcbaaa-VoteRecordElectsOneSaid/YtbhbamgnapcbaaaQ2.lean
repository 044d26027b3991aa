import Derived.Test.YtbhbamgnapcbaaaQ1
namespace Go.Proofs.Ytbhbamgnapcbaaa
set_option linter.unusedVariables false
open Go.RowKit Go.Own Go.Quo
theorem ok_lt {l : List Int} {k : Nat} (h : gd l k < 0) : okAt l k = false := by simp [okAt]; omega
theorem ok_gt {l : List Int} {k : Nat} (h : 63 < gd l k) : okAt l k = false := by simp [okAt]; omega
theorem ok_le {l : List Int} {k : Nat} (h0 : 0 < k) (h : gd l k ≤ gd l (k - 1)) : okAt l k = false := by simp [okAt]; omega
theorem ok_yes {l : List Int} {k : Nat} (h1 : 0 ≤ gd l k) (h2 : gd l k ≤ 63) (h3 : k = 0 ∨ gd l (k - 1) < gd l k) : okAt l k = true := by
  unfold okAt
  rw [decide_eq_true h1, decide_eq_true h2]
  rcases h3 with h3 | h3 <;> simp [h3]
theorem all_step {l : List Int} {k : Nat} (h : ∀ j, j < k → okAt l j = true) (hk : okAt l k = true) : ∀ j, j < k + 1 → okAt l j = true := by
  intro j hj
  by_cases hjk : j < k
  · exact h j hjk
  · have : j = k := by omega
    subst this; exact hk
set_option maxRecDepth 10000 in
set_option maxHeartbeats 1000000 in
theorem memberList_any_in (B : Nat → Prop) (A : Option Addr) (c : Nat) (l : List Int) (w : World) (h : RI w B A l) (hm : l.length ≤ 1000) (hl1 : 1 ≤ l.length) (hl9 : l.length ≤ 9) :
    Calls Try.prog 76 #[.slice A l.length c] w fun e w' => e = .returned (.bool (mlB l)) ∧ w = w' := by
  have hp := h.plain (by omega)
  have H := Lib.hid h; clear h
  have e1 : ¬ ((l.length : Int) < 1) := by omega
  have e2 : decide ((9 : Int) < l.length) = false := by simp; omega
  have e2' : decide (9 < l.length) = false := by simp; omega
  go_enter Try.func76, Try.ntmps76
  go_wp2
  go_loop [15] (fun i => ∃ k : Nat, k ≤ l.length ∧ i = .int .i64 k ∧ ∀ j, j < k → okAt l j = true) (fun i => l.length - (intOf i).toNat)
  case atStart => exact ⟨0, Nat.zero_le _, rfl, fun j hj => by omega⟩
  case round =>
    obtain ⟨k, hk, rfl, hall⟩ := hrel
    have HA := Lib.hid hall; clear hall
    by_cases hlt : k < l.length
    · have hlt' : (k : Int) < l.length := by omega
      have hix := fun W => ix22 hp c k hlt W
      have c0 := H.out.at_ hlt
      have hbad := Lib.hid fun (h : okAt l k = false) => asc_bad hlt h
      have hbadm := Lib.hid fun (h : okAt l k = false) => (show mlB l = false by unfold mlB; rw [hbad.out h]; simp)
      by_cases h1 : gd l k < 0
      · have HB := Lib.hid (hbadm.out (ok_lt h1))
        generalize gd l k = y at *
        have d1 : decide (y < 0) = true := by simpa using h1
        go_wp2
        go_ret
        exact ⟨by rw [HB.out]; rfl, rfl⟩
      have d1 : decide (gd l k < 0) = false := by simpa using h1
      by_cases h2 : 63 < gd l k
      · have HB := Lib.hid (hbadm.out (ok_gt h2))
        generalize gd l k = y at *
        have d2 : decide (63 < y) = true := by simpa using h2
        go_wp2
        go_ret
        exact ⟨by rw [HB.out]; rfl, rfl⟩
      have d2 : decide (63 < gd l k) = false := by simpa using h2
      by_cases h0 : k = 0
      · have HO := Lib.hid (all_step HA.out (ok_yes (by omega) (by omega) (.inl h0)))
        generalize gd l k = y at *
        have d0 : decide ((0 : Int) < k) = false := by simp; omega
        have d0' : decide (0 < k) = false := by simp; omega
        clear h0
        go_wp2
        go_round
        case rel => exact ⟨k + 1, by omega, by go_num, HO.out⟩
        case measure => simp [intOf]; omega
      have h0' : 0 < k := by omega
      have d0 : decide ((0 : Int) < k) = true := by simp; omega
      have d0' : decide (0 < k) = true := by simp; omega
      have hix2 : ∀ W, (Instr.indexAt 63 (.slice A l.length c) (.int .i64 ((k : Int) - 1))).run Try.prog W = .ok (.pointer (some ⟨bk A, ofs A + (k - 1), none⟩)) W := fun W => by
        have := ix22 hp c (k - 1) (by omega) W
        rwa [show (((k - 1 : Nat)) : Int) = (k : Int) - 1 by omega] at this
      have c1 := H.out.at_ (show k - 1 < l.length by omega)
      by_cases h3 : gd l k ≤ gd l (k - 1)
      · have HB := Lib.hid (hbadm.out (ok_le h0' h3))
        generalize gd l k = y at *
        generalize gd l (k - 1) = z at *
        have d3 : decide (y ≤ z) = true := by simpa using h3
        go_wp2
        go_ret
        exact ⟨by rw [HB.out]; rfl, rfl⟩
      · have HO := Lib.hid (all_step HA.out (ok_yes (by omega) (by omega) (.inr (by omega))))
        generalize gd l k = y at *
        generalize gd l (k - 1) = z at *
        have d3 : decide (y ≤ z) = false := by simpa using h3
        go_wp2
        go_round
        case rel => exact ⟨k + 1, by omega, by go_num, HO.out⟩
        case measure => simp [intOf]; omega
    · have hge : ¬ ((k : Int) < l.length) := by omega
      have HE := Lib.hid (show mlB l = (decide (1 ≤ l.length) && decide (l.length ≤ 9)) by unfold mlB; rw [asc_all (fun j hj => HA.out j (by omega))]; simp)
      go_wp2
      go_ret
      exact ⟨by rw [HE.out]; simp [hl1, hl9], rfl⟩
set_option maxHeartbeats 400000 in
theorem memberList_any_out (A : Option Addr) (c n : Nat) (w : World) (hm : n < 1 ∨ 9 < n) :
    Calls Try.prog 76 #[.slice A n c] w fun e w' => e = .returned (.bool false) ∧ w = w' := by
  rcases hm with hm | hm
  · have e1 : (n : Int) < 1 := by omega
    go_enter Try.func76, Try.ntmps76
    go_wp2
    go_ret
    exact ⟨rfl, rfl⟩
  · have e1 : ¬ (n : Int) < 1 := by omega
    have e2 : (9 : Int) < n := by omega
    go_enter Try.func76, Try.ntmps76
    go_wp2
    go_ret
    exact ⟨rfl, rfl⟩
theorem memberList_any (B : Nat → Prop) (A : Option Addr) (c : Nat) (l : List Int) (w : World) (h : RI w B A l) (hm : l.length ≤ 1000) :
    Calls Try.prog 76 #[.slice A l.length c] w fun e w' => e = .returned (.bool (mlB l)) ∧ w = w' := by
  by_cases hl : l.length < 1 ∨ 9 < l.length
  · have : mlB l = false := by unfold mlB; rcases hl with hl | hl <;> simp <;> omega
    rw [this]; exact memberList_any_out A c l.length w hl
  · exact memberList_any_in B A c l w h hm (by omega) (by omega)
set_option maxRecDepth 10000 in
set_option maxHeartbeats 1000000 in
theorem rmembers_any (B : Nat → Prop) (A : Option Addr) (c : Nat) (l : List Int) (w : World) (h : RI w B A l) (hm : l.length ≤ 1000) :
    Calls Try.prog 51 #[.slice A l.length c] w fun e w' => e = .returned (.bool (mlB l)) ∧ w = w' := by
  have hp := h.plain (by omega)
  have H := Lib.hid h; clear h
  go_enter Try.func51, Try.ntmps51
  go_wp2
  go_loop [7] (fun i => ∃ k : Nat, k ≤ l.length ∧ i = .int .i64 k ∧ ∀ j, j < k → okAt l j = true) (fun i => l.length - (intOf i).toNat)
  case atStart => exact ⟨0, Nat.zero_le _, rfl, fun j hj => by omega⟩
  case round =>
    obtain ⟨k, hk, rfl, hall⟩ := hrel
    have HA := Lib.hid hall; clear hall
    by_cases hlt : k < l.length
    · have hlt' : (k : Int) < l.length := by omega
      have hix := fun W => ix22 hp c k hlt W
      have c0 := H.out.at_ hlt
      have hbad := Lib.hid fun (h : okAt l k = false) => asc_bad hlt h
      have hbadm := Lib.hid fun (h : okAt l k = false) => (show mlB l = false by unfold mlB; rw [hbad.out h]; simp)
      by_cases h1 : gd l k < 0
      · have HB := Lib.hid (hbadm.out (ok_lt h1))
        generalize gd l k = y at *
        have d1 : decide (y < 0) = true := by simpa using h1
        go_wp2
        go_ret
        exact ⟨by rw [HB.out]; rfl, rfl⟩
      have d1 : decide (gd l k < 0) = false := by simpa using h1
      by_cases h2 : 63 < gd l k
      · have HB := Lib.hid (hbadm.out (ok_gt h2))
        generalize gd l k = y at *
        have d2 : decide (63 < y) = true := by simpa using h2
        go_wp2
        go_ret
        exact ⟨by rw [HB.out]; rfl, rfl⟩
      have d2 : decide (63 < gd l k) = false := by simpa using h2
      by_cases h0 : k = 0
      · have HO := Lib.hid (all_step HA.out (ok_yes (by omega) (by omega) (.inl h0)))
        generalize gd l k = y at *
        have d0 : decide ((0 : Int) < k) = false := by simp; omega
        have d0' : decide (0 < k) = false := by simp; omega
        clear h0
        go_wp2
        go_round
        case rel => exact ⟨k + 1, by omega, by go_num, HO.out⟩
        case measure => simp [intOf]; omega
      have h0' : 0 < k := by omega
      have d0 : decide ((0 : Int) < k) = true := by simp; omega
      have d0' : decide (0 < k) = true := by simp; omega
      have hix2 : ∀ W, (Instr.indexAt 63 (.slice A l.length c) (.int .i64 ((k : Int) - 1))).run Try.prog W = .ok (.pointer (some ⟨bk A, ofs A + (k - 1), none⟩)) W := fun W => by
        have := ix22 hp c (k - 1) (by omega) W
        rwa [show (((k - 1 : Nat)) : Int) = (k : Int) - 1 by omega] at this
      have c1 := H.out.at_ (show k - 1 < l.length by omega)
      by_cases h3 : gd l k ≤ gd l (k - 1)
      · have HB := Lib.hid (hbadm.out (ok_le h0' h3))
        generalize gd l k = y at *
        generalize gd l (k - 1) = z at *
        have d3 : decide (y ≤ z) = true := by simpa using h3
        go_wp2
        go_ret
        exact ⟨by rw [HB.out]; rfl, rfl⟩
      · have HO := Lib.hid (all_step HA.out (ok_yes (by omega) (by omega) (.inr (by omega))))
        generalize gd l k = y at *
        generalize gd l (k - 1) = z at *
        have d3 : decide (y ≤ z) = false := by simpa using h3
        go_wp2
        go_round
        case rel => exact ⟨k + 1, by omega, by go_num, HO.out⟩
        case measure => simp [intOf]; omega
    · have hge : ¬ ((k : Int) < l.length) := by omega
      have HE := Lib.hid (show mlB l = (decide (1 ≤ l.length) && decide (l.length ≤ 9)) by unfold mlB; rw [asc_all (fun j hj => HA.out j (by omega))]; simp)
      by_cases hl1 : 1 ≤ l.length
      · have e1 : (1 : Int) ≤ l.length := by omega
        go_wp2
        go_ret
        exact ⟨by rw [HE.out]; simp [hl1]; omega, rfl⟩
      · have e1 : ¬ (1 : Int) ≤ l.length := by omega
        have e1' : decide ((1 : Int) ≤ l.length) = false := by simpa using e1
        go_wp2
        go_ret
        exact ⟨by rw [HE.out]; simp [hl1], rfl⟩
set_option maxRecDepth 10000 in
set_option maxHeartbeats 1000000 in
theorem conq_any (B B2 : Nat → Prop) (A A2 : Option Addr) (c c2 : Nat) (l yes : List Int) (w : World) (h : RI w B A l) (h2 : RI w B2 A2 yes) (hm : l.length ≤ 1000) (hm2 : yes.length ≤ 1000) :
    Calls Try.prog 67 #[.slice A l.length c, .slice A2 yes.length c2] w fun e w' => e = .returned (.bool (conQ l yes)) ∧ w = w' := by
  have hp := h.plain (by omega)
  have H := Lib.hid h; clear h
  have HH := Lib.hid fun x q (hq : hasB yes x = q) => contains_b B2 A2 c2 yes x w h2 hm2 q hq
  have HMj := Lib.hid (majority_any A l.length c w hm)
  clear h2
  go_enter Try.func67, Try.ntmps67
  go_wp2
  go_loop [5, 10] (fun v i => ∃ k n : Nat, k ≤ l.length ∧ i = .int .i64 k ∧ n = cnt (l.take k) yes ∧ v = .int .i64 n) (fun _ i => l.length - (intOf i).toNat)
  case atStart => exact ⟨0, 0, Nat.zero_le _, rfl, rfl, rfl⟩
  case round =>
    obtain ⟨k, n, hk, rfl, hn, rfl⟩ := hrel
    have hnl : n ≤ 1000 := by rw [hn]; exact Nat.le_trans (cnt_le _ _) (by simp; omega)
    have HN := Lib.hid hn; clear hn
    by_cases hlt : k < l.length
    · have hlt' : (k : Int) < l.length := by omega
      have hix := fun W => ix22 hp c k hlt W
      have c0 := H.out.at_ hlt
      have HS := Lib.hid (cnt_step l yes k hlt)
      generalize gd l k = y at *
      cases hy : hasB yes y with
      | true =>
        have HC := Lib.hid (HH.out y true hy)
        have HS2 : Hid (n + 1 = cnt (l.take (k + 1)) yes) := by show _ = _; rw [HS.out, if_pos hy, HN.out]
        clear hy
        go_wp2_with (go_at_call 77; ((with_reducible refine HC.out.mono ?_); rintro e w1 ⟨rfl, rfl⟩))
        go_round
        case rel => exact ⟨k + 1, n + 1, by omega, by go_num, HS2.out, by go_num⟩
        case measure => simp [intOf]; omega
      | false =>
        have HC := Lib.hid (HH.out y false hy)
        have HS2 : Hid (n = cnt (l.take (k + 1)) yes) := by show _ = _; rw [HS.out, if_neg (by simp [hy]), HN.out]; rfl
        clear hy
        go_wp2_with (go_at_call 77; ((with_reducible refine HC.out.mono ?_); rintro e w1 ⟨rfl, rfl⟩))
        go_round
        case rel => exact ⟨k + 1, n, by omega, by go_num, HS2.out, rfl⟩
        case measure => simp [intOf]; omega
    · have hge : ¬ ((k : Int) < l.length) := by omega
      have HE : Hid (n = cnt l yes) := by show _ = _; rw [HN.out, List.take_of_length_le (by omega)]
      go_wp2_with (go_at_call 78; ((with_reducible refine HMj.out.mono ?_); rintro e w1 ⟨rfl, rfl⟩))
      go_ret
      refine ⟨?_, rfl⟩
      unfold conQ
      rw [← HE.out]
      congr 2
      simp
      omega
set_option maxRecDepth 10000 in
set_option maxHeartbeats 1000000 in
theorem most_any (B B2 : Nat → Prop) (A A2 : Option Addr) (c c2 : Nat) (l yes : List Int) (w : World) (h : RI w B A l) (h2 : RI w B2 A2 yes) (hm : l.length ≤ 1000) (hm2 : yes.length ≤ 1000) :
    Calls Try.prog 68 #[.slice A l.length c, .slice A2 yes.length c2] w fun e w' => e = .returned (.bool (conQ l yes)) ∧ w = w' := by
  have hp := h.plain (by omega)
  have H := Lib.hid h; clear h
  have HH := Lib.hid fun x q (hq : hasB yes x = q) => has_b B2 A2 c2 yes x w h2 hm2 q hq
  have HMj := Lib.hid (majority_any A l.length c w hm)
  clear h2
  go_enter Try.func68, Try.ntmps68
  go_wp2
  go_loop [5, 10] (fun v i => ∃ k n : Nat, k ≤ l.length ∧ i = .int .i64 k ∧ n = cnt (l.take k) yes ∧ v = .int .i64 n) (fun _ i => l.length - (intOf i).toNat)
  case atStart => exact ⟨0, 0, Nat.zero_le _, rfl, rfl, rfl⟩
  case round =>
    obtain ⟨k, n, hk, rfl, hn, rfl⟩ := hrel
    have hnl : n ≤ 1000 := by rw [hn]; exact Nat.le_trans (cnt_le _ _) (by simp; omega)
    have HN := Lib.hid hn; clear hn
    by_cases hlt : k < l.length
    · have hlt' : (k : Int) < l.length := by omega
      have hix := fun W => ix22 hp c k hlt W
      have c0 := H.out.at_ hlt
      have HS := Lib.hid (cnt_step l yes k hlt)
      generalize gd l k = y at *
      cases hy : hasB yes y with
      | true =>
        have HC := Lib.hid (HH.out y true hy)
        have HS2 : Hid (n + 1 = cnt (l.take (k + 1)) yes) := by show _ = _; rw [HS.out, if_pos hy, HN.out]
        clear hy
        go_wp2_with (go_at_call 79; ((with_reducible refine HC.out.mono ?_); rintro e w1 ⟨rfl, rfl⟩))
        go_round
        case rel => exact ⟨k + 1, n + 1, by omega, by go_num, HS2.out, by go_num⟩
        case measure => simp [intOf]; omega
      | false =>
        have HC := Lib.hid (HH.out y false hy)
        have HS2 : Hid (n = cnt (l.take (k + 1)) yes) := by show _ = _; rw [HS.out, if_neg (by simp [hy]), HN.out]; rfl
        clear hy
        go_wp2_with (go_at_call 79; ((with_reducible refine HC.out.mono ?_); rintro e w1 ⟨rfl, rfl⟩))
        go_round
        case rel => exact ⟨k + 1, n, by omega, by go_num, HS2.out, rfl⟩
        case measure => simp [intOf]; omega
    · have hge : ¬ ((k : Int) < l.length) := by omega
      have HE : Hid (n = cnt l yes) := by show _ = _; rw [HN.out, List.take_of_length_le (by omega)]
      go_wp2_with (go_at_call 78; ((with_reducible refine HMj.out.mono ?_); rintro e w1 ⟨rfl, rfl⟩))
      go_ret
      refine ⟨?_, rfl⟩
      unfold conQ
      rw [← HE.out]
      congr 2
      simp
      omega
end Go.Proofs.Ytbhbamgnapcbaaa

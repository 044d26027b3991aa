import Derived.Test.YtbhbamgnapcbaaaProg
import Derived.Test.YtbhbamgnapcbaaaQPlain
namespace Go.Proofs.Ytbhbamgnapcbaaa
set_option linter.unusedVariables false
open Go.RowKit Go.Own Go.Quo
theorem info3 : (Try.prog.info? 3).map (fun i => (i.zero, i.size, i.bytes)) = some (some (.int .i64 0), 1, 8) := by kernel_rfl
theorem i3x : ∃ i, Try.prog.info? 3 = some i ∧ i.size = 1 := by obtain ⟨i, h, _, h2, _⟩ := info_parts info3; exact ⟨i, h, h2⟩
/-- A slice of integers reads as l. -/
abbrev RI (w : World) (B : Nat → Prop) (A : Option Addr) (l : List Int) : Prop := Reads w B 1 A l.length (l.map (Value.int .i64))
theorem RI.at_ {w : World} {B : Nat → Prop} {A : Option Addr} {l : List Int} (h : RI w B A l) {k : Nat} (hk : k < l.length) : w.cell? ⟨bk A, ofs A + k, none⟩ = some (.int .i64 (gd l k)) :=
  (h.cell2 k (by omega) (by omega)).trans (by rw [gd_get hk]; simp [List.getElem?_eq_getElem hk])
theorem ix22 {A : Option Addr} {n : Nat} (hA : Plain A n) (c k : Nat) (hk : k < n) (w : World) : (Instr.indexAt 63 (.slice A n c) (.int .i64 (k : Int))).run Try.prog w = .ok (.pointer (some ⟨bk A, ofs A + k, none⟩)) w := by
  obtain ⟨i3, hi3, hi31⟩ := i3x
  have := run_indexAt2 (P := Try.prog) Try.underlying63 hi3 hi31 hA c k hk w
  rwa [Nat.mul_one] at this
set_option maxRecDepth 10000 in
set_option maxHeartbeats 1000000 in
theorem has_any (B : Nat → Prop) (A : Option Addr) (c : Nat) (l : List Int) (x : Int) (w : World) (h : RI w B A l) (hm : l.length ≤ 1000) :
    Calls Try.prog 79 #[.slice A l.length c, .int .i64 x] w fun e w' => e = .returned (.bool (hasB l x)) ∧ w = w' := by
  have hp := h.plain (by omega)
  have H := Lib.hid h; clear h
  go_enter Try.func79, Try.ntmps79
  go_wp2
  go_loop [9] (fun i => ∃ k : Nat, k ≤ l.length ∧ i = .int .i64 k ∧ ∀ j, j < k → gd l j ≠ x) (fun i => l.length - (intOf i).toNat)
  case atStart => exact ⟨0, Nat.zero_le _, rfl, fun j hj => by omega⟩
  case round =>
    obtain ⟨k, hk, rfl, hall⟩ := hrel
    have HA := Lib.hid hall; clear hall
    by_cases hlt : k < l.length
    · have hlt' : (k : Int) < l.length := by omega
      have hix := fun W => ix22 hp c k hlt W
      have c0 := H.out.at_ hlt
      generalize hy : gd l k = y at c0
      have HY := Lib.hid hy; clear hy
      cases hyx : (y == x) with
      | true =>
        go_wp2
        go_ret
        have : hasB l x = true := (has_iff l x).2 ⟨k, hlt, by rw [HY.out]; simpa using hyx⟩
        exact ⟨by rw [this]; rfl, rfl⟩
      | false =>
        go_wp2
        go_round
        case rel =>
          refine ⟨k + 1, by omega, by go_num, fun j hj => ?_⟩
          by_cases hjk : j < k
          · exact HA.out j hjk
          · have : j = k := by omega
            subst this
            rw [HY.out]; simpa using hyx
        case measure => simp [intOf]; omega
    · have hge : ¬ ((k : Int) < l.length) := by omega
      go_wp2
      go_ret
      have : hasB l x = false := has_no (fun j hj => HA.out j (by omega))
      exact ⟨by rw [this]; rfl, rfl⟩
def IndexPost (l : List Int) (x : Int) (w : World) (e : Ending) (w' : World) : Prop := ∃ j : Int, e = .returned (.int .i64 j) ∧ decide (0 ≤ j) = hasB l x ∧ w = w'
set_option maxRecDepth 10000 in
set_option maxHeartbeats 1000000 in
theorem index_any (B : Nat → Prop) (A : Option Addr) (c : Nat) (l : List Int) (x : Int) (w : World) (h : RI w B A l) (hm : l.length ≤ 1000) :
    Calls Try.prog 91 #[.slice A l.length c, .int .i64 x] w (IndexPost l x w) := by
  have hp := h.plain (by omega)
  have H := Lib.hid h; clear h
  go_enter Try.func91, Try.ntmps91
  go_wp2
  go_loop [8] (fun i => ∃ k : Nat, k ≤ l.length ∧ i = .int .i64 k ∧ ∀ j, j < k → gd l j ≠ x) (fun i => l.length - (intOf i).toNat)
  case atStart => exact ⟨0, Nat.zero_le _, rfl, fun j hj => by omega⟩
  case round =>
    obtain ⟨k, hk, rfl, hall⟩ := hrel
    have HA := Lib.hid hall; clear hall
    by_cases hlt : k < l.length
    · have hlt' : (k : Int) < l.length := by omega
      have hix := fun W => ix22 hp c k hlt W
      have c0 := H.out.at_ hlt
      generalize hy : gd l k = y at c0
      have HY := Lib.hid hy; clear hy
      cases hyx : (x == y) with
      | true =>
        go_wp2
        go_ret
        have : hasB l x = true := (has_iff l x).2 ⟨k, hlt, by rw [HY.out]; exact (eq_of_beq hyx).symm⟩
        exact ⟨k, rfl, by rw [this]; simp, rfl⟩
      | false =>
        go_wp2
        go_round
        case rel =>
          refine ⟨k + 1, by omega, by go_num, fun j hj => ?_⟩
          by_cases hjk : j < k
          · exact HA.out j hjk
          · have : j = k := by omega
            subst this
            rw [HY.out]; intro e; subst e; simp at hyx
        case measure => simp [intOf]; omega
    · have hge : ¬ ((k : Int) < l.length) := by omega
      go_wp2
      go_ret
      have : hasB l x = false := has_no (fun j hj => HA.out j (by omega))
      exact ⟨-1, rfl, by rw [this]; rfl, rfl⟩
set_option maxHeartbeats 400000 in
theorem contains_any (B : Nat → Prop) (A : Option Addr) (c : Nat) (l : List Int) (x : Int) (w : World) (h : RI w B A l) (hm : l.length ≤ 1000) :
    Calls Try.prog 77 #[.slice A l.length c, .int .i64 x] w fun e w' => e = .returned (.bool (hasB l x)) ∧ w = w' := by
  have H := Lib.hid (index_any B A c l x w h hm); clear h
  go_enter Try.func77, Try.ntmps77
  go_wp2_with (go_at_call 91; ((with_reducible refine H.out.mono ?_); rintro e w1 ⟨j, rfl, hj, rfl⟩; have HJ := Lib.hid hj; clear hj))
  go_ret
  exact ⟨by rw [← HJ.out]; rfl, rfl⟩
theorem contains_b (B : Nat → Prop) (A : Option Addr) (c : Nat) (l : List Int) (x : Int) (w : World) (h : RI w B A l) (hm : l.length ≤ 1000) (q : Bool) (hq : hasB l x = q) :
    Calls Try.prog 77 #[.slice A l.length c, .int .i64 x] w fun e w' => e = .returned (.bool q) ∧ w = w' := hq ▸ contains_any B A c l x w h hm
theorem has_b (B : Nat → Prop) (A : Option Addr) (c : Nat) (l : List Int) (x : Int) (w : World) (h : RI w B A l) (hm : l.length ≤ 1000) (q : Bool) (hq : hasB l x = q) :
    Calls Try.prog 79 #[.slice A l.length c, .int .i64 x] w fun e w' => e = .returned (.bool q) ∧ w = w' := hq ▸ has_any B A c l x w h hm
set_option maxHeartbeats 400000 in
theorem majority_any (A : Option Addr) (n c : Nat) (w : World) (hm : n ≤ 1000) :
    Calls Try.prog 78 #[.slice A n c] w fun e w' => e = .returned (.int .i64 ((n / 2 + 1 : Nat) : Int)) ∧ w = w' := by
  go_enter Try.func78, Try.ntmps78
  go_wp2
  go_ret
  exact ⟨by simp, rfl⟩
end Go.Proofs.Ytbhbamgnapcbaaa

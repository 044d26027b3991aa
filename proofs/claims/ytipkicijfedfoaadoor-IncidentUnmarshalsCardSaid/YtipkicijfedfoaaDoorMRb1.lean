import Derived.Test.YtipkicijfedfoaaDoorMGD
import Derived.Test.YtipkicijfedfoaaDoorMGF
namespace Go.Proofs.YtipkicijfedfoaaDoor
set_option linter.unusedVariables false
open Go.RowKit Go.Own Go.Quo Go.Inc
def cmpI (x y : Int) : Int := if x < y then -1 else if y < x then 1 else 0
def firstNZ : List Int → Int
  | [] => 0
  | x :: r => if x = 0 then firstNZ r else x
theorem nan86 (x : Int) (w : World) : Calls Tryd.prog 86 #[.int .i64 x] w (fun e w' => e = .returned (.bool false) ∧ w' = w) := by
  go_enter Tryd.func86, Tryd.ntmps86
  go_wp2_with fail
  go_ret
  exact ⟨by simp, rfl⟩
set_option maxHeartbeats 1000000 in
theorem cmp66 (x y : Int) (w : World) : Calls Tryd.prog 66 #[.int .i64 x, .int .i64 y] w (fun e w' => e = .returned (.int .i64 (cmpI x y)) ∧ w' = w) := by
  have HN := Lib.hid fun z W => nan86 z W
  unfold cmpI
  by_cases h1 : x < y
  · rw [if_pos h1]
    have d1 : decide (x < y) = true := by simpa using h1
    clear h1
    go_enter Tryd.func66, Tryd.ntmps66
    go_wp2_with (go_at_call 86; ((with_reducible refine (HN.out _ _).mono ?_); rintro e w3 ⟨rfl, rfl⟩))
    go_ret
    exact ⟨rfl, rfl⟩
  · rw [if_neg h1]
    have d1 : decide (x < y) = false := by simpa using h1
    by_cases h2 : y < x
    · rw [if_pos h2]
      have d2 : decide (y < x) = true := by simpa using h2
      clear h1 h2
      go_enter Tryd.func66, Tryd.ntmps66
      go_wp2_with (go_at_call 86; ((with_reducible refine (HN.out _ _).mono ?_); rintro e w3 ⟨rfl, rfl⟩))
      go_ret
      exact ⟨rfl, rfl⟩
    · rw [if_neg h2]
      have d2 : decide (y < x) = false := by simpa using h2
      clear h1 h2
      go_enter Tryd.func66, Tryd.ntmps66
      go_wp2_with (go_at_call 86; ((with_reducible refine (HN.out _ _).mono ?_); rintro e w3 ⟨rfl, rfl⟩))
      go_ret
      exact ⟨rfl, rfl⟩
theorem firstNZ_skip : ∀ (l : List Int) (k : Nat), (∀ i x, i < k → l[i]? = some x → x = 0) → firstNZ l = firstNZ (l.drop k)
  | [], k, _ => by simp [firstNZ]
  | a :: r, 0, _ => rfl
  | a :: r, k + 1, h => by
    have h0 := h 0 a (by omega) rfl
    rw [List.drop_succ_cons, ← firstNZ_skip r k (fun i x hi hx => h (i + 1) x (by omega) (by simpa using hx))]
    rw [firstNZ, if_pos h0]
set_option maxHeartbeats 2000000 in
theorem or65 (B : Nat → Prop) (A : Option Addr) (c : Nat) (l : List Int) (w : World) (h : Reads w B 1 A l.length (l.map (Value.int .i64))) (hl : l.length ≤ 1000) :
    Calls Tryd.prog 65 #[.slice A l.length c] w (fun e w' => e = .returned (.int .i64 (firstNZ l)) ∧ w' = w) := by
  have hp := h.plain (by omega)
  have H1 := Lib.hid h
  clear h
  go_enter Tryd.func65, Tryd.ntmps65
  go_wp2_with fail
  go_loopw [8] (fun vi wr => ∃ (k : Nat), k ≤ l.length ∧ vi = .int .i64 k ∧ (∀ i x, i < k → l[i]? = some x → x = 0) ∧ wr = w) (fun vi _ => l.length - (intOf vi).toNat)
  case atStart => exact ⟨0, Nat.zero_le _, rfl, fun i x hi => by omega, rfl⟩
  case round =>
    obtain ⟨k, hk, rfl, hz, rfl⟩ := hrel
    have HZ := Lib.hid hz
    clear hz
    by_cases hlt : k < l.length
    · have hlt' : (k : Int) < l.length := by omega
      obtain ⟨x, hx⟩ : ∃ x, l[k]? = some x := ⟨_, List.getElem?_eq_getElem hlt⟩
      have hix := fun W => ix22 hp c k hlt W
      have hc1 : wr.cell? ⟨bk A, ofs A + k, none⟩ = some (.int .i64 x) := by
        have := H1.out.cell2 k (by omega) (by omega); rw [this]; simp [hx]
      by_cases h0 : x = 0
      · subst h0
        have HF := Lib.hid (show ∀ i x, i < k + 1 → l[i]? = some x → x = 0 from fun i y hi hy => by
          rcases (by omega : i < k ∨ i = k) with e | rfl
          · exact HZ.out i y e hy
          · rw [hx] at hy; injection hy with hy; exact hy.symm)
        clear hx
        go_wp2_with fail
        exact ⟨⟨k + 1, by omega, by go_num, HF.out, (by first | rfl | trivial)⟩, by simp [intOf]; omega⟩
      · have HF := Lib.hid (show firstNZ l = x by
          rw [firstNZ_skip l k HZ.out, List.drop_eq_getElem_cons hlt, firstNZ]
          have : l[k] = x := by rw [List.getElem?_eq_getElem hlt] at hx; injection hx
          rw [this, if_neg h0])
        have d0 : (x == 0) = false := by simpa using h0
        clear hx h0
        go_wp2_with fail
        go_ret
        exact ⟨by rw [HF.out]; rfl, rfl⟩
    · have hlt' : ¬ (k : Int) < l.length := by omega
      have HF := Lib.hid (show firstNZ l = 0 by
        rw [firstNZ_skip l k HZ.out, List.drop_of_length_le (by omega), firstNZ])
      go_wp2_with fail
      go_ret
      exact ⟨by rw [HF.out]; rfl, rfl⟩
end Go.Proofs.YtipkicijfedfoaaDoor

import Derived.Test.YtipkicijfedfoaaDoorNod2
import Derived.Deep.RegionLaw
namespace Go.Proofs.YtipkicijfedfoaaDoor
set_option linter.unusedVariables false
open Go.RowKit Go.Own Go.Quo Go.Inc
set_option maxRecDepth 10000 in
set_option maxHeartbeats 2000000 in
theorem add89 (g : Nat) (ws : List Nat) (n : Nat) (hn : n < 4096) (w : World) (h : WB w g ws) (hl : ws.length = 64) (hv : ∀ i, gw ws i < 2 ^ 64) : Calls Tryd.prog 89 #[.pointer (some ⟨g, 0, none⟩), .int .i64 (n : Int)] w (fun e w' => e = .returned (.tuple #[]) ∧ WB w' g (addW ws n) ∧ Fr (fun k => k = g) w w') := by
  have H1 := Lib.hid h
  have hc := h.at_ (i := n / 64) (by omega)
  have hf := Blk.frozen h
  have hgl := h.lt
  have e1 : Int.tdiv (n : Int) 64 = ((n / 64 : Nat) : Int) := by rw [Int.tdiv_eq_ediv_of_nonneg (by omega)]; omega
  have e2 : Int.tmod (n : Int) 64 = ((n % 64 : Nat) : Int) := by rw [Int.tmod_eq_emod_of_nonneg (by omega)]; omega
  have hlt : n / 64 < 64 := by omega
  have hor : bits .or .u64 ((gw ws (n / 64) : Nat) : Int) ((2 : Int) ^ (n % 64)) = ((gw ws (n / 64) ||| 2 ^ (n % 64) : Nat) : Int) := by
    have h1 : gw ws (n / 64) < 18446744073709551616 := hv _
    have h2 : 2 ^ (n % 64) < 18446744073709551616 := Nat.pow_lt_pow_right (n := 64) (by omega) (by omega)
    have := bits_or_u64_nat _ _ h1 h2
    rw [← this]; simp
  have hw1 : IntKind.i64.wrap ((n / 64 : Nat) : Int) = ((n / 64 : Nat) : Int) := IntWalk.i64_in _ (by omega)
  have hw2 : IntKind.u64.wrap ((2 : Int) ^ (n % 64)) = (2 : Int) ^ (n % 64) := by
    have h2 : 2 ^ (n % 64) < 18446744073709551616 := Nat.pow_lt_pow_right (n := 64) (by omega) (by omega)
    have e : ((2 : Int) ^ (n % 64)) = ((2 ^ (n % 64) : Nat) : Int) := by simp
    rw [e, wrap_u64, Nat.mod_eq_of_lt h2]
  have hlt1 : ((n / 64 : Nat) : Int) < 64 := by omega
  have HS := Lib.hid (fun (u : Value) => Blk.set_ (w := w.drew) H1.out (n / 64) u)
  have HF := Lib.hid (fun (u : Value) => ((Fr.refl (fun k => k = g) w).drew).setCell (p := ⟨g, n / 64, none⟩) (.inl rfl) u)
  have HA := Lib.hid (show addW ws n = ws.set (n / 64) (gw ws (n / 64) ||| 2 ^ (n % 64)) from rfl)
  generalize hq : n / 64 = q at *
  generalize hr : n % 64 = r at *
  generalize gw ws q = v at *
  clear h
  go_enter Tryd.func89, Tryd.ntmps89
  go_region_law (fail)
  all_goals
    go_end0
    refine ⟨rfl, ?_, HF.out _⟩
    have := HS.out (.int .u64 ((v ||| 2 ^ r : Nat) : Int))
    unfold WB
    rw [HA.out]
    have e : wordsV (ws.set q (v ||| 2 ^ r)) = (wordsV ws).setIfInBounds q (.int .u64 ((v ||| 2 ^ r : Nat) : Int)) := by
      unfold wordsV; rw [List.map_set]; simp
    rw [e]
    exact this
end Go.Proofs.YtipkicijfedfoaaDoor

import Derived.Test.YtipkicijfedfoaaDoorProg
import Derived.Test.YtipkicijfedfoaaDoorBase3
import Derived.Test.YtipkicijfedfoaaDoorOpen
import Derived.Test.YtipkicijfedfoaaDoorIPlain
namespace Go.Proofs.YtipkicijfedfoaaDoor
set_option linter.unusedVariables false
open Go.RowKit Go.Own Go.Quo Go.Inc
theorem info3 : (Tryd.prog.info? 3).map (fun i => (i.zero, i.size, i.bytes)) = some (some (.int .i64 0), 1, 8) := by kernel_rfl
theorem info2 : (Tryd.prog.info? 2).map (fun i => (i.zero, i.size, i.bytes)) = some (some (.int .i64 0), 1, 8) := by kernel_rfl
theorem i3x : ∃ i, Tryd.prog.info? 3 = some i ∧ i.size = 1 := by obtain ⟨i, h, _, h2, _⟩ := info_parts info3; exact ⟨i, h, h2⟩
theorem i2x : ∃ i, Tryd.prog.info? 2 = some i ∧ i.size = 1 := by obtain ⟨i, h, _, h2, _⟩ := info_parts info2; exact ⟨i, h, h2⟩
abbrev RI (w : World) (B : Nat → Prop) (A : Option Addr) (l : List Int) : Prop := Reads w B 1 A l.length (l.map (Value.int .i64))
theorem ix22 {A : Option Addr} {n : Nat} (hA : Plain A n) (c k : Nat) (hk : k < n) (w : World) : (Instr.indexAt 22 (.slice A n c) (.int .i64 (k : Int))).run Tryd.prog w = .ok (.pointer (some ⟨bk A, ofs A + k, none⟩)) w := by
  obtain ⟨i, h1, h2⟩ := i3x
  have := run_indexAt2 (P := Tryd.prog) Tryd.underlying22 h1 h2 hA c k hk w
  simpa using this
theorem ix23 {A : Option Addr} {n : Nat} (hA : Plain A n) (c k : Nat) (hk : k < n) (w : World) : (Instr.indexAt 23 (.slice A n c) (.int .i64 (k : Int))).run Tryd.prog w = .ok (.pointer (some ⟨bk A, ofs A + k, none⟩)) w := by
  obtain ⟨i, h1, h2⟩ := i2x
  have := run_indexAt2 (P := Tryd.prog) Tryd.underlying23 h1 h2 hA c k hk w
  simpa using this
theorem ri_cell {w : World} {B : Nat → Prop} {A : Option Addr} {l : List Int} (h : RI w B A l) {k : Nat} (hk : k < l.length) : w.cell? ⟨bk A, ofs A + k, none⟩ = some (.int .i64 (gd l k)) := by
  rw [h.cell2 k (by omega) (by omega), gd_get hk]; simp [hk]
def BoolIs (b : Bool) (w : World) (e : Ending) (w' : World) : Prop := e = .returned (.bool b) ∧ w' = w
theorem isNum (n : Int) (w : World) : Calls Tryd.prog 30 #[.int .i64 n] w (BoolIs (numB n 1) w) := by
  unfold numB maxT
  cases h1 : decide (1 ≤ n) <;> cases h2 : decide (n ≤ 1099511627776)
  all_goals
    go_enter Tryd.func30, Tryd.ntmps30
    go_wp2_with fail
    go_ret
    exact ⟨by simp, rfl⟩
set_option maxRecDepth 10000 in
set_option maxHeartbeats 2000000 in
theorem incr36 (B : Nat → Prop) (A : Option Addr) (c : Nat) (l : List Int) (lo hi : Int) (w : World) (h : RI w B A l) (hl : l.length ≤ 100000) : Calls Tryd.prog 36 #[.slice A l.length c, .int .i64 lo, .int .i64 hi] w (BoolIs (incB l lo hi) w) := by
  have hp := h.plain (by omega)
  have HT := Lib.hid (fun h0 : (∀ i, i < l.length → incAt l lo hi i = true) => incB_iff.2 h0)
  have HF := Lib.hid (fun (i : Nat) (h0 : i < l.length) (h1 : incAt l lo hi i = false) => incB_false h0 h1)
  have HR := Lib.hid h
  clear h
  generalize incB l lo hi = q at *
  go_enter Tryd.func36, Tryd.ntmps36
  go_wp2_with fail
  go_loopw [11] (fun vi wr => ∃ (k : Nat), k ≤ l.length ∧ vi = .int .i64 k ∧ (∀ i, i < k → incAt l lo hi i = true) ∧ wr = w) (fun vi _ => l.length - (intOf vi).toNat)
  case atStart => exact ⟨0, Nat.zero_le _, rfl, fun i hi => by omega, rfl⟩
  case round =>
    obtain ⟨k, hk, rfl, hall, rfl⟩ := hrel
    have HA := Lib.hid hall
    clear hall
    by_cases hlt : k < l.length
    · have hlt' : (k : Int) < l.length := by omega
      have hix := fun W => ix22 hp c k hlt W
      have hc := ri_cell HR.out hlt
      by_cases h1 : gd l k < lo
      · have hq := HF.out k hlt (by unfold incAt; simp; omega)
        have d1 : decide (gd l k < lo) = true := by simpa using h1
        clear h1 HF HT
        generalize gd l k = v at *
        go_wp2_with fail
        go_ret
        exact ⟨by first | (rw [hq]; rfl) | simp, rfl⟩
      · have d1 : decide (gd l k < lo) = false := by simpa using h1
        by_cases h2 : hi < gd l k
        · have hq := HF.out k hlt (by unfold incAt; simp; omega)
          have d2 : decide (hi < gd l k) = true := by simpa using h2
          clear h1 h2 HF HT
          generalize gd l k = v at *
          go_wp2_with fail
          go_ret
          exact ⟨by first | (rw [hq]; rfl) | simp, rfl⟩
        · have d2 : decide (hi < gd l k) = false := by simpa using h2
          by_cases h0 : k = 0
          · have HN := Lib.hid (show ∀ i, i < k + 1 → incAt l lo hi i = true from fun i hi' => by
              have : i = k := by omega
              subst this; unfold incAt; simp [h0]; rw [h0] at h1 h2; omega)
            have d3 : decide ((0 : Int) < (k : Int)) = false := by simp; omega
            have d3n : ¬ 0 < k := by omega
            clear h1 h2 HF HT h0
            generalize gd l k = v at *
            go_wp2_with fail
            exact ⟨⟨k + 1, by omega, by go_num, HN.out, (by first | rfl | trivial)⟩, by simp [intOf]; omega⟩
          · have hk1 : k - 1 < l.length := by omega
            have d3 : decide ((0 : Int) < (k : Int)) = true := by simp; omega
            have d3n : 0 < k := by omega
            have hix1 := fun W => ix22 hp c (k - 1) hk1 W
            rw [show ((k - 1 : Nat) : Int) = (k : Int) - 1 by omega] at hix1
            have hc1 := ri_cell HR.out hk1
            by_cases h3 : gd l k ≤ gd l (k - 1)
            · have hq := HF.out k hlt (by unfold incAt; simp; omega)
              have d4 : decide (gd l k ≤ gd l (k - 1)) = true := by simpa using h3
              clear h1 h2 h3 HF HT h0
              generalize gd l k = v at *
              generalize gd l (k - 1) = v0 at *
              generalize k - 1 = k1 at hc1 hix1
              go_wp2_with fail
              go_ret
              exact ⟨by first | (rw [hq]; rfl) | simp, rfl⟩
            · have HN := Lib.hid (show ∀ i, i < k + 1 → incAt l lo hi i = true from fun i hi' => by
                rcases (by omega : i < k ∨ i = k) with e | rfl
                · exact HA.out i e
                · unfold incAt; simp; omega)
              have d4 : decide (gd l k ≤ gd l (k - 1)) = false := by simpa using h3
              clear h1 h2 h3 HF HT h0
              generalize gd l k = v at *
              generalize gd l (k - 1) = v0 at *
              generalize k - 1 = k1 at hc1 hix1
              go_wp2_with fail
              exact ⟨⟨k + 1, by omega, by go_num, HN.out, (by first | rfl | trivial)⟩, by simp [intOf]; omega⟩
    · have hlt' : ¬ (k : Int) < l.length := by omega
      have he : k = l.length := by omega
      subst he
      have hq := HT.out HA.out
      go_wp2_with fail
      go_ret
      exact ⟨by first | (rw [hq]; rfl) | simp, rfl⟩
set_option maxRecDepth 10000 in
set_option maxHeartbeats 2000000 in
theorem incr35 (B : Nat → Prop) (A : Option Addr) (c : Nat) (l : List Int) (lo hi : Int) (w : World) (h : RI w B A l) (hl : l.length ≤ 100000) : Calls Tryd.prog 35 #[.slice A l.length c, .int .i64 lo, .int .i64 hi] w (BoolIs (incB l lo hi) w) := by
  have hp := h.plain (by omega)
  have HT := Lib.hid (fun h0 : (∀ i, i < l.length → incAt l lo hi i = true) => incB_iff.2 h0)
  have HF := Lib.hid (fun (i : Nat) (h0 : i < l.length) (h1 : incAt l lo hi i = false) => incB_false h0 h1)
  have HR := Lib.hid h
  clear h
  generalize incB l lo hi = q at *
  go_enter Tryd.func35, Tryd.ntmps35
  go_wp2_with fail
  go_loopw [11] (fun vi wr => ∃ (k : Nat), k ≤ l.length ∧ vi = .int .i64 k ∧ (∀ i, i < k → incAt l lo hi i = true) ∧ wr = w) (fun vi _ => l.length - (intOf vi).toNat)
  case atStart => exact ⟨0, Nat.zero_le _, rfl, fun i hi => by omega, rfl⟩
  case round =>
    obtain ⟨k, hk, rfl, hall, rfl⟩ := hrel
    have HA := Lib.hid hall
    clear hall
    by_cases hlt : k < l.length
    · have hlt' : (k : Int) < l.length := by omega
      have hix := fun W => ix23 hp c k hlt W
      have hc := ri_cell HR.out hlt
      by_cases h1 : gd l k < lo
      · have hq := HF.out k hlt (by unfold incAt; simp; omega)
        have d1 : decide (gd l k < lo) = true := by simpa using h1
        clear h1 HF HT
        generalize gd l k = v at *
        go_wp2_with fail
        go_ret
        exact ⟨by first | (rw [hq]; rfl) | simp, rfl⟩
      · have d1 : decide (gd l k < lo) = false := by simpa using h1
        by_cases h2 : hi < gd l k
        · have hq := HF.out k hlt (by unfold incAt; simp; omega)
          have d2 : decide (hi < gd l k) = true := by simpa using h2
          clear h1 h2 HF HT
          generalize gd l k = v at *
          go_wp2_with fail
          go_ret
          exact ⟨by first | (rw [hq]; rfl) | simp, rfl⟩
        · have d2 : decide (hi < gd l k) = false := by simpa using h2
          by_cases h0 : k = 0
          · have HN := Lib.hid (show ∀ i, i < k + 1 → incAt l lo hi i = true from fun i hi' => by
              have : i = k := by omega
              subst this; unfold incAt; simp [h0]; rw [h0] at h1 h2; omega)
            have d3 : decide ((0 : Int) < (k : Int)) = false := by simp; omega
            have d3n : ¬ 0 < k := by omega
            clear h1 h2 HF HT h0
            generalize gd l k = v at *
            go_wp2_with fail
            exact ⟨⟨k + 1, by omega, by go_num, HN.out, (by first | rfl | trivial)⟩, by simp [intOf]; omega⟩
          · have hk1 : k - 1 < l.length := by omega
            have d3 : decide ((0 : Int) < (k : Int)) = true := by simp; omega
            have d3n : 0 < k := by omega
            have hix1 := fun W => ix23 hp c (k - 1) hk1 W
            rw [show ((k - 1 : Nat) : Int) = (k : Int) - 1 by omega] at hix1
            have hc1 := ri_cell HR.out hk1
            by_cases h3 : gd l k ≤ gd l (k - 1)
            · have hq := HF.out k hlt (by unfold incAt; simp; omega)
              have d4 : decide (gd l k ≤ gd l (k - 1)) = true := by simpa using h3
              clear h1 h2 h3 HF HT h0
              generalize gd l k = v at *
              generalize gd l (k - 1) = v0 at *
              generalize k - 1 = k1 at hc1 hix1
              go_wp2_with fail
              go_ret
              exact ⟨by first | (rw [hq]; rfl) | simp, rfl⟩
            · have HN := Lib.hid (show ∀ i, i < k + 1 → incAt l lo hi i = true from fun i hi' => by
                rcases (by omega : i < k ∨ i = k) with e | rfl
                · exact HA.out i e
                · unfold incAt; simp; omega)
              have d4 : decide (gd l k ≤ gd l (k - 1)) = false := by simpa using h3
              clear h1 h2 h3 HF HT h0
              generalize gd l k = v at *
              generalize gd l (k - 1) = v0 at *
              generalize k - 1 = k1 at hc1 hix1
              go_wp2_with fail
              exact ⟨⟨k + 1, by omega, by go_num, HN.out, (by first | rfl | trivial)⟩, by simp [intOf]; omega⟩
    · have hlt' : ¬ (k : Int) < l.length := by omega
      have he : k = l.length := by omega
      subst he
      have hq := HT.out HA.out
      go_wp2_with fail
      go_ret
      exact ⟨by first | (rw [hq]; rfl) | simp, rfl⟩
end Go.Proofs.YtipkicijfedfoaaDoor

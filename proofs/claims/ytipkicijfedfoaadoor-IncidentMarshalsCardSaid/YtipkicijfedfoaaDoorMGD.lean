import Derived.Test.YtipkicijfedfoaaDoorProg
import Derived.Test.YtipkicijfedfoaaDoorMGA
import Derived.Test.YtipkicijfedfoaaDoorMGB
namespace Go.Proofs.YtipkicijfedfoaaDoor
set_option linter.unusedVariables false
open Go.RowKit Go.Own Go.Quo Go.Inc
theorem info3 : (Tryd.prog.info? 3).map (fun i => (i.zero, i.size, i.bytes)) = some (some (.int .i64 0), 1, 8) := by kernel_rfl
theorem info2 : (Tryd.prog.info? 2).map (fun i => (i.zero, i.size, i.bytes)) = some (some (.int .i64 0), 1, 8) := by kernel_rfl
theorem i3x : ∃ i, Tryd.prog.info? 3 = some i ∧ i.size = 1 := by obtain ⟨i, h, _, h2, _⟩ := info_parts info3; exact ⟨i, h, h2⟩
theorem i2x : ∃ i, Tryd.prog.info? 2 = some i ∧ i.size = 1 := by obtain ⟨i, h, _, h2, _⟩ := info_parts info2; exact ⟨i, h, h2⟩
abbrev RI (w : World) (B : Nat → Prop) (A : Option Addr) (l : List Int) : Prop := Reads w B 1 A l.length (l.map (Value.int .i64))
theorem ix22 {A : Option Addr} {n : Nat} (hA : Plain A n) (c k : Nat) (hk : k < n) (w : World) : (Instr.indexAt 22 (.slice A n c) (.int .i64 (k : Int))).run Tryd.prog w = .ok (.pointer (some ⟨bk A, ofs A + k, none⟩)) w := by
  obtain ⟨i, h1, h2⟩ := i3x
  have := run_indexAt2 (P := Tryd.prog) Tryd.underlying22 h1 h2 hA c k hk w
  simpa using this
theorem ix23 {A : Option Addr} {n : Nat} (hA : Plain A n) (c k : Nat) (hk : k < n) (w : World) : (Instr.indexAt 23 (.slice A n c) (.int .i64 (k : Int))).run Tryd.prog w = .ok (.pointer (some ⟨bk A, ofs A + k, none⟩)) w := by
  obtain ⟨i, h1, h2⟩ := i2x
  have := run_indexAt2 (P := Tryd.prog) Tryd.underlying23 h1 h2 hA c k hk w
  simpa using this
theorem ri_cell {w : World} {B : Nat → Prop} {A : Option Addr} {l : List Int} (h : RI w B A l) {k : Nat} (hk : k < l.length) : w.cell? ⟨bk A, ofs A + k, none⟩ = some (.int .i64 (gd l k)) := by
  rw [h.cell2 k (by omega) (by omega), gd_get hk]; simp [hk]
def BoolIs (b : Bool) (w : World) (e : Ending) (w' : World) : Prop := e = .returned (.bool b) ∧ w' = w
theorem isNum (n : Int) (w : World) : Calls Tryd.prog 30 #[.int .i64 n] w (BoolIs (numB n 1) w) := by
  unfold numB maxT
  cases h1 : decide (1 ≤ n) <;> cases h2 : decide (n ≤ 1099511627776)
  all_goals
    go_enter Tryd.func30, Tryd.ntmps30
    go_wp2_with fail
    go_ret
    exact ⟨by simp, rfl⟩
set_option maxRecDepth 10000 in
set_option maxHeartbeats 2000000 in
theorem incr36 (B : Nat → Prop) (A : Option Addr) (c : Nat) (l : List Int) (lo hi : Int) (w : World) (h : RI w B A l) (hl : l.length ≤ 100000) : Calls Tryd.prog 36 #[.slice A l.length c, .int .i64 lo, .int .i64 hi] w (BoolIs (incB l lo hi) w) := by
  have hp := h.plain (by omega)
  have HT := Lib.hid (fun h0 : (∀ i, i < l.length → incAt l lo hi i = true) => incB_iff.2 h0)
  have HF := Lib.hid (fun (i : Nat) (h0 : i < l.length) (h1 : incAt l lo hi i = false) => incB_false h0 h1)
  have HR := Lib.hid h
  clear h
  generalize incB l lo hi = q at *
  go_enter Tryd.func36, Tryd.ntmps36
  go_wp2_with fail
  go_loopw [11] (fun vi wr => ∃ (k : Nat), k ≤ l.length ∧ vi = .int .i64 k ∧ (∀ i, i < k → incAt l lo hi i = true) ∧ wr = w) (fun vi _ => l.length - (intOf vi).toNat)
  case atStart => exact ⟨0, Nat.zero_le _, rfl, fun i hi => by omega, rfl⟩
  case round =>
    obtain ⟨k, hk, rfl, hall, rfl⟩ := hrel
    have HA := Lib.hid hall
    clear hall
    by_cases hlt : k < l.length
    · have hlt' : (k : Int) < l.length := by omega
      have hix := fun W => ix22 hp c k hlt W
      have hc := ri_cell HR.out hlt
      by_cases h1 : gd l k < lo
      · have hq := HF.out k hlt (by unfold incAt; simp; omega)
        have d1 : decide (gd l k < lo) = true := by simpa using h1
        clear h1 HF HT
        generalize gd l k = v at *
        go_wp2_with fail
        go_ret
        exact ⟨by first | (rw [hq]; rfl) | simp, rfl⟩
      · have d1 : decide (gd l k < lo) = false := by simpa using h1
        by_cases h2 : hi < gd l k
        · have hq := HF.out k hlt (by unfold incAt; simp; omega)
          have d2 : decide (hi < gd l k) = true := by simpa using h2
          clear h1 h2 HF HT
          generalize gd l k = v at *
          go_wp2_with fail
          go_ret
          exact ⟨by first | (rw [hq]; rfl) | simp, rfl⟩
        · have d2 : decide (hi < gd l k) = false := by simpa using h2
          by_cases h0 : k = 0
          · have HN := Lib.hid (show ∀ i, i < k + 1 → incAt l lo hi i = true from fun i hi' => by
              have : i = k := by omega
              subst this; unfold incAt; simp [h0]; rw [h0] at h1 h2; omega)
            have d3 : decide ((0 : Int) < (k : Int)) = false := by simp; omega
            have d3n : ¬ 0 < k := by omega
            clear h1 h2 HF HT h0
            generalize gd l k = v at *
            go_wp2_with fail
            exact ⟨⟨k + 1, by omega, by go_num, HN.out, (by first | rfl | trivial)⟩, by simp [intOf]; omega⟩
          · have hk1 : k - 1 < l.length := by omega
            have d3 : decide ((0 : Int) < (k : Int)) = true := by simp; omega
            have d3n : 0 < k := by omega
            have hix1 := fun W => ix22 hp c (k - 1) hk1 W
            rw [show ((k - 1 : Nat) : Int) = (k : Int) - 1 by omega] at hix1
            have hc1 := ri_cell HR.out hk1
            by_cases h3 : gd l k ≤ gd l (k - 1)
            · have hq := HF.out k hlt (by unfold incAt; simp; omega)
              have d4 : decide (gd l k ≤ gd l (k - 1)) = true := by simpa using h3
              clear h1 h2 h3 HF HT h0
              generalize gd l k = v at *
              generalize gd l (k - 1) = v0 at *
              generalize k - 1 = k1 at hc1 hix1
              go_wp2_with fail
              go_ret
              exact ⟨by first | (rw [hq]; rfl) | simp, rfl⟩
            · have HN := Lib.hid (show ∀ i, i < k + 1 → incAt l lo hi i = true from fun i hi' => by
                rcases (by omega : i < k ∨ i = k) with e | rfl
                · exact HA.out i e
                · unfold incAt; simp; omega)
              have d4 : decide (gd l k ≤ gd l (k - 1)) = false := by simpa using h3
              clear h1 h2 h3 HF HT h0
              generalize gd l k = v at *
              generalize gd l (k - 1) = v0 at *
              generalize k - 1 = k1 at hc1 hix1
              go_wp2_with fail
              exact ⟨⟨k + 1, by omega, by go_num, HN.out, (by first | rfl | trivial)⟩, by simp [intOf]; omega⟩
    · have hlt' : ¬ (k : Int) < l.length := by omega
      have he : k = l.length := by omega
      subst he
      have hq := HT.out HA.out
      go_wp2_with fail
      go_ret
      exact ⟨by first | (rw [hq]; rfl) | simp, rfl⟩
set_option maxRecDepth 10000 in
set_option maxHeartbeats 2000000 in
theorem incr35 (B : Nat → Prop) (A : Option Addr) (c : Nat) (l : List Int) (lo hi : Int) (w : World) (h : RI w B A l) (hl : l.length ≤ 100000) : Calls Tryd.prog 35 #[.slice A l.length c, .int .i64 lo, .int .i64 hi] w (BoolIs (incB l lo hi) w) := by
  have hp := h.plain (by omega)
  have HT := Lib.hid (fun h0 : (∀ i, i < l.length → incAt l lo hi i = true) => incB_iff.2 h0)
  have HF := Lib.hid (fun (i : Nat) (h0 : i < l.length) (h1 : incAt l lo hi i = false) => incB_false h0 h1)
  have HR := Lib.hid h
  clear h
  generalize incB l lo hi = q at *
  go_enter Tryd.func35, Tryd.ntmps35
  go_wp2_with fail
  go_loopw [11] (fun vi wr => ∃ (k : Nat), k ≤ l.length ∧ vi = .int .i64 k ∧ (∀ i, i < k → incAt l lo hi i = true) ∧ wr = w) (fun vi _ => l.length - (intOf vi).toNat)
  case atStart => exact ⟨0, Nat.zero_le _, rfl, fun i hi => by omega, rfl⟩
  case round =>
    obtain ⟨k, hk, rfl, hall, rfl⟩ := hrel
    have HA := Lib.hid hall
    clear hall
    by_cases hlt : k < l.length
    · have hlt' : (k : Int) < l.length := by omega
      have hix := fun W => ix23 hp c k hlt W
      have hc := ri_cell HR.out hlt
      by_cases h1 : gd l k < lo
      · have hq := HF.out k hlt (by unfold incAt; simp; omega)
        have d1 : decide (gd l k < lo) = true := by simpa using h1
        clear h1 HF HT
        generalize gd l k = v at *
        go_wp2_with fail
        go_ret
        exact ⟨by first | (rw [hq]; rfl) | simp, rfl⟩
      · have d1 : decide (gd l k < lo) = false := by simpa using h1
        by_cases h2 : hi < gd l k
        · have hq := HF.out k hlt (by unfold incAt; simp; omega)
          have d2 : decide (hi < gd l k) = true := by simpa using h2
          clear h1 h2 HF HT
          generalize gd l k = v at *
          go_wp2_with fail
          go_ret
          exact ⟨by first | (rw [hq]; rfl) | simp, rfl⟩
        · have d2 : decide (hi < gd l k) = false := by simpa using h2
          by_cases h0 : k = 0
          · have HN := Lib.hid (show ∀ i, i < k + 1 → incAt l lo hi i = true from fun i hi' => by
              have : i = k := by omega
              subst this; unfold incAt; simp [h0]; rw [h0] at h1 h2; omega)
            have d3 : decide ((0 : Int) < (k : Int)) = false := by simp; omega
            have d3n : ¬ 0 < k := by omega
            clear h1 h2 HF HT h0
            generalize gd l k = v at *
            go_wp2_with fail
            exact ⟨⟨k + 1, by omega, by go_num, HN.out, (by first | rfl | trivial)⟩, by simp [intOf]; omega⟩
          · have hk1 : k - 1 < l.length := by omega
            have d3 : decide ((0 : Int) < (k : Int)) = true := by simp; omega
            have d3n : 0 < k := by omega
            have hix1 := fun W => ix23 hp c (k - 1) hk1 W
            rw [show ((k - 1 : Nat) : Int) = (k : Int) - 1 by omega] at hix1
            have hc1 := ri_cell HR.out hk1
            by_cases h3 : gd l k ≤ gd l (k - 1)
            · have hq := HF.out k hlt (by unfold incAt; simp; omega)
              have d4 : decide (gd l k ≤ gd l (k - 1)) = true := by simpa using h3
              clear h1 h2 h3 HF HT h0
              generalize gd l k = v at *
              generalize gd l (k - 1) = v0 at *
              generalize k - 1 = k1 at hc1 hix1
              go_wp2_with fail
              go_ret
              exact ⟨by first | (rw [hq]; rfl) | simp, rfl⟩
            · have HN := Lib.hid (show ∀ i, i < k + 1 → incAt l lo hi i = true from fun i hi' => by
                rcases (by omega : i < k ∨ i = k) with e | rfl
                · exact HA.out i e
                · unfold incAt; simp; omega)
              have d4 : decide (gd l k ≤ gd l (k - 1)) = false := by simpa using h3
              clear h1 h2 h3 HF HT h0
              generalize gd l k = v at *
              generalize gd l (k - 1) = v0 at *
              generalize k - 1 = k1 at hc1 hix1
              go_wp2_with fail
              exact ⟨⟨k + 1, by omega, by go_num, HN.out, (by first | rfl | trivial)⟩, by simp [intOf]; omega⟩
    · have hlt' : ¬ (k : Int) < l.length := by omega
      have he : k = l.length := by omega
      subst he
      have hq := HT.out HA.out
      go_wp2_with fail
      go_ret
      exact ⟨by first | (rw [hq]; rfl) | simp, rfl⟩
end Go.Proofs.YtipkicijfedfoaaDoor

namespace Go.Proofs.YtipkicijfedfoaaDoor
set_option linter.unusedVariables false
open Go.RowKit Go.Own Go.Quo Go.Inc
theorem get_bang {s : ByteArray} {i : Nat} (h : i < s.size) : s.get! i = s[i] := by
  show s.data[i]! = s.data[i]
  exact getElem!_pos s.data i h
theorem code_iff {s : ByteArray} : codeB s = true ↔ 1 ≤ s.size ∧ s.size ≤ 40 ∧ ∀ i, i < s.size → chB (s.get! i) = true := by
  unfold codeB; simp [and_assoc]
set_option maxRecDepth 10000 in
set_option maxHeartbeats 2000000 in
theorem isCode69 (s : ByteArray) (w : World) (hs : s.size ≤ 100000) : Calls Tryd.prog 69 #[.string s] w (BoolIs (codeB s) w) := by
  by_cases h1 : s.size < 1
  · have hq : codeB s = false := by
      cases hb : codeB s with
      | false => rfl
      | true => have := (code_iff.1 hb).1; omega
    rw [hq]
    have d1 : decide ((s.size : Int) < 1) = true := by simp; omega
    clear h1 hq
    go_enter Tryd.func69, Tryd.ntmps69
    go_wp2_with fail
    go_ret
    exact ⟨by simp, rfl⟩
  · have d1 : decide ((s.size : Int) < 1) = false := by simp; omega
    by_cases h2 : 40 < s.size
    · have hq : codeB s = false := by
        cases hb : codeB s with
        | false => rfl
        | true => have := (code_iff.1 hb).2.1; omega
      rw [hq]
      have d2 : decide ((40 : Int) < s.size) = true := by simp; omega
      clear h1 h2 hq
      go_enter Tryd.func69, Tryd.ntmps69
      go_wp2_with fail
      go_ret
      exact ⟨by simp, rfl⟩
    · have d2 : decide ((40 : Int) < s.size) = false := by simp; omega
      have HT := Lib.hid (fun h0 : (∀ i, i < s.size → chB (s.get! i) = true) => code_iff.2 ⟨by omega, by omega, h0⟩)
      have HF := Lib.hid (fun (i : Nat) (h0 : i < s.size) (h3 : chB (s.get! i) = false) => show codeB s = false from by
        cases hb : codeB s with
        | false => rfl
        | true => have := (code_iff.1 hb).2.2 i h0; rw [h3] at this; cases this)
      clear h1
      generalize codeB s = q at *
      go_enter Tryd.func69, Tryd.ntmps69
      go_wp2_with fail
      go_loopw [14] (fun vi wr => ∃ (k : Nat), k ≤ s.size ∧ vi = .int .i64 k ∧ (∀ i, i < k → chB (s.get! i) = true) ∧ wr = w) (fun vi _ => s.size - (intOf vi).toNat)
      case atStart => exact ⟨0, Nat.zero_le _, rfl, fun i hi => by omega, rfl⟩
      case round =>
        obtain ⟨k, hk, rfl, hall, rfl⟩ := hrel
        have HA := Lib.hid hall
        clear hall
        by_cases hlt : k < s.size
        · have hlt' : (k : Int) < s.size := by omega
          have hgb := get_bang hlt
          by_cases h3 : ((s[k].toNat : Nat) : Int) < 33
          · have hq := HF.out k hlt (by rw [hgb]; unfold chB; simp; omega)
            have d3 : decide (((s[k].toNat : Nat) : Int) < 33) = true := by simpa using h3
            clear HF HT hgb
            go_wp2_with fail
            go_ret
            exact ⟨by first | (rw [hq]; rfl) | simp, rfl⟩
          · have d3 : decide (((s[k].toNat : Nat) : Int) < 33) = false := by simpa using h3
            by_cases h4 : (126 : Int) < ((s[k].toNat : Nat) : Int)
            · have hq := HF.out k hlt (by rw [hgb]; unfold chB; simp; omega)
              have d4 : decide ((126 : Int) < ((s[k].toNat : Nat) : Int)) = true := by simpa using h4
              clear HF HT hgb
              go_wp2_with fail
              go_ret
              exact ⟨by first | (rw [hq]; rfl) | simp, rfl⟩
            · have d4 : decide ((126 : Int) < ((s[k].toNat : Nat) : Int)) = false := by simpa using h4
              have HN := Lib.hid (show ∀ i, i < k + 1 → chB (s.get! i) = true from fun i hi => by
                rcases (by omega : i < k ∨ i = k) with e | rfl
                · exact HA.out i e
                · rw [hgb]; unfold chB; simp; omega)
              clear HF HT hgb
              go_wp2_with fail
              exact ⟨⟨k + 1, by omega, by go_num, HN.out, (by first | rfl | trivial)⟩, by simp [intOf]; omega⟩
        · have hlt' : ¬ (k : Int) < s.size := by omega
          have he : k = s.size := by omega
          subst he
          have hq := HT.out HA.out
          go_wp2_with fail
          go_ret
          exact ⟨by first | (rw [hq]; rfl) | simp, rfl⟩
set_option maxRecDepth 10000 in
set_option maxHeartbeats 4000000 in
theorem report34 (B : Nat → Prop) (urg dist since : Int) (code : ByteArray) (A : Option Addr) (c : Nat) (nodes : List Int) (w : World) (hs : code.size ≤ 100000) (h : RI w B A nodes) (hl : nodes.length ≤ 100000) :
    Calls Tryd.prog 34 #[.int .i64 urg, .string code, .slice A nodes.length c, .int .i64 dist, .int .i64 since] w (BoolIs (reportB urg code nodes dist since) w) := by
  have H69 := Lib.hid (isCode69 code w hs)
  have H36 := Lib.hid (incr36 B A c nodes 0 4095 w h hl)
  unfold reportB maxT
  clear h
  generalize codeB code = b2 at *
  generalize incB nodes 0 4095 = b4 at *
  cases h0 : decide (1 ≤ urg) with
  | false =>
    go_enter Tryd.func34, Tryd.ntmps34
    go_wp2_with (first | (go_at_call 69; ((with_reducible refine H69.out.mono ?_); rintro e w2 ⟨rfl, rfl⟩)) | (go_at_call 36; ((with_reducible refine H36.out.mono ?_); rintro e w2 ⟨rfl, rfl⟩)))
    go_ret
    exact ⟨by first | rfl | simp, rfl⟩
  | true =>
    cases h1 : decide (urg ≤ 5) with
    | false =>
      go_enter Tryd.func34, Tryd.ntmps34
      go_wp2_with (first | (go_at_call 69; ((with_reducible refine H69.out.mono ?_); rintro e w2 ⟨rfl, rfl⟩)) | (go_at_call 36; ((with_reducible refine H36.out.mono ?_); rintro e w2 ⟨rfl, rfl⟩)))
      go_ret
      exact ⟨by first | rfl | simp, rfl⟩
    | true =>
      cases h2 : b2 with
      | false =>
        go_enter Tryd.func34, Tryd.ntmps34
        go_wp2_with (first | (go_at_call 69; ((with_reducible refine H69.out.mono ?_); rintro e w2 ⟨rfl, rfl⟩)) | (go_at_call 36; ((with_reducible refine H36.out.mono ?_); rintro e w2 ⟨rfl, rfl⟩)))
        go_ret
        exact ⟨by first | rfl | simp, rfl⟩
      | true =>
        by_cases h3 : 0 < nodes.length
        · rw [decide_eq_true h3]
          cases h4 : b4 with
          | false =>
            go_enter Tryd.func34, Tryd.ntmps34
            go_wp2_with (first | (go_at_call 69; ((with_reducible refine H69.out.mono ?_); rintro e w2 ⟨rfl, rfl⟩)) | (go_at_call 36; ((with_reducible refine H36.out.mono ?_); rintro e w2 ⟨rfl, rfl⟩)))
            go_ret
            exact ⟨by first | rfl | simp, rfl⟩
          | true =>
            cases h5 : decide (0 ≤ dist) with
            | false =>
              go_enter Tryd.func34, Tryd.ntmps34
              go_wp2_with (first | (go_at_call 69; ((with_reducible refine H69.out.mono ?_); rintro e w2 ⟨rfl, rfl⟩)) | (go_at_call 36; ((with_reducible refine H36.out.mono ?_); rintro e w2 ⟨rfl, rfl⟩)))
              go_ret
              exact ⟨by first | rfl | simp, rfl⟩
            | true =>
              cases h6 : decide (dist < 9) with
              | false =>
                go_enter Tryd.func34, Tryd.ntmps34
                go_wp2_with (first | (go_at_call 69; ((with_reducible refine H69.out.mono ?_); rintro e w2 ⟨rfl, rfl⟩)) | (go_at_call 36; ((with_reducible refine H36.out.mono ?_); rintro e w2 ⟨rfl, rfl⟩)))
                go_ret
                exact ⟨by first | rfl | simp, rfl⟩
              | true =>
                cases h7 : decide (0 ≤ since) with
                | false =>
                  go_enter Tryd.func34, Tryd.ntmps34
                  go_wp2_with (first | (go_at_call 69; ((with_reducible refine H69.out.mono ?_); rintro e w2 ⟨rfl, rfl⟩)) | (go_at_call 36; ((with_reducible refine H36.out.mono ?_); rintro e w2 ⟨rfl, rfl⟩)))
                  go_ret
                  exact ⟨by first | rfl | simp, rfl⟩
                | true =>
                  cases h8 : decide (since ≤ 1099511627776) with
                  | false =>
                    go_enter Tryd.func34, Tryd.ntmps34
                    go_wp2_with (first | (go_at_call 69; ((with_reducible refine H69.out.mono ?_); rintro e w2 ⟨rfl, rfl⟩)) | (go_at_call 36; ((with_reducible refine H36.out.mono ?_); rintro e w2 ⟨rfl, rfl⟩)))
                    go_ret
                    exact ⟨by first | rfl | simp, rfl⟩
                  | true =>
                    go_enter Tryd.func34, Tryd.ntmps34
                    go_wp2_with (first | (go_at_call 69; ((with_reducible refine H69.out.mono ?_); rintro e w2 ⟨rfl, rfl⟩)) | (go_at_call 36; ((with_reducible refine H36.out.mono ?_); rintro e w2 ⟨rfl, rfl⟩)))
                    go_ret
                    exact ⟨by first | rfl | simp, rfl⟩
        · rw [decide_eq_false h3]
          go_enter Tryd.func34, Tryd.ntmps34
          go_wp2_with (first | (go_at_call 69; ((with_reducible refine H69.out.mono ?_); rintro e w2 ⟨rfl, rfl⟩)) | (go_at_call 36; ((with_reducible refine H36.out.mono ?_); rintro e w2 ⟨rfl, rfl⟩)))
          go_ret
          exact ⟨by first | rfl | simp, rfl⟩
end Go.Proofs.YtipkicijfedfoaaDoor

namespace Go.Proofs.YtipkicijfedfoaaDoor
set_option linter.unusedVariables false
open Go.RowKit Go.Own Go.Quo Go.Inc
set_option maxRecDepth 10000 in
set_option maxHeartbeats 2000000 in
theorem rises38 (B : Nat → Prop) (A : Option Addr) (c : Nat) (l : List Int) (lo hi : Int) (w : World) (h : RI w B A l) (hl : l.length ≤ 100000) : Calls Tryd.prog 38 #[.slice A l.length c, .int .i64 lo, .int .i64 hi] w (BoolIs (incB l lo hi) w) := by
  have hp := h.plain (by omega)
  have HT := Lib.hid (fun h0 : (∀ i, i < l.length → incAt l lo hi i = true) => incB_iff.2 h0)
  have HF := Lib.hid (fun (i : Nat) (h0 : i < l.length) (h1 : incAt l lo hi i = false) => incB_false h0 h1)
  have HR := Lib.hid h
  clear h
  generalize incB l lo hi = q at *
  go_enter Tryd.func38, Tryd.ntmps38
  go_wp2_with fail
  go_loopw [11] (fun vi wr => ∃ (k : Nat), k ≤ l.length ∧ vi = .int .i64 k ∧ (∀ i, i < k → incAt l lo hi i = true) ∧ wr = w) (fun vi _ => l.length - (intOf vi).toNat)
  case atStart => exact ⟨0, Nat.zero_le _, rfl, fun i hi => by omega, rfl⟩
  case round =>
    obtain ⟨k, hk, rfl, hall, rfl⟩ := hrel
    have HA := Lib.hid hall
    clear hall
    by_cases hlt : k < l.length
    · have hlt' : (k : Int) < l.length := by omega
      have hix := fun W => ix23 hp c k hlt W
      have hc := ri_cell HR.out hlt
      by_cases h1 : gd l k < lo
      · have hq := HF.out k hlt (by unfold incAt; simp; omega)
        have d1 : decide (gd l k < lo) = true := by simpa using h1
        clear h1 HF HT
        generalize gd l k = v at *
        go_wp2_with fail
        go_ret
        exact ⟨by first | (rw [hq]; rfl) | simp, rfl⟩
      · have d1 : decide (gd l k < lo) = false := by simpa using h1
        by_cases h2 : hi < gd l k
        · have hq := HF.out k hlt (by unfold incAt; simp; omega)
          have d2 : decide (hi < gd l k) = true := by simpa using h2
          clear h1 h2 HF HT
          generalize gd l k = v at *
          go_wp2_with fail
          go_ret
          exact ⟨by first | (rw [hq]; rfl) | simp, rfl⟩
        · have d2 : decide (hi < gd l k) = false := by simpa using h2
          by_cases h0 : k = 0
          · have HN := Lib.hid (show ∀ i, i < k + 1 → incAt l lo hi i = true from fun i hi' => by
              have : i = k := by omega
              subst this; unfold incAt; simp [h0]; rw [h0] at h1 h2; omega)
            have d3 : decide ((0 : Int) < (k : Int)) = false := by simp; omega
            have d3n : ¬ 0 < k := by omega
            clear h1 h2 HF HT h0
            generalize gd l k = v at *
            go_wp2_with fail
            exact ⟨⟨k + 1, by omega, by go_num, HN.out, (by first | rfl | trivial)⟩, by simp [intOf]; omega⟩
          · have hk1 : k - 1 < l.length := by omega
            have d3 : decide ((0 : Int) < (k : Int)) = true := by simp; omega
            have d3n : 0 < k := by omega
            have hix1 := fun W => ix23 hp c (k - 1) hk1 W
            rw [show ((k - 1 : Nat) : Int) = (k : Int) - 1 by omega] at hix1
            have hc1 := ri_cell HR.out hk1
            by_cases h3 : gd l k ≤ gd l (k - 1)
            · have hq := HF.out k hlt (by unfold incAt; simp; omega)
              have d4 : decide (gd l k ≤ gd l (k - 1)) = true := by simpa using h3
              clear h1 h2 h3 HF HT h0
              generalize gd l k = v at *
              generalize gd l (k - 1) = v0 at *
              generalize k - 1 = k1 at hc1 hix1
              go_wp2_with fail
              go_ret
              exact ⟨by first | (rw [hq]; rfl) | simp, rfl⟩
            · have HN := Lib.hid (show ∀ i, i < k + 1 → incAt l lo hi i = true from fun i hi' => by
                rcases (by omega : i < k ∨ i = k) with e | rfl
                · exact HA.out i e
                · unfold incAt; simp; omega)
              have d4 : decide (gd l k ≤ gd l (k - 1)) = false := by simpa using h3
              clear h1 h2 h3 HF HT h0
              generalize gd l k = v at *
              generalize gd l (k - 1) = v0 at *
              generalize k - 1 = k1 at hc1 hix1
              go_wp2_with fail
              exact ⟨⟨k + 1, by omega, by go_num, HN.out, (by first | rfl | trivial)⟩, by simp [intOf]; omega⟩
    · have hlt' : ¬ (k : Int) < l.length := by omega
      have he : k = l.length := by omega
      subst he
      have hq := HT.out HA.out
      go_wp2_with fail
      go_ret
      exact ⟨by first | (rw [hq]; rfl) | simp, rfl⟩
theorem number33 (n lo : Int) (w : World) : Calls Tryd.prog 33 #[.int .i64 n, .int .i64 lo] w (BoolIs (numB n lo) w) := by
  unfold numB maxT
  cases h1 : decide (lo ≤ n) with
  | false =>
    go_enter Tryd.func33, Tryd.ntmps33
    go_wp2_with fail
    go_ret
    exact ⟨by first | rfl | simp, rfl⟩
  | true =>
    cases h2 : decide (n ≤ 1099511627776) with
    | false =>
      go_enter Tryd.func33, Tryd.ntmps33
      go_wp2_with fail
      go_ret
      exact ⟨by first | rfl | simp, rfl⟩
    | true =>
      go_enter Tryd.func33, Tryd.ntmps33
      go_wp2_with fail
      go_ret
      exact ⟨by first | rfl | simp, rfl⟩
set_option maxRecDepth 10000 in
set_option maxHeartbeats 2000000 in
theorem word70 (s : ByteArray) (w : World) (hs : s.size ≤ 100000) : Calls Tryd.prog 70 #[.string s] w (BoolIs (codeB s) w) := by
  have HT := Lib.hid (fun h0 : (∀ i, i < s.size → chB (s.get! i) = true) => show codeB s = (decide ((1 : Int) ≤ s.size) && decide ((s.size : Int) ≤ 40)) from by
    rw [Bool.eq_iff_iff, code_iff]
    simp only [Bool.and_eq_true, decide_eq_true_eq]
    exact ⟨fun h => ⟨by omega, by omega⟩, fun h => ⟨by omega, by omega, h0⟩⟩)
  have HF := Lib.hid (fun (i : Nat) (h0 : i < s.size) (h3 : chB (s.get! i) = false) => show codeB s = false from by
    cases hb : codeB s with
    | false => rfl
    | true => have := (code_iff.1 hb).2.2 i h0; rw [h3] at this; cases this)
  generalize codeB s = q at *
  go_enter Tryd.func70, Tryd.ntmps70
  go_wp2_with fail
  go_loopw [3] (fun vi wr => ∃ (k : Nat), k ≤ s.size ∧ vi = .int .i64 k ∧ (∀ i, i < k → chB (s.get! i) = true) ∧ wr = w) (fun vi _ => s.size - (intOf vi).toNat)
  case atStart => exact ⟨0, Nat.zero_le _, rfl, fun i hi => by omega, rfl⟩
  case round =>
    obtain ⟨k, hk, rfl, hall, rfl⟩ := hrel
    have HA := Lib.hid hall
    clear hall
    by_cases hlt : k < s.size
    · have hlt' : (k : Int) < s.size := by omega
      have hgb := get_bang hlt
      by_cases h3 : ((s[k].toNat : Nat) : Int) < 33
      · have hq := HF.out k hlt (by rw [hgb]; unfold chB; simp; omega)
        have d3 : decide (((s[k].toNat : Nat) : Int) < 33) = true := by simpa using h3
        clear HF HT hgb
        go_wp2_with fail
        go_ret
        exact ⟨by first | (rw [hq]; rfl) | simp, rfl⟩
      · have d3 : decide (((s[k].toNat : Nat) : Int) < 33) = false := by simpa using h3
        by_cases h4 : (126 : Int) < ((s[k].toNat : Nat) : Int)
        · have hq := HF.out k hlt (by rw [hgb]; unfold chB; simp; omega)
          have d4 : decide ((126 : Int) < ((s[k].toNat : Nat) : Int)) = true := by simpa using h4
          clear HF HT hgb
          go_wp2_with fail
          go_ret
          exact ⟨by first | (rw [hq]; rfl) | simp, rfl⟩
        · have d4 : decide ((126 : Int) < ((s[k].toNat : Nat) : Int)) = false := by simpa using h4
          have HN := Lib.hid (show ∀ i, i < k + 1 → chB (s.get! i) = true from fun i hi => by
            rcases (by omega : i < k ∨ i = k) with e | rfl
            · exact HA.out i e
            · rw [hgb]; unfold chB; simp; omega)
          clear HF HT hgb
          go_wp2_with fail
          exact ⟨⟨k + 1, by omega, by go_num, HN.out, (by first | rfl | trivial)⟩, by simp [intOf]; omega⟩
    · have hlt' : ¬ (k : Int) < s.size := by omega
      have he : k = s.size := by omega
      subst he
      have hq := HT.out HA.out
      clear HA HT HF
      cases e1 : decide ((1 : Int) ≤ s.size) with
      | false =>
        rw [e1] at hq
        have e1' : ¬ (1 : Int) ≤ s.size := by simpa using e1
        go_wp2_with fail
        go_ret
        exact ⟨by first | (rw [hq]; rfl) | simp, rfl⟩
      | true =>
        rw [e1] at hq
        have e1' : (1 : Int) ≤ s.size := by simpa using e1
        cases e2 : decide ((s.size : Int) ≤ 40) with
        | false =>
          rw [e2] at hq
          have e2' : ¬ (s.size : Int) ≤ 40 := by simpa using e2
          go_wp2_with fail
          go_ret
          exact ⟨by first | (rw [hq]; rfl) | simp, rfl⟩
        | true =>
          rw [e2] at hq
          have e2' : (s.size : Int) ≤ 40 := by simpa using e2
          go_wp2_with fail
          go_ret
          exact ⟨by first | (rw [hq]; rfl) | simp, rfl⟩
def RowPost (l : List Int) (t : TypeId) (w : World) (e : Ending) (w' : World) : Prop := ∃ A c, e = .returned (.slice A l.length c) ∧ w'.ownsRow w.heap.size t 1 (.slice A l.length c) l.length (l.map (Value.int .i64)) ∧ Below w.heap.size w w'
set_option maxRecDepth 10000 in
set_option maxHeartbeats 2000000 in
theorem wide39 (B : Nat → Prop) (A : Option Addr) (c : Nat) (l : List Int) (w : World) (h : RI w B A l) (hl : l.length ≤ 100000) : Calls Tryd.prog 39 #[.slice A l.length c] w (RowPost l 2 w) := by
  have hp := h.plain (by omega)
  have HR := Lib.hid ((h.old (by omega)).more (B' := fun k => k < w.heap.size) (fun k hk => hk.2))
  clear h
  go_enter Tryd.func39, Tryd.ntmps39
  go_wp2_with fail
  go_loopw [3, 8] (fun va vi wr => ∃ (k : Nat) (A' : Option Addr) (c' : Nat), k ≤ l.length ∧ vi = .int .i64 k ∧ va = .slice A' k c' ∧ wr.ownsRow w.heap.size 2 1 (.slice A' k c') k ((l.take k).map (Value.int .i64)) ∧ Below w.heap.size w wr) (fun _ vi _ => l.length - (intOf vi).toNat)
  case atStart => exact ⟨0, none, 0, Nat.zero_le _, rfl, rfl, World.ownsRow_nil _ _ _ _, Below.refl _ _⟩
  case round =>
    obtain ⟨k, A', c', hk, rfl, rfl, hown, hbel⟩ := hrel
    have HO := Lib.hid hown
    have HB := Lib.hid hbel
    by_cases hlt : k < l.length
    · have hlt' : (k : Int) < l.length := by omega
      have hix := fun W => ix22 hp c k hlt W
      have hc := ri_cell (HR.out.below hbel (fun _ h => h)) hlt
      have hTk := Lib.hid (show l.take (k + 1) = l.take k ++ [gd l k] by rw [List.take_add_one, List.getElem?_eq_getElem hlt, gd_get hlt]; rfl)
      have hsz := hbel.size
      clear hown hbel
      generalize gd l k = v at *
      go_wp2_with (at_builtin; refine wpList_append_any _ rfl _ _ _ rfl w.heap.size 2 _ 1 8 Tryd.underlying23 info2 rfl (by omega) (.slice A' k c') k ((l.take k).map (Value.int .i64)) rfl (HO.out.alloc _) _ (some ⟨wr.heap.size, 0, none⟩) 1 1 [.int .i64 v] rfl (Reads.newS wr [.int .i64 v] 2 (0, 0) 1 1 rfl _ rfl) (by simp [Value.oneCell']) (by simp only [maxLen]; omega) (by omega) (by simp; omega) ?_; intro A2 c2 w2 hown hgr hat)
      refine ⟨⟨k + 1, A2, c2, by omega, by go_num, rfl, ?_, ?_⟩, by simp [intOf]; omega⟩
      · rw [hTk.out, List.map_append]; exact hown
      · exact Below.grown (HB.out.alloc hsz _) hgr (by simp; omega) (fun j hj => (HO.out.lt j hj).1)
    · have hlt' : ¬ (k : Int) < l.length := by omega
      have he : k = l.length := by omega
      subst he
      rw [List.take_length] at hown
      clear HO
      go_wp2_with fail
      go_ret
      exact ⟨A', c', rfl, hown, HB.out⟩
end Go.Proofs.YtipkicijfedfoaaDoor

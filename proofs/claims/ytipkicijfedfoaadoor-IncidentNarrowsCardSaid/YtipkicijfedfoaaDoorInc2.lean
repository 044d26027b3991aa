import Derived.Test.YtipkicijfedfoaaDoorInc1
namespace Go.Proofs.YtipkicijfedfoaaDoor
set_option linter.unusedVariables false
open Go.RowKit Go.Own Go.Quo Go.Inc
theorem get_bang {s : ByteArray} {i : Nat} (h : i < s.size) : s.get! i = s[i] := by
  show s.data[i]! = s.data[i]
  exact getElem!_pos s.data i h
theorem code_iff {s : ByteArray} : codeB s = true ↔ 1 ≤ s.size ∧ s.size ≤ 40 ∧ ∀ i, i < s.size → chB (s.get! i) = true := by
  unfold codeB; simp [and_assoc]
set_option maxRecDepth 10000 in
set_option maxHeartbeats 2000000 in
theorem isCode69 (s : ByteArray) (w : World) (hs : s.size ≤ 100000) : Calls Tryd.prog 69 #[.string s] w (BoolIs (codeB s) w) := by
  by_cases h1 : s.size < 1
  · have hq : codeB s = false := by
      cases hb : codeB s with
      | false => rfl
      | true => have := (code_iff.1 hb).1; omega
    rw [hq]
    have d1 : decide ((s.size : Int) < 1) = true := by simp; omega
    clear h1 hq
    go_enter Tryd.func69, Tryd.ntmps69
    go_wp2_with fail
    go_ret
    exact ⟨by simp, rfl⟩
  · have d1 : decide ((s.size : Int) < 1) = false := by simp; omega
    by_cases h2 : 40 < s.size
    · have hq : codeB s = false := by
        cases hb : codeB s with
        | false => rfl
        | true => have := (code_iff.1 hb).2.1; omega
      rw [hq]
      have d2 : decide ((40 : Int) < s.size) = true := by simp; omega
      clear h1 h2 hq
      go_enter Tryd.func69, Tryd.ntmps69
      go_wp2_with fail
      go_ret
      exact ⟨by simp, rfl⟩
    · have d2 : decide ((40 : Int) < s.size) = false := by simp; omega
      have HT := Lib.hid (fun h0 : (∀ i, i < s.size → chB (s.get! i) = true) => code_iff.2 ⟨by omega, by omega, h0⟩)
      have HF := Lib.hid (fun (i : Nat) (h0 : i < s.size) (h3 : chB (s.get! i) = false) => show codeB s = false from by
        cases hb : codeB s with
        | false => rfl
        | true => have := (code_iff.1 hb).2.2 i h0; rw [h3] at this; cases this)
      clear h1
      generalize codeB s = q at *
      go_enter Tryd.func69, Tryd.ntmps69
      go_wp2_with fail
      go_loopw [14] (fun vi wr => ∃ (k : Nat), k ≤ s.size ∧ vi = .int .i64 k ∧ (∀ i, i < k → chB (s.get! i) = true) ∧ wr = w) (fun vi _ => s.size - (intOf vi).toNat)
      case atStart => exact ⟨0, Nat.zero_le _, rfl, fun i hi => by omega, rfl⟩
      case round =>
        obtain ⟨k, hk, rfl, hall, rfl⟩ := hrel
        have HA := Lib.hid hall
        clear hall
        by_cases hlt : k < s.size
        · have hlt' : (k : Int) < s.size := by omega
          have hgb := get_bang hlt
          by_cases h3 : ((s[k].toNat : Nat) : Int) < 33
          · have hq := HF.out k hlt (by rw [hgb]; unfold chB; simp; omega)
            have d3 : decide (((s[k].toNat : Nat) : Int) < 33) = true := by simpa using h3
            clear HF HT hgb
            go_wp2_with fail
            go_ret
            exact ⟨by first | (rw [hq]; rfl) | simp, rfl⟩
          · have d3 : decide (((s[k].toNat : Nat) : Int) < 33) = false := by simpa using h3
            by_cases h4 : (126 : Int) < ((s[k].toNat : Nat) : Int)
            · have hq := HF.out k hlt (by rw [hgb]; unfold chB; simp; omega)
              have d4 : decide ((126 : Int) < ((s[k].toNat : Nat) : Int)) = true := by simpa using h4
              clear HF HT hgb
              go_wp2_with fail
              go_ret
              exact ⟨by first | (rw [hq]; rfl) | simp, rfl⟩
            · have d4 : decide ((126 : Int) < ((s[k].toNat : Nat) : Int)) = false := by simpa using h4
              have HN := Lib.hid (show ∀ i, i < k + 1 → chB (s.get! i) = true from fun i hi => by
                rcases (by omega : i < k ∨ i = k) with e | rfl
                · exact HA.out i e
                · rw [hgb]; unfold chB; simp; omega)
              clear HF HT hgb
              go_wp2_with fail
              exact ⟨⟨k + 1, by omega, by go_num, HN.out, (by first | rfl | trivial)⟩, by simp [intOf]; omega⟩
        · have hlt' : ¬ (k : Int) < s.size := by omega
          have he : k = s.size := by omega
          subst he
          have hq := HT.out HA.out
          go_wp2_with fail
          go_ret
          exact ⟨by first | (rw [hq]; rfl) | simp, rfl⟩
set_option maxRecDepth 10000 in
set_option maxHeartbeats 4000000 in
theorem report34 (B : Nat → Prop) (urg dist since : Int) (code : ByteArray) (A : Option Addr) (c : Nat) (nodes : List Int) (w : World) (hs : code.size ≤ 100000) (h : RI w B A nodes) (hl : nodes.length ≤ 100000) :
    Calls Tryd.prog 34 #[.int .i64 urg, .string code, .slice A nodes.length c, .int .i64 dist, .int .i64 since] w (BoolIs (reportB urg code nodes dist since) w) := by
  have H69 := Lib.hid (isCode69 code w hs)
  have H36 := Lib.hid (incr36 B A c nodes 0 4095 w h hl)
  unfold reportB maxT
  clear h
  generalize codeB code = b2 at *
  generalize incB nodes 0 4095 = b4 at *
  cases h0 : decide (1 ≤ urg) with
  | false =>
    go_enter Tryd.func34, Tryd.ntmps34
    go_wp2_with (first | (go_at_call 69; ((with_reducible refine H69.out.mono ?_); rintro e w2 ⟨rfl, rfl⟩)) | (go_at_call 36; ((with_reducible refine H36.out.mono ?_); rintro e w2 ⟨rfl, rfl⟩)))
    go_ret
    exact ⟨by first | rfl | simp, rfl⟩
  | true =>
    cases h1 : decide (urg ≤ 5) with
    | false =>
      go_enter Tryd.func34, Tryd.ntmps34
      go_wp2_with (first | (go_at_call 69; ((with_reducible refine H69.out.mono ?_); rintro e w2 ⟨rfl, rfl⟩)) | (go_at_call 36; ((with_reducible refine H36.out.mono ?_); rintro e w2 ⟨rfl, rfl⟩)))
      go_ret
      exact ⟨by first | rfl | simp, rfl⟩
    | true =>
      cases h2 : b2 with
      | false =>
        go_enter Tryd.func34, Tryd.ntmps34
        go_wp2_with (first | (go_at_call 69; ((with_reducible refine H69.out.mono ?_); rintro e w2 ⟨rfl, rfl⟩)) | (go_at_call 36; ((with_reducible refine H36.out.mono ?_); rintro e w2 ⟨rfl, rfl⟩)))
        go_ret
        exact ⟨by first | rfl | simp, rfl⟩
      | true =>
        by_cases h3 : 0 < nodes.length
        · rw [decide_eq_true h3]
          cases h4 : b4 with
          | false =>
            go_enter Tryd.func34, Tryd.ntmps34
            go_wp2_with (first | (go_at_call 69; ((with_reducible refine H69.out.mono ?_); rintro e w2 ⟨rfl, rfl⟩)) | (go_at_call 36; ((with_reducible refine H36.out.mono ?_); rintro e w2 ⟨rfl, rfl⟩)))
            go_ret
            exact ⟨by first | rfl | simp, rfl⟩
          | true =>
            cases h5 : decide (0 ≤ dist) with
            | false =>
              go_enter Tryd.func34, Tryd.ntmps34
              go_wp2_with (first | (go_at_call 69; ((with_reducible refine H69.out.mono ?_); rintro e w2 ⟨rfl, rfl⟩)) | (go_at_call 36; ((with_reducible refine H36.out.mono ?_); rintro e w2 ⟨rfl, rfl⟩)))
              go_ret
              exact ⟨by first | rfl | simp, rfl⟩
            | true =>
              cases h6 : decide (dist < 9) with
              | false =>
                go_enter Tryd.func34, Tryd.ntmps34
                go_wp2_with (first | (go_at_call 69; ((with_reducible refine H69.out.mono ?_); rintro e w2 ⟨rfl, rfl⟩)) | (go_at_call 36; ((with_reducible refine H36.out.mono ?_); rintro e w2 ⟨rfl, rfl⟩)))
                go_ret
                exact ⟨by first | rfl | simp, rfl⟩
              | true =>
                cases h7 : decide (0 ≤ since) with
                | false =>
                  go_enter Tryd.func34, Tryd.ntmps34
                  go_wp2_with (first | (go_at_call 69; ((with_reducible refine H69.out.mono ?_); rintro e w2 ⟨rfl, rfl⟩)) | (go_at_call 36; ((with_reducible refine H36.out.mono ?_); rintro e w2 ⟨rfl, rfl⟩)))
                  go_ret
                  exact ⟨by first | rfl | simp, rfl⟩
                | true =>
                  cases h8 : decide (since ≤ 1099511627776) with
                  | false =>
                    go_enter Tryd.func34, Tryd.ntmps34
                    go_wp2_with (first | (go_at_call 69; ((with_reducible refine H69.out.mono ?_); rintro e w2 ⟨rfl, rfl⟩)) | (go_at_call 36; ((with_reducible refine H36.out.mono ?_); rintro e w2 ⟨rfl, rfl⟩)))
                    go_ret
                    exact ⟨by first | rfl | simp, rfl⟩
                  | true =>
                    go_enter Tryd.func34, Tryd.ntmps34
                    go_wp2_with (first | (go_at_call 69; ((with_reducible refine H69.out.mono ?_); rintro e w2 ⟨rfl, rfl⟩)) | (go_at_call 36; ((with_reducible refine H36.out.mono ?_); rintro e w2 ⟨rfl, rfl⟩)))
                    go_ret
                    exact ⟨by first | rfl | simp, rfl⟩
        · rw [decide_eq_false h3]
          go_enter Tryd.func34, Tryd.ntmps34
          go_wp2_with (first | (go_at_call 69; ((with_reducible refine H69.out.mono ?_); rintro e w2 ⟨rfl, rfl⟩)) | (go_at_call 36; ((with_reducible refine H36.out.mono ?_); rintro e w2 ⟨rfl, rfl⟩)))
          go_ret
          exact ⟨by first | rfl | simp, rfl⟩
end Go.Proofs.YtipkicijfedfoaaDoor

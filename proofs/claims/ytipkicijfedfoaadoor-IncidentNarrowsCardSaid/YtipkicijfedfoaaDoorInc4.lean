import Derived.Test.YtipkicijfedfoaaDoorInc3
namespace Go.Proofs.YtipkicijfedfoaaDoor
set_option linter.unusedVariables false
open Go.RowKit Go.Own Go.Quo Go.Inc
def BoolB (b : Bool) (w : World) (e : Ending) (w' : World) : Prop := e = .returned (.bool b) ∧ Below w.heap.size w w'
theorem report_what (urg : Int) (code : ByteArray) (nodes : List Int) (dist since : Int) : reportB urg code nodes dist since = (decide (1 ≤ urg) && decide (urg ≤ 5) && codeB code && decide (0 < nodes.length) && incB nodes 0 4095 && decide (0 ≤ dist) && decide (dist ≤ 8) && numB since 0) := by
  have e : decide (dist < 9) = decide (dist ≤ 8) := by rw [Bool.eq_iff_iff]; simp; omega
  unfold reportB numB
  rw [e]
  simp only [Bool.and_assoc]
set_option maxRecDepth 10000 in
set_option maxHeartbeats 4000000 in
theorem what37 (B : Nat → Prop) (urg dist since : Int) (code : ByteArray) (A : Option Addr) (c : Nat) (nodes : List Int) (w : World) (hs : code.size ≤ 100000) (h : RI w B A nodes) (hl : nodes.length ≤ 100000) :
    Calls Tryd.prog 37 #[.int .i64 urg, .string code, .slice A nodes.length c, .int .i64 dist, .int .i64 since] w (BoolB (reportB urg code nodes dist since) w) := by
  have H70 := Lib.hid (word70 code w hs)
  have H39 := Lib.hid (wide39 B A c nodes w h hl)
  have H38 := Lib.hid (fun (B' : Nat → Prop) (A' : Option Addr) (c' : Nat) (W : World) (hr : RI W B' A' nodes) => rises38 B' A' c' nodes 0 4095 W hr hl)
  have H33 := Lib.hid (fun W => number33 since 0 W)
  have HB0 := Lib.hid (Below.refl w.heap.size w)
  rw [report_what]
  clear h
  unfold RowPost at H39
  generalize codeB code = b2 at *
  generalize incB nodes 0 4095 = b4 at *
  generalize numB since 0 = b7 at *
  cases h0 : decide (1 ≤ urg) with
  | false =>
    go_enter Tryd.func37, Tryd.ntmps37
    go_wp2_with (first | (go_at_call 70; ((with_reducible refine H70.out.mono ?_); rintro e w2 ⟨rfl, rfl⟩)) | (go_at_call 39; ((with_reducible refine H39.out.mono ?_); rintro e w2 ⟨A2, c2, rfl, ho2, hb2⟩; have HBw := Lib.hid hb2; have HR2 := Lib.hid (Reads.of_own ho2); clear ho2 hb2)) | (go_at_call 38; ((with_reducible refine (H38.out _ _ _ _ HR2.out).mono ?_); rintro e w3 ⟨rfl, rfl⟩)) | (go_at_call 33; ((with_reducible refine (H33.out _).mono ?_); rintro e w3 ⟨rfl, rfl⟩)))
    go_ret
    exact ⟨by first | rfl | simp, by first | exact HB0.out | exact HBw.out⟩
  | true =>
    cases h1 : decide (urg ≤ 5) with
    | false =>
      go_enter Tryd.func37, Tryd.ntmps37
      go_wp2_with (first | (go_at_call 70; ((with_reducible refine H70.out.mono ?_); rintro e w2 ⟨rfl, rfl⟩)) | (go_at_call 39; ((with_reducible refine H39.out.mono ?_); rintro e w2 ⟨A2, c2, rfl, ho2, hb2⟩; have HBw := Lib.hid hb2; have HR2 := Lib.hid (Reads.of_own ho2); clear ho2 hb2)) | (go_at_call 38; ((with_reducible refine (H38.out _ _ _ _ HR2.out).mono ?_); rintro e w3 ⟨rfl, rfl⟩)) | (go_at_call 33; ((with_reducible refine (H33.out _).mono ?_); rintro e w3 ⟨rfl, rfl⟩)))
      go_ret
      exact ⟨by first | rfl | simp, by first | exact HB0.out | exact HBw.out⟩
    | true =>
      cases h2 : b2 with
      | false =>
        go_enter Tryd.func37, Tryd.ntmps37
        go_wp2_with (first | (go_at_call 70; ((with_reducible refine H70.out.mono ?_); rintro e w2 ⟨rfl, rfl⟩)) | (go_at_call 39; ((with_reducible refine H39.out.mono ?_); rintro e w2 ⟨A2, c2, rfl, ho2, hb2⟩; have HBw := Lib.hid hb2; have HR2 := Lib.hid (Reads.of_own ho2); clear ho2 hb2)) | (go_at_call 38; ((with_reducible refine (H38.out _ _ _ _ HR2.out).mono ?_); rintro e w3 ⟨rfl, rfl⟩)) | (go_at_call 33; ((with_reducible refine (H33.out _).mono ?_); rintro e w3 ⟨rfl, rfl⟩)))
        go_ret
        exact ⟨by first | rfl | simp, by first | exact HB0.out | exact HBw.out⟩
      | true =>
        by_cases h3 : 0 < nodes.length
        · rw [decide_eq_true h3]
          cases h4 : b4 with
          | false =>
            go_enter Tryd.func37, Tryd.ntmps37
            go_wp2_with (first | (go_at_call 70; ((with_reducible refine H70.out.mono ?_); rintro e w2 ⟨rfl, rfl⟩)) | (go_at_call 39; ((with_reducible refine H39.out.mono ?_); rintro e w2 ⟨A2, c2, rfl, ho2, hb2⟩; have HBw := Lib.hid hb2; have HR2 := Lib.hid (Reads.of_own ho2); clear ho2 hb2)) | (go_at_call 38; ((with_reducible refine (H38.out _ _ _ _ HR2.out).mono ?_); rintro e w3 ⟨rfl, rfl⟩)) | (go_at_call 33; ((with_reducible refine (H33.out _).mono ?_); rintro e w3 ⟨rfl, rfl⟩)))
            go_ret
            exact ⟨by first | rfl | simp, by first | exact HB0.out | exact HBw.out⟩
          | true =>
            cases h5 : decide (0 ≤ dist) with
            | false =>
              go_enter Tryd.func37, Tryd.ntmps37
              go_wp2_with (first | (go_at_call 70; ((with_reducible refine H70.out.mono ?_); rintro e w2 ⟨rfl, rfl⟩)) | (go_at_call 39; ((with_reducible refine H39.out.mono ?_); rintro e w2 ⟨A2, c2, rfl, ho2, hb2⟩; have HBw := Lib.hid hb2; have HR2 := Lib.hid (Reads.of_own ho2); clear ho2 hb2)) | (go_at_call 38; ((with_reducible refine (H38.out _ _ _ _ HR2.out).mono ?_); rintro e w3 ⟨rfl, rfl⟩)) | (go_at_call 33; ((with_reducible refine (H33.out _).mono ?_); rintro e w3 ⟨rfl, rfl⟩)))
              go_ret
              exact ⟨by first | rfl | simp, by first | exact HB0.out | exact HBw.out⟩
            | true =>
              cases h6 : decide (dist ≤ 8) with
              | false =>
                go_enter Tryd.func37, Tryd.ntmps37
                go_wp2_with (first | (go_at_call 70; ((with_reducible refine H70.out.mono ?_); rintro e w2 ⟨rfl, rfl⟩)) | (go_at_call 39; ((with_reducible refine H39.out.mono ?_); rintro e w2 ⟨A2, c2, rfl, ho2, hb2⟩; have HBw := Lib.hid hb2; have HR2 := Lib.hid (Reads.of_own ho2); clear ho2 hb2)) | (go_at_call 38; ((with_reducible refine (H38.out _ _ _ _ HR2.out).mono ?_); rintro e w3 ⟨rfl, rfl⟩)) | (go_at_call 33; ((with_reducible refine (H33.out _).mono ?_); rintro e w3 ⟨rfl, rfl⟩)))
                go_ret
                exact ⟨by first | rfl | simp, by first | exact HB0.out | exact HBw.out⟩
              | true =>
                cases h7 : b7 with
                | false =>
                  go_enter Tryd.func37, Tryd.ntmps37
                  go_wp2_with (first | (go_at_call 70; ((with_reducible refine H70.out.mono ?_); rintro e w2 ⟨rfl, rfl⟩)) | (go_at_call 39; ((with_reducible refine H39.out.mono ?_); rintro e w2 ⟨A2, c2, rfl, ho2, hb2⟩; have HBw := Lib.hid hb2; have HR2 := Lib.hid (Reads.of_own ho2); clear ho2 hb2)) | (go_at_call 38; ((with_reducible refine (H38.out _ _ _ _ HR2.out).mono ?_); rintro e w3 ⟨rfl, rfl⟩)) | (go_at_call 33; ((with_reducible refine (H33.out _).mono ?_); rintro e w3 ⟨rfl, rfl⟩)))
                  go_ret
                  exact ⟨by first | rfl | simp, by first | exact HB0.out | exact HBw.out⟩
                | true =>
                  go_enter Tryd.func37, Tryd.ntmps37
                  go_wp2_with (first | (go_at_call 70; ((with_reducible refine H70.out.mono ?_); rintro e w2 ⟨rfl, rfl⟩)) | (go_at_call 39; ((with_reducible refine H39.out.mono ?_); rintro e w2 ⟨A2, c2, rfl, ho2, hb2⟩; have HBw := Lib.hid hb2; have HR2 := Lib.hid (Reads.of_own ho2); clear ho2 hb2)) | (go_at_call 38; ((with_reducible refine (H38.out _ _ _ _ HR2.out).mono ?_); rintro e w3 ⟨rfl, rfl⟩)) | (go_at_call 33; ((with_reducible refine (H33.out _).mono ?_); rintro e w3 ⟨rfl, rfl⟩)))
                  go_ret
                  exact ⟨by first | rfl | simp, by first | exact HB0.out | exact HBw.out⟩
        · rw [decide_eq_false h3]
          go_enter Tryd.func37, Tryd.ntmps37
          go_wp2_with (first | (go_at_call 70; ((with_reducible refine H70.out.mono ?_); rintro e w2 ⟨rfl, rfl⟩)) | (go_at_call 39; ((with_reducible refine H39.out.mono ?_); rintro e w2 ⟨A2, c2, rfl, ho2, hb2⟩; have HBw := Lib.hid hb2; have HR2 := Lib.hid (Reads.of_own ho2); clear ho2 hb2)) | (go_at_call 38; ((with_reducible refine (H38.out _ _ _ _ HR2.out).mono ?_); rintro e w3 ⟨rfl, rfl⟩)) | (go_at_call 33; ((with_reducible refine (H33.out _).mono ?_); rintro e w3 ⟨rfl, rfl⟩)))
          go_ret
          exact ⟨by first | rfl | simp, by first | exact HB0.out | exact HBw.out⟩
set_option maxRecDepth 10000 in
set_option maxHeartbeats 4000000 in
theorem validCall31 (B : Nat → Prop) (call inc urg dist since : Int) (code : ByteArray) (A : Option Addr) (c : Nat) (nodes : List Int) (closed : Bool) (w : World) (hs : code.size ≤ 100000) (h : RI w B A nodes) (hl : nodes.length ≤ 100000) :
    Calls Tryd.prog 31 #[.agg #[.int .i64 call, .int .i64 inc, .int .i64 urg, .string code, .slice A nodes.length c, .int .i64 dist, .int .i64 since, .bool closed]] w (BoolB (crB ⟨call, inc, urg, code, nodes, dist, since, closed⟩) w) := by
  have H30 := Lib.hid (fun W => isNum call W)
  have H34 := Lib.hid (report34 B urg dist since code A c nodes (w.alloc (.cells #[.int .i64 call, .int .i64 inc, .int .i64 urg, .string code, .slice A nodes.length c, .int .i64 dist, .int .i64 since, .bool closed] 27)) hs (h.alloc _) hl)
  have HB0 := Lib.hid ((Below.refl w.heap.size w).alloc (Nat.le_refl _) (.cells #[.int .i64 call, .int .i64 inc, .int .i64 urg, .string code, .slice A nodes.length c, .int .i64 dist, .int .i64 since, .bool closed] 27))
  obtain ⟨x0, x1, x2⟩ := (Blk.new w 27 #[.int .i64 call, .int .i64 inc, .int .i64 urg, .string code, .slice A nodes.length c, .int .i64 dist, .int .i64 since, .bool closed]).facts
  have e : crB ⟨call, inc, urg, code, nodes, dist, since, closed⟩ = (numB call 1 && decide (0 ≤ inc) && decide (inc ≤ 1099511627776) && reportB urg code nodes dist since) := by
    unfold crB
    rw [show numB inc 0 = (decide (0 ≤ inc) && decide (inc ≤ 1099511627776)) from rfl]
    simp only [Bool.and_assoc]
  rw [e]
  clear e h
  generalize numB call 1 = b0 at *
  generalize reportB urg code nodes dist since = b3 at *
  cases h0 : b0 with
  | false =>
    go_enter Tryd.func31, Tryd.ntmps31
    go_wp2_with (first | (go_at_call 30; ((with_reducible refine (H30.out _).mono ?_); rintro e w2 ⟨rfl, rfl⟩)) | (go_at_call 34; ((with_reducible refine H34.out.mono ?_); rintro e w2 ⟨rfl, rfl⟩)))
    go_ret
    exact ⟨by first | rfl | simp, HB0.out⟩
  | true =>
    cases h1 : decide (0 ≤ inc) with
    | false =>
      go_enter Tryd.func31, Tryd.ntmps31
      go_wp2_with (first | (go_at_call 30; ((with_reducible refine (H30.out _).mono ?_); rintro e w2 ⟨rfl, rfl⟩)) | (go_at_call 34; ((with_reducible refine H34.out.mono ?_); rintro e w2 ⟨rfl, rfl⟩)))
      go_ret
      exact ⟨by first | rfl | simp, HB0.out⟩
    | true =>
      cases h2 : decide (inc ≤ 1099511627776) with
      | false =>
        go_enter Tryd.func31, Tryd.ntmps31
        go_wp2_with (first | (go_at_call 30; ((with_reducible refine (H30.out _).mono ?_); rintro e w2 ⟨rfl, rfl⟩)) | (go_at_call 34; ((with_reducible refine H34.out.mono ?_); rintro e w2 ⟨rfl, rfl⟩)))
        go_ret
        exact ⟨by first | rfl | simp, HB0.out⟩
      | true =>
        cases h3 : b3 with
        | false =>
          go_enter Tryd.func31, Tryd.ntmps31
          go_wp2_with (first | (go_at_call 30; ((with_reducible refine (H30.out _).mono ?_); rintro e w2 ⟨rfl, rfl⟩)) | (go_at_call 34; ((with_reducible refine H34.out.mono ?_); rintro e w2 ⟨rfl, rfl⟩)))
          go_ret
          exact ⟨by first | rfl | simp, HB0.out⟩
        | true =>
          go_enter Tryd.func31, Tryd.ntmps31
          go_wp2_with (first | (go_at_call 30; ((with_reducible refine (H30.out _).mono ?_); rintro e w2 ⟨rfl, rfl⟩)) | (go_at_call 34; ((with_reducible refine H34.out.mono ?_); rintro e w2 ⟨rfl, rfl⟩)))
          go_ret
          exact ⟨by first | rfl | simp, HB0.out⟩
set_option maxRecDepth 10000 in
set_option maxHeartbeats 4000000 in
theorem told28 (B : Nat → Prop) (call inc urg dist since : Int) (code : ByteArray) (A : Option Addr) (c : Nat) (nodes : List Int) (closed : Bool) (w : World) (hs : code.size ≤ 100000) (h : RI w B A nodes) (hl : nodes.length ≤ 100000) :
    Calls Tryd.prog 28 #[.agg #[.int .i64 call, .int .i64 inc, .int .i64 urg, .string code, .slice A nodes.length c, .int .i64 dist, .int .i64 since, .bool closed]] w (BoolB (crB ⟨call, inc, urg, code, nodes, dist, since, closed⟩) w) := by
  have H33 := Lib.hid (fun W => number33 call 1 W)
  have H33b := Lib.hid (fun W => number33 inc 0 W)
  have H37 := Lib.hid (what37 B urg dist since code A c nodes (w.alloc (.cells #[.int .i64 call, .int .i64 inc, .int .i64 urg, .string code, .slice A nodes.length c, .int .i64 dist, .int .i64 since, .bool closed] 27)) hs (h.alloc _) hl)
  have HB0 := Lib.hid ((Below.refl w.heap.size w).alloc (Nat.le_refl _) (.cells #[.int .i64 call, .int .i64 inc, .int .i64 urg, .string code, .slice A nodes.length c, .int .i64 dist, .int .i64 since, .bool closed] 27))
  obtain ⟨x0, x1, x2⟩ := (Blk.new w 27 #[.int .i64 call, .int .i64 inc, .int .i64 urg, .string code, .slice A nodes.length c, .int .i64 dist, .int .i64 since, .bool closed]).facts
  unfold crB
  simp only
  clear h
  generalize numB call 1 = b0 at *
  generalize numB inc 0 = b1 at *
  generalize reportB urg code nodes dist since = b3 at *
  cases h0 : b0 with
  | false =>
    go_enter Tryd.func28, Tryd.ntmps28
    go_wp2_with (first | (go_at_call 33; ((with_reducible refine (H33.out _).mono ?_); rintro e w2 ⟨rfl, rfl⟩)) | (go_at_call 33; ((with_reducible refine (H33b.out _).mono ?_); rintro e w2 ⟨rfl, rfl⟩)) | (go_at_call 37; ((with_reducible refine H37.out.mono ?_); rintro e w2 ⟨rfl, hb2⟩; have HBw := Lib.hid (HB0.out.trans (hb2.mono HB0.out.size)); clear hb2)))
    go_ret
    exact ⟨by first | rfl | simp, by first | exact HBw.out | exact HB0.out⟩
  | true =>
    cases h1 : b1 with
    | false =>
      go_enter Tryd.func28, Tryd.ntmps28
      go_wp2_with (first | (go_at_call 33; ((with_reducible refine (H33.out _).mono ?_); rintro e w2 ⟨rfl, rfl⟩)) | (go_at_call 33; ((with_reducible refine (H33b.out _).mono ?_); rintro e w2 ⟨rfl, rfl⟩)) | (go_at_call 37; ((with_reducible refine H37.out.mono ?_); rintro e w2 ⟨rfl, hb2⟩; have HBw := Lib.hid (HB0.out.trans (hb2.mono HB0.out.size)); clear hb2)))
      go_ret
      exact ⟨by first | rfl | simp, by first | exact HBw.out | exact HB0.out⟩
    | true =>
      cases h3 : b3 with
      | false =>
        go_enter Tryd.func28, Tryd.ntmps28
        go_wp2_with (first | (go_at_call 33; ((with_reducible refine (H33.out _).mono ?_); rintro e w2 ⟨rfl, rfl⟩)) | (go_at_call 33; ((with_reducible refine (H33b.out _).mono ?_); rintro e w2 ⟨rfl, rfl⟩)) | (go_at_call 37; ((with_reducible refine H37.out.mono ?_); rintro e w2 ⟨rfl, hb2⟩; have HBw := Lib.hid (HB0.out.trans (hb2.mono HB0.out.size)); clear hb2)))
        go_ret
        exact ⟨by first | rfl | simp, by first | exact HBw.out | exact HB0.out⟩
      | true =>
        go_enter Tryd.func28, Tryd.ntmps28
        go_wp2_with (first | (go_at_call 33; ((with_reducible refine (H33.out _).mono ?_); rintro e w2 ⟨rfl, rfl⟩)) | (go_at_call 33; ((with_reducible refine (H33b.out _).mono ?_); rintro e w2 ⟨rfl, rfl⟩)) | (go_at_call 37; ((with_reducible refine H37.out.mono ?_); rintro e w2 ⟨rfl, hb2⟩; have HBw := Lib.hid (HB0.out.trans (hb2.mono HB0.out.size)); clear hb2)))
        go_ret
        exact ⟨by first | rfl | simp, by first | exact HBw.out | exact HB0.out⟩
end Go.Proofs.YtipkicijfedfoaaDoor

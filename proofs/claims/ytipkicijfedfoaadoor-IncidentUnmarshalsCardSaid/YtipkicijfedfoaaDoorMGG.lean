import Derived.Test.YtipkicijfedfoaaDoorMGD
namespace Go.Proofs.YtipkicijfedfoaaDoor
set_option linter.unusedVariables false
open Go.RowKit Go.Own Go.Quo Go.Inc
def BoolB (b : Bool) (w : World) (e : Ending) (w' : World) : Prop := e = .returned (.bool b) ∧ Below w.heap.size w w'
theorem report_what (urg : Int) (code : ByteArray) (nodes : List Int) (dist since : Int) : reportB urg code nodes dist since = (decide (1 ≤ urg) && decide (urg ≤ 5) && codeB code && decide (0 < nodes.length) && incB nodes 0 4095 && decide (0 ≤ dist) && decide (dist ≤ 8) && numB since 0) := by
  have e : decide (dist < 9) = decide (dist ≤ 8) := by rw [Bool.eq_iff_iff]; simp; omega
  unfold reportB numB
  rw [e]
  simp only [Bool.and_assoc]
set_option maxRecDepth 10000 in
set_option maxHeartbeats 4000000 in
theorem what37 (B : Nat → Prop) (urg dist since : Int) (code : ByteArray) (A : Option Addr) (c : Nat) (nodes : List Int) (w : World) (hs : code.size ≤ 100000) (h : RI w B A nodes) (hl : nodes.length ≤ 100000) :
    Calls Tryd.prog 37 #[.int .i64 urg, .string code, .slice A nodes.length c, .int .i64 dist, .int .i64 since] w (BoolB (reportB urg code nodes dist since) w) := by
  have H70 := Lib.hid (word70 code w hs)
  have H39 := Lib.hid (wide39 B A c nodes w h hl)
  have H38 := Lib.hid (fun (B' : Nat → Prop) (A' : Option Addr) (c' : Nat) (W : World) (hr : RI W B' A' nodes) => rises38 B' A' c' nodes 0 4095 W hr hl)
  have H33 := Lib.hid (fun W => number33 since 0 W)
  have HB0 := Lib.hid (Below.refl w.heap.size w)
  rw [report_what]
  clear h
  unfold RowPost at H39
  generalize codeB code = b2 at *
  generalize incB nodes 0 4095 = b4 at *
  generalize numB since 0 = b7 at *
  cases h0 : decide (1 ≤ urg) with
  | false =>
    go_enter Tryd.func37, Tryd.ntmps37
    go_wp2_with (first | (go_at_call 70; ((with_reducible refine H70.out.mono ?_); rintro e w2 ⟨rfl, rfl⟩)) | (go_at_call 39; ((with_reducible refine H39.out.mono ?_); rintro e w2 ⟨A2, c2, rfl, ho2, hb2⟩; have HBw := Lib.hid hb2; have HR2 := Lib.hid (Reads.of_own ho2); clear ho2 hb2)) | (go_at_call 38; ((with_reducible refine (H38.out _ _ _ _ HR2.out).mono ?_); rintro e w3 ⟨rfl, rfl⟩)) | (go_at_call 33; ((with_reducible refine (H33.out _).mono ?_); rintro e w3 ⟨rfl, rfl⟩)))
    go_ret
    exact ⟨by first | rfl | simp, by first | exact HB0.out | exact HBw.out⟩
  | true =>
    cases h1 : decide (urg ≤ 5) with
    | false =>
      go_enter Tryd.func37, Tryd.ntmps37
      go_wp2_with (first | (go_at_call 70; ((with_reducible refine H70.out.mono ?_); rintro e w2 ⟨rfl, rfl⟩)) | (go_at_call 39; ((with_reducible refine H39.out.mono ?_); rintro e w2 ⟨A2, c2, rfl, ho2, hb2⟩; have HBw := Lib.hid hb2; have HR2 := Lib.hid (Reads.of_own ho2); clear ho2 hb2)) | (go_at_call 38; ((with_reducible refine (H38.out _ _ _ _ HR2.out).mono ?_); rintro e w3 ⟨rfl, rfl⟩)) | (go_at_call 33; ((with_reducible refine (H33.out _).mono ?_); rintro e w3 ⟨rfl, rfl⟩)))
      go_ret
      exact ⟨by first | rfl | simp, by first | exact HB0.out | exact HBw.out⟩
    | true =>
      cases h2 : b2 with
      | false =>
        go_enter Tryd.func37, Tryd.ntmps37
        go_wp2_with (first | (go_at_call 70; ((with_reducible refine H70.out.mono ?_); rintro e w2 ⟨rfl, rfl⟩)) | (go_at_call 39; ((with_reducible refine H39.out.mono ?_); rintro e w2 ⟨A2, c2, rfl, ho2, hb2⟩; have HBw := Lib.hid hb2; have HR2 := Lib.hid (Reads.of_own ho2); clear ho2 hb2)) | (go_at_call 38; ((with_reducible refine (H38.out _ _ _ _ HR2.out).mono ?_); rintro e w3 ⟨rfl, rfl⟩)) | (go_at_call 33; ((with_reducible refine (H33.out _).mono ?_); rintro e w3 ⟨rfl, rfl⟩)))
        go_ret
        exact ⟨by first | rfl | simp, by first | exact HB0.out | exact HBw.out⟩
      | true =>
        by_cases h3 : 0 < nodes.length
        · rw [decide_eq_true h3]
          cases h4 : b4 with
          | false =>
            go_enter Tryd.func37, Tryd.ntmps37
            go_wp2_with (first | (go_at_call 70; ((with_reducible refine H70.out.mono ?_); rintro e w2 ⟨rfl, rfl⟩)) | (go_at_call 39; ((with_reducible refine H39.out.mono ?_); rintro e w2 ⟨A2, c2, rfl, ho2, hb2⟩; have HBw := Lib.hid hb2; have HR2 := Lib.hid (Reads.of_own ho2); clear ho2 hb2)) | (go_at_call 38; ((with_reducible refine (H38.out _ _ _ _ HR2.out).mono ?_); rintro e w3 ⟨rfl, rfl⟩)) | (go_at_call 33; ((with_reducible refine (H33.out _).mono ?_); rintro e w3 ⟨rfl, rfl⟩)))
            go_ret
            exact ⟨by first | rfl | simp, by first | exact HB0.out | exact HBw.out⟩
          | true =>
            cases h5 : decide (0 ≤ dist) with
            | false =>
              go_enter Tryd.func37, Tryd.ntmps37
              go_wp2_with (first | (go_at_call 70; ((with_reducible refine H70.out.mono ?_); rintro e w2 ⟨rfl, rfl⟩)) | (go_at_call 39; ((with_reducible refine H39.out.mono ?_); rintro e w2 ⟨A2, c2, rfl, ho2, hb2⟩; have HBw := Lib.hid hb2; have HR2 := Lib.hid (Reads.of_own ho2); clear ho2 hb2)) | (go_at_call 38; ((with_reducible refine (H38.out _ _ _ _ HR2.out).mono ?_); rintro e w3 ⟨rfl, rfl⟩)) | (go_at_call 33; ((with_reducible refine (H33.out _).mono ?_); rintro e w3 ⟨rfl, rfl⟩)))
              go_ret
              exact ⟨by first | rfl | simp, by first | exact HB0.out | exact HBw.out⟩
            | true =>
              cases h6 : decide (dist ≤ 8) with
              | false =>
                go_enter Tryd.func37, Tryd.ntmps37
                go_wp2_with (first | (go_at_call 70; ((with_reducible refine H70.out.mono ?_); rintro e w2 ⟨rfl, rfl⟩)) | (go_at_call 39; ((with_reducible refine H39.out.mono ?_); rintro e w2 ⟨A2, c2, rfl, ho2, hb2⟩; have HBw := Lib.hid hb2; have HR2 := Lib.hid (Reads.of_own ho2); clear ho2 hb2)) | (go_at_call 38; ((with_reducible refine (H38.out _ _ _ _ HR2.out).mono ?_); rintro e w3 ⟨rfl, rfl⟩)) | (go_at_call 33; ((with_reducible refine (H33.out _).mono ?_); rintro e w3 ⟨rfl, rfl⟩)))
                go_ret
                exact ⟨by first | rfl | simp, by first | exact HB0.out | exact HBw.out⟩
              | true =>
                cases h7 : b7 with
                | false =>
                  go_enter Tryd.func37, Tryd.ntmps37
                  go_wp2_with (first | (go_at_call 70; ((with_reducible refine H70.out.mono ?_); rintro e w2 ⟨rfl, rfl⟩)) | (go_at_call 39; ((with_reducible refine H39.out.mono ?_); rintro e w2 ⟨A2, c2, rfl, ho2, hb2⟩; have HBw := Lib.hid hb2; have HR2 := Lib.hid (Reads.of_own ho2); clear ho2 hb2)) | (go_at_call 38; ((with_reducible refine (H38.out _ _ _ _ HR2.out).mono ?_); rintro e w3 ⟨rfl, rfl⟩)) | (go_at_call 33; ((with_reducible refine (H33.out _).mono ?_); rintro e w3 ⟨rfl, rfl⟩)))
                  go_ret
                  exact ⟨by first | rfl | simp, by first | exact HB0.out | exact HBw.out⟩
                | true =>
                  go_enter Tryd.func37, Tryd.ntmps37
                  go_wp2_with (first | (go_at_call 70; ((with_reducible refine H70.out.mono ?_); rintro e w2 ⟨rfl, rfl⟩)) | (go_at_call 39; ((with_reducible refine H39.out.mono ?_); rintro e w2 ⟨A2, c2, rfl, ho2, hb2⟩; have HBw := Lib.hid hb2; have HR2 := Lib.hid (Reads.of_own ho2); clear ho2 hb2)) | (go_at_call 38; ((with_reducible refine (H38.out _ _ _ _ HR2.out).mono ?_); rintro e w3 ⟨rfl, rfl⟩)) | (go_at_call 33; ((with_reducible refine (H33.out _).mono ?_); rintro e w3 ⟨rfl, rfl⟩)))
                  go_ret
                  exact ⟨by first | rfl | simp, by first | exact HB0.out | exact HBw.out⟩
        · rw [decide_eq_false h3]
          go_enter Tryd.func37, Tryd.ntmps37
          go_wp2_with (first | (go_at_call 70; ((with_reducible refine H70.out.mono ?_); rintro e w2 ⟨rfl, rfl⟩)) | (go_at_call 39; ((with_reducible refine H39.out.mono ?_); rintro e w2 ⟨A2, c2, rfl, ho2, hb2⟩; have HBw := Lib.hid hb2; have HR2 := Lib.hid (Reads.of_own ho2); clear ho2 hb2)) | (go_at_call 38; ((with_reducible refine (H38.out _ _ _ _ HR2.out).mono ?_); rintro e w3 ⟨rfl, rfl⟩)) | (go_at_call 33; ((with_reducible refine (H33.out _).mono ?_); rintro e w3 ⟨rfl, rfl⟩)))
          go_ret
          exact ⟨by first | rfl | simp, by first | exact HB0.out | exact HBw.out⟩
set_option maxRecDepth 10000 in
set_option maxHeartbeats 4000000 in
theorem validCall31 (B : Nat → Prop) (call inc urg dist since : Int) (code : ByteArray) (A : Option Addr) (c : Nat) (nodes : List Int) (closed : Bool) (w : World) (hs : code.size ≤ 100000) (h : RI w B A nodes) (hl : nodes.length ≤ 100000) :
    Calls Tryd.prog 31 #[.agg #[.int .i64 call, .int .i64 inc, .int .i64 urg, .string code, .slice A nodes.length c, .int .i64 dist, .int .i64 since, .bool closed]] w (BoolB (crB ⟨call, inc, urg, code, nodes, dist, since, closed⟩) w) := by
  have H30 := Lib.hid (fun W => isNum call W)
  have H34 := Lib.hid (report34 B urg dist since code A c nodes (w.alloc (.cells #[.int .i64 call, .int .i64 inc, .int .i64 urg, .string code, .slice A nodes.length c, .int .i64 dist, .int .i64 since, .bool closed] 27)) hs (h.alloc _) hl)
  have HB0 := Lib.hid ((Below.refl w.heap.size w).alloc (Nat.le_refl _) (.cells #[.int .i64 call, .int .i64 inc, .int .i64 urg, .string code, .slice A nodes.length c, .int .i64 dist, .int .i64 since, .bool closed] 27))
  obtain ⟨x0, x1, x2⟩ := (Blk.new w 27 #[.int .i64 call, .int .i64 inc, .int .i64 urg, .string code, .slice A nodes.length c, .int .i64 dist, .int .i64 since, .bool closed]).facts
  have e : crB ⟨call, inc, urg, code, nodes, dist, since, closed⟩ = (numB call 1 && decide (0 ≤ inc) && decide (inc ≤ 1099511627776) && reportB urg code nodes dist since) := by
    unfold crB
    rw [show numB inc 0 = (decide (0 ≤ inc) && decide (inc ≤ 1099511627776)) from rfl]
    simp only [Bool.and_assoc]
  rw [e]
  clear e h
  generalize numB call 1 = b0 at *
  generalize reportB urg code nodes dist since = b3 at *
  cases h0 : b0 with
  | false =>
    go_enter Tryd.func31, Tryd.ntmps31
    go_wp2_with (first | (go_at_call 30; ((with_reducible refine (H30.out _).mono ?_); rintro e w2 ⟨rfl, rfl⟩)) | (go_at_call 34; ((with_reducible refine H34.out.mono ?_); rintro e w2 ⟨rfl, rfl⟩)))
    go_ret
    exact ⟨by first | rfl | simp, HB0.out⟩
  | true =>
    cases h1 : decide (0 ≤ inc) with
    | false =>
      go_enter Tryd.func31, Tryd.ntmps31
      go_wp2_with (first | (go_at_call 30; ((with_reducible refine (H30.out _).mono ?_); rintro e w2 ⟨rfl, rfl⟩)) | (go_at_call 34; ((with_reducible refine H34.out.mono ?_); rintro e w2 ⟨rfl, rfl⟩)))
      go_ret
      exact ⟨by first | rfl | simp, HB0.out⟩
    | true =>
      cases h2 : decide (inc ≤ 1099511627776) with
      | false =>
        go_enter Tryd.func31, Tryd.ntmps31
        go_wp2_with (first | (go_at_call 30; ((with_reducible refine (H30.out _).mono ?_); rintro e w2 ⟨rfl, rfl⟩)) | (go_at_call 34; ((with_reducible refine H34.out.mono ?_); rintro e w2 ⟨rfl, rfl⟩)))
        go_ret
        exact ⟨by first | rfl | simp, HB0.out⟩
      | true =>
        cases h3 : b3 with
        | false =>
          go_enter Tryd.func31, Tryd.ntmps31
          go_wp2_with (first | (go_at_call 30; ((with_reducible refine (H30.out _).mono ?_); rintro e w2 ⟨rfl, rfl⟩)) | (go_at_call 34; ((with_reducible refine H34.out.mono ?_); rintro e w2 ⟨rfl, rfl⟩)))
          go_ret
          exact ⟨by first | rfl | simp, HB0.out⟩
        | true =>
          go_enter Tryd.func31, Tryd.ntmps31
          go_wp2_with (first | (go_at_call 30; ((with_reducible refine (H30.out _).mono ?_); rintro e w2 ⟨rfl, rfl⟩)) | (go_at_call 34; ((with_reducible refine H34.out.mono ?_); rintro e w2 ⟨rfl, rfl⟩)))
          go_ret
          exact ⟨by first | rfl | simp, HB0.out⟩
set_option maxRecDepth 10000 in
set_option maxHeartbeats 4000000 in
theorem told28 (B : Nat → Prop) (call inc urg dist since : Int) (code : ByteArray) (A : Option Addr) (c : Nat) (nodes : List Int) (closed : Bool) (w : World) (hs : code.size ≤ 100000) (h : RI w B A nodes) (hl : nodes.length ≤ 100000) :
    Calls Tryd.prog 28 #[.agg #[.int .i64 call, .int .i64 inc, .int .i64 urg, .string code, .slice A nodes.length c, .int .i64 dist, .int .i64 since, .bool closed]] w (BoolB (crB ⟨call, inc, urg, code, nodes, dist, since, closed⟩) w) := by
  have H33 := Lib.hid (fun W => number33 call 1 W)
  have H33b := Lib.hid (fun W => number33 inc 0 W)
  have H37 := Lib.hid (what37 B urg dist since code A c nodes (w.alloc (.cells #[.int .i64 call, .int .i64 inc, .int .i64 urg, .string code, .slice A nodes.length c, .int .i64 dist, .int .i64 since, .bool closed] 27)) hs (h.alloc _) hl)
  have HB0 := Lib.hid ((Below.refl w.heap.size w).alloc (Nat.le_refl _) (.cells #[.int .i64 call, .int .i64 inc, .int .i64 urg, .string code, .slice A nodes.length c, .int .i64 dist, .int .i64 since, .bool closed] 27))
  obtain ⟨x0, x1, x2⟩ := (Blk.new w 27 #[.int .i64 call, .int .i64 inc, .int .i64 urg, .string code, .slice A nodes.length c, .int .i64 dist, .int .i64 since, .bool closed]).facts
  unfold crB
  simp only
  clear h
  generalize numB call 1 = b0 at *
  generalize numB inc 0 = b1 at *
  generalize reportB urg code nodes dist since = b3 at *
  cases h0 : b0 with
  | false =>
    go_enter Tryd.func28, Tryd.ntmps28
    go_wp2_with (first | (go_at_call 33; ((with_reducible refine (H33.out _).mono ?_); rintro e w2 ⟨rfl, rfl⟩)) | (go_at_call 33; ((with_reducible refine (H33b.out _).mono ?_); rintro e w2 ⟨rfl, rfl⟩)) | (go_at_call 37; ((with_reducible refine H37.out.mono ?_); rintro e w2 ⟨rfl, hb2⟩; have HBw := Lib.hid (HB0.out.trans (hb2.mono HB0.out.size)); clear hb2)))
    go_ret
    exact ⟨by first | rfl | simp, by first | exact HBw.out | exact HB0.out⟩
  | true =>
    cases h1 : b1 with
    | false =>
      go_enter Tryd.func28, Tryd.ntmps28
      go_wp2_with (first | (go_at_call 33; ((with_reducible refine (H33.out _).mono ?_); rintro e w2 ⟨rfl, rfl⟩)) | (go_at_call 33; ((with_reducible refine (H33b.out _).mono ?_); rintro e w2 ⟨rfl, rfl⟩)) | (go_at_call 37; ((with_reducible refine H37.out.mono ?_); rintro e w2 ⟨rfl, hb2⟩; have HBw := Lib.hid (HB0.out.trans (hb2.mono HB0.out.size)); clear hb2)))
      go_ret
      exact ⟨by first | rfl | simp, by first | exact HBw.out | exact HB0.out⟩
    | true =>
      cases h3 : b3 with
      | false =>
        go_enter Tryd.func28, Tryd.ntmps28
        go_wp2_with (first | (go_at_call 33; ((with_reducible refine (H33.out _).mono ?_); rintro e w2 ⟨rfl, rfl⟩)) | (go_at_call 33; ((with_reducible refine (H33b.out _).mono ?_); rintro e w2 ⟨rfl, rfl⟩)) | (go_at_call 37; ((with_reducible refine H37.out.mono ?_); rintro e w2 ⟨rfl, hb2⟩; have HBw := Lib.hid (HB0.out.trans (hb2.mono HB0.out.size)); clear hb2)))
        go_ret
        exact ⟨by first | rfl | simp, by first | exact HBw.out | exact HB0.out⟩
      | true =>
        go_enter Tryd.func28, Tryd.ntmps28
        go_wp2_with (first | (go_at_call 33; ((with_reducible refine (H33.out _).mono ?_); rintro e w2 ⟨rfl, rfl⟩)) | (go_at_call 33; ((with_reducible refine (H33b.out _).mono ?_); rintro e w2 ⟨rfl, rfl⟩)) | (go_at_call 37; ((with_reducible refine H37.out.mono ?_); rintro e w2 ⟨rfl, hb2⟩; have HBw := Lib.hid (HB0.out.trans (hb2.mono HB0.out.size)); clear hb2)))
        go_ret
        exact ⟨by first | rfl | simp, by first | exact HBw.out | exact HB0.out⟩
end Go.Proofs.YtipkicijfedfoaaDoor

namespace Go.Proofs.YtipkicijfedfoaaDoor
set_option linter.unusedVariables false
open Go.RowKit Go.Own Go.Quo Go.Inc
set_option maxRecDepth 10000 in
set_option maxHeartbeats 8000000 in
theorem valid14 (B : Nat → Prop) (id urg dist since merged : Int) (code : ByteArray) (An Ac Au : Option Addr) (cn cc cu : Nat) (nodes calls units : List Int) (closed : Bool) (w : World) (hs : code.size ≤ 100000) (hn : RI w B An nodes) (hc : RI w B Ac calls) (hu : RI w B Au units) (ln : nodes.length ≤ 100000) (lc : calls.length ≤ 100000) (lu : units.length ≤ 100000) :
    Calls Tryd.prog 14 #[.agg #[.int .i64 id, .int .i64 urg, .string code, .slice An nodes.length cn, .int .i64 dist, .int .i64 since, .slice Ac calls.length cc, .slice Au units.length cu, .int .i64 merged, .bool closed]] w (BoolB (icB ⟨id, urg, code, nodes, dist, since, calls, units, merged, closed⟩) w) := by
  have H30 := Lib.hid (fun W => isNum id W)
  have H30b := Lib.hid (fun W => isNum merged W)
  have H34 := Lib.hid (report34 B urg dist since code An cn nodes (w.alloc (.cells #[.int .i64 id, .int .i64 urg, .string code, .slice An nodes.length cn, .int .i64 dist, .int .i64 since, .slice Ac calls.length cc, .slice Au units.length cu, .int .i64 merged, .bool closed] 25)) hs (hn.alloc _) ln)
  have H35 := Lib.hid (incr35 B Ac cc calls 1 1099511627776 (w.alloc (.cells #[.int .i64 id, .int .i64 urg, .string code, .slice An nodes.length cn, .int .i64 dist, .int .i64 since, .slice Ac calls.length cc, .slice Au units.length cu, .int .i64 merged, .bool closed] 25)) (hc.alloc _) lc)
  have H36 := Lib.hid (incr36 B Au cu units 0 255 (w.alloc (.cells #[.int .i64 id, .int .i64 urg, .string code, .slice An nodes.length cn, .int .i64 dist, .int .i64 since, .slice Ac calls.length cc, .slice Au units.length cu, .int .i64 merged, .bool closed] 25)) (hu.alloc _) lu)
  have HB0 := Lib.hid ((Below.refl w.heap.size w).alloc (Nat.le_refl _) (.cells #[.int .i64 id, .int .i64 urg, .string code, .slice An nodes.length cn, .int .i64 dist, .int .i64 since, .slice Ac calls.length cc, .slice Au units.length cu, .int .i64 merged, .bool closed] 25))
  obtain ⟨x0, x1, x2⟩ := (Blk.new w 25 #[.int .i64 id, .int .i64 urg, .string code, .slice An nodes.length cn, .int .i64 dist, .int .i64 since, .slice Ac calls.length cc, .slice Au units.length cu, .int .i64 merged, .bool closed]).facts
  unfold icB maxT
  simp only
  clear hn hc hu
  generalize numB id 1 = b0 at *
  generalize reportB urg code nodes dist since = b1 at *
  generalize incB calls 1 1099511627776 = b3 at *
  generalize incB units 0 255 = b4 at *
  generalize numB merged 1 = b6 at *
  generalize calls.length = ncl at *
  generalize units.length = nul at *
  cases h0 : b0 with
  | false =>
    go_enter Tryd.func14, Tryd.ntmps14
    go_wp2_with (first | (go_at_call 30; ((with_reducible refine (H30.out _).mono ?_); rintro e w2 ⟨rfl, rfl⟩)) | (go_at_call 30; ((with_reducible refine (H30b.out _).mono ?_); rintro e w2 ⟨rfl, rfl⟩)) | (go_at_call 34; ((with_reducible refine H34.out.mono ?_); rintro e w2 ⟨rfl, rfl⟩)) | (go_at_call 35; ((with_reducible refine H35.out.mono ?_); rintro e w2 ⟨rfl, rfl⟩)) | (go_at_call 36; ((with_reducible refine H36.out.mono ?_); rintro e w2 ⟨rfl, rfl⟩)))
    go_ret
    exact ⟨by first | rfl | (simp; done) | (simp; assumption), HB0.out⟩
  | true =>
    cases h1 : b1 with
    | false =>
      go_enter Tryd.func14, Tryd.ntmps14
      go_wp2_with (first | (go_at_call 30; ((with_reducible refine (H30.out _).mono ?_); rintro e w2 ⟨rfl, rfl⟩)) | (go_at_call 30; ((with_reducible refine (H30b.out _).mono ?_); rintro e w2 ⟨rfl, rfl⟩)) | (go_at_call 34; ((with_reducible refine H34.out.mono ?_); rintro e w2 ⟨rfl, rfl⟩)) | (go_at_call 35; ((with_reducible refine H35.out.mono ?_); rintro e w2 ⟨rfl, rfl⟩)) | (go_at_call 36; ((with_reducible refine H36.out.mono ?_); rintro e w2 ⟨rfl, rfl⟩)))
      go_ret
      exact ⟨by first | rfl | (simp; done) | (simp; assumption), HB0.out⟩
    | true =>
      by_cases h2 : ncl ≤ 1000
      · rw [decide_eq_true h2]
        have h2a : ¬ (1000 : Int) < ncl := (by omega); have h2b : ¬ 1000 < ncl := (by omega)
        cases h3 : b3 with
        | false =>
          go_enter Tryd.func14, Tryd.ntmps14
          go_wp2_with (first | (go_at_call 30; ((with_reducible refine (H30.out _).mono ?_); rintro e w2 ⟨rfl, rfl⟩)) | (go_at_call 30; ((with_reducible refine (H30b.out _).mono ?_); rintro e w2 ⟨rfl, rfl⟩)) | (go_at_call 34; ((with_reducible refine H34.out.mono ?_); rintro e w2 ⟨rfl, rfl⟩)) | (go_at_call 35; ((with_reducible refine H35.out.mono ?_); rintro e w2 ⟨rfl, rfl⟩)) | (go_at_call 36; ((with_reducible refine H36.out.mono ?_); rintro e w2 ⟨rfl, rfl⟩)))
          go_ret
          exact ⟨by first | rfl | (simp; done) | (simp; assumption), HB0.out⟩
        | true =>
          cases h4 : b4 with
          | false =>
            go_enter Tryd.func14, Tryd.ntmps14
            go_wp2_with (first | (go_at_call 30; ((with_reducible refine (H30.out _).mono ?_); rintro e w2 ⟨rfl, rfl⟩)) | (go_at_call 30; ((with_reducible refine (H30b.out _).mono ?_); rintro e w2 ⟨rfl, rfl⟩)) | (go_at_call 34; ((with_reducible refine H34.out.mono ?_); rintro e w2 ⟨rfl, rfl⟩)) | (go_at_call 35; ((with_reducible refine H35.out.mono ?_); rintro e w2 ⟨rfl, rfl⟩)) | (go_at_call 36; ((with_reducible refine H36.out.mono ?_); rintro e w2 ⟨rfl, rfl⟩)))
            go_ret
            exact ⟨by first | rfl | (simp; done) | (simp; assumption), HB0.out⟩
          | true =>
            by_cases h5 : merged = 0
            · subst h5
              rw [decide_eq_true rfl]
              go_enter Tryd.func14, Tryd.ntmps14
              go_wp2_with (first | (go_at_call 30; ((with_reducible refine (H30.out _).mono ?_); rintro e w2 ⟨rfl, rfl⟩)) | (go_at_call 30; ((with_reducible refine (H30b.out _).mono ?_); rintro e w2 ⟨rfl, rfl⟩)) | (go_at_call 34; ((with_reducible refine H34.out.mono ?_); rintro e w2 ⟨rfl, rfl⟩)) | (go_at_call 35; ((with_reducible refine H35.out.mono ?_); rintro e w2 ⟨rfl, rfl⟩)) | (go_at_call 36; ((with_reducible refine H36.out.mono ?_); rintro e w2 ⟨rfl, rfl⟩)))
              go_ret
              exact ⟨by first | rfl | (simp; done) | (simp; assumption), HB0.out⟩
            · have h5a : (merged == 0) = false := by simpa using h5
              rw [decide_eq_false h5]
              clear h5
              cases h6 : b6 with
              | false =>
                go_enter Tryd.func14, Tryd.ntmps14
                go_wp2_with (first | (go_at_call 30; ((with_reducible refine (H30.out _).mono ?_); rintro e w2 ⟨rfl, rfl⟩)) | (go_at_call 30; ((with_reducible refine (H30b.out _).mono ?_); rintro e w2 ⟨rfl, rfl⟩)) | (go_at_call 34; ((with_reducible refine H34.out.mono ?_); rintro e w2 ⟨rfl, rfl⟩)) | (go_at_call 35; ((with_reducible refine H35.out.mono ?_); rintro e w2 ⟨rfl, rfl⟩)) | (go_at_call 36; ((with_reducible refine H36.out.mono ?_); rintro e w2 ⟨rfl, rfl⟩)))
                go_ret
                exact ⟨by first | rfl | (simp; done) | (simp; assumption), HB0.out⟩
              | true =>
                by_cases h7 : merged = id
                · subst h7
                  rw [show decide (merged ≠ merged) = false by simp]
                  go_enter Tryd.func14, Tryd.ntmps14
                  go_wp2_with (first | (go_at_call 30; ((with_reducible refine (H30.out _).mono ?_); rintro e w2 ⟨rfl, rfl⟩)) | (go_at_call 30; ((with_reducible refine (H30b.out _).mono ?_); rintro e w2 ⟨rfl, rfl⟩)) | (go_at_call 34; ((with_reducible refine H34.out.mono ?_); rintro e w2 ⟨rfl, rfl⟩)) | (go_at_call 35; ((with_reducible refine H35.out.mono ?_); rintro e w2 ⟨rfl, rfl⟩)) | (go_at_call 36; ((with_reducible refine H36.out.mono ?_); rintro e w2 ⟨rfl, rfl⟩)))
                  go_ret
                  exact ⟨by first | rfl | (simp; done) | (simp; assumption), HB0.out⟩
                · have h7a : (merged == id) = false := by simpa using h7
                  rw [show decide (merged ≠ id) = true by simpa using h7]
                  by_cases h8 : ncl = 0
                  · subst h8
                    rw [decide_eq_true (rfl : (0 : Nat) = 0)]
                    by_cases h9 : nul = 0
                    · subst h9
                      rw [decide_eq_true (rfl : (0 : Nat) = 0)]
                      go_enter Tryd.func14, Tryd.ntmps14
                      go_wp2_with (first | (go_at_call 30; ((with_reducible refine (H30.out _).mono ?_); rintro e w2 ⟨rfl, rfl⟩)) | (go_at_call 30; ((with_reducible refine (H30b.out _).mono ?_); rintro e w2 ⟨rfl, rfl⟩)) | (go_at_call 34; ((with_reducible refine H34.out.mono ?_); rintro e w2 ⟨rfl, rfl⟩)) | (go_at_call 35; ((with_reducible refine H35.out.mono ?_); rintro e w2 ⟨rfl, rfl⟩)) | (go_at_call 36; ((with_reducible refine H36.out.mono ?_); rintro e w2 ⟨rfl, rfl⟩)))
                      go_ret
                      exact ⟨by first | rfl | (simp; done) | (simp; assumption), HB0.out⟩
                    · have h9a : ((nul : Int) == 0) = false := by simpa using h9
                      rw [decide_eq_false h9]
                      go_enter Tryd.func14, Tryd.ntmps14
                      go_wp2_with (first | (go_at_call 30; ((with_reducible refine (H30.out _).mono ?_); rintro e w2 ⟨rfl, rfl⟩)) | (go_at_call 30; ((with_reducible refine (H30b.out _).mono ?_); rintro e w2 ⟨rfl, rfl⟩)) | (go_at_call 34; ((with_reducible refine H34.out.mono ?_); rintro e w2 ⟨rfl, rfl⟩)) | (go_at_call 35; ((with_reducible refine H35.out.mono ?_); rintro e w2 ⟨rfl, rfl⟩)) | (go_at_call 36; ((with_reducible refine H36.out.mono ?_); rintro e w2 ⟨rfl, rfl⟩)))
                      go_ret
                      exact ⟨by first | rfl | (simp; done) | (simp; assumption), HB0.out⟩
                  · have h8a : ((ncl : Int) == 0) = false := by simpa using h8
                    rw [decide_eq_false h8]
                    go_enter Tryd.func14, Tryd.ntmps14
                    go_wp2_with (first | (go_at_call 30; ((with_reducible refine (H30.out _).mono ?_); rintro e w2 ⟨rfl, rfl⟩)) | (go_at_call 30; ((with_reducible refine (H30b.out _).mono ?_); rintro e w2 ⟨rfl, rfl⟩)) | (go_at_call 34; ((with_reducible refine H34.out.mono ?_); rintro e w2 ⟨rfl, rfl⟩)) | (go_at_call 35; ((with_reducible refine H35.out.mono ?_); rintro e w2 ⟨rfl, rfl⟩)) | (go_at_call 36; ((with_reducible refine H36.out.mono ?_); rintro e w2 ⟨rfl, rfl⟩)))
                    go_ret
                    exact ⟨by first | rfl | (simp; done) | (simp; assumption), HB0.out⟩
      · rw [decide_eq_false h2]
        have h2a : (1000 : Int) < ncl := (by omega); have h2b : 1000 < ncl := (by omega)
        go_enter Tryd.func14, Tryd.ntmps14
        go_wp2_with (first | (go_at_call 30; ((with_reducible refine (H30.out _).mono ?_); rintro e w2 ⟨rfl, rfl⟩)) | (go_at_call 30; ((with_reducible refine (H30b.out _).mono ?_); rintro e w2 ⟨rfl, rfl⟩)) | (go_at_call 34; ((with_reducible refine H34.out.mono ?_); rintro e w2 ⟨rfl, rfl⟩)) | (go_at_call 35; ((with_reducible refine H35.out.mono ?_); rintro e w2 ⟨rfl, rfl⟩)) | (go_at_call 36; ((with_reducible refine H36.out.mono ?_); rintro e w2 ⟨rfl, rfl⟩)))
        go_ret
        exact ⟨by first | rfl | (simp; done) | (simp; assumption), HB0.out⟩
end Go.Proofs.YtipkicijfedfoaaDoor

namespace Go.Proofs.YtipkicijfedfoaaDoor
set_option linter.unusedVariables false
open Go.RowKit Go.Own Go.Quo Go.Inc
set_option maxRecDepth 10000 in
set_option maxHeartbeats 8000000 in
theorem right15 (B : Nat → Prop) (id urg dist since merged : Int) (code : ByteArray) (An Ac Au : Option Addr) (cn cc cu : Nat) (nodes calls units : List Int) (closed : Bool) (w : World) (hs : code.size ≤ 100000) (hn : RI w B An nodes) (hc : RI w B Ac calls) (hu : RI w B Au units) (ln : nodes.length ≤ 100000) (lc : calls.length ≤ 100000) (lu : units.length ≤ 100000) :
    Calls Tryd.prog 15 #[.agg #[.int .i64 id, .int .i64 urg, .string code, .slice An nodes.length cn, .int .i64 dist, .int .i64 since, .slice Ac calls.length cc, .slice Au units.length cu, .int .i64 merged, .bool closed]] w (BoolB (icB ⟨id, urg, code, nodes, dist, since, calls, units, merged, closed⟩) w) := by
  have H33 := Lib.hid (fun W => number33 id 1 W)
  have H33b := Lib.hid (fun W => number33 merged 1 W)
  have H37 := Lib.hid (what37 B urg dist since code An cn nodes (w.alloc (.cells #[.int .i64 id, .int .i64 urg, .string code, .slice An nodes.length cn, .int .i64 dist, .int .i64 since, .slice Ac calls.length cc, .slice Au units.length cu, .int .i64 merged, .bool closed] 25)) hs (hn.alloc _) ln)
  have H38 := Lib.hid (fun (W : World) (hb : Below w.heap.size w W) => rises38 _ Ac cc calls 1 1099511627776 W (((hc.old (by omega)).more (B' := fun k => k < w.heap.size) (fun k hk => hk.2)).below hb (fun _ h => h)) lc)
  have H39 := Lib.hid (fun (W : World) (hb : Below w.heap.size w W) => wide39 _ Au cu units W (((hu.old (by omega)).more (B' := fun k => k < w.heap.size) (fun k hk => hk.2)).below hb (fun _ h => h)) lu)
  have H38b := Lib.hid (fun (B' : Nat → Prop) (A' : Option Addr) (c' : Nat) (W : World) (hr : Reads W B' 1 A' units.length (units.map (Value.int .i64))) => rises38 B' A' c' units 0 255 W hr lu)
  have HB0 := Lib.hid ((Below.refl w.heap.size w).alloc (Nat.le_refl _) (.cells #[.int .i64 id, .int .i64 urg, .string code, .slice An nodes.length cn, .int .i64 dist, .int .i64 since, .slice Ac calls.length cc, .slice Au units.length cu, .int .i64 merged, .bool closed] 25))
  have HX := Lib.hid (Blk.new w 25 #[.int .i64 id, .int .i64 urg, .string code, .slice An nodes.length cn, .int .i64 dist, .int .i64 since, .slice Ac calls.length cc, .slice Au units.length cu, .int .i64 merged, .bool closed])
  obtain ⟨x0, x1, x2⟩ := HX.out.facts
  unfold RowPost at H39
  unfold icB maxT
  simp only
  clear hn hc hu
  generalize numB id 1 = b0 at *
  generalize reportB urg code nodes dist since = b1 at *
  generalize incB calls 1 1099511627776 = b3 at *
  generalize incB units 0 255 = b4 at *
  generalize numB merged 1 = b6 at *
  have HUl := Lib.hid (show (units.map (Value.int .i64)).length = units.length by simp)
  generalize calls.length = ncl at *
  generalize units.length = nul at *
  cases h0 : b0 with
  | false =>
    go_enter Tryd.func15, Tryd.ntmps15
    go_wp2_with (first | (go_at_call 33; ((with_reducible refine (H33.out _).mono ?_); rintro e w2 ⟨rfl, rfl⟩)) | (go_at_call 33; ((with_reducible refine (H33b.out _).mono ?_); rintro e w2 ⟨rfl, rfl⟩)) | (go_at_call 37; ((with_reducible refine H37.out.mono ?_); rintro e w2 ⟨rfl, hb2⟩; have HBc := Lib.hid (HB0.out.trans (hb2.mono HB0.out.size)); have HB2 := HBc; clear x0 x1 x2; obtain ⟨x0, x1, x2⟩ := (HX.out.below hb2 HX.out.lt).facts; have HXc := Lib.hid (HX.out.below hb2 HX.out.lt); clear hb2)) | (go_at_call 38; ((with_reducible refine (H38.out _ HB2.out).mono ?_); rintro e w3 ⟨rfl, rfl⟩)) | (go_at_call 39; ((with_reducible refine (H39.out _ HB2.out).mono ?_); rintro e w4 ⟨A4, c4, rfl, ho4, hb4⟩; have HBc := Lib.hid (HB2.out.trans (hb4.mono HB2.out.size)); have HR4 := Lib.hid (Reads.of_own ho4); clear x0 x1 x2; obtain ⟨x0, x1, x2⟩ := (HXc.out.below hb4 HXc.out.lt).facts; clear ho4 hb4)) | (go_at_call 38; ((with_reducible refine (H38b.out _ _ _ _ HR4.out).mono ?_); rintro e w3 ⟨rfl, rfl⟩)))
    go_ret
    exact ⟨by first | rfl | (simp; done) | (simp; assumption), (by first | exact HBc.out | exact HB0.out)⟩
  | true =>
    cases h1 : b1 with
    | false =>
      go_enter Tryd.func15, Tryd.ntmps15
      go_wp2_with (first | (go_at_call 33; ((with_reducible refine (H33.out _).mono ?_); rintro e w2 ⟨rfl, rfl⟩)) | (go_at_call 33; ((with_reducible refine (H33b.out _).mono ?_); rintro e w2 ⟨rfl, rfl⟩)) | (go_at_call 37; ((with_reducible refine H37.out.mono ?_); rintro e w2 ⟨rfl, hb2⟩; have HBc := Lib.hid (HB0.out.trans (hb2.mono HB0.out.size)); have HB2 := HBc; clear x0 x1 x2; obtain ⟨x0, x1, x2⟩ := (HX.out.below hb2 HX.out.lt).facts; have HXc := Lib.hid (HX.out.below hb2 HX.out.lt); clear hb2)) | (go_at_call 38; ((with_reducible refine (H38.out _ HB2.out).mono ?_); rintro e w3 ⟨rfl, rfl⟩)) | (go_at_call 39; ((with_reducible refine (H39.out _ HB2.out).mono ?_); rintro e w4 ⟨A4, c4, rfl, ho4, hb4⟩; have HBc := Lib.hid (HB2.out.trans (hb4.mono HB2.out.size)); have HR4 := Lib.hid (Reads.of_own ho4); clear x0 x1 x2; obtain ⟨x0, x1, x2⟩ := (HXc.out.below hb4 HXc.out.lt).facts; clear ho4 hb4)) | (go_at_call 38; ((with_reducible refine (H38b.out _ _ _ _ HR4.out).mono ?_); rintro e w3 ⟨rfl, rfl⟩)))
      go_ret
      exact ⟨by first | rfl | (simp; done) | (simp; assumption), (by first | exact HBc.out | exact HB0.out)⟩
    | true =>
      by_cases h2 : ncl ≤ 1000
      · rw [decide_eq_true h2]
        have h2a : ¬ (1000 : Int) < ncl := (by omega); have h2b : ¬ 1000 < ncl := (by omega)
        cases h3 : b3 with
        | false =>
          go_enter Tryd.func15, Tryd.ntmps15
          go_wp2_with (first | (go_at_call 33; ((with_reducible refine (H33.out _).mono ?_); rintro e w2 ⟨rfl, rfl⟩)) | (go_at_call 33; ((with_reducible refine (H33b.out _).mono ?_); rintro e w2 ⟨rfl, rfl⟩)) | (go_at_call 37; ((with_reducible refine H37.out.mono ?_); rintro e w2 ⟨rfl, hb2⟩; have HBc := Lib.hid (HB0.out.trans (hb2.mono HB0.out.size)); have HB2 := HBc; clear x0 x1 x2; obtain ⟨x0, x1, x2⟩ := (HX.out.below hb2 HX.out.lt).facts; have HXc := Lib.hid (HX.out.below hb2 HX.out.lt); clear hb2)) | (go_at_call 38; ((with_reducible refine (H38.out _ HB2.out).mono ?_); rintro e w3 ⟨rfl, rfl⟩)) | (go_at_call 39; ((with_reducible refine (H39.out _ HB2.out).mono ?_); rintro e w4 ⟨A4, c4, rfl, ho4, hb4⟩; have HBc := Lib.hid (HB2.out.trans (hb4.mono HB2.out.size)); have HR4 := Lib.hid (Reads.of_own ho4); clear x0 x1 x2; obtain ⟨x0, x1, x2⟩ := (HXc.out.below hb4 HXc.out.lt).facts; clear ho4 hb4)) | (go_at_call 38; ((with_reducible refine (H38b.out _ _ _ _ HR4.out).mono ?_); rintro e w3 ⟨rfl, rfl⟩)))
          go_ret
          exact ⟨by first | rfl | (simp; done) | (simp; assumption), (by first | exact HBc.out | exact HB0.out)⟩
        | true =>
          cases h4 : b4 with
          | false =>
            go_enter Tryd.func15, Tryd.ntmps15
            go_wp2_with (first | (go_at_call 33; ((with_reducible refine (H33.out _).mono ?_); rintro e w2 ⟨rfl, rfl⟩)) | (go_at_call 33; ((with_reducible refine (H33b.out _).mono ?_); rintro e w2 ⟨rfl, rfl⟩)) | (go_at_call 37; ((with_reducible refine H37.out.mono ?_); rintro e w2 ⟨rfl, hb2⟩; have HBc := Lib.hid (HB0.out.trans (hb2.mono HB0.out.size)); have HB2 := HBc; clear x0 x1 x2; obtain ⟨x0, x1, x2⟩ := (HX.out.below hb2 HX.out.lt).facts; have HXc := Lib.hid (HX.out.below hb2 HX.out.lt); clear hb2)) | (go_at_call 38; ((with_reducible refine (H38.out _ HB2.out).mono ?_); rintro e w3 ⟨rfl, rfl⟩)) | (go_at_call 39; ((with_reducible refine (H39.out _ HB2.out).mono ?_); rintro e w4 ⟨A4, c4, rfl, ho4, hb4⟩; have HBc := Lib.hid (HB2.out.trans (hb4.mono HB2.out.size)); have HR4 := Lib.hid (Reads.of_own ho4); clear x0 x1 x2; obtain ⟨x0, x1, x2⟩ := (HXc.out.below hb4 HXc.out.lt).facts; clear ho4 hb4)) | (go_at_call 38; ((with_reducible refine (H38b.out _ _ _ _ HR4.out).mono ?_); rintro e w3 ⟨rfl, rfl⟩)))
            go_ret
            exact ⟨by first | rfl | (simp; done) | (simp; assumption), (by first | exact HBc.out | exact HB0.out)⟩
          | true =>
            by_cases h5 : merged = 0
            · subst h5
              rw [decide_eq_true rfl]
              go_enter Tryd.func15, Tryd.ntmps15
              go_wp2_with (first | (go_at_call 33; ((with_reducible refine (H33.out _).mono ?_); rintro e w2 ⟨rfl, rfl⟩)) | (go_at_call 33; ((with_reducible refine (H33b.out _).mono ?_); rintro e w2 ⟨rfl, rfl⟩)) | (go_at_call 37; ((with_reducible refine H37.out.mono ?_); rintro e w2 ⟨rfl, hb2⟩; have HBc := Lib.hid (HB0.out.trans (hb2.mono HB0.out.size)); have HB2 := HBc; clear x0 x1 x2; obtain ⟨x0, x1, x2⟩ := (HX.out.below hb2 HX.out.lt).facts; have HXc := Lib.hid (HX.out.below hb2 HX.out.lt); clear hb2)) | (go_at_call 38; ((with_reducible refine (H38.out _ HB2.out).mono ?_); rintro e w3 ⟨rfl, rfl⟩)) | (go_at_call 39; ((with_reducible refine (H39.out _ HB2.out).mono ?_); rintro e w4 ⟨A4, c4, rfl, ho4, hb4⟩; have HBc := Lib.hid (HB2.out.trans (hb4.mono HB2.out.size)); have HR4 := Lib.hid (Reads.of_own ho4); clear x0 x1 x2; obtain ⟨x0, x1, x2⟩ := (HXc.out.below hb4 HXc.out.lt).facts; clear ho4 hb4)) | (go_at_call 38; ((with_reducible refine (H38b.out _ _ _ _ HR4.out).mono ?_); rintro e w3 ⟨rfl, rfl⟩)))
              go_ret
              exact ⟨by first | rfl | (simp; done) | (simp; assumption), (by first | exact HBc.out | exact HB0.out)⟩
            · have h5a : (merged == 0) = false := by simpa using h5
              rw [decide_eq_false h5]
              clear h5
              cases h6 : b6 with
              | false =>
                go_enter Tryd.func15, Tryd.ntmps15
                go_wp2_with (first | (go_at_call 33; ((with_reducible refine (H33.out _).mono ?_); rintro e w2 ⟨rfl, rfl⟩)) | (go_at_call 33; ((with_reducible refine (H33b.out _).mono ?_); rintro e w2 ⟨rfl, rfl⟩)) | (go_at_call 37; ((with_reducible refine H37.out.mono ?_); rintro e w2 ⟨rfl, hb2⟩; have HBc := Lib.hid (HB0.out.trans (hb2.mono HB0.out.size)); have HB2 := HBc; clear x0 x1 x2; obtain ⟨x0, x1, x2⟩ := (HX.out.below hb2 HX.out.lt).facts; have HXc := Lib.hid (HX.out.below hb2 HX.out.lt); clear hb2)) | (go_at_call 38; ((with_reducible refine (H38.out _ HB2.out).mono ?_); rintro e w3 ⟨rfl, rfl⟩)) | (go_at_call 39; ((with_reducible refine (H39.out _ HB2.out).mono ?_); rintro e w4 ⟨A4, c4, rfl, ho4, hb4⟩; have HBc := Lib.hid (HB2.out.trans (hb4.mono HB2.out.size)); have HR4 := Lib.hid (Reads.of_own ho4); clear x0 x1 x2; obtain ⟨x0, x1, x2⟩ := (HXc.out.below hb4 HXc.out.lt).facts; clear ho4 hb4)) | (go_at_call 38; ((with_reducible refine (H38b.out _ _ _ _ HR4.out).mono ?_); rintro e w3 ⟨rfl, rfl⟩)))
                go_ret
                exact ⟨by first | rfl | (simp; done) | (simp; assumption), (by first | exact HBc.out | exact HB0.out)⟩
              | true =>
                by_cases h7 : merged = id
                · subst h7
                  rw [show decide (merged ≠ merged) = false by simp]
                  go_enter Tryd.func15, Tryd.ntmps15
                  go_wp2_with (first | (go_at_call 33; ((with_reducible refine (H33.out _).mono ?_); rintro e w2 ⟨rfl, rfl⟩)) | (go_at_call 33; ((with_reducible refine (H33b.out _).mono ?_); rintro e w2 ⟨rfl, rfl⟩)) | (go_at_call 37; ((with_reducible refine H37.out.mono ?_); rintro e w2 ⟨rfl, hb2⟩; have HBc := Lib.hid (HB0.out.trans (hb2.mono HB0.out.size)); have HB2 := HBc; clear x0 x1 x2; obtain ⟨x0, x1, x2⟩ := (HX.out.below hb2 HX.out.lt).facts; have HXc := Lib.hid (HX.out.below hb2 HX.out.lt); clear hb2)) | (go_at_call 38; ((with_reducible refine (H38.out _ HB2.out).mono ?_); rintro e w3 ⟨rfl, rfl⟩)) | (go_at_call 39; ((with_reducible refine (H39.out _ HB2.out).mono ?_); rintro e w4 ⟨A4, c4, rfl, ho4, hb4⟩; have HBc := Lib.hid (HB2.out.trans (hb4.mono HB2.out.size)); have HR4 := Lib.hid (Reads.of_own ho4); clear x0 x1 x2; obtain ⟨x0, x1, x2⟩ := (HXc.out.below hb4 HXc.out.lt).facts; clear ho4 hb4)) | (go_at_call 38; ((with_reducible refine (H38b.out _ _ _ _ HR4.out).mono ?_); rintro e w3 ⟨rfl, rfl⟩)))
                  go_ret
                  exact ⟨by first | rfl | (simp; done) | (simp; assumption), (by first | exact HBc.out | exact HB0.out)⟩
                · have h7a : (merged == id) = false := by simpa using h7
                  rw [show decide (merged ≠ id) = true by simpa using h7]
                  by_cases h8 : ncl = 0
                  · subst h8
                    rw [decide_eq_true (rfl : (0 : Nat) = 0)]
                    by_cases h9 : nul = 0
                    · subst h9
                      rw [decide_eq_true (rfl : (0 : Nat) = 0)]
                      go_enter Tryd.func15, Tryd.ntmps15
                      go_wp2_with (first | (go_at_call 33; ((with_reducible refine (H33.out _).mono ?_); rintro e w2 ⟨rfl, rfl⟩)) | (go_at_call 33; ((with_reducible refine (H33b.out _).mono ?_); rintro e w2 ⟨rfl, rfl⟩)) | (go_at_call 37; ((with_reducible refine H37.out.mono ?_); rintro e w2 ⟨rfl, hb2⟩; have HBc := Lib.hid (HB0.out.trans (hb2.mono HB0.out.size)); have HB2 := HBc; clear x0 x1 x2; obtain ⟨x0, x1, x2⟩ := (HX.out.below hb2 HX.out.lt).facts; have HXc := Lib.hid (HX.out.below hb2 HX.out.lt); clear hb2)) | (go_at_call 38; ((with_reducible refine (H38.out _ HB2.out).mono ?_); rintro e w3 ⟨rfl, rfl⟩)) | (go_at_call 39; ((with_reducible refine (H39.out _ HB2.out).mono ?_); rintro e w4 ⟨A4, c4, rfl, ho4, hb4⟩; have HBc := Lib.hid (HB2.out.trans (hb4.mono HB2.out.size)); have HR4 := Lib.hid (Reads.of_own ho4); clear x0 x1 x2; obtain ⟨x0, x1, x2⟩ := (HXc.out.below hb4 HXc.out.lt).facts; clear ho4 hb4)) | (go_at_call 38; ((with_reducible refine (H38b.out _ _ _ _ HR4.out).mono ?_); rintro e w3 ⟨rfl, rfl⟩)))
                      go_ret
                      exact ⟨by first | rfl | (simp; done) | (simp; assumption), (by first | exact HBc.out | exact HB0.out)⟩
                    · have h9a : ((nul : Int) == 0) = false := by simpa using h9
                      rw [decide_eq_false h9]
                      go_enter Tryd.func15, Tryd.ntmps15
                      go_wp2_with (first | (go_at_call 33; ((with_reducible refine (H33.out _).mono ?_); rintro e w2 ⟨rfl, rfl⟩)) | (go_at_call 33; ((with_reducible refine (H33b.out _).mono ?_); rintro e w2 ⟨rfl, rfl⟩)) | (go_at_call 37; ((with_reducible refine H37.out.mono ?_); rintro e w2 ⟨rfl, hb2⟩; have HBc := Lib.hid (HB0.out.trans (hb2.mono HB0.out.size)); have HB2 := HBc; clear x0 x1 x2; obtain ⟨x0, x1, x2⟩ := (HX.out.below hb2 HX.out.lt).facts; have HXc := Lib.hid (HX.out.below hb2 HX.out.lt); clear hb2)) | (go_at_call 38; ((with_reducible refine (H38.out _ HB2.out).mono ?_); rintro e w3 ⟨rfl, rfl⟩)) | (go_at_call 39; ((with_reducible refine (H39.out _ HB2.out).mono ?_); rintro e w4 ⟨A4, c4, rfl, ho4, hb4⟩; have HBc := Lib.hid (HB2.out.trans (hb4.mono HB2.out.size)); have HR4 := Lib.hid (Reads.of_own ho4); clear x0 x1 x2; obtain ⟨x0, x1, x2⟩ := (HXc.out.below hb4 HXc.out.lt).facts; clear ho4 hb4)) | (go_at_call 38; ((with_reducible refine (H38b.out _ _ _ _ HR4.out).mono ?_); rintro e w3 ⟨rfl, rfl⟩)))
                      go_ret
                      exact ⟨by first | rfl | (simp; done) | (simp; assumption), (by first | exact HBc.out | exact HB0.out)⟩
                  · have h8a : ((ncl : Int) == 0) = false := by simpa using h8
                    rw [decide_eq_false h8]
                    go_enter Tryd.func15, Tryd.ntmps15
                    go_wp2_with (first | (go_at_call 33; ((with_reducible refine (H33.out _).mono ?_); rintro e w2 ⟨rfl, rfl⟩)) | (go_at_call 33; ((with_reducible refine (H33b.out _).mono ?_); rintro e w2 ⟨rfl, rfl⟩)) | (go_at_call 37; ((with_reducible refine H37.out.mono ?_); rintro e w2 ⟨rfl, hb2⟩; have HBc := Lib.hid (HB0.out.trans (hb2.mono HB0.out.size)); have HB2 := HBc; clear x0 x1 x2; obtain ⟨x0, x1, x2⟩ := (HX.out.below hb2 HX.out.lt).facts; have HXc := Lib.hid (HX.out.below hb2 HX.out.lt); clear hb2)) | (go_at_call 38; ((with_reducible refine (H38.out _ HB2.out).mono ?_); rintro e w3 ⟨rfl, rfl⟩)) | (go_at_call 39; ((with_reducible refine (H39.out _ HB2.out).mono ?_); rintro e w4 ⟨A4, c4, rfl, ho4, hb4⟩; have HBc := Lib.hid (HB2.out.trans (hb4.mono HB2.out.size)); have HR4 := Lib.hid (Reads.of_own ho4); clear x0 x1 x2; obtain ⟨x0, x1, x2⟩ := (HXc.out.below hb4 HXc.out.lt).facts; clear ho4 hb4)) | (go_at_call 38; ((with_reducible refine (H38b.out _ _ _ _ HR4.out).mono ?_); rintro e w3 ⟨rfl, rfl⟩)))
                    go_ret
                    exact ⟨by first | rfl | (simp; done) | (simp; assumption), (by first | exact HBc.out | exact HB0.out)⟩
      · rw [decide_eq_false h2]
        have h2a : (1000 : Int) < ncl := (by omega); have h2b : 1000 < ncl := (by omega)
        go_enter Tryd.func15, Tryd.ntmps15
        go_wp2_with (first | (go_at_call 33; ((with_reducible refine (H33.out _).mono ?_); rintro e w2 ⟨rfl, rfl⟩)) | (go_at_call 33; ((with_reducible refine (H33b.out _).mono ?_); rintro e w2 ⟨rfl, rfl⟩)) | (go_at_call 37; ((with_reducible refine H37.out.mono ?_); rintro e w2 ⟨rfl, hb2⟩; have HBc := Lib.hid (HB0.out.trans (hb2.mono HB0.out.size)); have HB2 := HBc; clear x0 x1 x2; obtain ⟨x0, x1, x2⟩ := (HX.out.below hb2 HX.out.lt).facts; have HXc := Lib.hid (HX.out.below hb2 HX.out.lt); clear hb2)) | (go_at_call 38; ((with_reducible refine (H38.out _ HB2.out).mono ?_); rintro e w3 ⟨rfl, rfl⟩)) | (go_at_call 39; ((with_reducible refine (H39.out _ HB2.out).mono ?_); rintro e w4 ⟨A4, c4, rfl, ho4, hb4⟩; have HBc := Lib.hid (HB2.out.trans (hb4.mono HB2.out.size)); have HR4 := Lib.hid (Reads.of_own ho4); clear x0 x1 x2; obtain ⟨x0, x1, x2⟩ := (HXc.out.below hb4 HXc.out.lt).facts; clear ho4 hb4)) | (go_at_call 38; ((with_reducible refine (H38b.out _ _ _ _ HR4.out).mono ?_); rintro e w3 ⟨rfl, rfl⟩)))
        go_ret
        exact ⟨by first | rfl | (simp; done) | (simp; assumption), (by first | exact HBc.out | exact HB0.out)⟩
end Go.Proofs.YtipkicijfedfoaaDoor

namespace Go.Proofs.YtipkicijfedfoaaDoor
set_option linter.unusedVariables false
open Go.RowKit Go.Own Go.Quo Go.Inc
set_option maxHeartbeats 1000000 in
theorem open16 (id urg dist since merged : Int) (code : ByteArray) (An Ac Au : Option Addr) (nn ncl nul cn cc cu : Nat) (closed : Bool) (w : World) :
    Calls Tryd.prog 16 #[.agg #[.int .i64 id, .int .i64 urg, .string code, .slice An nn cn, .int .i64 dist, .int .i64 since, .slice Ac ncl cc, .slice Au nul cu, .int .i64 merged, .bool closed]] w (BoolB (decide (merged = 0) && !closed) w) := by
  have HB0 := Lib.hid ((Below.refl w.heap.size w).alloc (Nat.le_refl _) (.cells #[.int .i64 id, .int .i64 urg, .string code, .slice An nn cn, .int .i64 dist, .int .i64 since, .slice Ac ncl cc, .slice Au nul cu, .int .i64 merged, .bool closed] 25))
  obtain ⟨x0, x1, x2⟩ := (Blk.new w 25 #[.int .i64 id, .int .i64 urg, .string code, .slice An nn cn, .int .i64 dist, .int .i64 since, .slice Ac ncl cc, .slice Au nul cu, .int .i64 merged, .bool closed]).facts
  by_cases h5 : merged = 0
  · subst h5
    rw [decide_eq_true rfl]
    go_enter Tryd.func16, Tryd.ntmps16
    go_wp2_with fail
    go_ret
    exact ⟨by first | rfl | simp, HB0.out⟩
  · have h5a : (merged == 0) = false := by simpa using h5
    rw [decide_eq_false h5]
    clear h5
    go_enter Tryd.func16, Tryd.ntmps16
    go_wp2_with fail
    go_ret
    exact ⟨by first | rfl | simp, HB0.out⟩
set_option maxHeartbeats 1000000 in
theorem open17 (id urg dist since merged : Int) (code : ByteArray) (An Ac Au : Option Addr) (nn ncl nul cn cc cu : Nat) (closed : Bool) (w : World) :
    Calls Tryd.prog 17 #[.agg #[.int .i64 id, .int .i64 urg, .string code, .slice An nn cn, .int .i64 dist, .int .i64 since, .slice Ac ncl cc, .slice Au nul cu, .int .i64 merged, .bool closed]] w (BoolB (decide (merged = 0) && !closed) w) := by
  have HB0 := Lib.hid ((Below.refl w.heap.size w).alloc (Nat.le_refl _) (.cells #[.int .i64 id, .int .i64 urg, .string code, .slice An nn cn, .int .i64 dist, .int .i64 since, .slice Ac ncl cc, .slice Au nul cu, .int .i64 merged, .bool closed] 25))
  obtain ⟨x0, x1, x2⟩ := (Blk.new w 25 #[.int .i64 id, .int .i64 urg, .string code, .slice An nn cn, .int .i64 dist, .int .i64 since, .slice Ac ncl cc, .slice Au nul cu, .int .i64 merged, .bool closed]).facts
  by_cases h5 : merged = 0
  · subst h5
    rw [decide_eq_true rfl]
    go_enter Tryd.func17, Tryd.ntmps17
    go_wp2_with fail
    go_ret
    exact ⟨by first | rfl | simp, HB0.out⟩
  · have h5a : (merged == 0) = false := by simpa using h5
    rw [decide_eq_false h5]
    clear h5
    go_enter Tryd.func17, Tryd.ntmps17
    go_wp2_with fail
    go_ret
    exact ⟨by first | rfl | simp, HB0.out⟩
set_option maxHeartbeats 1000000 in
theorem small10 (id urg dist since merged : Int) (code : ByteArray) (An Ac Au : Option Addr) (nn ncl nul cn cc cu : Nat) (closed : Bool) (w : World) :
    Calls Tryd.prog 10 #[.agg #[.int .i64 id, .int .i64 urg, .string code, .slice An nn cn, .int .i64 dist, .int .i64 since, .slice Ac ncl cc, .slice Au nul cu, .int .i64 merged, .bool closed]] w (BoolB (decide (nn ≤ 60) && decide (ncl ≤ 60) && decide (nul ≤ 60) && decide (code.size ≤ 100)) w) := by
  have HB0 := Lib.hid ((Below.refl w.heap.size w).alloc (Nat.le_refl _) (.cells #[.int .i64 id, .int .i64 urg, .string code, .slice An nn cn, .int .i64 dist, .int .i64 since, .slice Ac ncl cc, .slice Au nul cu, .int .i64 merged, .bool closed] 25))
  obtain ⟨x0, x1, x2⟩ := (Blk.new w 25 #[.int .i64 id, .int .i64 urg, .string code, .slice An nn cn, .int .i64 dist, .int .i64 since, .slice Ac ncl cc, .slice Au nul cu, .int .i64 merged, .bool closed]).facts
  by_cases h0 : nn ≤ 60
  · rw [decide_eq_true h0]
    by_cases h1 : ncl ≤ 60
    · rw [decide_eq_true h1]
      by_cases h2 : nul ≤ 60
      · rw [decide_eq_true h2]
        by_cases h3 : code.size ≤ 100
        · rw [decide_eq_true h3]
          go_enter Tryd.func10, Tryd.ntmps10
          go_wp2_with fail
          go_ret
          exact ⟨by first | rfl | (simp; done) | (simp; omega), HB0.out⟩
        · rw [decide_eq_false h3]
          go_enter Tryd.func10, Tryd.ntmps10
          go_wp2_with fail
          go_ret
          exact ⟨by first | rfl | (simp; done) | (simp; omega), HB0.out⟩
      · rw [decide_eq_false h2]
        go_enter Tryd.func10, Tryd.ntmps10
        go_wp2_with fail
        go_ret
        exact ⟨by first | rfl | (simp; done) | (simp; omega), HB0.out⟩
    · rw [decide_eq_false h1]
      go_enter Tryd.func10, Tryd.ntmps10
      go_wp2_with fail
      go_ret
      exact ⟨by first | rfl | (simp; done) | (simp; omega), HB0.out⟩
  · rw [decide_eq_false h0]
    go_enter Tryd.func10, Tryd.ntmps10
    go_wp2_with fail
    go_ret
    exact ⟨by first | rfl | (simp; done) | (simp; omega), HB0.out⟩
set_option maxHeartbeats 1000000 in
theorem smallTold11 (call inc urg dist since : Int) (code : ByteArray) (A : Option Addr) (nn c : Nat) (closed : Bool) (w : World) :
    Calls Tryd.prog 11 #[.agg #[.int .i64 call, .int .i64 inc, .int .i64 urg, .string code, .slice A nn c, .int .i64 dist, .int .i64 since, .bool closed]] w (BoolB (decide (nn ≤ 60) && decide (code.size ≤ 100)) w) := by
  have HB0 := Lib.hid ((Below.refl w.heap.size w).alloc (Nat.le_refl _) (.cells #[.int .i64 call, .int .i64 inc, .int .i64 urg, .string code, .slice A nn c, .int .i64 dist, .int .i64 since, .bool closed] 27))
  obtain ⟨x0, x1, x2⟩ := (Blk.new w 27 #[.int .i64 call, .int .i64 inc, .int .i64 urg, .string code, .slice A nn c, .int .i64 dist, .int .i64 since, .bool closed]).facts
  by_cases h0 : nn ≤ 60
  · rw [decide_eq_true h0]
    by_cases h3 : code.size ≤ 100
    · rw [decide_eq_true h3]
      go_enter Tryd.func11, Tryd.ntmps11
      go_wp2_with fail
      go_ret
      exact ⟨by first | rfl | (simp; done) | (simp; omega), HB0.out⟩
    · rw [decide_eq_false h3]
      go_enter Tryd.func11, Tryd.ntmps11
      go_wp2_with fail
      go_ret
      exact ⟨by first | rfl | (simp; done) | (simp; omega), HB0.out⟩
  · rw [decide_eq_false h0]
    go_enter Tryd.func11, Tryd.ntmps11
    go_wp2_with fail
    go_ret
    exact ⟨by first | rfl | (simp; done) | (simp; omega), HB0.out⟩
end Go.Proofs.YtipkicijfedfoaaDoor

import Derived.Test.YtipkicijfedfoaaDoorInc4
namespace Go.Proofs.YtipkicijfedfoaaDoor
set_option linter.unusedVariables false
open Go.RowKit Go.Own Go.Quo Go.Inc
set_option maxRecDepth 10000 in
set_option maxHeartbeats 8000000 in
theorem valid14 (B : Nat → Prop) (id urg dist since merged : Int) (code : ByteArray) (An Ac Au : Option Addr) (cn cc cu : Nat) (nodes calls units : List Int) (closed : Bool) (w : World) (hs : code.size ≤ 100000) (hn : RI w B An nodes) (hc : RI w B Ac calls) (hu : RI w B Au units) (ln : nodes.length ≤ 100000) (lc : calls.length ≤ 100000) (lu : units.length ≤ 100000) :
    Calls Tryd.prog 14 #[.agg #[.int .i64 id, .int .i64 urg, .string code, .slice An nodes.length cn, .int .i64 dist, .int .i64 since, .slice Ac calls.length cc, .slice Au units.length cu, .int .i64 merged, .bool closed]] w (BoolB (icB ⟨id, urg, code, nodes, dist, since, calls, units, merged, closed⟩) w) := by
  have H30 := Lib.hid (fun W => isNum id W)
  have H30b := Lib.hid (fun W => isNum merged W)
  have H34 := Lib.hid (report34 B urg dist since code An cn nodes (w.alloc (.cells #[.int .i64 id, .int .i64 urg, .string code, .slice An nodes.length cn, .int .i64 dist, .int .i64 since, .slice Ac calls.length cc, .slice Au units.length cu, .int .i64 merged, .bool closed] 25)) hs (hn.alloc _) ln)
  have H35 := Lib.hid (incr35 B Ac cc calls 1 1099511627776 (w.alloc (.cells #[.int .i64 id, .int .i64 urg, .string code, .slice An nodes.length cn, .int .i64 dist, .int .i64 since, .slice Ac calls.length cc, .slice Au units.length cu, .int .i64 merged, .bool closed] 25)) (hc.alloc _) lc)
  have H36 := Lib.hid (incr36 B Au cu units 0 255 (w.alloc (.cells #[.int .i64 id, .int .i64 urg, .string code, .slice An nodes.length cn, .int .i64 dist, .int .i64 since, .slice Ac calls.length cc, .slice Au units.length cu, .int .i64 merged, .bool closed] 25)) (hu.alloc _) lu)
  have HB0 := Lib.hid ((Below.refl w.heap.size w).alloc (Nat.le_refl _) (.cells #[.int .i64 id, .int .i64 urg, .string code, .slice An nodes.length cn, .int .i64 dist, .int .i64 since, .slice Ac calls.length cc, .slice Au units.length cu, .int .i64 merged, .bool closed] 25))
  obtain ⟨x0, x1, x2⟩ := (Blk.new w 25 #[.int .i64 id, .int .i64 urg, .string code, .slice An nodes.length cn, .int .i64 dist, .int .i64 since, .slice Ac calls.length cc, .slice Au units.length cu, .int .i64 merged, .bool closed]).facts
  unfold icB maxT
  simp only
  clear hn hc hu
  generalize numB id 1 = b0 at *
  generalize reportB urg code nodes dist since = b1 at *
  generalize incB calls 1 1099511627776 = b3 at *
  generalize incB units 0 255 = b4 at *
  generalize numB merged 1 = b6 at *
  generalize calls.length = ncl at *
  generalize units.length = nul at *
  cases h0 : b0 with
  | false =>
    go_enter Tryd.func14, Tryd.ntmps14
    go_wp2_with (first | (go_at_call 30; ((with_reducible refine (H30.out _).mono ?_); rintro e w2 ⟨rfl, rfl⟩)) | (go_at_call 30; ((with_reducible refine (H30b.out _).mono ?_); rintro e w2 ⟨rfl, rfl⟩)) | (go_at_call 34; ((with_reducible refine H34.out.mono ?_); rintro e w2 ⟨rfl, rfl⟩)) | (go_at_call 35; ((with_reducible refine H35.out.mono ?_); rintro e w2 ⟨rfl, rfl⟩)) | (go_at_call 36; ((with_reducible refine H36.out.mono ?_); rintro e w2 ⟨rfl, rfl⟩)))
    go_ret
    exact ⟨by first | rfl | (simp; done) | (simp; assumption), HB0.out⟩
  | true =>
    cases h1 : b1 with
    | false =>
      go_enter Tryd.func14, Tryd.ntmps14
      go_wp2_with (first | (go_at_call 30; ((with_reducible refine (H30.out _).mono ?_); rintro e w2 ⟨rfl, rfl⟩)) | (go_at_call 30; ((with_reducible refine (H30b.out _).mono ?_); rintro e w2 ⟨rfl, rfl⟩)) | (go_at_call 34; ((with_reducible refine H34.out.mono ?_); rintro e w2 ⟨rfl, rfl⟩)) | (go_at_call 35; ((with_reducible refine H35.out.mono ?_); rintro e w2 ⟨rfl, rfl⟩)) | (go_at_call 36; ((with_reducible refine H36.out.mono ?_); rintro e w2 ⟨rfl, rfl⟩)))
      go_ret
      exact ⟨by first | rfl | (simp; done) | (simp; assumption), HB0.out⟩
    | true =>
      by_cases h2 : ncl ≤ 1000
      · rw [decide_eq_true h2]
        have h2a : ¬ (1000 : Int) < ncl := (by omega); have h2b : ¬ 1000 < ncl := (by omega)
        cases h3 : b3 with
        | false =>
          go_enter Tryd.func14, Tryd.ntmps14
          go_wp2_with (first | (go_at_call 30; ((with_reducible refine (H30.out _).mono ?_); rintro e w2 ⟨rfl, rfl⟩)) | (go_at_call 30; ((with_reducible refine (H30b.out _).mono ?_); rintro e w2 ⟨rfl, rfl⟩)) | (go_at_call 34; ((with_reducible refine H34.out.mono ?_); rintro e w2 ⟨rfl, rfl⟩)) | (go_at_call 35; ((with_reducible refine H35.out.mono ?_); rintro e w2 ⟨rfl, rfl⟩)) | (go_at_call 36; ((with_reducible refine H36.out.mono ?_); rintro e w2 ⟨rfl, rfl⟩)))
          go_ret
          exact ⟨by first | rfl | (simp; done) | (simp; assumption), HB0.out⟩
        | true =>
          cases h4 : b4 with
          | false =>
            go_enter Tryd.func14, Tryd.ntmps14
            go_wp2_with (first | (go_at_call 30; ((with_reducible refine (H30.out _).mono ?_); rintro e w2 ⟨rfl, rfl⟩)) | (go_at_call 30; ((with_reducible refine (H30b.out _).mono ?_); rintro e w2 ⟨rfl, rfl⟩)) | (go_at_call 34; ((with_reducible refine H34.out.mono ?_); rintro e w2 ⟨rfl, rfl⟩)) | (go_at_call 35; ((with_reducible refine H35.out.mono ?_); rintro e w2 ⟨rfl, rfl⟩)) | (go_at_call 36; ((with_reducible refine H36.out.mono ?_); rintro e w2 ⟨rfl, rfl⟩)))
            go_ret
            exact ⟨by first | rfl | (simp; done) | (simp; assumption), HB0.out⟩
          | true =>
            by_cases h5 : merged = 0
            · subst h5
              rw [decide_eq_true rfl]
              go_enter Tryd.func14, Tryd.ntmps14
              go_wp2_with (first | (go_at_call 30; ((with_reducible refine (H30.out _).mono ?_); rintro e w2 ⟨rfl, rfl⟩)) | (go_at_call 30; ((with_reducible refine (H30b.out _).mono ?_); rintro e w2 ⟨rfl, rfl⟩)) | (go_at_call 34; ((with_reducible refine H34.out.mono ?_); rintro e w2 ⟨rfl, rfl⟩)) | (go_at_call 35; ((with_reducible refine H35.out.mono ?_); rintro e w2 ⟨rfl, rfl⟩)) | (go_at_call 36; ((with_reducible refine H36.out.mono ?_); rintro e w2 ⟨rfl, rfl⟩)))
              go_ret
              exact ⟨by first | rfl | (simp; done) | (simp; assumption), HB0.out⟩
            · have h5a : (merged == 0) = false := by simpa using h5
              rw [decide_eq_false h5]
              clear h5
              cases h6 : b6 with
              | false =>
                go_enter Tryd.func14, Tryd.ntmps14
                go_wp2_with (first | (go_at_call 30; ((with_reducible refine (H30.out _).mono ?_); rintro e w2 ⟨rfl, rfl⟩)) | (go_at_call 30; ((with_reducible refine (H30b.out _).mono ?_); rintro e w2 ⟨rfl, rfl⟩)) | (go_at_call 34; ((with_reducible refine H34.out.mono ?_); rintro e w2 ⟨rfl, rfl⟩)) | (go_at_call 35; ((with_reducible refine H35.out.mono ?_); rintro e w2 ⟨rfl, rfl⟩)) | (go_at_call 36; ((with_reducible refine H36.out.mono ?_); rintro e w2 ⟨rfl, rfl⟩)))
                go_ret
                exact ⟨by first | rfl | (simp; done) | (simp; assumption), HB0.out⟩
              | true =>
                by_cases h7 : merged = id
                · subst h7
                  rw [show decide (merged ≠ merged) = false by simp]
                  go_enter Tryd.func14, Tryd.ntmps14
                  go_wp2_with (first | (go_at_call 30; ((with_reducible refine (H30.out _).mono ?_); rintro e w2 ⟨rfl, rfl⟩)) | (go_at_call 30; ((with_reducible refine (H30b.out _).mono ?_); rintro e w2 ⟨rfl, rfl⟩)) | (go_at_call 34; ((with_reducible refine H34.out.mono ?_); rintro e w2 ⟨rfl, rfl⟩)) | (go_at_call 35; ((with_reducible refine H35.out.mono ?_); rintro e w2 ⟨rfl, rfl⟩)) | (go_at_call 36; ((with_reducible refine H36.out.mono ?_); rintro e w2 ⟨rfl, rfl⟩)))
                  go_ret
                  exact ⟨by first | rfl | (simp; done) | (simp; assumption), HB0.out⟩
                · have h7a : (merged == id) = false := by simpa using h7
                  rw [show decide (merged ≠ id) = true by simpa using h7]
                  by_cases h8 : ncl = 0
                  · subst h8
                    rw [decide_eq_true (rfl : (0 : Nat) = 0)]
                    by_cases h9 : nul = 0
                    · subst h9
                      rw [decide_eq_true (rfl : (0 : Nat) = 0)]
                      go_enter Tryd.func14, Tryd.ntmps14
                      go_wp2_with (first | (go_at_call 30; ((with_reducible refine (H30.out _).mono ?_); rintro e w2 ⟨rfl, rfl⟩)) | (go_at_call 30; ((with_reducible refine (H30b.out _).mono ?_); rintro e w2 ⟨rfl, rfl⟩)) | (go_at_call 34; ((with_reducible refine H34.out.mono ?_); rintro e w2 ⟨rfl, rfl⟩)) | (go_at_call 35; ((with_reducible refine H35.out.mono ?_); rintro e w2 ⟨rfl, rfl⟩)) | (go_at_call 36; ((with_reducible refine H36.out.mono ?_); rintro e w2 ⟨rfl, rfl⟩)))
                      go_ret
                      exact ⟨by first | rfl | (simp; done) | (simp; assumption), HB0.out⟩
                    · have h9a : ((nul : Int) == 0) = false := by simpa using h9
                      rw [decide_eq_false h9]
                      go_enter Tryd.func14, Tryd.ntmps14
                      go_wp2_with (first | (go_at_call 30; ((with_reducible refine (H30.out _).mono ?_); rintro e w2 ⟨rfl, rfl⟩)) | (go_at_call 30; ((with_reducible refine (H30b.out _).mono ?_); rintro e w2 ⟨rfl, rfl⟩)) | (go_at_call 34; ((with_reducible refine H34.out.mono ?_); rintro e w2 ⟨rfl, rfl⟩)) | (go_at_call 35; ((with_reducible refine H35.out.mono ?_); rintro e w2 ⟨rfl, rfl⟩)) | (go_at_call 36; ((with_reducible refine H36.out.mono ?_); rintro e w2 ⟨rfl, rfl⟩)))
                      go_ret
                      exact ⟨by first | rfl | (simp; done) | (simp; assumption), HB0.out⟩
                  · have h8a : ((ncl : Int) == 0) = false := by simpa using h8
                    rw [decide_eq_false h8]
                    go_enter Tryd.func14, Tryd.ntmps14
                    go_wp2_with (first | (go_at_call 30; ((with_reducible refine (H30.out _).mono ?_); rintro e w2 ⟨rfl, rfl⟩)) | (go_at_call 30; ((with_reducible refine (H30b.out _).mono ?_); rintro e w2 ⟨rfl, rfl⟩)) | (go_at_call 34; ((with_reducible refine H34.out.mono ?_); rintro e w2 ⟨rfl, rfl⟩)) | (go_at_call 35; ((with_reducible refine H35.out.mono ?_); rintro e w2 ⟨rfl, rfl⟩)) | (go_at_call 36; ((with_reducible refine H36.out.mono ?_); rintro e w2 ⟨rfl, rfl⟩)))
                    go_ret
                    exact ⟨by first | rfl | (simp; done) | (simp; assumption), HB0.out⟩
      · rw [decide_eq_false h2]
        have h2a : (1000 : Int) < ncl := (by omega); have h2b : 1000 < ncl := (by omega)
        go_enter Tryd.func14, Tryd.ntmps14
        go_wp2_with (first | (go_at_call 30; ((with_reducible refine (H30.out _).mono ?_); rintro e w2 ⟨rfl, rfl⟩)) | (go_at_call 30; ((with_reducible refine (H30b.out _).mono ?_); rintro e w2 ⟨rfl, rfl⟩)) | (go_at_call 34; ((with_reducible refine H34.out.mono ?_); rintro e w2 ⟨rfl, rfl⟩)) | (go_at_call 35; ((with_reducible refine H35.out.mono ?_); rintro e w2 ⟨rfl, rfl⟩)) | (go_at_call 36; ((with_reducible refine H36.out.mono ?_); rintro e w2 ⟨rfl, rfl⟩)))
        go_ret
        exact ⟨by first | rfl | (simp; done) | (simp; assumption), HB0.out⟩
end Go.Proofs.YtipkicijfedfoaaDoor

import Derived.Test.YtipkicijfedfoaaDoorInc4
namespace Go.Proofs.YtipkicijfedfoaaDoor
set_option linter.unusedVariables false
open Go.RowKit Go.Own Go.Quo Go.Inc
set_option maxHeartbeats 1000000 in
theorem open16 (id urg dist since merged : Int) (code : ByteArray) (An Ac Au : Option Addr) (nn ncl nul cn cc cu : Nat) (closed : Bool) (w : World) :
    Calls Tryd.prog 16 #[.agg #[.int .i64 id, .int .i64 urg, .string code, .slice An nn cn, .int .i64 dist, .int .i64 since, .slice Ac ncl cc, .slice Au nul cu, .int .i64 merged, .bool closed]] w (BoolB (decide (merged = 0) && !closed) w) := by
  have HB0 := Lib.hid ((Below.refl w.heap.size w).alloc (Nat.le_refl _) (.cells #[.int .i64 id, .int .i64 urg, .string code, .slice An nn cn, .int .i64 dist, .int .i64 since, .slice Ac ncl cc, .slice Au nul cu, .int .i64 merged, .bool closed] 25))
  obtain ⟨x0, x1, x2⟩ := (Blk.new w 25 #[.int .i64 id, .int .i64 urg, .string code, .slice An nn cn, .int .i64 dist, .int .i64 since, .slice Ac ncl cc, .slice Au nul cu, .int .i64 merged, .bool closed]).facts
  by_cases h5 : merged = 0
  · subst h5
    rw [decide_eq_true rfl]
    go_enter Tryd.func16, Tryd.ntmps16
    go_wp2_with fail
    go_ret
    exact ⟨by first | rfl | simp, HB0.out⟩
  · have h5a : (merged == 0) = false := by simpa using h5
    rw [decide_eq_false h5]
    clear h5
    go_enter Tryd.func16, Tryd.ntmps16
    go_wp2_with fail
    go_ret
    exact ⟨by first | rfl | simp, HB0.out⟩
set_option maxHeartbeats 1000000 in
theorem open17 (id urg dist since merged : Int) (code : ByteArray) (An Ac Au : Option Addr) (nn ncl nul cn cc cu : Nat) (closed : Bool) (w : World) :
    Calls Tryd.prog 17 #[.agg #[.int .i64 id, .int .i64 urg, .string code, .slice An nn cn, .int .i64 dist, .int .i64 since, .slice Ac ncl cc, .slice Au nul cu, .int .i64 merged, .bool closed]] w (BoolB (decide (merged = 0) && !closed) w) := by
  have HB0 := Lib.hid ((Below.refl w.heap.size w).alloc (Nat.le_refl _) (.cells #[.int .i64 id, .int .i64 urg, .string code, .slice An nn cn, .int .i64 dist, .int .i64 since, .slice Ac ncl cc, .slice Au nul cu, .int .i64 merged, .bool closed] 25))
  obtain ⟨x0, x1, x2⟩ := (Blk.new w 25 #[.int .i64 id, .int .i64 urg, .string code, .slice An nn cn, .int .i64 dist, .int .i64 since, .slice Ac ncl cc, .slice Au nul cu, .int .i64 merged, .bool closed]).facts
  by_cases h5 : merged = 0
  · subst h5
    rw [decide_eq_true rfl]
    go_enter Tryd.func17, Tryd.ntmps17
    go_wp2_with fail
    go_ret
    exact ⟨by first | rfl | simp, HB0.out⟩
  · have h5a : (merged == 0) = false := by simpa using h5
    rw [decide_eq_false h5]
    clear h5
    go_enter Tryd.func17, Tryd.ntmps17
    go_wp2_with fail
    go_ret
    exact ⟨by first | rfl | simp, HB0.out⟩
set_option maxHeartbeats 1000000 in
theorem small10 (id urg dist since merged : Int) (code : ByteArray) (An Ac Au : Option Addr) (nn ncl nul cn cc cu : Nat) (closed : Bool) (w : World) :
    Calls Tryd.prog 10 #[.agg #[.int .i64 id, .int .i64 urg, .string code, .slice An nn cn, .int .i64 dist, .int .i64 since, .slice Ac ncl cc, .slice Au nul cu, .int .i64 merged, .bool closed]] w (BoolB (decide (nn ≤ 60) && decide (ncl ≤ 60) && decide (nul ≤ 60) && decide (code.size ≤ 100)) w) := by
  have HB0 := Lib.hid ((Below.refl w.heap.size w).alloc (Nat.le_refl _) (.cells #[.int .i64 id, .int .i64 urg, .string code, .slice An nn cn, .int .i64 dist, .int .i64 since, .slice Ac ncl cc, .slice Au nul cu, .int .i64 merged, .bool closed] 25))
  obtain ⟨x0, x1, x2⟩ := (Blk.new w 25 #[.int .i64 id, .int .i64 urg, .string code, .slice An nn cn, .int .i64 dist, .int .i64 since, .slice Ac ncl cc, .slice Au nul cu, .int .i64 merged, .bool closed]).facts
  by_cases h0 : nn ≤ 60
  · rw [decide_eq_true h0]
    by_cases h1 : ncl ≤ 60
    · rw [decide_eq_true h1]
      by_cases h2 : nul ≤ 60
      · rw [decide_eq_true h2]
        by_cases h3 : code.size ≤ 100
        · rw [decide_eq_true h3]
          go_enter Tryd.func10, Tryd.ntmps10
          go_wp2_with fail
          go_ret
          exact ⟨by first | rfl | (simp; done) | (simp; omega), HB0.out⟩
        · rw [decide_eq_false h3]
          go_enter Tryd.func10, Tryd.ntmps10
          go_wp2_with fail
          go_ret
          exact ⟨by first | rfl | (simp; done) | (simp; omega), HB0.out⟩
      · rw [decide_eq_false h2]
        go_enter Tryd.func10, Tryd.ntmps10
        go_wp2_with fail
        go_ret
        exact ⟨by first | rfl | (simp; done) | (simp; omega), HB0.out⟩
    · rw [decide_eq_false h1]
      go_enter Tryd.func10, Tryd.ntmps10
      go_wp2_with fail
      go_ret
      exact ⟨by first | rfl | (simp; done) | (simp; omega), HB0.out⟩
  · rw [decide_eq_false h0]
    go_enter Tryd.func10, Tryd.ntmps10
    go_wp2_with fail
    go_ret
    exact ⟨by first | rfl | (simp; done) | (simp; omega), HB0.out⟩
set_option maxHeartbeats 1000000 in
theorem smallTold11 (call inc urg dist since : Int) (code : ByteArray) (A : Option Addr) (nn c : Nat) (closed : Bool) (w : World) :
    Calls Tryd.prog 11 #[.agg #[.int .i64 call, .int .i64 inc, .int .i64 urg, .string code, .slice A nn c, .int .i64 dist, .int .i64 since, .bool closed]] w (BoolB (decide (nn ≤ 60) && decide (code.size ≤ 100)) w) := by
  have HB0 := Lib.hid ((Below.refl w.heap.size w).alloc (Nat.le_refl _) (.cells #[.int .i64 call, .int .i64 inc, .int .i64 urg, .string code, .slice A nn c, .int .i64 dist, .int .i64 since, .bool closed] 27))
  obtain ⟨x0, x1, x2⟩ := (Blk.new w 27 #[.int .i64 call, .int .i64 inc, .int .i64 urg, .string code, .slice A nn c, .int .i64 dist, .int .i64 since, .bool closed]).facts
  by_cases h0 : nn ≤ 60
  · rw [decide_eq_true h0]
    by_cases h3 : code.size ≤ 100
    · rw [decide_eq_true h3]
      go_enter Tryd.func11, Tryd.ntmps11
      go_wp2_with fail
      go_ret
      exact ⟨by first | rfl | (simp; done) | (simp; omega), HB0.out⟩
    · rw [decide_eq_false h3]
      go_enter Tryd.func11, Tryd.ntmps11
      go_wp2_with fail
      go_ret
      exact ⟨by first | rfl | (simp; done) | (simp; omega), HB0.out⟩
  · rw [decide_eq_false h0]
    go_enter Tryd.func11, Tryd.ntmps11
    go_wp2_with fail
    go_ret
    exact ⟨by first | rfl | (simp; done) | (simp; omega), HB0.out⟩
end Go.Proofs.YtipkicijfedfoaaDoor

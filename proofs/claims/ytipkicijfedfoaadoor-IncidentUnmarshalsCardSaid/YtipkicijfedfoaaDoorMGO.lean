import Derived.Test.YtipkicijfedfoaaDoorMMar
import Derived.Test.YtipkicijfedfoaaDoorMAnw4
import Derived.Deep.RegionHeld
import Derived.Test.YtipkicijfedfoaaDoorMAlv2
import Derived.Test.YtipkicijfedfoaaDoorMRs2
import Derived.Test.YtipkicijfedfoaaDoorMGG
namespace Go.Proofs.YtipkicijfedfoaaDoor
set_option linter.unusedVariables false
set_option linter.unusedSimpArgs false
open Go.RowKit Go.Own Go.Quo Go.Inc Go.Wire
set_option maxRecDepth 10000 in
set_option maxHeartbeats 8000000 in
theorem eq60 (B B2 : Nat → Prop) (A A2 : Option Addr) (c c2 : Nat) (a b : List Int) (w : World) (ha : RI w B A a) (hb : RI w B2 A2 b) (hl : a.length ≤ 100000) :
    Calls Tryd.prog 60 #[.slice A a.length c, .slice A2 b.length c2] w (BoolB (decide (a = b)) w) := by
  have HA := Lib.hid ((ha.old (by omega)).more (B' := fun k => k < w.heap.size) (fun k hk => hk.2))
  have HB := Lib.hid ((hb.old (by omega)).more (B' := fun k => k < w.heap.size) (fun k hk => hk.2))
  have hpa := ha.plain (by omega)
  have hpb := hb.plain (by omega)
  clear ha hb
  by_cases hn : a.length = b.length
  · have d0 : ((a.length : Int) != (b.length : Int)) = false := by rw [hn]; simp
    have d1 : ((a.length : Int) == (b.length : Int)) = true := by rw [hn]; simp
    have HLn := Lib.hid hn
    have hn1 : a.length ≤ b.length := by omega
    clear hn
    go_enter Tryd.func60, Tryd.ntmps60
    go_upto_block 0 with (fail)
    clear d0 d1
    go_wp2_with fail
    go_loopw [13] (fun vi wr => ∃ (k : Nat), k ≤ a.length ∧ vi = .int .i64 (k : Int) ∧ (∀ j, j < k → gd a j = gd b j) ∧ Below w.heap.size w wr) (fun vi _ => a.length - (intOf vi).toNat)
    case atStart => exact ⟨0, Nat.zero_le _, rfl, fun j hj => by omega, Below.refl _ _⟩
    case round =>
      obtain ⟨k, hk, rfl, hv, hB⟩ := hrel
      have HV := Lib.hid hv
      have HBe := Lib.hid hB
      clear hv hB
      by_cases hlt : k < a.length
      · have hlt' : (k : Int) < a.length := by omega
        have hix := fun W => ix22 hpa c k hlt W
        have hix2 := fun W => ix22 hpb c2 k (by omega : k < b.length) W
        have h1 := ri_cell (HA.out.below HBe.out (fun _ h => h)) hlt
        have h2 := ri_cell (HB.out.below HBe.out (fun _ h => h)) (by omega : k < b.length)
        have HN := Lib.hid (show gd a k = gd b k → ∀ j, j < k + 1 → gd a j = gd b j from fun h j hj => by
          rcases (by omega : j < k ∨ j = k) with e | rfl
          · exact HV.out j e
          · exact h)
        have HF := Lib.hid (show ¬ gd a k = gd b k → decide (a = b) = false from fun h => decide_eq_false (fun e => h (by rw [e])))
        generalize gd a k = u at *
        generalize gd b k = v at *
        by_cases he : u = v
        · have e1 : (u != v) = false := by rw [he]; simp
          have e2 : (u == v) = true := by rw [he]; simp
          have HN2 := Lib.hid (HN.out he)
          clear he HN HF
          go_upto_region 6 with (fail)
          go_quiet (fail)
          go_wp2_with fail
          exact ⟨⟨k + 1, by omega, by go_num, HN2.out, HBe.out.trans (below_drewN _ _ _)⟩, by simp [intOf]; omega⟩
        · have e1 : (u != v) = true := by simpa [bne] using he
          have e2 : (u == v) = false := by simpa using he
          have HF2 := Lib.hid (HF.out he)
          clear he HN HF
          go_upto_region 6 with (fail)
          go_quiet (fail)
          go_wp2_with fail
          go_ret
          rw [HF2.out]
          exact ⟨rfl, HBe.out.trans (below_drewN _ _ _)⟩
      · have hlt' : ¬ (k : Int) < a.length := by omega
        have HE := Lib.hid (show decide (a = b) = true from decide_eq_true (Wr.gd_ext HLn.out (fun j hj => HV.out j (by have := HLn.out; omega))))
        go_wp2_with fail
        go_ret
        rw [HE.out]
        exact ⟨rfl, HBe.out⟩
  · have d0 : ((a.length : Int) != (b.length : Int)) = true := by simp [bne]; omega
    have d1 : ((a.length : Int) == (b.length : Int)) = false := by simp; omega
    have HE := Lib.hid (show decide (a = b) = false from decide_eq_false (fun e => hn (by rw [e])))
    clear hn
    go_enter Tryd.func60, Tryd.ntmps60
    go_wp2_with fail
    go_ret
    rw [HE.out]
    exact ⟨rfl, Below.refl _ _⟩
set_option maxRecDepth 10000 in
set_option maxHeartbeats 8000000 in
theorem eq61 (B B2 : Nat → Prop) (A A2 : Option Addr) (c c2 : Nat) (a b : List Int) (w : World) (ha : RI w B A a) (hb : RI w B2 A2 b) (hl : a.length ≤ 100000) :
    Calls Tryd.prog 61 #[.slice A a.length c, .slice A2 b.length c2] w (BoolB (decide (a = b)) w) := by
  have HA := Lib.hid ((ha.old (by omega)).more (B' := fun k => k < w.heap.size) (fun k hk => hk.2))
  have HB := Lib.hid ((hb.old (by omega)).more (B' := fun k => k < w.heap.size) (fun k hk => hk.2))
  have hpa := ha.plain (by omega)
  have hpb := hb.plain (by omega)
  clear ha hb
  by_cases hn : a.length = b.length
  · have d0 : ((a.length : Int) != (b.length : Int)) = false := by rw [hn]; simp
    have d1 : ((a.length : Int) == (b.length : Int)) = true := by rw [hn]; simp
    have HLn := Lib.hid hn
    have hn1 : a.length ≤ b.length := by omega
    clear hn
    go_enter Tryd.func61, Tryd.ntmps61
    go_upto_block 0 with (fail)
    clear d0 d1
    go_wp2_with fail
    go_loopw [13] (fun vi wr => ∃ (k : Nat), k ≤ a.length ∧ vi = .int .i64 (k : Int) ∧ (∀ j, j < k → gd a j = gd b j) ∧ Below w.heap.size w wr) (fun vi _ => a.length - (intOf vi).toNat)
    case atStart => exact ⟨0, Nat.zero_le _, rfl, fun j hj => by omega, Below.refl _ _⟩
    case round =>
      obtain ⟨k, hk, rfl, hv, hB⟩ := hrel
      have HV := Lib.hid hv
      have HBe := Lib.hid hB
      clear hv hB
      by_cases hlt : k < a.length
      · have hlt' : (k : Int) < a.length := by omega
        have hix := fun W => ix23 hpa c k hlt W
        have hix2 := fun W => ix23 hpb c2 k (by omega : k < b.length) W
        have h1 := ri_cell (HA.out.below HBe.out (fun _ h => h)) hlt
        have h2 := ri_cell (HB.out.below HBe.out (fun _ h => h)) (by omega : k < b.length)
        have HN := Lib.hid (show gd a k = gd b k → ∀ j, j < k + 1 → gd a j = gd b j from fun h j hj => by
          rcases (by omega : j < k ∨ j = k) with e | rfl
          · exact HV.out j e
          · exact h)
        have HF := Lib.hid (show ¬ gd a k = gd b k → decide (a = b) = false from fun h => decide_eq_false (fun e => h (by rw [e])))
        generalize gd a k = u at *
        generalize gd b k = v at *
        by_cases he : u = v
        · have e1 : (u != v) = false := by rw [he]; simp
          have e2 : (u == v) = true := by rw [he]; simp
          have HN2 := Lib.hid (HN.out he)
          clear he HN HF
          go_upto_region 6 with (fail)
          go_quiet (fail)
          go_wp2_with fail
          exact ⟨⟨k + 1, by omega, by go_num, HN2.out, HBe.out.trans (below_drewN _ _ _)⟩, by simp [intOf]; omega⟩
        · have e1 : (u != v) = true := by simpa [bne] using he
          have e2 : (u == v) = false := by simpa using he
          have HF2 := Lib.hid (HF.out he)
          clear he HN HF
          go_upto_region 6 with (fail)
          go_quiet (fail)
          go_wp2_with fail
          go_ret
          rw [HF2.out]
          exact ⟨rfl, HBe.out.trans (below_drewN _ _ _)⟩
      · have hlt' : ¬ (k : Int) < a.length := by omega
        have HE := Lib.hid (show decide (a = b) = true from decide_eq_true (Wr.gd_ext HLn.out (fun j hj => HV.out j (by have := HLn.out; omega))))
        go_wp2_with fail
        go_ret
        rw [HE.out]
        exact ⟨rfl, HBe.out⟩
  · have d0 : ((a.length : Int) != (b.length : Int)) = true := by simp [bne]; omega
    have d1 : ((a.length : Int) == (b.length : Int)) = false := by simp; omega
    have HE := Lib.hid (show decide (a = b) = false from decide_eq_false (fun e => hn (by rw [e])))
    clear hn
    go_enter Tryd.func61, Tryd.ntmps61
    go_wp2_with fail
    go_ret
    rw [HE.out]
    exact ⟨rfl, Below.refl _ _⟩
theorem Ic.eq_of {x y : Ic} (h0 : x.id = y.id) (h1 : x.urg = y.urg) (h2 : x.code = y.code) (h3 : x.nodes = y.nodes) (h4 : x.dist = y.dist) (h5 : x.since = y.since) (h6 : x.calls = y.calls) (h7 : x.units = y.units) (h8 : x.merged = y.merged) (h9 : x.closed = y.closed) : x = y := by
  cases x; cases y
  simp only at h0 h1 h2 h3 h4 h5 h6 h7 h8 h9
  subst h0 h1 h2 h3 h4 h5 h6 h7 h8 h9
  rfl
theorem bal_ext {a b : ByteArray} (h : a.toList = b.toList) : a = b := by
  rw [ByteArray.toList_eq, ByteArray.toList_eq] at h
  cases a; cases b
  simp only at h
  congr 1
  exact Array.ext' h
set_option maxRecDepth 10000 in
set_option maxHeartbeats 8000000 in
theorem equal25 (B B2 : Nat → Prop) (x y : Ic) (An Ac Au An2 Ac2 Au2 : Option Addr) (cn cc cu cn2 cc2 cu2 : Nat) (w : World) (hn : RI w B An x.nodes) (hc : RI w B Ac x.calls) (hu : RI w B Au x.units) (hn2 : RI w B2 An2 y.nodes) (hc2 : RI w B2 Ac2 y.calls) (hu2 : RI w B2 Au2 y.units) (ln : x.nodes.length ≤ 100000) (lc : x.calls.length ≤ 100000) (lu : x.units.length ≤ 100000) (q : Bool) (hq : q = true ↔ x = y) :
    Calls Tryd.prog 25 #[.agg #[.int .i64 x.id, .int .i64 x.urg, .string x.code, .slice An x.nodes.length cn, .int .i64 x.dist, .int .i64 x.since, .slice Ac x.calls.length cc, .slice Au x.units.length cu, .int .i64 x.merged, .bool x.closed], .agg #[.int .i64 y.id, .int .i64 y.urg, .string y.code, .slice An2 y.nodes.length cn2, .int .i64 y.dist, .int .i64 y.since, .slice Ac2 y.calls.length cc2, .slice Au2 y.units.length cu2, .int .i64 y.merged, .bool y.closed]] w (BoolB q w) := by
  have HQ := Lib.hid hq
  clear hq
  have HB0 := Lib.hid (((Below.refl w.heap.size w).alloc (Nat.le_refl _) (.cells #[.int .i64 x.id, .int .i64 x.urg, .string x.code, .slice An x.nodes.length cn, .int .i64 x.dist, .int .i64 x.since, .slice Ac x.calls.length cc, .slice Au x.units.length cu, .int .i64 x.merged, .bool x.closed] 25)).alloc (by simp) (.cells #[.int .i64 y.id, .int .i64 y.urg, .string y.code, .slice An2 y.nodes.length cn2, .int .i64 y.dist, .int .i64 y.since, .slice Ac2 y.calls.length cc2, .slice Au2 y.units.length cu2, .int .i64 y.merged, .bool y.closed] 25))
  have HX0 := Lib.hid ((Blk.new w 25 #[.int .i64 x.id, .int .i64 x.urg, .string x.code, .slice An x.nodes.length cn, .int .i64 x.dist, .int .i64 x.since, .slice Ac x.calls.length cc, .slice Au x.units.length cu, .int .i64 x.merged, .bool x.closed]).alloc (.cells #[.int .i64 y.id, .int .i64 y.urg, .string y.code, .slice An2 y.nodes.length cn2, .int .i64 y.dist, .int .i64 y.since, .slice Ac2 y.calls.length cc2, .slice Au2 y.units.length cu2, .int .i64 y.merged, .bool y.closed] 25))
  have HY0 := Lib.hid (show Blk ((w.alloc (.cells #[.int .i64 x.id, .int .i64 x.urg, .string x.code, .slice An x.nodes.length cn, .int .i64 x.dist, .int .i64 x.since, .slice Ac x.calls.length cc, .slice Au x.units.length cu, .int .i64 x.merged, .bool x.closed] 25)).alloc (.cells #[.int .i64 y.id, .int .i64 y.urg, .string y.code, .slice An2 y.nodes.length cn2, .int .i64 y.dist, .int .i64 y.since, .slice Ac2 y.calls.length cc2, .slice Au2 y.units.length cu2, .int .i64 y.merged, .bool y.closed] 25)) (w.heap.size + 1) 25 #[.int .i64 y.id, .int .i64 y.urg, .string y.code, .slice An2 y.nodes.length cn2, .int .i64 y.dist, .int .i64 y.since, .slice Ac2 y.calls.length cc2, .slice Au2 y.units.length cu2, .int .i64 y.merged, .bool y.closed] by
    have := Blk.new (w.alloc (.cells #[.int .i64 x.id, .int .i64 x.urg, .string x.code, .slice An x.nodes.length cn, .int .i64 x.dist, .int .i64 x.since, .slice Ac x.calls.length cc, .slice Au x.units.length cu, .int .i64 x.merged, .bool x.closed] 25)) 25 #[.int .i64 y.id, .int .i64 y.urg, .string y.code, .slice An2 y.nodes.length cn2, .int .i64 y.dist, .int .i64 y.since, .slice Ac2 y.calls.length cc2, .slice Au2 y.units.length cu2, .int .i64 y.merged, .bool y.closed]
    simpa using this)
  have HN := Lib.hid ((hn.old (by omega)).more (B' := fun k => k < w.heap.size) (fun k hk => hk.2))
  have HC := Lib.hid ((hc.old (by omega)).more (B' := fun k => k < w.heap.size) (fun k hk => hk.2))
  have HU := Lib.hid ((hu.old (by omega)).more (B' := fun k => k < w.heap.size) (fun k hk => hk.2))
  have HN2 := Lib.hid ((hn2.old (by omega)).more (B' := fun k => k < w.heap.size) (fun k hk => hk.2))
  have HC2 := Lib.hid ((hc2.old (by omega)).more (B' := fun k => k < w.heap.size) (fun k hk => hk.2))
  have HU2 := Lib.hid ((hu2.old (by omega)).more (B' := fun k => k < w.heap.size) (fun k hk => hk.2))
  have H60 := Lib.hid fun (W : World) (hb : Below w.heap.size w W) => eq60 _ _ An An2 cn cn2 x.nodes y.nodes W (HN.out.below hb (fun _ h => h)) (HN2.out.below hb (fun _ h => h)) ln
  have H61 := Lib.hid fun (W : World) (hb : Below w.heap.size w W) => eq61 _ _ Ac Ac2 cc cc2 x.calls y.calls W (HC.out.below hb (fun _ h => h)) (HC2.out.below hb (fun _ h => h)) lc
  have H62 := Lib.hid fun (W : World) (hb : Below w.heap.size w W) => eq60 _ _ Au Au2 cu cu2 x.units y.units W (HU.out.below hb (fun _ h => h)) (HU2.out.below hb (fun _ h => h)) lu
  obtain ⟨x0, x1, x2⟩ := HX0.out.facts
  obtain ⟨y0, y1, y2⟩ := HY0.out.facts
  clear hn hc hu hn2 hc2 hu2
  by_cases h0 : x.id = y.id
  · have e0 : (x.id == y.id) = true := by simpa using h0
    by_cases h1 : x.urg = y.urg
    · have e1 : (x.urg == y.urg) = true := by simpa using h1
      by_cases h2 : x.code = y.code
      · have e2 : (x.code.toList == y.code.toList) = true := by rw [h2]; simp
        by_cases h3 : x.nodes = y.nodes
        · rw [decide_eq_true h3] at H60
          by_cases h4 : x.dist = y.dist
          · have e4 : (x.dist == y.dist) = true := by simpa using h4
            by_cases h5 : x.since = y.since
            · have e5 : (x.since == y.since) = true := by simpa using h5
              by_cases h6 : x.calls = y.calls
              · rw [decide_eq_true h6] at H61
                by_cases h7 : x.units = y.units
                · rw [decide_eq_true h7] at H62
                  by_cases h8 : x.merged = y.merged
                  · have e8 : (x.merged == y.merged) = true := by simpa using h8
                    by_cases h9 : x.closed = y.closed
                    · have e9 : (x.closed == y.closed) = true := by rw [h9]; simp
                      have HE := Lib.hid (show q = true from HQ.out.2 (Ic.eq_of h0 h1 h2 h3 h4 h5 h6 h7 h8 h9))
                      clear h0 h1 h2 h3 h4 h5 h6 h7 h8 h9
                      go_enter Tryd.func25, Tryd.ntmps25
                      try dsimp only [List.append]
                      go_wp2_with (first | (go_at_call 60; ((with_reducible refine (H60.out _ HB0.out).mono ?_); rintro e w3 ⟨rfl, hb⟩; have HX1 := Lib.hid (HX0.out.below hb HX0.out.lt); have HY1 := Lib.hid (HY0.out.below hb HY0.out.lt); have HB1 := Lib.hid (HB0.out.trans (hb.mono HB0.out.size)); clear hb x0 x1 x2 y0 y1 y2; obtain ⟨x0, x1, x2⟩ := HX1.out.facts; obtain ⟨y0, y1, y2⟩ := HY1.out.facts)) | (go_at_call 61; ((with_reducible refine (H61.out _ HB1.out).mono ?_); rintro e w4 ⟨rfl, hb⟩; have HX2 := Lib.hid (HX1.out.below hb HX1.out.lt); have HY2 := Lib.hid (HY1.out.below hb HY1.out.lt); have HB2 := Lib.hid (HB1.out.trans (hb.mono HB1.out.size)); clear hb x0 x1 x2 y0 y1 y2; obtain ⟨x0, x1, x2⟩ := HX2.out.facts; obtain ⟨y0, y1, y2⟩ := HY2.out.facts)) | (go_at_call 60; ((with_reducible refine (H62.out _ HB2.out).mono ?_); rintro e w5 ⟨rfl, hb⟩; have HX3 := Lib.hid (HX2.out.below hb HX2.out.lt); have HY3 := Lib.hid (HY2.out.below hb HY2.out.lt); have HB3 := Lib.hid (HB2.out.trans (hb.mono HB2.out.size)); clear hb x0 x1 x2 y0 y1 y2; obtain ⟨x0, x1, x2⟩ := HX3.out.facts; obtain ⟨y0, y1, y2⟩ := HY3.out.facts)))
                      go_ret
                      rw [HE.out]
                      exact ⟨by first | rfl | simp, HB3.out⟩
                    · have e9 : (x.closed == y.closed) = false := by simpa using h9
                      have HE := Lib.hid (show q = false from Bool.eq_false_iff.2 (fun e => h9 (by rw [HQ.out.1 e])))
                      clear h0 h1 h2 h3 h4 h5 h6 h7 h8 h9
                      go_enter Tryd.func25, Tryd.ntmps25
                      try dsimp only [List.append]
                      go_wp2_with (first | (go_at_call 60; ((with_reducible refine (H60.out _ HB0.out).mono ?_); rintro e w3 ⟨rfl, hb⟩; have HX1 := Lib.hid (HX0.out.below hb HX0.out.lt); have HY1 := Lib.hid (HY0.out.below hb HY0.out.lt); have HB1 := Lib.hid (HB0.out.trans (hb.mono HB0.out.size)); clear hb x0 x1 x2 y0 y1 y2; obtain ⟨x0, x1, x2⟩ := HX1.out.facts; obtain ⟨y0, y1, y2⟩ := HY1.out.facts)) | (go_at_call 61; ((with_reducible refine (H61.out _ HB1.out).mono ?_); rintro e w4 ⟨rfl, hb⟩; have HX2 := Lib.hid (HX1.out.below hb HX1.out.lt); have HY2 := Lib.hid (HY1.out.below hb HY1.out.lt); have HB2 := Lib.hid (HB1.out.trans (hb.mono HB1.out.size)); clear hb x0 x1 x2 y0 y1 y2; obtain ⟨x0, x1, x2⟩ := HX2.out.facts; obtain ⟨y0, y1, y2⟩ := HY2.out.facts)) | (go_at_call 60; ((with_reducible refine (H62.out _ HB2.out).mono ?_); rintro e w5 ⟨rfl, hb⟩; have HX3 := Lib.hid (HX2.out.below hb HX2.out.lt); have HY3 := Lib.hid (HY2.out.below hb HY2.out.lt); have HB3 := Lib.hid (HB2.out.trans (hb.mono HB2.out.size)); clear hb x0 x1 x2 y0 y1 y2; obtain ⟨x0, x1, x2⟩ := HX3.out.facts; obtain ⟨y0, y1, y2⟩ := HY3.out.facts)))
                      go_ret
                      rw [HE.out]
                      exact ⟨by first | rfl | simp, HB3.out⟩
                  · have e8 : (x.merged == y.merged) = false := by simpa using h8
                    have HE := Lib.hid (show q = false from Bool.eq_false_iff.2 (fun e => h8 (by rw [HQ.out.1 e])))
                    clear h0 h1 h2 h3 h4 h5 h6 h7 h8
                    go_enter Tryd.func25, Tryd.ntmps25
                    try dsimp only [List.append]
                    go_wp2_with (first | (go_at_call 60; ((with_reducible refine (H60.out _ HB0.out).mono ?_); rintro e w3 ⟨rfl, hb⟩; have HX1 := Lib.hid (HX0.out.below hb HX0.out.lt); have HY1 := Lib.hid (HY0.out.below hb HY0.out.lt); have HB1 := Lib.hid (HB0.out.trans (hb.mono HB0.out.size)); clear hb x0 x1 x2 y0 y1 y2; obtain ⟨x0, x1, x2⟩ := HX1.out.facts; obtain ⟨y0, y1, y2⟩ := HY1.out.facts)) | (go_at_call 61; ((with_reducible refine (H61.out _ HB1.out).mono ?_); rintro e w4 ⟨rfl, hb⟩; have HX2 := Lib.hid (HX1.out.below hb HX1.out.lt); have HY2 := Lib.hid (HY1.out.below hb HY1.out.lt); have HB2 := Lib.hid (HB1.out.trans (hb.mono HB1.out.size)); clear hb x0 x1 x2 y0 y1 y2; obtain ⟨x0, x1, x2⟩ := HX2.out.facts; obtain ⟨y0, y1, y2⟩ := HY2.out.facts)) | (go_at_call 60; ((with_reducible refine (H62.out _ HB2.out).mono ?_); rintro e w5 ⟨rfl, hb⟩; have HX3 := Lib.hid (HX2.out.below hb HX2.out.lt); have HY3 := Lib.hid (HY2.out.below hb HY2.out.lt); have HB3 := Lib.hid (HB2.out.trans (hb.mono HB2.out.size)); clear hb x0 x1 x2 y0 y1 y2; obtain ⟨x0, x1, x2⟩ := HX3.out.facts; obtain ⟨y0, y1, y2⟩ := HY3.out.facts)))
                    go_ret
                    rw [HE.out]
                    exact ⟨by first | rfl | simp, HB3.out⟩
                · rw [decide_eq_false h7] at H62
                  have HE := Lib.hid (show q = false from Bool.eq_false_iff.2 (fun e => h7 (by rw [HQ.out.1 e])))
                  clear h0 h1 h2 h3 h4 h5 h6 h7
                  go_enter Tryd.func25, Tryd.ntmps25
                  try dsimp only [List.append]
                  go_wp2_with (first | (go_at_call 60; ((with_reducible refine (H60.out _ HB0.out).mono ?_); rintro e w3 ⟨rfl, hb⟩; have HX1 := Lib.hid (HX0.out.below hb HX0.out.lt); have HY1 := Lib.hid (HY0.out.below hb HY0.out.lt); have HB1 := Lib.hid (HB0.out.trans (hb.mono HB0.out.size)); clear hb x0 x1 x2 y0 y1 y2; obtain ⟨x0, x1, x2⟩ := HX1.out.facts; obtain ⟨y0, y1, y2⟩ := HY1.out.facts)) | (go_at_call 61; ((with_reducible refine (H61.out _ HB1.out).mono ?_); rintro e w4 ⟨rfl, hb⟩; have HX2 := Lib.hid (HX1.out.below hb HX1.out.lt); have HY2 := Lib.hid (HY1.out.below hb HY1.out.lt); have HB2 := Lib.hid (HB1.out.trans (hb.mono HB1.out.size)); clear hb x0 x1 x2 y0 y1 y2; obtain ⟨x0, x1, x2⟩ := HX2.out.facts; obtain ⟨y0, y1, y2⟩ := HY2.out.facts)) | (go_at_call 60; ((with_reducible refine (H62.out _ HB2.out).mono ?_); rintro e w5 ⟨rfl, hb⟩; have HX3 := Lib.hid (HX2.out.below hb HX2.out.lt); have HY3 := Lib.hid (HY2.out.below hb HY2.out.lt); have HB3 := Lib.hid (HB2.out.trans (hb.mono HB2.out.size)); clear hb x0 x1 x2 y0 y1 y2; obtain ⟨x0, x1, x2⟩ := HX3.out.facts; obtain ⟨y0, y1, y2⟩ := HY3.out.facts)))
                  go_ret
                  rw [HE.out]
                  exact ⟨by first | rfl | simp, HB3.out⟩
              · rw [decide_eq_false h6] at H61
                have HE := Lib.hid (show q = false from Bool.eq_false_iff.2 (fun e => h6 (by rw [HQ.out.1 e])))
                clear h0 h1 h2 h3 h4 h5 h6
                go_enter Tryd.func25, Tryd.ntmps25
                try dsimp only [List.append]
                go_wp2_with (first | (go_at_call 60; ((with_reducible refine (H60.out _ HB0.out).mono ?_); rintro e w3 ⟨rfl, hb⟩; have HX1 := Lib.hid (HX0.out.below hb HX0.out.lt); have HY1 := Lib.hid (HY0.out.below hb HY0.out.lt); have HB1 := Lib.hid (HB0.out.trans (hb.mono HB0.out.size)); clear hb x0 x1 x2 y0 y1 y2; obtain ⟨x0, x1, x2⟩ := HX1.out.facts; obtain ⟨y0, y1, y2⟩ := HY1.out.facts)) | (go_at_call 61; ((with_reducible refine (H61.out _ HB1.out).mono ?_); rintro e w4 ⟨rfl, hb⟩; have HX2 := Lib.hid (HX1.out.below hb HX1.out.lt); have HY2 := Lib.hid (HY1.out.below hb HY1.out.lt); have HB2 := Lib.hid (HB1.out.trans (hb.mono HB1.out.size)); clear hb x0 x1 x2 y0 y1 y2; obtain ⟨x0, x1, x2⟩ := HX2.out.facts; obtain ⟨y0, y1, y2⟩ := HY2.out.facts)) | (go_at_call 60; ((with_reducible refine (H62.out _ HB2.out).mono ?_); rintro e w5 ⟨rfl, hb⟩; have HX3 := Lib.hid (HX2.out.below hb HX2.out.lt); have HY3 := Lib.hid (HY2.out.below hb HY2.out.lt); have HB3 := Lib.hid (HB2.out.trans (hb.mono HB2.out.size)); clear hb x0 x1 x2 y0 y1 y2; obtain ⟨x0, x1, x2⟩ := HX3.out.facts; obtain ⟨y0, y1, y2⟩ := HY3.out.facts)))
                go_ret
                rw [HE.out]
                exact ⟨by first | rfl | simp, HB2.out⟩
            · have e5 : (x.since == y.since) = false := by simpa using h5
              have HE := Lib.hid (show q = false from Bool.eq_false_iff.2 (fun e => h5 (by rw [HQ.out.1 e])))
              clear h0 h1 h2 h3 h4 h5
              go_enter Tryd.func25, Tryd.ntmps25
              try dsimp only [List.append]
              go_wp2_with (first | (go_at_call 60; ((with_reducible refine (H60.out _ HB0.out).mono ?_); rintro e w3 ⟨rfl, hb⟩; have HX1 := Lib.hid (HX0.out.below hb HX0.out.lt); have HY1 := Lib.hid (HY0.out.below hb HY0.out.lt); have HB1 := Lib.hid (HB0.out.trans (hb.mono HB0.out.size)); clear hb x0 x1 x2 y0 y1 y2; obtain ⟨x0, x1, x2⟩ := HX1.out.facts; obtain ⟨y0, y1, y2⟩ := HY1.out.facts)) | (go_at_call 61; ((with_reducible refine (H61.out _ HB1.out).mono ?_); rintro e w4 ⟨rfl, hb⟩; have HX2 := Lib.hid (HX1.out.below hb HX1.out.lt); have HY2 := Lib.hid (HY1.out.below hb HY1.out.lt); have HB2 := Lib.hid (HB1.out.trans (hb.mono HB1.out.size)); clear hb x0 x1 x2 y0 y1 y2; obtain ⟨x0, x1, x2⟩ := HX2.out.facts; obtain ⟨y0, y1, y2⟩ := HY2.out.facts)) | (go_at_call 60; ((with_reducible refine (H62.out _ HB2.out).mono ?_); rintro e w5 ⟨rfl, hb⟩; have HX3 := Lib.hid (HX2.out.below hb HX2.out.lt); have HY3 := Lib.hid (HY2.out.below hb HY2.out.lt); have HB3 := Lib.hid (HB2.out.trans (hb.mono HB2.out.size)); clear hb x0 x1 x2 y0 y1 y2; obtain ⟨x0, x1, x2⟩ := HX3.out.facts; obtain ⟨y0, y1, y2⟩ := HY3.out.facts)))
              go_ret
              rw [HE.out]
              exact ⟨by first | rfl | simp, HB1.out⟩
          · have e4 : (x.dist == y.dist) = false := by simpa using h4
            have HE := Lib.hid (show q = false from Bool.eq_false_iff.2 (fun e => h4 (by rw [HQ.out.1 e])))
            clear h0 h1 h2 h3 h4
            go_enter Tryd.func25, Tryd.ntmps25
            try dsimp only [List.append]
            go_wp2_with (first | (go_at_call 60; ((with_reducible refine (H60.out _ HB0.out).mono ?_); rintro e w3 ⟨rfl, hb⟩; have HX1 := Lib.hid (HX0.out.below hb HX0.out.lt); have HY1 := Lib.hid (HY0.out.below hb HY0.out.lt); have HB1 := Lib.hid (HB0.out.trans (hb.mono HB0.out.size)); clear hb x0 x1 x2 y0 y1 y2; obtain ⟨x0, x1, x2⟩ := HX1.out.facts; obtain ⟨y0, y1, y2⟩ := HY1.out.facts)) | (go_at_call 61; ((with_reducible refine (H61.out _ HB1.out).mono ?_); rintro e w4 ⟨rfl, hb⟩; have HX2 := Lib.hid (HX1.out.below hb HX1.out.lt); have HY2 := Lib.hid (HY1.out.below hb HY1.out.lt); have HB2 := Lib.hid (HB1.out.trans (hb.mono HB1.out.size)); clear hb x0 x1 x2 y0 y1 y2; obtain ⟨x0, x1, x2⟩ := HX2.out.facts; obtain ⟨y0, y1, y2⟩ := HY2.out.facts)) | (go_at_call 60; ((with_reducible refine (H62.out _ HB2.out).mono ?_); rintro e w5 ⟨rfl, hb⟩; have HX3 := Lib.hid (HX2.out.below hb HX2.out.lt); have HY3 := Lib.hid (HY2.out.below hb HY2.out.lt); have HB3 := Lib.hid (HB2.out.trans (hb.mono HB2.out.size)); clear hb x0 x1 x2 y0 y1 y2; obtain ⟨x0, x1, x2⟩ := HX3.out.facts; obtain ⟨y0, y1, y2⟩ := HY3.out.facts)))
            go_ret
            rw [HE.out]
            exact ⟨by first | rfl | simp, HB1.out⟩
        · rw [decide_eq_false h3] at H60
          have HE := Lib.hid (show q = false from Bool.eq_false_iff.2 (fun e => h3 (by rw [HQ.out.1 e])))
          clear h0 h1 h2 h3
          go_enter Tryd.func25, Tryd.ntmps25
          try dsimp only [List.append]
          go_wp2_with (first | (go_at_call 60; ((with_reducible refine (H60.out _ HB0.out).mono ?_); rintro e w3 ⟨rfl, hb⟩; have HX1 := Lib.hid (HX0.out.below hb HX0.out.lt); have HY1 := Lib.hid (HY0.out.below hb HY0.out.lt); have HB1 := Lib.hid (HB0.out.trans (hb.mono HB0.out.size)); clear hb x0 x1 x2 y0 y1 y2; obtain ⟨x0, x1, x2⟩ := HX1.out.facts; obtain ⟨y0, y1, y2⟩ := HY1.out.facts)) | (go_at_call 61; ((with_reducible refine (H61.out _ HB1.out).mono ?_); rintro e w4 ⟨rfl, hb⟩; have HX2 := Lib.hid (HX1.out.below hb HX1.out.lt); have HY2 := Lib.hid (HY1.out.below hb HY1.out.lt); have HB2 := Lib.hid (HB1.out.trans (hb.mono HB1.out.size)); clear hb x0 x1 x2 y0 y1 y2; obtain ⟨x0, x1, x2⟩ := HX2.out.facts; obtain ⟨y0, y1, y2⟩ := HY2.out.facts)) | (go_at_call 60; ((with_reducible refine (H62.out _ HB2.out).mono ?_); rintro e w5 ⟨rfl, hb⟩; have HX3 := Lib.hid (HX2.out.below hb HX2.out.lt); have HY3 := Lib.hid (HY2.out.below hb HY2.out.lt); have HB3 := Lib.hid (HB2.out.trans (hb.mono HB2.out.size)); clear hb x0 x1 x2 y0 y1 y2; obtain ⟨x0, x1, x2⟩ := HX3.out.facts; obtain ⟨y0, y1, y2⟩ := HY3.out.facts)))
          go_ret
          rw [HE.out]
          exact ⟨by first | rfl | simp, HB1.out⟩
      · have e2 : (x.code.toList == y.code.toList) = false := by simpa using (fun e => h2 (bal_ext e))
        have HE := Lib.hid (show q = false from Bool.eq_false_iff.2 (fun e => h2 (by rw [HQ.out.1 e])))
        clear h0 h1 h2
        go_enter Tryd.func25, Tryd.ntmps25
        try dsimp only [List.append]
        go_wp2_with (first | (go_at_call 60; ((with_reducible refine (H60.out _ HB0.out).mono ?_); rintro e w3 ⟨rfl, hb⟩; have HX1 := Lib.hid (HX0.out.below hb HX0.out.lt); have HY1 := Lib.hid (HY0.out.below hb HY0.out.lt); have HB1 := Lib.hid (HB0.out.trans (hb.mono HB0.out.size)); clear hb x0 x1 x2 y0 y1 y2; obtain ⟨x0, x1, x2⟩ := HX1.out.facts; obtain ⟨y0, y1, y2⟩ := HY1.out.facts)) | (go_at_call 61; ((with_reducible refine (H61.out _ HB1.out).mono ?_); rintro e w4 ⟨rfl, hb⟩; have HX2 := Lib.hid (HX1.out.below hb HX1.out.lt); have HY2 := Lib.hid (HY1.out.below hb HY1.out.lt); have HB2 := Lib.hid (HB1.out.trans (hb.mono HB1.out.size)); clear hb x0 x1 x2 y0 y1 y2; obtain ⟨x0, x1, x2⟩ := HX2.out.facts; obtain ⟨y0, y1, y2⟩ := HY2.out.facts)) | (go_at_call 60; ((with_reducible refine (H62.out _ HB2.out).mono ?_); rintro e w5 ⟨rfl, hb⟩; have HX3 := Lib.hid (HX2.out.below hb HX2.out.lt); have HY3 := Lib.hid (HY2.out.below hb HY2.out.lt); have HB3 := Lib.hid (HB2.out.trans (hb.mono HB2.out.size)); clear hb x0 x1 x2 y0 y1 y2; obtain ⟨x0, x1, x2⟩ := HX3.out.facts; obtain ⟨y0, y1, y2⟩ := HY3.out.facts)))
        go_ret
        rw [HE.out]
        exact ⟨by first | rfl | simp, HB0.out⟩
    · have e1 : (x.urg == y.urg) = false := by simpa using h1
      have HE := Lib.hid (show q = false from Bool.eq_false_iff.2 (fun e => h1 (by rw [HQ.out.1 e])))
      clear h0 h1
      go_enter Tryd.func25, Tryd.ntmps25
      try dsimp only [List.append]
      go_wp2_with (first | (go_at_call 60; ((with_reducible refine (H60.out _ HB0.out).mono ?_); rintro e w3 ⟨rfl, hb⟩; have HX1 := Lib.hid (HX0.out.below hb HX0.out.lt); have HY1 := Lib.hid (HY0.out.below hb HY0.out.lt); have HB1 := Lib.hid (HB0.out.trans (hb.mono HB0.out.size)); clear hb x0 x1 x2 y0 y1 y2; obtain ⟨x0, x1, x2⟩ := HX1.out.facts; obtain ⟨y0, y1, y2⟩ := HY1.out.facts)) | (go_at_call 61; ((with_reducible refine (H61.out _ HB1.out).mono ?_); rintro e w4 ⟨rfl, hb⟩; have HX2 := Lib.hid (HX1.out.below hb HX1.out.lt); have HY2 := Lib.hid (HY1.out.below hb HY1.out.lt); have HB2 := Lib.hid (HB1.out.trans (hb.mono HB1.out.size)); clear hb x0 x1 x2 y0 y1 y2; obtain ⟨x0, x1, x2⟩ := HX2.out.facts; obtain ⟨y0, y1, y2⟩ := HY2.out.facts)) | (go_at_call 60; ((with_reducible refine (H62.out _ HB2.out).mono ?_); rintro e w5 ⟨rfl, hb⟩; have HX3 := Lib.hid (HX2.out.below hb HX2.out.lt); have HY3 := Lib.hid (HY2.out.below hb HY2.out.lt); have HB3 := Lib.hid (HB2.out.trans (hb.mono HB2.out.size)); clear hb x0 x1 x2 y0 y1 y2; obtain ⟨x0, x1, x2⟩ := HX3.out.facts; obtain ⟨y0, y1, y2⟩ := HY3.out.facts)))
      go_ret
      rw [HE.out]
      exact ⟨by first | rfl | simp, HB0.out⟩
  · have e0 : (x.id == y.id) = false := by simpa using h0
    have HE := Lib.hid (show q = false from Bool.eq_false_iff.2 (fun e => h0 (by rw [HQ.out.1 e])))
    clear h0
    go_enter Tryd.func25, Tryd.ntmps25
    try dsimp only [List.append]
    go_wp2_with (first | (go_at_call 60; ((with_reducible refine (H60.out _ HB0.out).mono ?_); rintro e w3 ⟨rfl, hb⟩; have HX1 := Lib.hid (HX0.out.below hb HX0.out.lt); have HY1 := Lib.hid (HY0.out.below hb HY0.out.lt); have HB1 := Lib.hid (HB0.out.trans (hb.mono HB0.out.size)); clear hb x0 x1 x2 y0 y1 y2; obtain ⟨x0, x1, x2⟩ := HX1.out.facts; obtain ⟨y0, y1, y2⟩ := HY1.out.facts)) | (go_at_call 61; ((with_reducible refine (H61.out _ HB1.out).mono ?_); rintro e w4 ⟨rfl, hb⟩; have HX2 := Lib.hid (HX1.out.below hb HX1.out.lt); have HY2 := Lib.hid (HY1.out.below hb HY1.out.lt); have HB2 := Lib.hid (HB1.out.trans (hb.mono HB1.out.size)); clear hb x0 x1 x2 y0 y1 y2; obtain ⟨x0, x1, x2⟩ := HX2.out.facts; obtain ⟨y0, y1, y2⟩ := HY2.out.facts)) | (go_at_call 60; ((with_reducible refine (H62.out _ HB2.out).mono ?_); rintro e w5 ⟨rfl, hb⟩; have HX3 := Lib.hid (HX2.out.below hb HX2.out.lt); have HY3 := Lib.hid (HY2.out.below hb HY2.out.lt); have HB3 := Lib.hid (HB2.out.trans (hb.mono HB2.out.size)); clear hb x0 x1 x2 y0 y1 y2; obtain ⟨x0, x1, x2⟩ := HX3.out.facts; obtain ⟨y0, y1, y2⟩ := HY3.out.facts)))
    go_ret
    rw [HE.out]
    exact ⟨by first | rfl | simp, HB0.out⟩
end Go.Proofs.YtipkicijfedfoaaDoor

namespace Go.Proofs.YtipkicijfedfoaaDoor
set_option linter.unusedVariables false
set_option linter.unusedSimpArgs false
open Go.RowKit Go.Own Go.Quo Go.Inc Go.Wire
def enc1 (x : Ic) : List Int := if icB x = true then encX x else []
theorem icS_of {x : Ic} (h : icB x = true) (hs : x.code.size ≤ 1000) (ln : x.nodes.length ≤ 1000) (lc : x.calls.length ≤ 1000) (lu : x.units.length ≤ 1000) : IcS x := by
  obtain ⟨⟨a1, a2⟩, ⟨a3, a4⟩, r8, b9, -, b2, b6, r4, r7⟩ := icB_bits h
  exact ⟨⟨by omega, by omega⟩, b2, hs, r4, ln, ⟨by omega, by omega⟩, b6, r7, lc, r8, lu, b9⟩
theorem mar23 (B : Nat → Prop) (x : Ic) (An Ac Au : Option Addr) (cn cc cu : Nat) (w : World) (hn : RI w B An x.nodes) (hc : RI w B Ac x.calls) (hu : RI w B Au x.units) (hs : x.code.size ≤ 1000) (ln : x.nodes.length ≤ 1000) (lc : x.calls.length ≤ 1000) (lu : x.units.length ≤ 1000) : Calls Tryd.prog 23 #[.agg #[.int .i64 x.id, .int .i64 x.urg, .string x.code, .slice An x.nodes.length cn, .int .i64 x.dist, .int .i64 x.since, .slice Ac x.calls.length cc, .slice Au x.units.length cu, .int .i64 x.merged, .bool x.closed]] w (ByR (enc1 x) w) := by
  unfold enc1
  cases hv : icB x with
  | true => rw [if_pos rfl]; exact mar_yes B x An Ac Au cn cc cu w hn hc hu hs ln lc lu hv
  | false => rw [if_neg (by simp)]; exact mar_no B x An Ac Au cn cc cu w hn hc hu hs ln lc lu hv
set_option maxRecDepth 10000 in
set_option maxHeartbeats 8000000 in
theorem bytes24 (B : Nat → Prop) (x : Ic) (An Ac Au : Option Addr) (cn cc cu : Nat) (w : World) (hn : RI w B An x.nodes) (hc : RI w B Ac x.calls) (hu : RI w B Au x.units) (hs : x.code.size ≤ 1000) (ln : x.nodes.length ≤ 1000) (lc : x.calls.length ≤ 1000) (lu : x.units.length ≤ 1000) : Calls Tryd.prog 24 #[.agg #[.int .i64 x.id, .int .i64 x.urg, .string x.code, .slice An x.nodes.length cn, .int .i64 x.dist, .int .i64 x.since, .slice Ac x.calls.length cc, .slice Au x.units.length cu, .int .i64 x.merged, .bool x.closed]] w (ByR (enc1 x) w) := by
  have H15 := Lib.hid (show Calls Tryd.prog 15 #[.agg #[.int .i64 x.id, .int .i64 x.urg, .string x.code, .slice An x.nodes.length cn, .int .i64 x.dist, .int .i64 x.since, .slice Ac x.calls.length cc, .slice Au x.units.length cu, .int .i64 x.merged, .bool x.closed]] (w.alloc (.cells #[.int .i64 x.id, .int .i64 x.urg, .string x.code, .slice An x.nodes.length cn, .int .i64 x.dist, .int .i64 x.since, .slice Ac x.calls.length cc, .slice Au x.units.length cu, .int .i64 x.merged, .bool x.closed] 25)) (BoolB (icB x) (w.alloc (.cells #[.int .i64 x.id, .int .i64 x.urg, .string x.code, .slice An x.nodes.length cn, .int .i64 x.dist, .int .i64 x.since, .slice Ac x.calls.length cc, .slice Au x.units.length cu, .int .i64 x.merged, .bool x.closed] 25))) from right15 B x.id x.urg x.dist x.since x.merged x.code An Ac Au cn cc cu x.nodes x.calls x.units x.closed _ (by omega) (hn.alloc _) (hc.alloc _) (hu.alloc _) (by omega) (by omega) (by omega))
  have HB := Lib.hid ((Below.refl w.heap.size w).alloc (Nat.le_refl _) (.cells #[.int .i64 x.id, .int .i64 x.urg, .string x.code, .slice An x.nodes.length cn, .int .i64 x.dist, .int .i64 x.since, .slice Ac x.calls.length cc, .slice Au x.units.length cu, .int .i64 x.merged, .bool x.closed] 25))
  have HX := Lib.hid (Blk.new w 25 #[.int .i64 x.id, .int .i64 x.urg, .string x.code, .slice An x.nodes.length cn, .int .i64 x.dist, .int .i64 x.since, .slice Ac x.calls.length cc, .slice Au x.units.length cu, .int .i64 x.merged, .bool x.closed])
  have hz0 : (w.alloc (.cells #[.int .i64 x.id, .int .i64 x.urg, .string x.code, .slice An x.nodes.length cn, .int .i64 x.dist, .int .i64 x.since, .slice Ac x.calls.length cc, .slice Au x.units.length cu, .int .i64 x.merged, .bool x.closed] 25)).heap.size = w.heap.size + 1 := by simp
  have HN := Lib.hid (((hn.old (by omega)).more (B' := fun k => k < w.heap.size) (fun k hk => hk.2)).alloc (.cells #[.int .i64 x.id, .int .i64 x.urg, .string x.code, .slice An x.nodes.length cn, .int .i64 x.dist, .int .i64 x.since, .slice Ac x.calls.length cc, .slice Au x.units.length cu, .int .i64 x.merged, .bool x.closed] 25))
  have HC := Lib.hid (((hc.old (by omega)).more (B' := fun k => k < w.heap.size) (fun k hk => hk.2)).alloc (.cells #[.int .i64 x.id, .int .i64 x.urg, .string x.code, .slice An x.nodes.length cn, .int .i64 x.dist, .int .i64 x.since, .slice Ac x.calls.length cc, .slice Au x.units.length cu, .int .i64 x.merged, .bool x.closed] 25))
  have HU := Lib.hid (((hu.old (by omega)).more (B' := fun k => k < w.heap.size) (fun k hk => hk.2)).alloc (.cells #[.int .i64 x.id, .int .i64 x.urg, .string x.code, .slice An x.nodes.length cn, .int .i64 x.dist, .int .i64 x.since, .slice Ac x.calls.length cc, .slice Au x.units.length cu, .int .i64 x.merged, .bool x.closed] 25))
  obtain ⟨x0, x1, x2⟩ := HX.out.facts
  cases hv : icB x with
  | false =>
    have he : enc1 x = [] := by unfold enc1; rw [if_neg (by rw [hv]; simp)]
    rw [he]
    rw [hv] at H15
    clear hv hn hc hu he
    go_enter Tryd.func24, Tryd.ntmps24
    go_wp2_with (go_at_call 15; ((with_reducible refine H15.out.mono ?_); rintro e w2 ⟨rfl, hb⟩))
    go_ret
    exact ⟨none, 0, rfl, Reads.none_, HB.out.trans (hb.mono HB.out.size)⟩
  | true =>
    have he : enc1 x = encX x := by unfold enc1; rw [if_pos hv]
    have hS := icS_of hv hs ln lc lu
    rw [he]
    have HAl := Lib.hid fun (W : World) (hb : Below w.heap.size (w.alloc (.cells #[.int .i64 x.id, .int .i64 x.urg, .string x.code, .slice An x.nodes.length cn, .int .i64 x.dist, .int .i64 x.since, .slice Ac x.calls.length cc, .slice Au x.units.length cu, .int .i64 x.merged, .bool x.closed] 25)) W) => (show Calls Tryd.prog 40 #[.agg #[.int .i64 x.id, .int .i64 x.urg, .string x.code, .slice An x.nodes.length cn, .int .i64 x.dist, .int .i64 x.since, .slice Ac x.calls.length cc, .slice Au x.units.length cu, .int .i64 x.merged, .bool x.closed]] W (BysPost (encX x) W) from all40 (fun k => k < w.heap.size) x.id x.urg x.dist x.since x.merged x.code x.nodes x.calls x.units An Ac Au cn cc cu x.closed W (HN.out.below hb (fun _ h => h)) (HC.out.below hb (fun _ h => h)) (HU.out.below hb (fun _ h => h)) hS)
    rw [hv] at H15
    clear hv hn hc hu he
    generalize encX x = en at *
    go_enter Tryd.func24, Tryd.ntmps24
    go_wp2_with (first | (go_at_call 15; ((with_reducible refine H15.out.mono ?_); rintro e w2 ⟨rfl, hb⟩; have HX2 := Lib.hid (HX.out.below hb HX.out.lt); have hb2 := hb.mono (show w.heap.size ≤ _ by omega); clear x0 x1 x2; obtain ⟨x0, x1, x2⟩ := HX2.out.facts)) | (go_at_call 40; ((with_reducible refine (HAl.out _ hb2).mono ?_); rintro e w3 ⟨A3, c3, rfl, ho3, hb3⟩)))
    go_ret
    have hsz := hb2.size
    exact ⟨A3, c3, rfl, (Reads.of_own ho3).more (fun j hj => by have := (ho3.lt j hj).1; omega), (HB.out.trans hb2).trans (hb3.mono (by omega))⟩
theorem enc1_bytes (x : Ic) : Bytes (enc1 x) := by
  unfold enc1
  split
  · exact encX_bytes x
  · exact fun b hb => by simp at hb
theorem decX_nil : decX [] = (zIc, 2) := by
  have h1 : sI (0, []) = (0, (11, [])) := by
    unfold sI rdI
    rw [if_pos rfl, rdU_nil]
    rfl
  have h2 : sI ((11 : Int), ([] : List Int)) = (0, (11, [])) := rfl
  have h3 : sS ((11 : Int), ([] : List Int)) = ([], (11, [])) := rfl
  have h4 : sL ((11 : Int), ([] : List Int)) = ([], (11, [])) := rfl
  have h5 : sB ((11 : Int), ([] : List Int)) = (false, (11, [])) := rfl
  unfold decX decS
  simp only [h1, h2, h3, h4, h5]
  rw [if_neg]
  rintro ⟨h, -⟩
  exact absurd h (by decide)
theorem decX_enc1 {x : Ic} (hs : x.code.size ≤ 1000) (ln : x.nodes.length ≤ 1000) (lc : x.calls.length ≤ 1000) (lu : x.units.length ≤ 1000) : decX (enc1 x) = if icB x = true then (x, 0) else (zIc, 2) := by
  unfold enc1
  by_cases h : icB x = true
  · rw [if_pos h, if_pos h]
    exact decX_enc (icS_of h hs ln lc lu).w h
  · rw [if_neg h, if_neg h]
    exact decX_nil
theorem enc1_len {x : Ic} (hs : x.code.size ≤ 1000) (ln : x.nodes.length ≤ 1000) (lc : x.calls.length ≤ 1000) (lu : x.units.length ≤ 1000) : (enc1 x).length ≤ 40000 := by
  unfold enc1
  split
  · next h =>
    have S := icS_of h hs ln lc lu
    have q1 := encI_len S.id.1 S.id.2
    have q2 := encI_len S.urg.1 S.urg.2
    have q3 := encS_len hs
    have q4 := encIs_len ln S.nodes
    have q5 := encI_len S.dist.1 S.dist.2
    have q6 := encI_len S.since.1 S.since.2
    have q7 := encIs_len lc S.calls
    have q8 := encIs_len lu S.units
    have q9 := encI_len S.merged.1 S.merged.2
    have q10 := encB_len x.closed
    unfold encX
    simp only [List.length_append]
    omega
  · simp
end Go.Proofs.YtipkicijfedfoaaDoor

namespace Go.Proofs.YtipkicijfedfoaaDoor
set_option linter.unusedVariables false
set_option linter.unusedSimpArgs false
open Go.RowKit Go.Own Go.Quo Go.Inc Go.Wire
theorem cells10 {w w' : World} {g : Nat} {t : TypeId} {v0 v1 v2 v3 v4 v5 v6 v7 v8 v9 : Value} (h : Blk w' g t #[v0, v1, v2, v3, v4, v5, v6, v7, v8, v9]) : w'.cell? ⟨g, 0, none⟩ = some v0 ∧ w'.cell? ⟨g, 1, none⟩ = some v1 ∧ w'.cell? ⟨g, 2, none⟩ = some v2 ∧ w'.cell? ⟨g, 3, none⟩ = some v3 ∧ w'.cell? ⟨g, 4, none⟩ = some v4 ∧ w'.cell? ⟨g, 5, none⟩ = some v5 ∧ w'.cell? ⟨g, 6, none⟩ = some v6 ∧ w'.cell? ⟨g, 7, none⟩ = some v7 ∧ w'.cell? ⟨g, 8, none⟩ = some v8 ∧ w'.cell? ⟨g, 9, none⟩ = some v9 := by
  refine ⟨?_, ?_, ?_, ?_, ?_, ?_, ?_, ?_, ?_, ?_⟩ <;> (rw [Blk.cell h]; rfl)
set_option maxRecDepth 10000 in
set_option maxHeartbeats 8000000 in
theorem marshals6 (x y : Ic) (An Ac Au An2 Ac2 Au2 : Option Addr) (cn cc cu cn2 cc2 cu2 : Nat) (w : World) (ht : Tab w)
    (hn : RI w (· < w.heap.size) An x.nodes) (hc : RI w (· < w.heap.size) Ac x.calls) (hu : RI w (· < w.heap.size) Au x.units) (hn2 : RI w (· < w.heap.size) An2 y.nodes) (hc2 : RI w (· < w.heap.size) Ac2 y.calls) (hu2 : RI w (· < w.heap.size) Au2 y.units) (hxr : In64 x.id ∧ In64 x.urg ∧ In64 x.dist ∧ In64 x.since ∧ In64 x.merged ∧ InR x.nodes ∧ InR x.calls ∧ InR x.units) (hyr : In64 y.id ∧ In64 y.urg ∧ In64 y.dist ∧ In64 y.since ∧ In64 y.merged ∧ InR y.nodes ∧ InR y.calls ∧ InR y.units) :
    Calls Tryd.prog 6 #[.agg #[.int .i64 x.id, .int .i64 x.urg, .string x.code, .slice An x.nodes.length cn, .int .i64 x.dist, .int .i64 x.since, .slice Ac x.calls.length cc, .slice Au x.units.length cu, .int .i64 x.merged, .bool x.closed], .agg #[.int .i64 y.id, .int .i64 y.urg, .string y.code, .slice An2 y.nodes.length cn2, .int .i64 y.dist, .int .i64 y.since, .slice Ac2 y.calls.length cc2, .slice Au2 y.units.length cu2, .int .i64 y.merged, .bool y.closed]] w (LawPost w) := by
  have HN := Lib.hid hn
  have HC := Lib.hid hc
  have HU := Lib.hid hu
  have HN2 := Lib.hid hn2
  have HC2 := Lib.hid hc2
  have HU2 := Lib.hid hu2
  have HXr := Lib.hid hxr
  have HYr := Lib.hid hyr
  have H9 := Lib.hid fun (W : World) (hb : Below w.heap.size w W) => alive9 W (Tab.below ht hb ht.lt)
  have H10 := Lib.hid fun (W : World) => small10 x.id x.urg x.dist x.since x.merged x.code An Ac Au x.nodes.length x.calls.length x.units.length cn cc cu x.closed W
  have H10y := Lib.hid fun (W : World) => small10 y.id y.urg y.dist y.since y.merged y.code An2 Ac2 Au2 y.nodes.length y.calls.length y.units.length cn2 cc2 cu2 y.closed W
  have HB := Lib.hid (((Below.refl w.heap.size w).alloc (Nat.le_refl _) (.cells #[.int .i64 x.id, .int .i64 x.urg, .string x.code, .slice An x.nodes.length cn, .int .i64 x.dist, .int .i64 x.since, .slice Ac x.calls.length cc, .slice Au x.units.length cu, .int .i64 x.merged, .bool x.closed] 25)).alloc (by simp) (.cells #[.int .i64 y.id, .int .i64 y.urg, .string y.code, .slice An2 y.nodes.length cn2, .int .i64 y.dist, .int .i64 y.since, .slice Ac2 y.calls.length cc2, .slice Au2 y.units.length cu2, .int .i64 y.merged, .bool y.closed] 25))
  have HX := Lib.hid ((Blk.new w 25 #[.int .i64 x.id, .int .i64 x.urg, .string x.code, .slice An x.nodes.length cn, .int .i64 x.dist, .int .i64 x.since, .slice Ac x.calls.length cc, .slice Au x.units.length cu, .int .i64 x.merged, .bool x.closed]).alloc (.cells #[.int .i64 y.id, .int .i64 y.urg, .string y.code, .slice An2 y.nodes.length cn2, .int .i64 y.dist, .int .i64 y.since, .slice Ac2 y.calls.length cc2, .slice Au2 y.units.length cu2, .int .i64 y.merged, .bool y.closed] 25))
  have HY := Lib.hid (show Blk ((w.alloc (.cells #[.int .i64 x.id, .int .i64 x.urg, .string x.code, .slice An x.nodes.length cn, .int .i64 x.dist, .int .i64 x.since, .slice Ac x.calls.length cc, .slice Au x.units.length cu, .int .i64 x.merged, .bool x.closed] 25)).alloc (.cells #[.int .i64 y.id, .int .i64 y.urg, .string y.code, .slice An2 y.nodes.length cn2, .int .i64 y.dist, .int .i64 y.since, .slice Ac2 y.calls.length cc2, .slice Au2 y.units.length cu2, .int .i64 y.merged, .bool y.closed] 25)) (w.heap.size + 1) 25 #[.int .i64 y.id, .int .i64 y.urg, .string y.code, .slice An2 y.nodes.length cn2, .int .i64 y.dist, .int .i64 y.since, .slice Ac2 y.calls.length cc2, .slice Au2 y.units.length cu2, .int .i64 y.merged, .bool y.closed] by
    have := Blk.new (w.alloc (.cells #[.int .i64 x.id, .int .i64 x.urg, .string x.code, .slice An x.nodes.length cn, .int .i64 x.dist, .int .i64 x.since, .slice Ac x.calls.length cc, .slice Au x.units.length cu, .int .i64 x.merged, .bool x.closed] 25)) 25 #[.int .i64 y.id, .int .i64 y.urg, .string y.code, .slice An2 y.nodes.length cn2, .int .i64 y.dist, .int .i64 y.since, .slice Ac2 y.calls.length cc2, .slice Au2 y.units.length cu2, .int .i64 y.merged, .bool y.closed]
    simpa using this)
  obtain ⟨x0, x1, x2⟩ := HX.out.facts
  obtain ⟨y0, y1, y2⟩ := HY.out.facts
  clear hn hc hu hn2 hc2 hu2 ht hxr hyr
  cases h0 : (decide (x.nodes.length ≤ 60) && decide (x.calls.length ≤ 60) && decide (x.units.length ≤ 60) && decide (x.code.size ≤ 100)) with
  | false =>
    rw [h0] at H10
    clear h0
    go_enter Tryd.func6, Tryd.ntmps6
    go_wp2_with (first | (go_at_call 9; ((with_reducible refine (H9.out _ HB.out).mono ?_); rintro e w2 ⟨rfl, hb⟩; have HX := Lib.hid (HX.out.below hb HX.out.lt); have HY := Lib.hid (HY.out.below hb HY.out.lt); have HB := Lib.hid (HB.out.trans (hb.mono HB.out.size)); clear hb x0 x1 x2 y0 y1 y2; obtain ⟨x0, x1, x2⟩ := HX.out.facts; obtain ⟨y0, y1, y2⟩ := HY.out.facts)) | (go_at_call 10; ((with_reducible refine (H10.out _).mono ?_); rintro e w3 ⟨rfl, hb⟩; have HX := Lib.hid (HX.out.below hb HX.out.lt); have HY := Lib.hid (HY.out.below hb HY.out.lt); have HB := Lib.hid (HB.out.trans (hb.mono HB.out.size)); clear hb x0 x1 x2 y0 y1 y2; obtain ⟨x0, x1, x2⟩ := HX.out.facts; obtain ⟨y0, y1, y2⟩ := HY.out.facts)))
    go_ret
    exact ⟨rfl, HB.out⟩
  | true =>
    rw [h0] at H10
    cases h1 : (decide (y.nodes.length ≤ 60) && decide (y.calls.length ≤ 60) && decide (y.units.length ≤ 60) && decide (y.code.size ≤ 100)) with
    | false =>
      rw [h1] at H10y
      clear h0 h1
      go_enter Tryd.func6, Tryd.ntmps6
      go_wp2_with (first | (go_at_call 9; ((with_reducible refine (H9.out _ HB.out).mono ?_); rintro e w2 ⟨rfl, hb⟩; have HX := Lib.hid (HX.out.below hb HX.out.lt); have HY := Lib.hid (HY.out.below hb HY.out.lt); have HB := Lib.hid (HB.out.trans (hb.mono HB.out.size)); clear hb x0 x1 x2 y0 y1 y2; obtain ⟨x0, x1, x2⟩ := HX.out.facts; obtain ⟨y0, y1, y2⟩ := HY.out.facts)) | (go_at_call 10; ((with_reducible refine (H10.out _).mono ?_); rintro e w3 ⟨rfl, hb⟩; have HX := Lib.hid (HX.out.below hb HX.out.lt); have HY := Lib.hid (HY.out.below hb HY.out.lt); have HB := Lib.hid (HB.out.trans (hb.mono HB.out.size)); clear hb x0 x1 x2 y0 y1 y2; obtain ⟨x0, x1, x2⟩ := HX.out.facts; obtain ⟨y0, y1, y2⟩ := HY.out.facts)) | (go_at_call 10; ((with_reducible refine (H10y.out _).mono ?_); rintro e w4 ⟨rfl, hb⟩; have HX := Lib.hid (HX.out.below hb HX.out.lt); have HY := Lib.hid (HY.out.below hb HY.out.lt); have HB := Lib.hid (HB.out.trans (hb.mono HB.out.size)); clear hb x0 x1 x2 y0 y1 y2; obtain ⟨x0, x1, x2⟩ := HX.out.facts; obtain ⟨y0, y1, y2⟩ := HY.out.facts)))
      go_ret
      exact ⟨rfl, HB.out⟩
    | true =>
      rw [h1] at H10y
      simp only [Bool.and_eq_true, decide_eq_true_eq] at h0 h1
      obtain ⟨⟨⟨ln, lc⟩, lu⟩, ls⟩ := h0
      obtain ⟨⟨⟨ln2, lc2⟩, lu2⟩, ls2⟩ := h1
      have HSx := Lib.hid (show IcS x from ⟨HXr.out.1, HXr.out.2.1, by omega, HXr.out.2.2.2.2.2.1, by omega, HXr.out.2.2.1, HXr.out.2.2.2.1, HXr.out.2.2.2.2.2.2.1, by omega, HXr.out.2.2.2.2.2.2.2, by omega, HXr.out.2.2.2.2.1⟩)
      have HSy := Lib.hid (show IcS y from ⟨HYr.out.1, HYr.out.2.1, by omega, HYr.out.2.2.2.2.2.1, by omega, HYr.out.2.2.1, HYr.out.2.2.2.1, HYr.out.2.2.2.2.2.2.1, by omega, HYr.out.2.2.2.2.2.2.2, by omega, HYr.out.2.2.2.2.1⟩)
      have HRx := Lib.hid (show Calls Tryd.prog 0 #[] w (fun _ _ => True) → True from fun _ => trivial)
      have H23 := Lib.hid fun (W : World) (hb : Below w.heap.size w W) => mar23 (fun k => k < w.heap.size) x An Ac Au cn cc cu W (HN.out.below hb (fun _ h => h)) (HC.out.below hb (fun _ h => h)) (HU.out.below hb (fun _ h => h)) (by omega) (by omega) (by omega) (by omega)
      have H24 := Lib.hid fun (W : World) (hb : Below w.heap.size w W) => bytes24 (fun k => k < w.heap.size) x An Ac Au cn cc cu W (HN.out.below hb (fun _ h => h)) (HC.out.below hb (fun _ h => h)) (HU.out.below hb (fun _ h => h)) (by omega) (by omega) (by omega) (by omega)
      have H15 := Lib.hid fun (W : World) (hb : Below w.heap.size w W) => (show Calls Tryd.prog 15 #[.agg #[.int .i64 x.id, .int .i64 x.urg, .string x.code, .slice An x.nodes.length cn, .int .i64 x.dist, .int .i64 x.since, .slice Ac x.calls.length cc, .slice Au x.units.length cu, .int .i64 x.merged, .bool x.closed]] W (BoolB (icB x) W) from right15 (fun k => k < w.heap.size) x.id x.urg x.dist x.since x.merged x.code An Ac Au cn cc cu x.nodes x.calls x.units x.closed W (by omega) (HN.out.below hb (fun _ h => h)) (HC.out.below hb (fun _ h => h)) (HU.out.below hb (fun _ h => h)) (by omega) (by omega) (by omega))
      obtain ⟨q, hq⟩ : ∃ q, q = decide (encX x = encX y) := ⟨_, rfl⟩
      have H18 := Lib.hid fun (W : World) (hb : Below w.heap.size w W) => (show Calls Tryd.prog 18 #[.agg #[.int .i64 x.id, .int .i64 x.urg, .string x.code, .slice An x.nodes.length cn, .int .i64 x.dist, .int .i64 x.since, .slice Ac x.calls.length cc, .slice Au x.units.length cu, .int .i64 x.merged, .bool x.closed], .agg #[.int .i64 y.id, .int .i64 y.urg, .string y.code, .slice An2 y.nodes.length cn2, .int .i64 y.dist, .int .i64 y.since, .slice Ac2 y.calls.length cc2, .slice Au2 y.units.length cu2, .int .i64 y.merged, .bool y.closed]] W (BoolB q W) from hq ▸ same18 (fun k => k < w.heap.size) x.id x.urg x.dist x.since x.merged x.code x.nodes x.calls x.units An Ac Au cn cc cu x.closed y.id y.urg y.dist y.since y.merged y.code y.nodes y.calls y.units An2 Ac2 Au2 cn2 cc2 cu2 y.closed W (HN.out.below hb (fun _ h => h)) (HC.out.below hb (fun _ h => h)) (HU.out.below hb (fun _ h => h)) HSx.out (HN2.out.below hb (fun _ h => h)) (HC2.out.below hb (fun _ h => h)) (HU2.out.below hb (fun _ h => h)) HSy.out)
      have H25 := Lib.hid fun (W : World) (hb : Below w.heap.size w W) => equal25 (fun k => k < w.heap.size) (fun k => k < w.heap.size) x y An Ac Au An2 Ac2 Au2 cn cc cu cn2 cc2 cu2 W (HN.out.below hb (fun _ h => h)) (HC.out.below hb (fun _ h => h)) (HU.out.below hb (fun _ h => h)) (HN2.out.below hb (fun _ h => h)) (HC2.out.below hb (fun _ h => h)) (HU2.out.below hb (fun _ h => h)) (by omega) (by omega) (by omega) q (by rw [hq, decide_eq_true_eq]; exact ⟨fun h => encX_inj HSx.out.w HSy.out.w h, fun h => by rw [h]⟩)
      have H25x := Lib.hid fun (W : World) (hb : Below w.heap.size w W) => equal25 (fun k => k < w.heap.size) (fun k => k < w.heap.size) x x An Ac Au An Ac Au cn cc cu cn cc cu W (HN.out.below hb (fun _ h => h)) (HC.out.below hb (fun _ h => h)) (HU.out.below hb (fun _ h => h)) (HN.out.below hb (fun _ h => h)) (HC.out.below hb (fun _ h => h)) (HU.out.below hb (fun _ h => h)) (by omega) (by omega) (by omega) true ⟨fun _ => rfl, fun _ => rfl⟩
      have HE1 := Lib.hid (And.intro (enc1_bytes x) (enc1_len (x := x) (by omega) (by omega) (by omega) (by omega)))
      have HDe := Lib.hid (decX_enc1 (x := x) (by omega) (by omega) (by omega) (by omega))
      have HE0 := Lib.hid (show icB x = false → enc1 x = [] from fun h => by unfold enc1; rw [if_neg (by rw [h]; simp)])
      have H18z := Lib.hid fun (W : World) (B : Nat → Prop) (Anz Acz Auz : Option Addr) (cnz ccz cuz : Nat) (hb : Below w.heap.size w W) (r1 : RI W (fun _ => True) Anz x.nodes) (r2 : RI W (fun _ => True) Acz x.calls) (r3 : RI W (fun _ => True) Auz x.units) =>
        (show Calls Tryd.prog 18 #[.agg #[.int .i64 x.id, .int .i64 x.urg, .string x.code, .slice An x.nodes.length cn, .int .i64 x.dist, .int .i64 x.since, .slice Ac x.calls.length cc, .slice Au x.units.length cu, .int .i64 x.merged, .bool x.closed], .agg #[.int .i64 x.id, .int .i64 x.urg, .string x.code, .slice Anz x.nodes.length cnz, .int .i64 x.dist, .int .i64 x.since, .slice Acz x.calls.length ccz, .slice Auz x.units.length cuz, .int .i64 x.merged, .bool x.closed]] W (BoolB true W) from (same18 (fun _ => True) x.id x.urg x.dist x.since x.merged x.code x.nodes x.calls x.units An Ac Au cn cc cu x.closed x.id x.urg x.dist x.since x.merged x.code x.nodes x.calls x.units Anz Acz Auz cnz ccz cuz x.closed W ((HN.out.below hb (fun _ h => h)).more (fun _ _ => trivial)) ((HC.out.below hb (fun _ h => h)).more (fun _ _ => trivial)) ((HU.out.below hb (fun _ h => h)).more (fun _ _ => trivial)) HSx.out r1 r2 r3 HSx.out).mono (fun e w' h => by rw [decide_eq_true rfl] at h; exact h))
      have dqq : (q != q) = false := by cases q <;> rfl
      clear ln lc lu ls ln2 lc2 lu2 ls2 hq HSx HSy HXr HYr HRx HN HC HU HN2 HC2 HU2
      generalize enc1 x = eb at *
      go_enter Tryd.func6, Tryd.ntmps6
      go_upto_region 6 with (first | (go_at_call 9; ((with_reducible refine (H9.out _ HB.out).mono ?_); rintro e w2 ⟨rfl, hb⟩; have HX := Lib.hid (HX.out.below hb HX.out.lt); have HY := Lib.hid (HY.out.below hb HY.out.lt); have HB := Lib.hid (HB.out.trans (hb.mono HB.out.size)); clear hb x0 x1 x2 y0 y1 y2; obtain ⟨x0, x1, x2⟩ := HX.out.facts; obtain ⟨y0, y1, y2⟩ := HY.out.facts)) | (go_at_call 10; ((with_reducible refine (H10.out _).mono ?_); rintro e w3 ⟨rfl, hb⟩; have HX := Lib.hid (HX.out.below hb HX.out.lt); have HY := Lib.hid (HY.out.below hb HY.out.lt); have HB := Lib.hid (HB.out.trans (hb.mono HB.out.size)); clear hb x0 x1 x2 y0 y1 y2; obtain ⟨x0, x1, x2⟩ := HX.out.facts; obtain ⟨y0, y1, y2⟩ := HY.out.facts)) | (go_at_call 10; ((with_reducible refine (H10y.out _).mono ?_); rintro e w4 ⟨rfl, hb⟩; have HX := Lib.hid (HX.out.below hb HX.out.lt); have HY := Lib.hid (HY.out.below hb HY.out.lt); have HB := Lib.hid (HB.out.trans (hb.mono HB.out.size)); clear hb x0 x1 x2 y0 y1 y2; obtain ⟨x0, x1, x2⟩ := HX.out.facts; obtain ⟨y0, y1, y2⟩ := HY.out.facts)) | (go_at_call 23; ((with_reducible refine (H23.out _ HB.out).mono ?_); rintro e w5 ⟨A5, c5, rfl, hr5, hb⟩; have HR5 := Lib.hid ((hr5.old (by omega)).more (B' := fun k => k < w5.heap.size) (fun k hk => hk.2)); have HX := Lib.hid (HX.out.below hb HX.out.lt); have HY := Lib.hid (HY.out.below hb HY.out.lt); have HB := Lib.hid (HB.out.trans (hb.mono HB.out.size)); clear hb x0 x1 x2 y0 y1 y2; obtain ⟨x0, x1, x2⟩ := HX.out.facts; obtain ⟨y0, y1, y2⟩ := HY.out.facts; clear hr5)))
      have H21 := Lib.hid (unm21 (fun k => k < w5.heap.size) A5 c5 eb w5 HR5.out HE1.out.1 (by have := HE1.out.2; omega))
      rw [HDe.out] at H21
      obtain ⟨R, hR⟩ : ∃ R, R = (if icB x = true then (x, (0 : Int)) else (zIc, 2)) := ⟨_, rfl⟩
      rw [← hR] at H21
      obtain ⟨z, er⟩ := R
      have HRt := Lib.hid (show icB x = true → z = x ∧ er = 0 from fun h => by rw [if_pos h] at hR; injection hR with h1 h2; exact ⟨h1, h2⟩)
      have HRf := Lib.hid (show icB x = false → er = 2 from fun h => by rw [if_neg (by rw [h]; simp)] at hR; injection hR with h1 h2)
      simp only at H21
      clear hR HDe
      go_upto_region 7 with (go_at_call 21; ((with_reducible refine H21.out.mono ?_); rintro e w6 ⟨Anz, Acz, Auz, cnz, ccz, cuz, rfl, hnz, hcz, huz, hb⟩; have HR6 := Lib.hid (HR5.out.below hb (fun _ h => h)); have HNz := Lib.hid hnz; have HCz := Lib.hid hcz; have HUz := Lib.hid huz; have hs56 := hb.size; have HX := Lib.hid (HX.out.below hb HX.out.lt); have HY := Lib.hid (HY.out.below hb HY.out.lt); have HB := Lib.hid (HB.out.trans (hb.mono HB.out.size)); clear hb x0 x1 x2 y0 y1 y2; obtain ⟨x0, x1, x2⟩ := HX.out.facts; obtain ⟨y0, y1, y2⟩ := HY.out.facts; clear hnz hcz huz))
      have HX7 := Lib.hid (HX.out.alloc (.cells #[.int .i64 z.id, .int .i64 z.urg, .string z.code, .slice Anz z.nodes.length cnz, .int .i64 z.dist, .int .i64 z.since, .slice Acz z.calls.length ccz, .slice Auz z.units.length cuz, .int .i64 z.merged, .bool z.closed] 25))
      have HY7 := Lib.hid (HY.out.alloc (.cells #[.int .i64 z.id, .int .i64 z.urg, .string z.code, .slice Anz z.nodes.length cnz, .int .i64 z.dist, .int .i64 z.since, .slice Acz z.calls.length ccz, .slice Auz z.units.length cuz, .int .i64 z.merged, .bool z.closed] 25))
      have HZ7 := Lib.hid (Blk.new w6 25 #[.int .i64 z.id, .int .i64 z.urg, .string z.code, .slice Anz z.nodes.length cnz, .int .i64 z.dist, .int .i64 z.since, .slice Acz z.calls.length ccz, .slice Auz z.units.length cuz, .int .i64 z.merged, .bool z.closed])
      have HB7 := Lib.hid (HB.out.alloc HB.out.size (.cells #[.int .i64 z.id, .int .i64 z.urg, .string z.code, .slice Anz z.nodes.length cnz, .int .i64 z.dist, .int .i64 z.since, .slice Acz z.calls.length ccz, .slice Auz z.units.length cuz, .int .i64 z.merged, .bool z.closed] 25))
      have hz7 : (w6.alloc (.cells #[.int .i64 z.id, .int .i64 z.urg, .string z.code, .slice Anz z.nodes.length cnz, .int .i64 z.dist, .int .i64 z.since, .slice Acz z.calls.length ccz, .slice Auz z.units.length cuz, .int .i64 z.merged, .bool z.closed] 25)).heap.size = w6.heap.size + 1 := by simp
      have hz67 : w5.heap.size ≤ (w6.alloc (.cells #[.int .i64 z.id, .int .i64 z.urg, .string z.code, .slice Anz z.nodes.length cnz, .int .i64 z.dist, .int .i64 z.since, .slice Acz z.calls.length ccz, .slice Auz z.units.length cuz, .int .i64 z.merged, .bool z.closed] 25)).heap.size := by have := hs56; omega
      have HR7 := Lib.hid (HR6.out.alloc (.cells #[.int .i64 z.id, .int .i64 z.urg, .string z.code, .slice Anz z.nodes.length cnz, .int .i64 z.dist, .int .i64 z.since, .slice Acz z.calls.length ccz, .slice Auz z.units.length cuz, .int .i64 z.merged, .bool z.closed] 25))
      have HN7 := Lib.hid ((HNz.out.alloc (.cells #[.int .i64 z.id, .int .i64 z.urg, .string z.code, .slice Anz z.nodes.length cnz, .int .i64 z.dist, .int .i64 z.since, .slice Acz z.calls.length ccz, .slice Auz z.units.length cuz, .int .i64 z.merged, .bool z.closed] 25)).more (B' := fun k => k < (w6.alloc (.cells #[.int .i64 z.id, .int .i64 z.urg, .string z.code, .slice Anz z.nodes.length cnz, .int .i64 z.dist, .int .i64 z.since, .slice Acz z.calls.length ccz, .slice Auz z.units.length cuz, .int .i64 z.merged, .bool z.closed] 25)).heap.size) (fun k hk => by have h2 : k < w6.heap.size := hk; omega))
      have HC7 := Lib.hid ((HCz.out.alloc (.cells #[.int .i64 z.id, .int .i64 z.urg, .string z.code, .slice Anz z.nodes.length cnz, .int .i64 z.dist, .int .i64 z.since, .slice Acz z.calls.length ccz, .slice Auz z.units.length cuz, .int .i64 z.merged, .bool z.closed] 25)).more (B' := fun k => k < (w6.alloc (.cells #[.int .i64 z.id, .int .i64 z.urg, .string z.code, .slice Anz z.nodes.length cnz, .int .i64 z.dist, .int .i64 z.since, .slice Acz z.calls.length ccz, .slice Auz z.units.length cuz, .int .i64 z.merged, .bool z.closed] 25)).heap.size) (fun k hk => by have h2 : k < w6.heap.size := hk; omega))
      have HU7 := Lib.hid ((HUz.out.alloc (.cells #[.int .i64 z.id, .int .i64 z.urg, .string z.code, .slice Anz z.nodes.length cnz, .int .i64 z.dist, .int .i64 z.since, .slice Acz z.calls.length ccz, .slice Auz z.units.length cuz, .int .i64 z.merged, .bool z.closed] 25)).more (B' := fun k => k < (w6.alloc (.cells #[.int .i64 z.id, .int .i64 z.urg, .string z.code, .slice Anz z.nodes.length cnz, .int .i64 z.dist, .int .i64 z.since, .slice Acz z.calls.length ccz, .slice Auz z.units.length cuz, .int .i64 z.merged, .bool z.closed] 25)).heap.size) (fun k hk => by have h2 : k < w6.heap.size := hk; omega))
      clear HX HY HB HNz HCz HUz HR6 HR5 H21 H23 H9 H10 H10y hz7 x0 x1 x2 y0 y1 y2
      generalize w6.alloc _ = W7 at *
      generalize w6.heap.size = p6 at *
      have HR8 := Lib.hid (HR7.out.more (B' := fun k => k < W7.heap.size) (fun k hk => by have h2 : k < w5.heap.size := hk; omega))
      have HK := Lib.hid fun (W' : World) (hb : Below W7.heap.size W7 W') => (show (W'.cell? ⟨w.heap.size, 0, none⟩ = some (.int .i64 x.id) ∧ W'.cell? ⟨w.heap.size, 1, none⟩ = some (.int .i64 x.urg) ∧ W'.cell? ⟨w.heap.size, 2, none⟩ = some (.string x.code) ∧ W'.cell? ⟨w.heap.size, 3, none⟩ = some (.slice An x.nodes.length cn) ∧ W'.cell? ⟨w.heap.size, 4, none⟩ = some (.int .i64 x.dist) ∧ W'.cell? ⟨w.heap.size, 5, none⟩ = some (.int .i64 x.since) ∧ W'.cell? ⟨w.heap.size, 6, none⟩ = some (.slice Ac x.calls.length cc) ∧ W'.cell? ⟨w.heap.size, 7, none⟩ = some (.slice Au x.units.length cu) ∧ W'.cell? ⟨w.heap.size, 8, none⟩ = some (.int .i64 x.merged) ∧ W'.cell? ⟨w.heap.size, 9, none⟩ = some (.bool x.closed)) ∧ (W'.cell? ⟨(w.heap.size + 1), 0, none⟩ = some (.int .i64 y.id) ∧ W'.cell? ⟨(w.heap.size + 1), 1, none⟩ = some (.int .i64 y.urg) ∧ W'.cell? ⟨(w.heap.size + 1), 2, none⟩ = some (.string y.code) ∧ W'.cell? ⟨(w.heap.size + 1), 3, none⟩ = some (.slice An2 y.nodes.length cn2) ∧ W'.cell? ⟨(w.heap.size + 1), 4, none⟩ = some (.int .i64 y.dist) ∧ W'.cell? ⟨(w.heap.size + 1), 5, none⟩ = some (.int .i64 y.since) ∧ W'.cell? ⟨(w.heap.size + 1), 6, none⟩ = some (.slice Ac2 y.calls.length cc2) ∧ W'.cell? ⟨(w.heap.size + 1), 7, none⟩ = some (.slice Au2 y.units.length cu2) ∧ W'.cell? ⟨(w.heap.size + 1), 8, none⟩ = some (.int .i64 y.merged) ∧ W'.cell? ⟨(w.heap.size + 1), 9, none⟩ = some (.bool y.closed)) from ⟨cells10 (w := W7) (HX7.out.below hb HX7.out.lt), cells10 (w := W7) (HY7.out.below hb HY7.out.lt)⟩)
      have HCv := Lib.hid fun (W' : World) (hb : Below W7.heap.size W7 W') => run_convert_reads (P := Tryd.prog) Tryd.underlying40 Tryd.underlying5 Tryd.underlying9 (HR8.out.below hb (fun _ h => h)) c5
      have K0 := HK.out _ (Below.refl _ W7).drew
      have cv0 := HCv.out _ (Below.refl _ W7).drew
      have HB8 := Lib.hid fun (W' : World) (hb : Below W7.heap.size W7 W') => HB7.out.trans (hb.mono HB7.out.size)
      have hsx : ((strOfNums eb).toList == (strOfNums eb).toList) = true := by simp
      go_cut [45] (fun v wx => v = .bool false ∧ Below W7.heap.size W7 wx)
      case first =>
        first | (go_region_held (fun W' => (W'.cell? ⟨w.heap.size, 0, none⟩ = some (.int .i64 x.id) ∧ W'.cell? ⟨w.heap.size, 1, none⟩ = some (.int .i64 x.urg) ∧ W'.cell? ⟨w.heap.size, 2, none⟩ = some (.string x.code) ∧ W'.cell? ⟨w.heap.size, 3, none⟩ = some (.slice An x.nodes.length cn) ∧ W'.cell? ⟨w.heap.size, 4, none⟩ = some (.int .i64 x.dist) ∧ W'.cell? ⟨w.heap.size, 5, none⟩ = some (.int .i64 x.since) ∧ W'.cell? ⟨w.heap.size, 6, none⟩ = some (.slice Ac x.calls.length cc) ∧ W'.cell? ⟨w.heap.size, 7, none⟩ = some (.slice Au x.units.length cu) ∧ W'.cell? ⟨w.heap.size, 8, none⟩ = some (.int .i64 x.merged) ∧ W'.cell? ⟨w.heap.size, 9, none⟩ = some (.bool x.closed)) ∧ (W'.cell? ⟨(w.heap.size + 1), 0, none⟩ = some (.int .i64 y.id) ∧ W'.cell? ⟨(w.heap.size + 1), 1, none⟩ = some (.int .i64 y.urg) ∧ W'.cell? ⟨(w.heap.size + 1), 2, none⟩ = some (.string y.code) ∧ W'.cell? ⟨(w.heap.size + 1), 3, none⟩ = some (.slice An2 y.nodes.length cn2) ∧ W'.cell? ⟨(w.heap.size + 1), 4, none⟩ = some (.int .i64 y.dist) ∧ W'.cell? ⟨(w.heap.size + 1), 5, none⟩ = some (.int .i64 y.since) ∧ W'.cell? ⟨(w.heap.size + 1), 6, none⟩ = some (.slice Ac2 y.calls.length cc2) ∧ W'.cell? ⟨(w.heap.size + 1), 7, none⟩ = some (.slice Au2 y.units.length cu2) ∧ W'.cell? ⟨(w.heap.size + 1), 8, none⟩ = some (.int .i64 y.merged) ∧ W'.cell? ⟨(w.heap.size + 1), 9, none⟩ = some (.bool y.closed))) (first | assumption | exact K0) (first
          | (go_at_call 24; ((with_reducible refine (H24.out _ (HB8.out _ ((Below.refl _ _).drew))).mono ?_); rintro e v2 ⟨A24, c24, rfl, hr24, hb2⟩; have B2 := ((Below.refl W7.heap.size W7).drew).trans hb2; have KB2 := HK.out _ B2; have cv2 := HCv.out _ B2; have cve2 := run_convert_reads (P := Tryd.prog) Tryd.underlying40 Tryd.underlying5 Tryd.underlying9 hr24 c24; clear hb2 hr24))
          | (go_at_call 25; ((with_reducible refine (H25.out _ (HB8.out _ B2)).mono ?_); rintro e v3 ⟨rfl, hb3⟩; have B3 := B2.trans (hb3.mono B2.size); have KB3 := HK.out _ B3; clear hb3))
          | (go_at_call 18; ((with_reducible refine (H18.out _ (HB8.out _ B3)).mono ?_); rintro e v4 ⟨rfl, hb4⟩; have B4 := B3.trans (hb4.mono B3.size); have KB4 := HK.out _ B4; clear hb4))
          | (go_at_call 25; ((with_reducible refine (H25x.out _ (HB8.out _ B4)).mono ?_); rintro e v5 ⟨rfl, hb5⟩; have B5 := B4.trans (hb5.mono B4.size); have KB5 := HK.out _ B5; clear hb5)))) | fail
        all_goals
          go_wp2_with fail
          go_meet
          case rel => exact ⟨by first | rfl | simp, B5⟩
      case rest =>
        obtain ⟨rfl, hb8⟩ := hcut
        have HX8 := Lib.hid (HX7.out.below hb8 HX7.out.lt)
        have HZ8 := Lib.hid (HZ7.out.below hb8 HZ7.out.lt)
        have HB9 := Lib.hid (HB7.out.trans (hb8.mono HB7.out.size))
        have HN9 := Lib.hid (HN7.out.below hb8 (fun _ h => h))
        have HC9 := Lib.hid (HC7.out.below hb8 (fun _ h => h))
        have HU9 := Lib.hid (HU7.out.below hb8 (fun _ h => h))
        have hs8 := hb8.size
        clear HX7 HY7 HZ7 HR7 HR8 HN7 HC7 HU7 HK HCv K0 cv0 HB8 hsx HB7 H24 H25 H25x H18 hb8 dqq
        obtain ⟨x0, x1, x2⟩ := HX8.out.facts
        cases hv : icB x with
        | true =>
          rw [hv] at H15
          obtain ⟨hz, her⟩ := HRt.out hv
          clear HRt HRf HE0 hv
          subst hz her
          go_wp2_with (first
            | (go_at_call 15; ((with_reducible refine (H15.out _ HB9.out).mono ?_); rintro e w10 ⟨rfl, hb10⟩; have HX10 := Lib.hid (HX8.out.below hb10 HX8.out.lt); have HZ10 := Lib.hid (HZ8.out.below hb10 HZ8.out.lt); have HB10 := Lib.hid (HB9.out.trans (hb10.mono HB9.out.size)); have HN10 := Lib.hid (((HN9.out.more (B' := fun k => k < wc.heap.size) (fun k hk => by have h2 : k < W7.heap.size := hk; omega)).below hb10 (fun _ h => h)).more (B' := fun _ => True) (fun _ _ => trivial)); have HC10 := Lib.hid (((HC9.out.more (B' := fun k => k < wc.heap.size) (fun k hk => by have h2 : k < W7.heap.size := hk; omega)).below hb10 (fun _ h => h)).more (B' := fun _ => True) (fun _ _ => trivial)); have HU10 := Lib.hid (((HU9.out.more (B' := fun k => k < wc.heap.size) (fun k hk => by have h2 : k < W7.heap.size := hk; omega)).below hb10 (fun _ h => h)).more (B' := fun _ => True) (fun _ _ => trivial)); clear hb10 x0 x1 x2; obtain ⟨x0, x1, x2⟩ := HX10.out.facts; obtain ⟨z0, z1, z2⟩ := HZ10.out.facts))
            | (go_at_call 18; ((with_reducible refine (H18z.out _ (fun _ => True) Anz Acz Auz cnz ccz cuz HB10.out HN10.out HC10.out HU10.out).mono ?_); rintro e w11 ⟨rfl, hb11⟩)))
          go_ret
          exact ⟨rfl, HB10.out.trans (hb11.mono HB10.out.size)⟩
        | false =>
          rw [hv] at H15
          have her := HRf.out hv
          have h0e := HE0.out hv
          have de : ((eb.length : Int) == 0) = true := by rw [h0e]; rfl
          clear HRt HRf HE0 hv h0e H18z
          subst her
          go_wp2_with (first
            | (go_at_call 15; ((with_reducible refine (H15.out _ HB9.out).mono ?_); rintro e w10 ⟨rfl, hb10⟩)))
          go_ret
          exact ⟨rfl, HB9.out.trans (hb10.mono HB9.out.size)⟩
end Go.Proofs.YtipkicijfedfoaaDoor

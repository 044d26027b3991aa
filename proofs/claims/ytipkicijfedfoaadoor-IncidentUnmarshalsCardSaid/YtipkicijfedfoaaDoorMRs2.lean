import Derived.Test.YtipkicijfedfoaaDoorMGK
import Derived.Test.YtipkicijfedfoaaDoorMGG
import Derived.Laws.BytesArg
namespace Go.Inc
open Go.Wire
theorem encU_bytes : ∀ (u : Nat), Bytes (encU u) := by
  intro u
  induction u using Nat.strongRecOn with
  | ind u ih =>
    intro b hb
    by_cases h : u < 128
    · rw [encU_lt h] at hb; simp at hb; omega
    · rw [encU_ge h] at hb
      rcases List.mem_cons.1 hb with rfl | hb
      · omega
      · exact ih (u / 128) (by omega) b hb
theorem Bytes.app {a b : List Int} (ha : Bytes a) (hb : Bytes b) : Bytes (a ++ b) := fun x hx => by
  rcases List.mem_append.1 hx with h | h
  · exact ha x h
  · exact hb x h
theorem encI_bytes (n : Int) : Bytes (encI n) := encU_bytes _
theorem encIs_bytes (l : List Int) : Bytes (encIs l) := by
  unfold encIs
  refine Bytes.app (encI_bytes _) (fun b hb => ?_)
  obtain ⟨x, -, h⟩ := List.mem_flatMap.1 hb
  exact encI_bytes x b h
theorem encS_bytes (s : ByteArray) : Bytes (encS s) := Bytes.app (encI_bytes _) (strL_bytes s)
theorem encB_bytes (b : Bool) : Bytes (encB b) := by
  intro x hx
  unfold encB at hx
  cases b <;> simp at hx <;> omega
theorem encX_bytes (x : Ic) : Bytes (encX x) := by
  unfold encX
  exact Bytes.app (encI_bytes _) (Bytes.app (encI_bytes _) (Bytes.app (encS_bytes _) (Bytes.app (encIs_bytes _) (Bytes.app (encI_bytes _) (Bytes.app (encI_bytes _) (Bytes.app (encIs_bytes _) (Bytes.app (encIs_bytes _) (Bytes.app (encI_bytes _) (encB_bytes _)))))))))
theorem str_eq {a b : List Int} (ha : Bytes a) (hb : Bytes b) : strOfNums a = strOfNums b ↔ a = b := by
  constructor
  · intro h
    rw [← strL_strOfNums ha, ← strL_strOfNums hb, h]
  · intro h; rw [h]
theorem str_beq {a b : List Int} (ha : Bytes a) (hb : Bytes b) : ((strOfNums a).toList == (strOfNums b).toList) = decide (a = b) := by
  rw [Bool.eq_iff_iff, beq_iff_eq, decide_eq_true_eq, ← str_eq ha hb, ByteArray.toList_eq, ByteArray.toList_eq]
  constructor
  · intro h
    have : (strOfNums a).data = (strOfNums b).data := Array.ext' h
    cases h1 : strOfNums a; cases h2 : strOfNums b
    rw [h1, h2] at this
    simp only at this
    rw [this]
  · intro h; rw [h]
end Go.Inc
namespace Go.Proofs.YtipkicijfedfoaaDoor
set_option linter.unusedVariables false
open Go.RowKit Go.Own Go.Quo Go.Inc Go.Wire
set_option maxRecDepth 10000 in
set_option maxHeartbeats 8000000 in
theorem same18 (B : Nat → Prop) (id urg dist since merged : Int) (code : ByteArray) (nodes calls units : List Int) (An Ac Au : Option Addr) (cn cc cu : Nat) (closed : Bool) (id2 urg2 dist2 since2 merged2 : Int) (code2 : ByteArray) (nodes2 calls2 units2 : List Int) (An2 Ac2 Au2 : Option Addr) (cn2 cc2 cu2 : Nat) (closed2 : Bool) (w : World)
    (hn : RI w B An nodes) (hc : RI w B Ac calls) (hu : RI w B Au units) (hx : IcS ⟨id, urg, code, nodes, dist, since, calls, units, merged, closed⟩)
    (hn2 : RI w B An2 nodes2) (hc2 : RI w B Ac2 calls2) (hu2 : RI w B Au2 units2) (hx2 : IcS ⟨id2, urg2, code2, nodes2, dist2, since2, calls2, units2, merged2, closed2⟩) :
    Calls Tryd.prog 18 #[.agg #[.int .i64 id, .int .i64 urg, .string code, .slice An nodes.length cn, .int .i64 dist, .int .i64 since, .slice Ac calls.length cc, .slice Au units.length cu, .int .i64 merged, .bool closed], .agg #[.int .i64 id2, .int .i64 urg2, .string code2, .slice An2 nodes2.length cn2, .int .i64 dist2, .int .i64 since2, .slice Ac2 calls2.length cc2, .slice Au2 units2.length cu2, .int .i64 merged2, .bool closed2]] w (BoolB (decide (encX ⟨id, urg, code, nodes, dist, since, calls, units, merged, closed⟩ = encX ⟨id2, urg2, code2, nodes2, dist2, since2, calls2, units2, merged2, closed2⟩)) w) := by
  have HN := Lib.hid (((hn.old (by omega)).more (B' := fun k => k < w.heap.size) (fun k hk => hk.2)))
  have HC := Lib.hid (((hc.old (by omega)).more (B' := fun k => k < w.heap.size) (fun k hk => hk.2)))
  have HU := Lib.hid (((hu.old (by omega)).more (B' := fun k => k < w.heap.size) (fun k hk => hk.2)))
  have HN2 := Lib.hid (((hn2.old (by omega)).more (B' := fun k => k < w.heap.size) (fun k hk => hk.2)))
  have HC2 := Lib.hid (((hc2.old (by omega)).more (B' := fun k => k < w.heap.size) (fun k hk => hk.2)))
  have HU2 := Lib.hid (((hu2.old (by omega)).more (B' := fun k => k < w.heap.size) (fun k hk => hk.2)))
  have H40 := Lib.hid fun (W' : World) (hb : Below w.heap.size w W') => all40 _ id urg dist since merged code nodes calls units An Ac Au cn cc cu closed W' (HN.out.below hb (fun k hk => hk)) (HC.out.below hb (fun k hk => hk)) (HU.out.below hb (fun k hk => hk)) hx
  have H402 := Lib.hid fun (W' : World) (hb : Below w.heap.size w W') => all40 _ id2 urg2 dist2 since2 merged2 code2 nodes2 calls2 units2 An2 Ac2 Au2 cn2 cc2 cu2 closed2 W' (HN2.out.below hb (fun k hk => hk)) (HC2.out.below hb (fun k hk => hk)) (HU2.out.below hb (fun k hk => hk)) hx2
  have HW := Lib.hid (((Below.refl w.heap.size w).alloc (Nat.le_refl _) (.cells #[.int .i64 id, .int .i64 urg, .string code, .slice An nodes.length cn, .int .i64 dist, .int .i64 since, .slice Ac calls.length cc, .slice Au units.length cu, .int .i64 merged, .bool closed] 25)).alloc (by simp) (.cells #[.int .i64 id2, .int .i64 urg2, .string code2, .slice An2 nodes2.length cn2, .int .i64 dist2, .int .i64 since2, .slice Ac2 calls2.length cc2, .slice Au2 units2.length cu2, .int .i64 merged2, .bool closed2] 25))
  have HX := Lib.hid ((Blk.new w 25 #[.int .i64 id, .int .i64 urg, .string code, .slice An nodes.length cn, .int .i64 dist, .int .i64 since, .slice Ac calls.length cc, .slice Au units.length cu, .int .i64 merged, .bool closed]).alloc (.cells #[.int .i64 id2, .int .i64 urg2, .string code2, .slice An2 nodes2.length cn2, .int .i64 dist2, .int .i64 since2, .slice Ac2 calls2.length cc2, .slice Au2 units2.length cu2, .int .i64 merged2, .bool closed2] 25))
  have HX2 := Lib.hid (show Blk ((w.alloc (.cells #[.int .i64 id, .int .i64 urg, .string code, .slice An nodes.length cn, .int .i64 dist, .int .i64 since, .slice Ac calls.length cc, .slice Au units.length cu, .int .i64 merged, .bool closed] 25)).alloc (.cells #[.int .i64 id2, .int .i64 urg2, .string code2, .slice An2 nodes2.length cn2, .int .i64 dist2, .int .i64 since2, .slice Ac2 calls2.length cc2, .slice Au2 units2.length cu2, .int .i64 merged2, .bool closed2] 25)) (w.heap.size + 1) 25 #[.int .i64 id2, .int .i64 urg2, .string code2, .slice An2 nodes2.length cn2, .int .i64 dist2, .int .i64 since2, .slice Ac2 calls2.length cc2, .slice Au2 units2.length cu2, .int .i64 merged2, .bool closed2] by
    have := Blk.new (w.alloc (.cells #[.int .i64 id, .int .i64 urg, .string code, .slice An nodes.length cn, .int .i64 dist, .int .i64 since, .slice Ac calls.length cc, .slice Au units.length cu, .int .i64 merged, .bool closed] 25)) 25 #[.int .i64 id2, .int .i64 urg2, .string code2, .slice An2 nodes2.length cn2, .int .i64 dist2, .int .i64 since2, .slice Ac2 calls2.length cc2, .slice Au2 units2.length cu2, .int .i64 merged2, .bool closed2]
    simpa using this)
  have hE := str_beq (encX_bytes ⟨id, urg, code, nodes, dist, since, calls, units, merged, closed⟩) (encX_bytes ⟨id2, urg2, code2, nodes2, dist2, since2, calls2, units2, merged2, closed2⟩)
  have HE := Lib.hid hE
  clear hn hc hu hn2 hc2 hu2 hx hx2 hE HN HC HU HN2 HC2 HU2
  generalize encX ⟨id, urg, code, nodes, dist, since, calls, units, merged, closed⟩ = ex at *
  generalize encX ⟨id2, urg2, code2, nodes2, dist2, since2, calls2, units2, merged2, closed2⟩ = ey at *
  go_enter Tryd.func18, Tryd.ntmps18
  go_upto_region 1 with (fail)
  generalize (w.alloc _).alloc _ = W at *
  have HK := Lib.hid fun (W' : World) (hb : Below W.heap.size W W') => (show (W'.cell? ⟨w.heap.size, 0, none⟩ = some (.int .i64 id) ∧ W'.cell? ⟨w.heap.size, 1, none⟩ = some (.int .i64 urg) ∧ W'.cell? ⟨w.heap.size, 2, none⟩ = some (.string code) ∧ W'.cell? ⟨w.heap.size, 3, none⟩ = some (.slice An nodes.length cn) ∧ W'.cell? ⟨w.heap.size, 4, none⟩ = some (.int .i64 dist) ∧ W'.cell? ⟨w.heap.size, 5, none⟩ = some (.int .i64 since) ∧ W'.cell? ⟨w.heap.size, 6, none⟩ = some (.slice Ac calls.length cc) ∧ W'.cell? ⟨w.heap.size, 7, none⟩ = some (.slice Au units.length cu) ∧ W'.cell? ⟨w.heap.size, 8, none⟩ = some (.int .i64 merged) ∧ W'.cell? ⟨w.heap.size, 9, none⟩ = some (.bool closed)) ∧ (W'.cell? ⟨w.heap.size + 1, 0, none⟩ = some (.int .i64 id2) ∧ W'.cell? ⟨w.heap.size + 1, 1, none⟩ = some (.int .i64 urg2) ∧ W'.cell? ⟨w.heap.size + 1, 2, none⟩ = some (.string code2) ∧ W'.cell? ⟨w.heap.size + 1, 3, none⟩ = some (.slice An2 nodes2.length cn2) ∧ W'.cell? ⟨w.heap.size + 1, 4, none⟩ = some (.int .i64 dist2) ∧ W'.cell? ⟨w.heap.size + 1, 5, none⟩ = some (.int .i64 since2) ∧ W'.cell? ⟨w.heap.size + 1, 6, none⟩ = some (.slice Ac2 calls2.length cc2) ∧ W'.cell? ⟨w.heap.size + 1, 7, none⟩ = some (.slice Au2 units2.length cu2) ∧ W'.cell? ⟨w.heap.size + 1, 8, none⟩ = some (.int .i64 merged2) ∧ W'.cell? ⟨w.heap.size + 1, 9, none⟩ = some (.bool closed2)) from ⟨reach_held (w := W) (HX.out.below hb HX.out.lt), reach_held (w := W) (HX2.out.below hb HX2.out.lt)⟩)
  have K0 := HK.out _ (Below.refl _ W).drew
  have HCv := Lib.hid fun (W' : World) (A1 : Option Addr) (B1 : Nat → Prop) (c1 : Nat) (es : List Int) (r1 : Reads W' B1 1 A1 es.length (bys es)) => run_convert_reads (P := Tryd.prog) Tryd.underlying40 Tryd.underlying5 Tryd.underlying9 r1 c1
  go_region_held (fun w' => (w'.cell? ⟨w.heap.size, 0, none⟩ = some (.int .i64 id) ∧ w'.cell? ⟨w.heap.size, 1, none⟩ = some (.int .i64 urg) ∧ w'.cell? ⟨w.heap.size, 2, none⟩ = some (.string code) ∧ w'.cell? ⟨w.heap.size, 3, none⟩ = some (.slice An nodes.length cn) ∧ w'.cell? ⟨w.heap.size, 4, none⟩ = some (.int .i64 dist) ∧ w'.cell? ⟨w.heap.size, 5, none⟩ = some (.int .i64 since) ∧ w'.cell? ⟨w.heap.size, 6, none⟩ = some (.slice Ac calls.length cc) ∧ w'.cell? ⟨w.heap.size, 7, none⟩ = some (.slice Au units.length cu) ∧ w'.cell? ⟨w.heap.size, 8, none⟩ = some (.int .i64 merged) ∧ w'.cell? ⟨w.heap.size, 9, none⟩ = some (.bool closed)) ∧ (w'.cell? ⟨w.heap.size + 1, 0, none⟩ = some (.int .i64 id2) ∧ w'.cell? ⟨w.heap.size + 1, 1, none⟩ = some (.int .i64 urg2) ∧ w'.cell? ⟨w.heap.size + 1, 2, none⟩ = some (.string code2) ∧ w'.cell? ⟨w.heap.size + 1, 3, none⟩ = some (.slice An2 nodes2.length cn2) ∧ w'.cell? ⟨w.heap.size + 1, 4, none⟩ = some (.int .i64 dist2) ∧ w'.cell? ⟨w.heap.size + 1, 5, none⟩ = some (.int .i64 since2) ∧ w'.cell? ⟨w.heap.size + 1, 6, none⟩ = some (.slice Ac2 calls2.length cc2) ∧ w'.cell? ⟨w.heap.size + 1, 7, none⟩ = some (.slice Au2 units2.length cu2) ∧ w'.cell? ⟨w.heap.size + 1, 8, none⟩ = some (.int .i64 merged2) ∧ w'.cell? ⟨w.heap.size + 1, 9, none⟩ = some (.bool closed2))) (first | assumption | exact K0) (first
    | (go_at_call 40; ((with_reducible refine (H40.out _ (HW.out.drew)).mono ?_); rintro e w2 ⟨A6, c6, rfl, ho2, hb2⟩; have B2 := ((Below.refl W.heap.size W).drew).trans hb2; have HR2 := Lib.hid (Reads.of_own ho2); have HB2 := Lib.hid (HW.out.trans (B2.mono HW.out.size)); clear ho2 hb2; have KB2 := HK.out _ B2; have cv1 := HCv.out _ _ _ c6 ex HR2.out))
    | (go_at_call 40; ((with_reducible refine (H402.out _ HB2.out).mono ?_); rintro e w3 ⟨A7, c7, rfl, ho3, hb3⟩; have B3 := B2.trans (hb3.mono B2.size); have cv2 := HCv.out _ _ _ c6 ex ((HR2.out.old (by omega)).below hb3 (fun k hk => hk.2)); have cv3 := HCv.out _ _ _ c7 ey (Reads.of_own ho3); have HB3 := Lib.hid (HB2.out.trans (hb3.mono HB2.out.size)); clear ho3 hb3; have KB3 := HK.out _ B3)))
  all_goals
    go_wp2_with fail
    go_ret
    exact ⟨by rw [← HE.out]; rfl, HB3.out⟩
end Go.Proofs.YtipkicijfedfoaaDoor

import Derived.Test.YtipkicijfedfoaaDoorMGI
import Derived.Test.YtipkicijfedfoaaDoorMGG
import Derived.Test.YtipkicijfedfoaaDoorMRof
import Derived.Deep.MidRow
namespace Go.Proofs.YtipkicijfedfoaaDoor
set_option linter.unusedVariables false
set_option linter.unusedSimpArgs false
open Go.RowKit Go.Own Go.Quo Go.Inc
set_option maxRecDepth 10000 in
set_option maxHeartbeats 8000000 in
theorem anw_early (x : Ic) (An Ac Au : Option Addr) (cn cc cu : Nat) (ts : List Ca) (A : Option Addr) (c : Nat) (w : World) (hn : RI w (· < w.heap.size) An x.nodes) (hc : RI w (· < w.heap.size) Ac x.calls) (hu : RI w (· < w.heap.size) Au x.units) (h : Reads w (· < w.heap.size) 8 A ts.length (ts.flatMap caL)) (hts : ∀ t ∈ ts, RI w (· < w.heap.size) t.A t.c.nodes) (hs : x.code.size ≤ 100000) (ln : x.nodes.length ≤ 100000) (lc : x.calls.length ≤ 100000) (lu : x.units.length ≤ 100000) (lt : ts.length ≤ 1000) (ltl : ∀ t ∈ ts, t.c.code.size ≤ 100000 ∧ t.c.nodes.length ≤ 100000) (h0 : icB x = false ∨ ts = []) : Calls Tryd.prog 27 #[.agg #[.int .i64 x.id, .int .i64 x.urg, .string x.code, .slice An x.nodes.length cn, .int .i64 x.dist, .int .i64 x.since, .slice Ac x.calls.length cc, .slice Au x.units.length cu, .int .i64 x.merged, .bool x.closed], .slice A ts.length c] w (AnwPost x (ts.map (·.c)) w) := by
  have hP : anwP x (ts.map (·.c)) = (zeroIc, 1) := anw_bad (h0.imp (fun h => h) (fun h => .inl (by rw [h]; rfl)))
  have HP := Lib.hid hP
  clear hP
  have hp := h.plain (by omega)
  have HR := Lib.hid h
  have HN := Lib.hid hn
  have HC := Lib.hid hc
  have HU := Lib.hid hu
  have HTs := Lib.hid hts
  have HL := Lib.hid ltl
  have H15 := Lib.hid fun (W : World) (hb : Below w.heap.size w W) => (show Calls Tryd.prog 15 #[.agg #[.int .i64 x.id, .int .i64 x.urg, .string x.code, .slice An x.nodes.length cn, .int .i64 x.dist, .int .i64 x.since, .slice Ac x.calls.length cc, .slice Au x.units.length cu, .int .i64 x.merged, .bool x.closed]] W (BoolB (icB x) W) from right15 _ x.id x.urg x.dist x.since x.merged x.code An Ac Au cn cc cu x.nodes x.calls x.units x.closed W hs (HN.out.below hb (fun k hk => hk)) (HC.out.below hb (fun k hk => hk)) (HU.out.below hb (fun k hk => hk)) ln lc lu)
  have HB := Lib.hid (((Below.refl w.heap.size w).alloc (Nat.le_refl _) (.cells #[.int .i64 x.id, .int .i64 x.urg, .string x.code, .slice An x.nodes.length cn, .int .i64 x.dist, .int .i64 x.since, .slice Ac x.calls.length cc, .slice Au x.units.length cu, .int .i64 x.merged, .bool x.closed] 25)).alloc (by simp) (.cells #[.int .i64 0, .int .i64 0, .string ⟨#[]⟩, .slice none 0 0, .int .i64 0, .int .i64 0, .slice none 0 0, .slice none 0 0, .int .i64 0, .bool false] 25))
  have HX := Lib.hid ((Blk.new w 25 #[.int .i64 x.id, .int .i64 x.urg, .string x.code, .slice An x.nodes.length cn, .int .i64 x.dist, .int .i64 x.since, .slice Ac x.calls.length cc, .slice Au x.units.length cu, .int .i64 x.merged, .bool x.closed]).alloc (.cells #[.int .i64 0, .int .i64 0, .string ⟨#[]⟩, .slice none 0 0, .int .i64 0, .int .i64 0, .slice none 0 0, .slice none 0 0, .int .i64 0, .bool false] 25))
  have HY := Lib.hid (show Blk ((w.alloc (.cells #[.int .i64 x.id, .int .i64 x.urg, .string x.code, .slice An x.nodes.length cn, .int .i64 x.dist, .int .i64 x.since, .slice Ac x.calls.length cc, .slice Au x.units.length cu, .int .i64 x.merged, .bool x.closed] 25)).alloc (.cells #[.int .i64 0, .int .i64 0, .string ⟨#[]⟩, .slice none 0 0, .int .i64 0, .int .i64 0, .slice none 0 0, .slice none 0 0, .int .i64 0, .bool false] 25)) (w.heap.size + 1) 25 #[.int .i64 0, .int .i64 0, .string ⟨#[]⟩, .slice none 0 0, .int .i64 0, .int .i64 0, .slice none 0 0, .slice none 0 0, .int .i64 0, .bool false] by
    have := Blk.new (w.alloc (.cells #[.int .i64 x.id, .int .i64 x.urg, .string x.code, .slice An x.nodes.length cn, .int .i64 x.dist, .int .i64 x.since, .slice Ac x.calls.length cc, .slice Au x.units.length cu, .int .i64 x.merged, .bool x.closed] 25)) 25 #[.int .i64 0, .int .i64 0, .string ⟨#[]⟩, .slice none 0 0, .int .i64 0, .int .i64 0, .slice none 0 0, .slice none 0 0, .int .i64 0, .bool false]
    simpa using this)
  obtain ⟨x0, x1, x2⟩ := HX.out.facts
  clear hn hc hu h hts ltl
  cases hi : icB x with
  | false =>
    clear h0
    rw [hi] at H15
    go_enter Tryd.func27, Tryd.ntmps27
    go_wp2_with (first | (go_at_call 15; ((with_reducible refine (H15.out _ HB.out).mono ?_); rintro e w2 ⟨rfl, hb⟩; have HX := Lib.hid (HX.out.below hb HX.out.lt); have HY := Lib.hid (HY.out.below hb HY.out.lt); have HB := Lib.hid (HB.out.trans (hb.mono HB.out.size)); clear hb x0 x1 x2; obtain ⟨x0, x1, x2⟩ := HX.out.facts)) | (refine wpList_storeBlk rfl (.tmp 4) (.tmp 24) 25 rfl (w.heap.size + 1) 25 _ #[.int .i64 0, .int .i64 0, .string ⟨#[]⟩, .slice none 0 0, .int .i64 0, .int .i64 0, .slice none 0 0, .slice none 0 0, .int .i64 0, .bool false] _ 10 136 info25 rfl rfl rfl HY.out rfl (ten_one (by simp [Value.oneCell'])) ?_; intro w8 hb8 hf8 hs8))
    refine bodyPost_ret (results_ct (p := 4) (u := 5) (ty := 25) Tryd.results27 _ _ (w.heap.size + 1) 25 #[.int .i64 0, .int .i64 0, .string ⟨#[]⟩, .slice none 0 0, .int .i64 0, .int .i64 0, .slice none 0 0, .slice none 0 0, .int .i64 0, .bool false] (0, 0) _ rfl hb8 Tryd.underlying25 rfl size25) rfl ?_
    unfold AnwPost; rw [HP.out]
    exact rd_zero (HB.out.trans (hf8.below HB.out.size (fun k hk e => by omega)))
  | true =>
    have h1 : ts = [] := by rcases h0 with e | e; · rw [hi] at e; cases e
                            · exact e
    subst h1
    clear h0
    rw [hi] at H15
    go_enter Tryd.func27, Tryd.ntmps27
    go_wp2_with (first | (go_at_call 15; ((with_reducible refine (H15.out _ HB.out).mono ?_); rintro e w2 ⟨rfl, hb⟩; have HX := Lib.hid (HX.out.below hb HX.out.lt); have HY := Lib.hid (HY.out.below hb HY.out.lt); have HB := Lib.hid (HB.out.trans (hb.mono HB.out.size)); clear hb x0 x1 x2; obtain ⟨x0, x1, x2⟩ := HX.out.facts)) | (refine wpList_storeBlk rfl (.tmp 4) (.tmp 24) 25 rfl (w.heap.size + 1) 25 _ #[.int .i64 0, .int .i64 0, .string ⟨#[]⟩, .slice none 0 0, .int .i64 0, .int .i64 0, .slice none 0 0, .slice none 0 0, .int .i64 0, .bool false] _ 10 136 info25 rfl rfl rfl HY.out rfl (ten_one (by simp [Value.oneCell'])) ?_; intro w8 hb8 hf8 hs8))
    refine bodyPost_ret (results_ct (p := 4) (u := 5) (ty := 25) Tryd.results27 _ _ (w.heap.size + 1) 25 #[.int .i64 0, .int .i64 0, .string ⟨#[]⟩, .slice none 0 0, .int .i64 0, .int .i64 0, .slice none 0 0, .slice none 0 0, .int .i64 0, .bool false] (0, 0) _ rfl hb8 Tryd.underlying25 rfl size25) rfl ?_
    unfold AnwPost; rw [HP.out]
    exact rd_zero (HB.out.trans (hf8.below HB.out.size (fun k hk e => by omega)))
end Go.Proofs.YtipkicijfedfoaaDoor

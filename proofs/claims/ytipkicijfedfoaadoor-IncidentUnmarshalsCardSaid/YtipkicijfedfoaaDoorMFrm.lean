import Derived.Test.YtipkicijfedfoaaDoorMFur
import Derived.Test.YtipkicijfedfoaaDoorMSrt
import Derived.Test.YtipkicijfedfoaaDoorMGG
namespace Go.Own
open Go.RowKit
theorem results_ct {P : Program} {fn : Func} {p u : Tmp} {ty : TypeId} (h : fn.results = #[.cell p ty, .tmp u]) (tmps : Array Value) (w : World) (g : Nat) (t : TypeId) (cs : Array Value) (fr : Nat × Nat) (d : TypeDesc)
    (hp : tmps.getD p undef = .pointer (some ⟨g, 0, none⟩)) (hg : w.heap[g]? = some (.cells cs t fr))
    (hu : P.underlying ty = some d) (hd : (match d with | .struct _ | .array _ _ => true | _ => false) = true) (hi : (P.info? ty).map (·.size) = some cs.size) :
    (results fn tmps).run P w = .ok (.tuple #[.agg cs, tmps.getD u undef]) w := by
  rw [results_cell_tmp h, hp]
  simp [asAddr, run_loadVar_row w g t ty cs fr d hg hu hd hi, Result.andThen]
end Go.Own
namespace Go.Proofs.YtipkicijfedfoaaDoor
set_option linter.unusedVariables false
open Go.RowKit Go.Own Go.Quo Go.Inc
def zeroIc : Ic := ⟨0, 0, ⟨#[]⟩, [], 0, 0, [], [], 0, false⟩
def fromI (id : Int) (c : Cr) : Ic := ⟨id, c.urg, c.code, c.nodes, c.dist, c.since, [c.call], [], 0, false⟩
def IncPost (x : Ic) (err : Int) (w : World) (e : Ending) (w' : World) : Prop := ∃ An Ac Au cn cc cu, e = .returned (.tuple #[icV x An Ac Au cn cc cu, .int .i64 err]) ∧
  w'.ownsRow w.heap.size 3 1 (.slice An x.nodes.length cn) x.nodes.length (x.nodes.map (Value.int .i64)) ∧ w'.ownsRow w.heap.size 2 1 (.slice Ac x.calls.length cc) x.calls.length (x.calls.map (Value.int .i64)) ∧ w'.ownsRow w.heap.size 3 1 (.slice Au x.units.length cu) x.units.length (x.units.map (Value.int .i64)) ∧ Below w.heap.size w w'
theorem ten_one {v0 v1 v2 v3 v4 v5 v6 v7 v8 v9 : Value} (h : v0.oneCell' = true ∧ v1.oneCell' = true ∧ v2.oneCell' = true ∧ v3.oneCell' = true ∧ v4.oneCell' = true ∧ v5.oneCell' = true ∧ v6.oneCell' = true ∧ v7.oneCell' = true ∧ v8.oneCell' = true ∧ v9.oneCell' = true) : ∀ u ∈ (#[v0, v1, v2, v3, v4, v5, v6, v7, v8, v9] : Array Value).toList, u.oneCell' = true := by
  intro u hu
  simp at hu
  obtain ⟨h0, h1, h2, h3, h4, h5, h6, h7, h8, h9⟩ := h
  rcases hu with rfl | rfl | rfl | rfl | rfl | rfl | rfl | rfl | rfl | rfl <;> assumption
set_option maxRecDepth 10000 in
set_option maxHeartbeats 4000000 in
theorem from12 (B : Nat → Prop) (id call inc urg dist since : Int) (code : ByteArray) (A : Option Addr) (c : Nat) (nodes : List Int) (closed : Bool) (w : World) (hs : code.size ≤ 100000) (h : RI w B A nodes) (hl : nodes.length ≤ 100000) :
    Calls Tryd.prog 12 #[.int .i64 id, .agg #[.int .i64 call, .int .i64 inc, .int .i64 urg, .string code, .slice A nodes.length c, .int .i64 dist, .int .i64 since, .bool closed]] w
      (if (numB id 1 && crB ⟨call, inc, urg, code, nodes, dist, since, closed⟩) = true then IncPost (fromI id ⟨call, inc, urg, code, nodes, dist, since, closed⟩) 0 w else IncPost zeroIc 1 w) := by
  have H30 := Lib.hid fun W => isNum id W
  have HR := Lib.hid ((h.old (by omega)).more (B' := fun k => k < w.heap.size) (fun k hk => hk.2))
  have H31 := Lib.hid fun (W : World) (hb : Below w.heap.size w W) => validCall31 _ call inc urg dist since code A c nodes closed W hs (HR.out.below hb (fun k hk => hk)) hl
  obtain ⟨x0, x1, x2⟩ := (Blk.new w 27 #[.int .i64 call, .int .i64 inc, .int .i64 urg, .string code, .slice A nodes.length c, .int .i64 dist, .int .i64 since, .bool closed]).facts
  have HB0 := Lib.hid (((Below.refl w.heap.size w).alloc (Nat.le_refl _) (.cells #[.int .i64 call, .int .i64 inc, .int .i64 urg, .string code, .slice A nodes.length c, .int .i64 dist, .int .i64 since, .bool closed] 27)).alloc (by simp) (.cells #[.int .i64 0, .int .i64 0, .string ⟨#[]⟩, .slice none 0 0, .int .i64 0, .int .i64 0, .slice none 0 0, .slice none 0 0, .int .i64 0, .bool false] 25))
  have HX := Lib.hid ((Blk.new w 27 #[.int .i64 call, .int .i64 inc, .int .i64 urg, .string code, .slice A nodes.length c, .int .i64 dist, .int .i64 since, .bool closed]).alloc (.cells #[.int .i64 0, .int .i64 0, .string ⟨#[]⟩, .slice none 0 0, .int .i64 0, .int .i64 0, .slice none 0 0, .slice none 0 0, .int .i64 0, .bool false] 25))
  have HY := Lib.hid (show Blk ((w.alloc (.cells #[.int .i64 call, .int .i64 inc, .int .i64 urg, .string code, .slice A nodes.length c, .int .i64 dist, .int .i64 since, .bool closed] 27)).alloc (.cells #[.int .i64 0, .int .i64 0, .string ⟨#[]⟩, .slice none 0 0, .int .i64 0, .int .i64 0, .slice none 0 0, .slice none 0 0, .int .i64 0, .bool false] 25)) (w.heap.size + 1) 25 #[.int .i64 0, .int .i64 0, .string ⟨#[]⟩, .slice none 0 0, .int .i64 0, .int .i64 0, .slice none 0 0, .slice none 0 0, .int .i64 0, .bool false] by
    have := Blk.new (w.alloc (.cells #[.int .i64 call, .int .i64 inc, .int .i64 urg, .string code, .slice A nodes.length c, .int .i64 dist, .int .i64 since, .bool closed] 27)) 25 #[.int .i64 0, .int .i64 0, .string ⟨#[]⟩, .slice none 0 0, .int .i64 0, .int .i64 0, .slice none 0 0, .slice none 0 0, .int .i64 0, .bool false]
    simpa using this)
  clear h
  cases h0 : numB id 1 with
  | false =>
    rw [h0] at H30
    rw [if_neg (by simp)]
    go_enter Tryd.func12, Tryd.ntmps12
    go_wp2_with (go_at_call 30; ((with_reducible refine (H30.out _).mono ?_); rintro e w2 ⟨rfl, rfl⟩))
    refine bodyPost_ret (results_ct (p := 4) (u := 5) (ty := 25) Tryd.results12 _ _ (w.heap.size + 1) 25 #[.int .i64 0, .int .i64 0, .string ⟨#[]⟩, .slice none 0 0, .int .i64 0, .int .i64 0, .slice none 0 0, .slice none 0 0, .int .i64 0, .bool false] (0, 0) _ rfl HY.out Tryd.underlying25 rfl size25) rfl ?_
    exact ⟨none, none, none, 0, 0, 0, rfl, World.ownsRow_nil _ _ _ _, World.ownsRow_nil _ _ _ _, World.ownsRow_nil _ _ _ _, HB0.out⟩
  | true =>
    rw [h0] at H30
    cases h1 : crB ⟨call, inc, urg, code, nodes, dist, since, closed⟩ with
    | false =>
      rw [h1] at H31
      rw [if_neg (by simp)]
      go_enter Tryd.func12, Tryd.ntmps12
      go_wp2_with (first | (go_at_call 30; ((with_reducible refine (H30.out _).mono ?_); rintro e w2 ⟨rfl, rfl⟩)) | (go_at_call 31; ((with_reducible refine (H31.out _ HB0.out).mono ?_); rintro e w2 ⟨rfl, hb2⟩; have HY2 := Lib.hid (HY.out.below hb2 HY.out.lt); have HB2 := Lib.hid (HB0.out.trans (hb2.mono HB0.out.size)))) | (refine wpList_storeBlk rfl (.tmp 4) (.tmp 15) 25 rfl (w.heap.size + 1) 25 _ #[.int .i64 0, .int .i64 0, .string ⟨#[]⟩, .slice none 0 0, .int .i64 0, .int .i64 0, .slice none 0 0, .slice none 0 0, .int .i64 0, .bool false] _ 10 136 info25 rfl rfl rfl HY2.out rfl (ten_one (by simp [Value.oneCell'])) ?_; intro w8 hb8 hf8 hs8))
      refine bodyPost_ret (results_ct (p := 4) (u := 5) (ty := 25) Tryd.results12 _ _ (w.heap.size + 1) 25 #[.int .i64 0, .int .i64 0, .string ⟨#[]⟩, .slice none 0 0, .int .i64 0, .int .i64 0, .slice none 0 0, .slice none 0 0, .int .i64 0, .bool false] (0, 0) _ rfl hb8 Tryd.underlying25 rfl size25) rfl ?_
      exact ⟨none, none, none, 0, 0, 0, rfl, World.ownsRow_nil _ _ _ _, World.ownsRow_nil _ _ _ _, World.ownsRow_nil _ _ _ _, HB2.out.trans (hf8.below HB2.out.size (fun k hk e => by omega))⟩
    | true =>
      rw [h1] at H31
      rw [if_pos (by simp)]
      have HF := Lib.hid fun (p : Nat) (W : World) (hp : Blk W p 25 #[.int .i64 id, .int .i64 0, .string ⟨#[]⟩, .slice none 0 0, .int .i64 dist, .int .i64 0, .slice none 0 0, .slice none 0 0, .int .i64 0, .bool false]) (hb : Below w.heap.size w W) (hpn : w.heap.size ≤ p) => first32 _ p (.int .i64 id) (.int .i64 0) (.string ⟨#[]⟩) (.slice none 0 0) (.int .i64 dist) (.int .i64 0) (.slice none 0 0) (.slice none 0 0) (.int .i64 0) (.bool false) call inc urg dist since code A c nodes closed W hp (HR.out.below hb (fun k hk => hk)) (fun k hk => by omega) hl
      go_enter Tryd.func12, Tryd.ntmps12
      go_upto_region 4 with (first | (go_at_call 30; ((with_reducible refine (H30.out _).mono ?_); rintro e w2 ⟨rfl, rfl⟩)) | (go_at_call 31; ((with_reducible refine (H31.out _ HB0.out).mono ?_); rintro e w2 ⟨rfl, hb2⟩; have HY2 := Lib.hid (HY.out.below hb2 HY.out.lt); have HX2 := Lib.hid (HX.out.below hb2 HX.out.lt); have HB2 := Lib.hid (HB0.out.trans (hb2.mono HB0.out.size)); have hs2 := Lib.hid hb2.size; clear hb2 x0 x1 x2; obtain ⟨x0, x1, x2⟩ := HX2.out.facts)))
      have hs2' := hs2.out
      have hsz : w.heap.size + 2 ≤ w2.heap.size := by simp at hs2'; omega
      clear hs2'
      have HP3 := Lib.hid (Blk.new w2 25 #[.int .i64 id, .int .i64 0, .string ⟨#[]⟩, .slice none 0 0, .int .i64 dist, .int .i64 0, .slice none 0 0, .slice none 0 0, .int .i64 0, .bool false])
      have HY3 := Lib.hid (HY2.out.alloc (.cells #[.int .i64 id, .int .i64 0, .string ⟨#[]⟩, .slice none 0 0, .int .i64 dist, .int .i64 0, .slice none 0 0, .slice none 0 0, .int .i64 0, .bool false] 25))
      have HX3 := Lib.hid (HX2.out.alloc (.cells #[.int .i64 id, .int .i64 0, .string ⟨#[]⟩, .slice none 0 0, .int .i64 dist, .int .i64 0, .slice none 0 0, .slice none 0 0, .int .i64 0, .bool false] 25))
      have HB3 := Lib.hid (HB2.out.alloc HB2.out.size (.cells #[.int .i64 id, .int .i64 0, .string ⟨#[]⟩, .slice none 0 0, .int .i64 dist, .int .i64 0, .slice none 0 0, .slice none 0 0, .int .i64 0, .bool false] 25))
      have HP := Lib.hid (HF.out w2.heap.size _ HP3.out HB3.out (by omega))
      clear x0 x1 x2
      obtain ⟨x0, x1, x2⟩ := HX3.out.facts
      have HS3 := Lib.hid (show w2.heap.size + 1 = (w2.alloc (.cells #[.int .i64 id, .int .i64 0, .string ⟨#[]⟩, .slice none 0 0, .int .i64 dist, .int .i64 0, .slice none 0 0, .slice none 0 0, .int .i64 0, .bool false] 25)).heap.size by simp)
      generalize w2.alloc _ = W3 at *
      obtain ⟨p, hp⟩ : ∃ p, p = w2.heap.size := ⟨_, rfl⟩
      rw [← hp] at HP hsz HS3 ⊢
      clear hp HP3 HY2 HX2 HB2 hs2
      go_wp2_with (first | (go_at_call 32; ((with_reducible refine HP.out.mono ?_); rintro e w5 ⟨A3, c3, A4, rfl, hp5, hn5, hc5, hf5⟩; have HP5 := Lib.hid hp5; have HN5 := Lib.hid hn5; have HC5 := Lib.hid hc5; have HY5 := Lib.hid (HY3.out.fr hf5 (by omega)); have HB5 := Lib.hid (HB3.out.trans (hf5.below HB3.out.size (fun k hk e => by omega))); clear hn5 hc5 hf5 x0 x1 x2; obtain ⟨z0, z1, z2⟩ := hp5.facts; clear hp5)) | (refine wpList_storeBlk rfl (.tmp 4) (.tmp 22) 25 rfl (w.heap.size + 1) 25 _ #[.int .i64 id, .int .i64 urg, .string code, .slice A3 nodes.length c3, .int .i64 dist, .int .i64 since, .slice A4 1 1, .slice none 0 0, .int .i64 0, .bool false] _ 10 136 info25 rfl rfl rfl HY5.out rfl (ten_one (by simp [Value.oneCell'])) ?_; intro w8 hb8 hf8 hs8))
      refine bodyPost_ret (results_ct (p := 4) (u := 5) (ty := 25) Tryd.results12 _ _ (w.heap.size + 1) 25 #[.int .i64 id, .int .i64 urg, .string code, .slice A3 nodes.length c3, .int .i64 dist, .int .i64 since, .slice A4 1 1, .slice none 0 0, .int .i64 0, .bool false] (0, 0) _ rfl hb8 Tryd.underlying25 rfl size25) rfl ?_
      have hsW := HS3.out
      refine ⟨A3, A4, none, c3, 1, 0, rfl, ?_, ?_, World.ownsRow_nil _ _ _ _, ?_⟩
      · exact World.ownsRow.mono (own_fr HN5.out hf8 (fun g hg e => by have := (HN5.out.lt g hg).1; omega)) (by omega)
      · exact World.ownsRow.mono (own_fr HC5.out hf8 (fun g hg e => by have := (HC5.out.lt g hg).1; omega)) (by omega)
      · exact HB5.out.trans (hf8.below HB5.out.size (fun k hk e => by omega))
end Go.Proofs.YtipkicijfedfoaaDoor

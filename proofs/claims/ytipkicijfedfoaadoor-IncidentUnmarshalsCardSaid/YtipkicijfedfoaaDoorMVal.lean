import Derived.Test.YtipkicijfedfoaaDoorMAlv2
import Derived.Test.YtipkicijfedfoaaDoorMRs2
import Derived.Test.YtipkicijfedfoaaDoorMRof
import Derived.Test.YtipkicijfedfoaaDoorMGG
namespace Go.Proofs.YtipkicijfedfoaaDoor
set_option linter.unusedVariables false
set_option linter.unusedSimpArgs false
open Go.RowKit Go.Own Go.Quo Go.Inc Go.Wire
def LawPost (w : World) (e : Ending) (w' : World) : Prop := e = .returned (.bool true) ∧ Below w.heap.size w w'
def frI (id : Int) (c : Cr) : Ic × Int := if (numB id 1 && crB c) = true then (fromI id c, 0) else (zeroIc, 1)
theorem frI_post (id : Int) (c : Cr) (w : World) : (if (numB id 1 && crB c) = true then IncPost (fromI id c) 0 w else IncPost zeroIc 1 w) = IncPost (frI id c).1 (frI id c).2 w := by
  unfold frI
  split <;> rfl
theorem inR_inc {l : List Int} {lo hi : Int} (h : incB l lo hi = true) (h0 : -9223372036854775808 ≤ lo) (h1 : hi < 9223372036854775808) : InR l := fun n hn => by
  have := (incB_pw.1 h).2 n hn
  omega
theorem icS_zero : IcS zeroIc := by
  refine ⟨?_, ?_, ?_, ?_, ?_, ?_, ?_, ?_, ?_, ?_, ?_, ?_⟩ <;> first | exact ⟨by decide, by decide⟩ | (intro x hx; cases hx) | decide
theorem codeB_le {s : ByteArray} (h : codeB s = true) : s.size ≤ 40 := by
  unfold codeB at h
  simp at h
  exact h.1.2
theorem icS_from {id : Int} {c : Cr} (h : (numB id 1 && crB c) = true) (hl : c.nodes.length ≤ 1000) : IcS (fromI id c) := by
  unfold numB crB numB reportB maxT at h
  simp at h
  obtain ⟨⟨a1, a2⟩, ⟨⟨a3, a4⟩, -, -⟩, ⟨⟨⟨⟨⟨⟨⟨⟨b1, b2⟩, b3⟩, b4⟩, b5⟩, b6⟩, b7⟩, b8⟩, b9⟩⟩ := h
  have := codeB_le b3
  refine ⟨⟨by show _ ≤ id; omega, by show id < _; omega⟩, ⟨by show _ ≤ c.urg; omega, by show c.urg < _; omega⟩, by show c.code.size ≤ 1000; omega, inR_inc b5 (by decide) (by decide), hl, ⟨by show _ ≤ c.dist; omega, by show c.dist < _; omega⟩, ⟨by show _ ≤ c.since; omega, by show c.since < _; omega⟩, ?_, by show 1 ≤ 1000; decide, ?_, by show 0 ≤ 1000; decide, ⟨by show _ ≤ (0 : Int); decide, by show (0 : Int) < _; decide⟩⟩
  · intro x hx
    have : x = c.call := by simpa [fromI] using hx
    omega
  · intro x hx; cases hx
theorem icS_fr {id : Int} {c : Cr} (hl : c.nodes.length ≤ 1000) : IcS (frI id c).1 := by
  unfold frI
  split
  · next h => exact icS_from h hl
  · exact icS_zero
set_option maxRecDepth 10000 in
set_option maxHeartbeats 16000000 in
theorem validates3 (B : Nat → Prop) (id urg dist since merged : Int) (code : ByteArray) (nodes calls units : List Int) (An Ac Au : Option Addr) (cn cc cu : Nat) (closed : Bool)
    (nid call inc urgt distt sincet : Int) (codet : ByteArray) (nodest : List Int) (At : Option Addr) (ct : Nat) (closedt : Bool) (w : World) (ht : Tab w)
    (hn : RI w B An nodes) (hc : RI w B Ac calls) (hu : RI w B Au units) (h : RI w B At nodest) :
    Calls Tryd.prog 3 #[.agg #[.int .i64 id, .int .i64 urg, .string code, .slice An nodes.length cn, .int .i64 dist, .int .i64 since, .slice Ac calls.length cc, .slice Au units.length cu, .int .i64 merged, .bool closed], .int .i64 nid, .agg #[.int .i64 call, .int .i64 inc, .int .i64 urgt, .string codet, .slice At nodest.length ct, .int .i64 distt, .int .i64 sincet, .bool closedt]] w (LawPost w) := by
  have HN := Lib.hid ((hn.old (by omega)).more (B' := fun k => k < w.heap.size) (fun k hk => hk.2))
  have HCa := Lib.hid ((hc.old (by omega)).more (B' := fun k => k < w.heap.size) (fun k hk => hk.2))
  have HU := Lib.hid ((hu.old (by omega)).more (B' := fun k => k < w.heap.size) (fun k hk => hk.2))
  have HR := Lib.hid ((h.old (by omega)).more (B' := fun k => k < w.heap.size) (fun k hk => hk.2))
  have HT := Lib.hid ht
  have H9 := Lib.hid fun (W : World) (hb : Below w.heap.size w W) => alive9 W (Tab.below HT.out hb HT.out.lt)
  have H10 := Lib.hid fun (W : World) => small10 id urg dist since merged code An Ac Au nodes.length calls.length units.length cn cc cu closed W
  have H11 := Lib.hid fun (W : World) => smallTold11 call inc urgt distt sincet codet At nodest.length ct closedt W
  have HB := Lib.hid (((Below.refl w.heap.size w).alloc (Nat.le_refl _) (.cells #[.int .i64 id, .int .i64 urg, .string code, .slice An nodes.length cn, .int .i64 dist, .int .i64 since, .slice Ac calls.length cc, .slice Au units.length cu, .int .i64 merged, .bool closed] 25)).alloc (by simp) (.cells #[.int .i64 call, .int .i64 inc, .int .i64 urgt, .string codet, .slice At nodest.length ct, .int .i64 distt, .int .i64 sincet, .bool closedt] 27))
  have HX := Lib.hid ((Blk.new w 25 #[.int .i64 id, .int .i64 urg, .string code, .slice An nodes.length cn, .int .i64 dist, .int .i64 since, .slice Ac calls.length cc, .slice Au units.length cu, .int .i64 merged, .bool closed]).alloc (.cells #[.int .i64 call, .int .i64 inc, .int .i64 urgt, .string codet, .slice At nodest.length ct, .int .i64 distt, .int .i64 sincet, .bool closedt] 27))
  have HC := Lib.hid (show Blk ((w.alloc (.cells #[.int .i64 id, .int .i64 urg, .string code, .slice An nodes.length cn, .int .i64 dist, .int .i64 since, .slice Ac calls.length cc, .slice Au units.length cu, .int .i64 merged, .bool closed] 25)).alloc (.cells #[.int .i64 call, .int .i64 inc, .int .i64 urgt, .string codet, .slice At nodest.length ct, .int .i64 distt, .int .i64 sincet, .bool closedt] 27)) (w.heap.size + 1) 27 #[.int .i64 call, .int .i64 inc, .int .i64 urgt, .string codet, .slice At nodest.length ct, .int .i64 distt, .int .i64 sincet, .bool closedt] by
    have := Blk.new (w.alloc (.cells #[.int .i64 id, .int .i64 urg, .string code, .slice An nodes.length cn, .int .i64 dist, .int .i64 since, .slice Ac calls.length cc, .slice Au units.length cu, .int .i64 merged, .bool closed] 25)) 27 #[.int .i64 call, .int .i64 inc, .int .i64 urgt, .string codet, .slice At nodest.length ct, .int .i64 distt, .int .i64 sincet, .bool closedt]
    simpa using this)
  obtain ⟨x0, x1, x2⟩ := HX.out.facts
  obtain ⟨y0, y1, y2⟩ := HC.out.facts
  clear hn hc hu h ht
  cases h0 : (decide (nodes.length ≤ 60) && decide (calls.length ≤ 60) && decide (units.length ≤ 60) && decide (code.size ≤ 100)) with
  | false =>
    rw [h0] at H10
    clear h0
    go_enter Tryd.func3, Tryd.ntmps3
    go_wp2_with (first | (go_at_call 9; ((with_reducible refine (H9.out _ HB.out).mono ?_); rintro e w2 ⟨rfl, hb⟩; have HX := Lib.hid (HX.out.below hb HX.out.lt); have HC := Lib.hid (HC.out.below hb HC.out.lt); have HB := Lib.hid (HB.out.trans (hb.mono HB.out.size)); clear x0 x1 x2 y0 y1 y2; obtain ⟨x0, x1, x2⟩ := HX.out.facts; obtain ⟨y0, y1, y2⟩ := HC.out.facts; clear hb)) | (go_at_call 10; ((with_reducible refine (H10.out _).mono ?_); rintro e w3 ⟨rfl, hb⟩; have HX := Lib.hid (HX.out.below hb HX.out.lt); have HC := Lib.hid (HC.out.below hb HC.out.lt); have HB := Lib.hid (HB.out.trans (hb.mono HB.out.size)); clear x0 x1 x2 y0 y1 y2; obtain ⟨x0, x1, x2⟩ := HX.out.facts; obtain ⟨y0, y1, y2⟩ := HC.out.facts; clear hb)) | (go_at_call 11; ((with_reducible refine (H11.out _).mono ?_); rintro e w4 ⟨rfl, hb⟩; have HX := Lib.hid (HX.out.below hb HX.out.lt); have HC := Lib.hid (HC.out.below hb HC.out.lt); have HB := Lib.hid (HB.out.trans (hb.mono HB.out.size)); clear x0 x1 x2 y0 y1 y2; obtain ⟨x0, x1, x2⟩ := HX.out.facts; obtain ⟨y0, y1, y2⟩ := HC.out.facts; clear hb)))
    go_ret
    exact ⟨rfl, HB.out⟩
  | true =>
    rw [h0] at H10
    cases h1 : (decide (nodest.length ≤ 60) && decide (codet.size ≤ 100)) with
    | false =>
      rw [h1] at H11
      clear h0 h1
      go_enter Tryd.func3, Tryd.ntmps3
      go_wp2_with (first | (go_at_call 9; ((with_reducible refine (H9.out _ HB.out).mono ?_); rintro e w2 ⟨rfl, hb⟩; have HX := Lib.hid (HX.out.below hb HX.out.lt); have HC := Lib.hid (HC.out.below hb HC.out.lt); have HB := Lib.hid (HB.out.trans (hb.mono HB.out.size)); clear x0 x1 x2 y0 y1 y2; obtain ⟨x0, x1, x2⟩ := HX.out.facts; obtain ⟨y0, y1, y2⟩ := HC.out.facts; clear hb)) | (go_at_call 10; ((with_reducible refine (H10.out _).mono ?_); rintro e w3 ⟨rfl, hb⟩; have HX := Lib.hid (HX.out.below hb HX.out.lt); have HC := Lib.hid (HC.out.below hb HC.out.lt); have HB := Lib.hid (HB.out.trans (hb.mono HB.out.size)); clear x0 x1 x2 y0 y1 y2; obtain ⟨x0, x1, x2⟩ := HX.out.facts; obtain ⟨y0, y1, y2⟩ := HC.out.facts; clear hb)) | (go_at_call 11; ((with_reducible refine (H11.out _).mono ?_); rintro e w4 ⟨rfl, hb⟩; have HX := Lib.hid (HX.out.below hb HX.out.lt); have HC := Lib.hid (HC.out.below hb HC.out.lt); have HB := Lib.hid (HB.out.trans (hb.mono HB.out.size)); clear x0 x1 x2 y0 y1 y2; obtain ⟨x0, x1, x2⟩ := HX.out.facts; obtain ⟨y0, y1, y2⟩ := HC.out.facts; clear hb)))
      go_ret
      exact ⟨rfl, HB.out⟩
    | true =>
      rw [h1] at H11
      simp only [Bool.and_eq_true, decide_eq_true_eq] at h0 h1
      obtain ⟨⟨⟨ln, lc⟩, lu⟩, ls⟩ := h0
      obtain ⟨lnt, lst⟩ := h1
      have H12 := Lib.hid fun (W : World) (hb : Below w.heap.size w W) => frI_post nid ⟨call, inc, urgt, codet, nodest, distt, sincet, closedt⟩ W ▸ from12 _ nid call inc urgt distt sincet codet At ct nodest closedt W (by omega) (HR.out.below hb (fun k hk => hk)) (by omega)
      have H13 := Lib.hid fun (W : World) (hb : Below w.heap.size w W) => frI_post nid ⟨call, inc, urgt, codet, nodest, distt, sincet, closedt⟩ W ▸ of13 _ nid call inc urgt distt sincet codet At ct nodest closedt W (by omega) (HR.out.below hb (fun k hk => hk)) (by omega)
      have H14 := Lib.hid fun (W : World) (hb : Below w.heap.size w W) => valid14 _ id urg dist since merged code An Ac Au cn cc cu nodes calls units closed W (by omega) (HN.out.below hb (fun k hk => hk)) (HCa.out.below hb (fun k hk => hk)) (HU.out.below hb (fun k hk => hk)) (by omega) (by omega) (by omega)
      have H15 := Lib.hid fun (W : World) (hb : Below w.heap.size w W) => right15 _ id urg dist since merged code An Ac Au cn cc cu nodes calls units closed W (by omega) (HN.out.below hb (fun k hk => hk)) (HCa.out.below hb (fun k hk => hk)) (HU.out.below hb (fun k hk => hk)) (by omega) (by omega) (by omega)
      have H16 := Lib.hid fun (W : World) => open16 id urg dist since merged code An Ac Au nodes.length calls.length units.length cn cc cu closed W
      have H17 := Lib.hid fun (W : World) => open17 id urg dist since merged code An Ac Au nodes.length calls.length units.length cn cc cu closed W
      have HSx := Lib.hid (icS_fr (id := nid) (c := ⟨call, inc, urgt, codet, nodest, distt, sincet, closedt⟩) (show nodest.length ≤ 1000 by omega))
      clear ln lc lu ls lnt lst
      generalize frI nid ⟨call, inc, urgt, codet, nodest, distt, sincet, closedt⟩ = fr at *
      obtain ⟨R, er⟩ := fr
      simp only at H12 H13 HSx
      have H18 := Lib.hid fun (W : World) (Any Acy Auy Anz Acz Auz : Option Addr) (cny ccy cuy cnz ccz cuz : Nat) (B' : Nat → Prop) (r1 : RI W B' Any R.nodes) (r2 : RI W B' Acy R.calls) (r3 : RI W B' Auy R.units) (r4 : RI W B' Anz R.nodes) (r5 : RI W B' Acz R.calls) (r6 : RI W B' Auz R.units) =>
        (show Calls Tryd.prog 18 #[.agg #[.int .i64 R.id, .int .i64 R.urg, .string R.code, .slice Any R.nodes.length cny, .int .i64 R.dist, .int .i64 R.since, .slice Acy R.calls.length ccy, .slice Auy R.units.length cuy, .int .i64 R.merged, .bool R.closed], .agg #[.int .i64 R.id, .int .i64 R.urg, .string R.code, .slice Anz R.nodes.length cnz, .int .i64 R.dist, .int .i64 R.since, .slice Acz R.calls.length ccz, .slice Auz R.units.length cuz, .int .i64 R.merged, .bool R.closed]] W (BoolB true W) from (same18 B' R.id R.urg R.dist R.since R.merged R.code R.nodes R.calls R.units Any Acy Auy cny ccy cuy R.closed R.id R.urg R.dist R.since R.merged R.code R.nodes R.calls R.units Anz Acz Auz cnz ccz cuz R.closed W r1 r2 r3 HSx.out r4 r5 r6 HSx.out).mono (fun e w' h => by rw [decide_eq_true rfl] at h; exact h))
      generalize icB ⟨id, urg, code, nodes, dist, since, calls, units, merged, closed⟩ = bv at *
      generalize (decide (merged = 0) && !closed) = bo at *
      go_enter Tryd.func3, Tryd.ntmps3
      go_upto_region 6 with (first | (go_at_call 9; ((with_reducible refine (H9.out _ HB.out).mono ?_); rintro e w2 ⟨rfl, hb⟩; have HX := Lib.hid (HX.out.below hb HX.out.lt); have HC := Lib.hid (HC.out.below hb HC.out.lt); have HB := Lib.hid (HB.out.trans (hb.mono HB.out.size)); clear x0 x1 x2 y0 y1 y2; obtain ⟨x0, x1, x2⟩ := HX.out.facts; obtain ⟨y0, y1, y2⟩ := HC.out.facts; clear hb)) | (go_at_call 10; ((with_reducible refine (H10.out _).mono ?_); rintro e w3 ⟨rfl, hb⟩; have HX := Lib.hid (HX.out.below hb HX.out.lt); have HC := Lib.hid (HC.out.below hb HC.out.lt); have HB := Lib.hid (HB.out.trans (hb.mono HB.out.size)); clear x0 x1 x2 y0 y1 y2; obtain ⟨x0, x1, x2⟩ := HX.out.facts; obtain ⟨y0, y1, y2⟩ := HC.out.facts; clear hb)) | (go_at_call 11; ((with_reducible refine (H11.out _).mono ?_); rintro e w4 ⟨rfl, hb⟩; have HX := Lib.hid (HX.out.below hb HX.out.lt); have HC := Lib.hid (HC.out.below hb HC.out.lt); have HB := Lib.hid (HB.out.trans (hb.mono HB.out.size)); clear x0 x1 x2 y0 y1 y2; obtain ⟨x0, x1, x2⟩ := HX.out.facts; obtain ⟨y0, y1, y2⟩ := HC.out.facts; clear hb)) | (go_at_call 12; ((with_reducible refine (H12.out _ HB.out).mono ?_); rintro e w5 ⟨Any, Acy, Auy, cny, ccy, cuy, rfl, hny, hcy, huy, hb⟩; have HNy := Lib.hid hny; have HCy := Lib.hid hcy; have HUy := Lib.hid huy; have HX := Lib.hid (HX.out.below hb HX.out.lt); have HC := Lib.hid (HC.out.below hb HC.out.lt); have HB := Lib.hid (HB.out.trans (hb.mono HB.out.size)); clear x0 x1 x2 y0 y1 y2; obtain ⟨x0, x1, x2⟩ := HX.out.facts; obtain ⟨y0, y1, y2⟩ := HC.out.facts; clear hb hny hcy huy)))
      have hs5 := HB.out.size
      have HPy := Lib.hid (Blk.new w5 25 #[.int .i64 R.id, .int .i64 R.urg, .string R.code, .slice Any R.nodes.length cny, .int .i64 R.dist, .int .i64 R.since, .slice Acy R.calls.length ccy, .slice Auy R.units.length cuy, .int .i64 R.merged, .bool R.closed])
      replace HX := Lib.hid (HX.out.alloc (.cells #[.int .i64 R.id, .int .i64 R.urg, .string R.code, .slice Any R.nodes.length cny, .int .i64 R.dist, .int .i64 R.since, .slice Acy R.calls.length ccy, .slice Auy R.units.length cuy, .int .i64 R.merged, .bool R.closed] 25))
      replace HC := Lib.hid (HC.out.alloc (.cells #[.int .i64 R.id, .int .i64 R.urg, .string R.code, .slice Any R.nodes.length cny, .int .i64 R.dist, .int .i64 R.since, .slice Acy R.calls.length ccy, .slice Auy R.units.length cuy, .int .i64 R.merged, .bool R.closed] 25))
      replace HNy := Lib.hid (HNy.out.alloc (.cells #[.int .i64 R.id, .int .i64 R.urg, .string R.code, .slice Any R.nodes.length cny, .int .i64 R.dist, .int .i64 R.since, .slice Acy R.calls.length ccy, .slice Auy R.units.length cuy, .int .i64 R.merged, .bool R.closed] 25))
      replace HCy := Lib.hid (HCy.out.alloc (.cells #[.int .i64 R.id, .int .i64 R.urg, .string R.code, .slice Any R.nodes.length cny, .int .i64 R.dist, .int .i64 R.since, .slice Acy R.calls.length ccy, .slice Auy R.units.length cuy, .int .i64 R.merged, .bool R.closed] 25))
      replace HUy := Lib.hid (HUy.out.alloc (.cells #[.int .i64 R.id, .int .i64 R.urg, .string R.code, .slice Any R.nodes.length cny, .int .i64 R.dist, .int .i64 R.since, .slice Acy R.calls.length ccy, .slice Auy R.units.length cuy, .int .i64 R.merged, .bool R.closed] 25))
      replace HB := Lib.hid (HB.out.alloc HB.out.size (.cells #[.int .i64 R.id, .int .i64 R.urg, .string R.code, .slice Any R.nodes.length cny, .int .i64 R.dist, .int .i64 R.since, .slice Acy R.calls.length ccy, .slice Auy R.units.length cuy, .int .i64 R.merged, .bool R.closed] 25))
      clear x0 x1 x2 y0 y1 y2
      generalize w5.alloc _ = W6 at *
      generalize w5.heap.size = p1 at *
      obtain ⟨x0, x1, x2⟩ := HX.out.facts
      obtain ⟨y0, y1, y2⟩ := HC.out.facts
      go_upto_region 7 with (go_at_call 13; ((with_reducible refine (H13.out _ HB.out).mono ?_); rintro e w7 ⟨Anz, Acz, Auz, cnz, ccz, cuz, rfl, hnz, hcz, huz, hb⟩; have HNz := Lib.hid (ri_own hnz); have HCz := Lib.hid (ri_own hcz); have HUz := Lib.hid (ri_own huz); replace HPy := Lib.hid (HPy.out.below hb HPy.out.lt); have HNy2 := Lib.hid (own_below HNy.out hb (fun g hg => (HNy.out.lt g hg).2)); have HCy2 := Lib.hid (own_below HCy.out hb (fun g hg => (HCy.out.lt g hg).2)); have HUy2 := Lib.hid (own_below HUy.out hb (fun g hg => (HUy.out.lt g hg).2)); have HX := Lib.hid (HX.out.below hb HX.out.lt); have HC := Lib.hid (HC.out.below hb HC.out.lt); have HB := Lib.hid (HB.out.trans (hb.mono HB.out.size)); clear x0 x1 x2 y0 y1 y2; obtain ⟨x0, x1, x2⟩ := HX.out.facts; obtain ⟨y0, y1, y2⟩ := HC.out.facts; clear hb hnz hcz huz))
      have HPz := Lib.hid (Blk.new w7 25 #[.int .i64 R.id, .int .i64 R.urg, .string R.code, .slice Anz R.nodes.length cnz, .int .i64 R.dist, .int .i64 R.since, .slice Acz R.calls.length ccz, .slice Auz R.units.length cuz, .int .i64 R.merged, .bool R.closed])
      replace HPy := Lib.hid (HPy.out.alloc (.cells #[.int .i64 R.id, .int .i64 R.urg, .string R.code, .slice Anz R.nodes.length cnz, .int .i64 R.dist, .int .i64 R.since, .slice Acz R.calls.length ccz, .slice Auz R.units.length cuz, .int .i64 R.merged, .bool R.closed] 25))
      replace HX := Lib.hid (HX.out.alloc (.cells #[.int .i64 R.id, .int .i64 R.urg, .string R.code, .slice Anz R.nodes.length cnz, .int .i64 R.dist, .int .i64 R.since, .slice Acz R.calls.length ccz, .slice Auz R.units.length cuz, .int .i64 R.merged, .bool R.closed] 25))
      have RNy := Lib.hid ((((ri_own HNy2.out).alloc (.cells #[.int .i64 R.id, .int .i64 R.urg, .string R.code, .slice Anz R.nodes.length cnz, .int .i64 R.dist, .int .i64 R.since, .slice Acz R.calls.length ccz, .slice Auz R.units.length cuz, .int .i64 R.merged, .bool R.closed] 25)).old (by omega)).more (B' := fun k => k < (w7.alloc (.cells #[.int .i64 R.id, .int .i64 R.urg, .string R.code, .slice Anz R.nodes.length cnz, .int .i64 R.dist, .int .i64 R.since, .slice Acz R.calls.length ccz, .slice Auz R.units.length cuz, .int .i64 R.merged, .bool R.closed] 25)).heap.size) (fun k hk => hk.2))
      have RCy := Lib.hid ((((ri_own HCy2.out).alloc (.cells #[.int .i64 R.id, .int .i64 R.urg, .string R.code, .slice Anz R.nodes.length cnz, .int .i64 R.dist, .int .i64 R.since, .slice Acz R.calls.length ccz, .slice Auz R.units.length cuz, .int .i64 R.merged, .bool R.closed] 25)).old (by omega)).more (B' := fun k => k < (w7.alloc (.cells #[.int .i64 R.id, .int .i64 R.urg, .string R.code, .slice Anz R.nodes.length cnz, .int .i64 R.dist, .int .i64 R.since, .slice Acz R.calls.length ccz, .slice Auz R.units.length cuz, .int .i64 R.merged, .bool R.closed] 25)).heap.size) (fun k hk => hk.2))
      have RUy := Lib.hid ((((ri_own HUy2.out).alloc (.cells #[.int .i64 R.id, .int .i64 R.urg, .string R.code, .slice Anz R.nodes.length cnz, .int .i64 R.dist, .int .i64 R.since, .slice Acz R.calls.length ccz, .slice Auz R.units.length cuz, .int .i64 R.merged, .bool R.closed] 25)).old (by omega)).more (B' := fun k => k < (w7.alloc (.cells #[.int .i64 R.id, .int .i64 R.urg, .string R.code, .slice Anz R.nodes.length cnz, .int .i64 R.dist, .int .i64 R.since, .slice Acz R.calls.length ccz, .slice Auz R.units.length cuz, .int .i64 R.merged, .bool R.closed] 25)).heap.size) (fun k hk => hk.2))
      have RNz := Lib.hid (((HNz.out.alloc (.cells #[.int .i64 R.id, .int .i64 R.urg, .string R.code, .slice Anz R.nodes.length cnz, .int .i64 R.dist, .int .i64 R.since, .slice Acz R.calls.length ccz, .slice Auz R.units.length cuz, .int .i64 R.merged, .bool R.closed] 25)).old (by omega)).more (B' := fun k => k < (w7.alloc (.cells #[.int .i64 R.id, .int .i64 R.urg, .string R.code, .slice Anz R.nodes.length cnz, .int .i64 R.dist, .int .i64 R.since, .slice Acz R.calls.length ccz, .slice Auz R.units.length cuz, .int .i64 R.merged, .bool R.closed] 25)).heap.size) (fun k hk => hk.2))
      have RCz := Lib.hid (((HCz.out.alloc (.cells #[.int .i64 R.id, .int .i64 R.urg, .string R.code, .slice Anz R.nodes.length cnz, .int .i64 R.dist, .int .i64 R.since, .slice Acz R.calls.length ccz, .slice Auz R.units.length cuz, .int .i64 R.merged, .bool R.closed] 25)).old (by omega)).more (B' := fun k => k < (w7.alloc (.cells #[.int .i64 R.id, .int .i64 R.urg, .string R.code, .slice Anz R.nodes.length cnz, .int .i64 R.dist, .int .i64 R.since, .slice Acz R.calls.length ccz, .slice Auz R.units.length cuz, .int .i64 R.merged, .bool R.closed] 25)).heap.size) (fun k hk => hk.2))
      have RUz := Lib.hid (((HUz.out.alloc (.cells #[.int .i64 R.id, .int .i64 R.urg, .string R.code, .slice Anz R.nodes.length cnz, .int .i64 R.dist, .int .i64 R.since, .slice Acz R.calls.length ccz, .slice Auz R.units.length cuz, .int .i64 R.merged, .bool R.closed] 25)).old (by omega)).more (B' := fun k => k < (w7.alloc (.cells #[.int .i64 R.id, .int .i64 R.urg, .string R.code, .slice Anz R.nodes.length cnz, .int .i64 R.dist, .int .i64 R.since, .slice Acz R.calls.length ccz, .slice Auz R.units.length cuz, .int .i64 R.merged, .bool R.closed] 25)).heap.size) (fun k hk => hk.2))
      replace HB := Lib.hid (HB.out.alloc HB.out.size (.cells #[.int .i64 R.id, .int .i64 R.urg, .string R.code, .slice Anz R.nodes.length cnz, .int .i64 R.dist, .int .i64 R.since, .slice Acz R.calls.length ccz, .slice Auz R.units.length cuz, .int .i64 R.merged, .bool R.closed] 25))
      clear x0 x1 x2 y0 y1 y2 HC HNy HCy HUy HNy2 HCy2 HUy2 HNz HCz HUz H9 H10 H11 H12 H13 HN HCa HU HR
      generalize w7.alloc _ = W8 at *
      generalize w7.heap.size = p2 at *
      have HK := Lib.hid fun (W' : World) (hb : Below W8.heap.size W8 W') => (show (W'.cell? ⟨w.heap.size, 0, none⟩ = some (.int .i64 id) ∧ W'.cell? ⟨w.heap.size, 1, none⟩ = some (.int .i64 urg) ∧ W'.cell? ⟨w.heap.size, 2, none⟩ = some (.string code) ∧ W'.cell? ⟨w.heap.size, 3, none⟩ = some (.slice An nodes.length cn) ∧ W'.cell? ⟨w.heap.size, 4, none⟩ = some (.int .i64 dist) ∧ W'.cell? ⟨w.heap.size, 5, none⟩ = some (.int .i64 since) ∧ W'.cell? ⟨w.heap.size, 6, none⟩ = some (.slice Ac calls.length cc) ∧ W'.cell? ⟨w.heap.size, 7, none⟩ = some (.slice Au units.length cu) ∧ W'.cell? ⟨w.heap.size, 8, none⟩ = some (.int .i64 merged) ∧ W'.cell? ⟨w.heap.size, 9, none⟩ = some (.bool closed)) ∧ (W'.cell? ⟨p1, 0, none⟩ = some (.int .i64 R.id) ∧ W'.cell? ⟨p1, 1, none⟩ = some (.int .i64 R.urg) ∧ W'.cell? ⟨p1, 2, none⟩ = some (.string R.code) ∧ W'.cell? ⟨p1, 3, none⟩ = some (.slice Any R.nodes.length cny) ∧ W'.cell? ⟨p1, 4, none⟩ = some (.int .i64 R.dist) ∧ W'.cell? ⟨p1, 5, none⟩ = some (.int .i64 R.since) ∧ W'.cell? ⟨p1, 6, none⟩ = some (.slice Acy R.calls.length ccy) ∧ W'.cell? ⟨p1, 7, none⟩ = some (.slice Auy R.units.length cuy) ∧ W'.cell? ⟨p1, 8, none⟩ = some (.int .i64 R.merged) ∧ W'.cell? ⟨p1, 9, none⟩ = some (.bool R.closed)) ∧ (W'.cell? ⟨p2, 0, none⟩ = some (.int .i64 R.id) ∧ W'.cell? ⟨p2, 1, none⟩ = some (.int .i64 R.urg) ∧ W'.cell? ⟨p2, 2, none⟩ = some (.string R.code) ∧ W'.cell? ⟨p2, 3, none⟩ = some (.slice Anz R.nodes.length cnz) ∧ W'.cell? ⟨p2, 4, none⟩ = some (.int .i64 R.dist) ∧ W'.cell? ⟨p2, 5, none⟩ = some (.int .i64 R.since) ∧ W'.cell? ⟨p2, 6, none⟩ = some (.slice Acz R.calls.length ccz) ∧ W'.cell? ⟨p2, 7, none⟩ = some (.slice Auz R.units.length cuz) ∧ W'.cell? ⟨p2, 8, none⟩ = some (.int .i64 R.merged) ∧ W'.cell? ⟨p2, 9, none⟩ = some (.bool R.closed)) from ⟨reach_held (w := W8) (HX.out.below hb HX.out.lt), reach_held (w := W8) (HPy.out.below hb HPy.out.lt), reach_held (w := W8) (HPz.out.below hb HPz.out.lt)⟩)
      have K0 := HK.out _ (Below.refl _ W8).drew
      have HS := Lib.hid fun (W : World) (hb : Below W8.heap.size W8 W) => H18.out W Any Acy Auy Anz Acz Auz cny ccy cuy cnz ccz cuz _ (RNy.out.below hb (fun k hk => hk)) (RCy.out.below hb (fun k hk => hk)) (RUy.out.below hb (fun k hk => hk)) (RNz.out.below hb (fun k hk => hk)) (RCz.out.below hb (fun k hk => hk)) (RUz.out.below hb (fun k hk => hk))
      have hb8 := HB.out.size
      clear H18 HX HPy HPz RNy RCy RUy RNz RCz RUz
      go_region_held (fun w' => (w'.cell? ⟨w.heap.size, 0, none⟩ = some (.int .i64 id) ∧ w'.cell? ⟨w.heap.size, 1, none⟩ = some (.int .i64 urg) ∧ w'.cell? ⟨w.heap.size, 2, none⟩ = some (.string code) ∧ w'.cell? ⟨w.heap.size, 3, none⟩ = some (.slice An nodes.length cn) ∧ w'.cell? ⟨w.heap.size, 4, none⟩ = some (.int .i64 dist) ∧ w'.cell? ⟨w.heap.size, 5, none⟩ = some (.int .i64 since) ∧ w'.cell? ⟨w.heap.size, 6, none⟩ = some (.slice Ac calls.length cc) ∧ w'.cell? ⟨w.heap.size, 7, none⟩ = some (.slice Au units.length cu) ∧ w'.cell? ⟨w.heap.size, 8, none⟩ = some (.int .i64 merged) ∧ w'.cell? ⟨w.heap.size, 9, none⟩ = some (.bool closed)) ∧ (w'.cell? ⟨p1, 0, none⟩ = some (.int .i64 R.id) ∧ w'.cell? ⟨p1, 1, none⟩ = some (.int .i64 R.urg) ∧ w'.cell? ⟨p1, 2, none⟩ = some (.string R.code) ∧ w'.cell? ⟨p1, 3, none⟩ = some (.slice Any R.nodes.length cny) ∧ w'.cell? ⟨p1, 4, none⟩ = some (.int .i64 R.dist) ∧ w'.cell? ⟨p1, 5, none⟩ = some (.int .i64 R.since) ∧ w'.cell? ⟨p1, 6, none⟩ = some (.slice Acy R.calls.length ccy) ∧ w'.cell? ⟨p1, 7, none⟩ = some (.slice Auy R.units.length cuy) ∧ w'.cell? ⟨p1, 8, none⟩ = some (.int .i64 R.merged) ∧ w'.cell? ⟨p1, 9, none⟩ = some (.bool R.closed)) ∧ (w'.cell? ⟨p2, 0, none⟩ = some (.int .i64 R.id) ∧ w'.cell? ⟨p2, 1, none⟩ = some (.int .i64 R.urg) ∧ w'.cell? ⟨p2, 2, none⟩ = some (.string R.code) ∧ w'.cell? ⟨p2, 3, none⟩ = some (.slice Anz R.nodes.length cnz) ∧ w'.cell? ⟨p2, 4, none⟩ = some (.int .i64 R.dist) ∧ w'.cell? ⟨p2, 5, none⟩ = some (.int .i64 R.since) ∧ w'.cell? ⟨p2, 6, none⟩ = some (.slice Acz R.calls.length ccz) ∧ w'.cell? ⟨p2, 7, none⟩ = some (.slice Auz R.units.length cuz) ∧ w'.cell? ⟨p2, 8, none⟩ = some (.int .i64 R.merged) ∧ w'.cell? ⟨p2, 9, none⟩ = some (.bool R.closed))) (first | assumption | exact K0) (first
        | (go_at_call 14; ((with_reducible refine (H14.out _ (HB.out.drew)).mono ?_); rintro e v2 ⟨rfl, hb2⟩; have B2 := ((Below.refl W8.heap.size W8).drew).trans hb2; clear hb2; have KB2 := HK.out _ B2))
        | (go_at_call 15; ((with_reducible refine (H15.out _ (HB.out.trans (B2.mono hb8))).mono ?_); rintro e v3 ⟨rfl, hb3⟩; have B3 := B2.trans (hb3.mono B2.size); clear hb3; have KB3 := HK.out _ B3))
        | (go_at_call 16; ((with_reducible refine (H16.out _).mono ?_); rintro e v4 ⟨rfl, hb4⟩; have B4 := B3.trans (hb4.mono B3.size); clear hb4; have KB4 := HK.out _ B4))
        | (go_at_call 17; ((with_reducible refine (H17.out _).mono ?_); rintro e v5 ⟨rfl, hb5⟩; have B5 := B4.trans (hb5.mono B4.size); clear hb5; have KB5 := HK.out _ B5))
        | (go_at_call 18; ((with_reducible refine (HS.out _ B5).mono ?_); rintro e v6 ⟨rfl, hb6⟩; have B6 := B5.trans (hb6.mono B5.size); clear hb6; have KB6 := HK.out _ B6)))
      all_goals
        go_wp2_with fail
        go_ret
        exact ⟨by simp, HB.out.trans (B6.mono hb8)⟩
end Go.Proofs.YtipkicijfedfoaaDoor

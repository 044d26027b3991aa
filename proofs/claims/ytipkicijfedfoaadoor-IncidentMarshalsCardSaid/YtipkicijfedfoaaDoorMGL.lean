import Derived.Test.YtipkicijfedfoaaDoorMCln
import Derived.Deep.Onto
import Derived.Laws.ResultCell
import Derived.Deep.Cut
import Derived.Deep.CutBlock
import Derived.Deep.DeepCutAuto
namespace Go.Proofs.YtipkicijfedfoaaDoor
set_option linter.unusedVariables false
open Go.RowKit Go.Own Go.Quo Go.Inc
theorem ri_own {w : World} {base : Nat} {t : TypeId} {A : Option Addr} {c : Nat} {l : List Int} (h : w.ownsRow base t 1 (.slice A l.length c) l.length (l.map (Value.int .i64))) : RI w (fun k => base ≤ k) A l :=
  (Reads.of_own h).more (fun k hk => (h.lt k hk).1)
def FirstPost (p : Nat) (v0 v4 v7 v8 v9 : Value) (c : Cr) (w : World) (e : Ending) (w' : World) : Prop := ∃ An cn Ac, e = .returned (.tuple #[]) ∧
  Blk w' p 25 #[v0, .int .i64 c.urg, .string c.code, .slice An c.nodes.length cn, v4, .int .i64 c.since, .slice Ac 1 1, v7, v8, v9] ∧
  w'.ownsRow w.heap.size 3 1 (.slice An c.nodes.length cn) c.nodes.length (c.nodes.map (Value.int .i64)) ∧ w'.ownsRow w.heap.size 2 1 (.slice Ac 1 1) 1 [.int .i64 c.call] ∧ Fr (fun k => k = p) w w'
set_option maxRecDepth 10000 in
set_option maxHeartbeats 4000000 in
theorem first32 (B : Nat → Prop) (p : Nat) (v0 v1 v2 v3 v4 v5 v6 v7 v8 v9 : Value) (call inc urg dist since : Int) (code : ByteArray) (A : Option Addr) (c : Nat) (nodes : List Int) (closed : Bool) (w : World)
    (hp : Blk w p 25 #[v0, v1, v2, v3, v4, v5, v6, v7, v8, v9]) (h : RI w B A nodes) (hB : ∀ k, B k → k ≠ p) (hl : nodes.length ≤ 100000) :
    Calls Tryd.prog 32 #[.pointer (some ⟨p, 0, none⟩), .agg #[.int .i64 call, .int .i64 inc, .int .i64 urg, .string code, .slice A nodes.length c, .int .i64 dist, .int .i64 since, .bool closed]] w (FirstPost p v0 v4 v7 v8 v9 ⟨call, inc, urg, code, nodes, dist, since, closed⟩ w) := by
  have hpl := hp.lt
  have hpn : p ≠ w.heap.size := by omega
  obtain ⟨x0, x1, x2⟩ := (Blk.new w 27 #[.int .i64 call, .int .i64 inc, .int .i64 urg, .string code, .slice A nodes.length c, .int .i64 dist, .int .i64 since, .bool closed]).facts
  have HP := Lib.hid (((hp.set_ 1 (.int .i64 urg)).set_ 2 (.string code)).alloc (.cells #[.int .i64 call, .int .i64 inc, .int .i64 urg, .string code, .slice A nodes.length c, .int .i64 dist, .int .i64 since, .bool closed] 27))
  have HR := Lib.hid (((h.setCell (p := ⟨p, 1, none⟩) (fun h => hB _ h rfl) (.int .i64 urg)).setCell (p := ⟨p, 2, none⟩) (fun h => hB _ h rfl) (.string code)).alloc (.cells #[.int .i64 call, .int .i64 inc, .int .i64 urg, .string code, .slice A nodes.length c, .int .i64 dist, .int .i64 since, .bool closed] 27))
  have HX := Lib.hid (show Blk (((w.setCell ⟨p, 1, none⟩ (.int .i64 urg)).setCell ⟨p, 2, none⟩ (.string code)).alloc (.cells #[.int .i64 call, .int .i64 inc, .int .i64 urg, .string code, .slice A nodes.length c, .int .i64 dist, .int .i64 since, .bool closed] 27)) w.heap.size 27 #[.int .i64 call, .int .i64 inc, .int .i64 urg, .string code, .slice A nodes.length c, .int .i64 dist, .int .i64 since, .bool closed] by
    have := Blk.new ((w.setCell ⟨p, 1, none⟩ (.int .i64 urg)).setCell ⟨p, 2, none⟩ (.string code)) 27 #[.int .i64 call, .int .i64 inc, .int .i64 urg, .string code, .slice A nodes.length c, .int .i64 dist, .int .i64 since, .bool closed]
    simpa using this)
  have HF := Lib.hid ((((Fr.refl (fun k => k = p) w).setCell (p := ⟨p, 1, none⟩) (.inl rfl) (.int .i64 urg)).setCell (p := ⟨p, 2, none⟩) (.inl rfl) (.string code)).alloc (.cells #[.int .i64 call, .int .i64 inc, .int .i64 urg, .string code, .slice A nodes.length c, .int .i64 dist, .int .i64 since, .bool closed] 27))
  obtain ⟨y0, y1, y2⟩ := hp.facts
  clear h hp
  go_enter Tryd.func32, Tryd.ntmps32
  go_wp2_with (go_at_call 68; ((with_reducible refine (clone68 B A c nodes _ HR.out hl).mono ?_); rintro e w2 ⟨A2, c2, rfl, ho2, hb2⟩; have HO2 := Lib.hid ho2; have HP2 := Lib.hid (HP.out.below hb2 HP.out.lt); have HX2 := Lib.hid (HX.out.below hb2 HX.out.lt); have HF2 := Lib.hid (HF.out.trans (Fr.of_below hb2)); have hs2 := Lib.hid hb2.size; clear ho2 hb2 x0 x1 x2 y0 y1 y2; obtain ⟨z0, z1, z2⟩ := HP2.out.facts; obtain ⟨u0, u1, u2⟩ := HX2.out.facts))
  go_end0
  have hg : w.heap.size < w2.heap.size := by have := hs2.out; simp at this; omega
  have hp2 : p < w2.heap.size := by omega
  refine ⟨A2, c2, some ⟨w2.heap.size, 0, none⟩, rfl, ?_, ?_, ?_, ?_⟩
  · have := (((HP2.out.set_ 3 (.slice A2 nodes.length c2)).set_ 5 (.int .i64 since)).set_ 6 (.slice (some ⟨w2.heap.size, 0, none⟩) 1 1)).alloc (.cells #[.int .i64 call] 2)
    simpa using this
  · have := World.ownsRow.mono HO2.out (show w.heap.size + 1 ≤ _ by simp)
    exact World.ownsRow.alloc (World.ownsRow.mono (ownsRow_setCell_below (ownsRow_setCell_below (ownsRow_setCell_below this (a := ⟨p, 3, none⟩) (by simp; omega) _) (a := ⟨p, 5, none⟩) (by simp; omega) _) (a := ⟨p, 6, none⟩) (by simp; omega) _) (by omega)) _
  · exact ⟨by simp, .inr ⟨w2.heap.size, 1, #[.int .i64 call], rfl, by omega, by have := heap_alloc_new (((w2.setCell ⟨p, 3, none⟩ (.slice A2 nodes.length c2)).setCell ⟨p, 5, none⟩ (.int .i64 since)).setCell ⟨p, 6, none⟩ (.slice (some ⟨w2.heap.size, 0, none⟩) 1 1)) (.cells #[.int .i64 call] 2); simpa using this, Nat.le_refl _, by simp only [maxLen]; omega, by simp, by simp⟩⟩
  · exact (((HF2.out.setCell (p := ⟨p, 3, none⟩) (.inl rfl) _).setCell (p := ⟨p, 5, none⟩) (.inl rfl) _).setCell (p := ⟨p, 6, none⟩) (.inl rfl) _).alloc _
end Go.Proofs.YtipkicijfedfoaaDoor

namespace Go.Proofs.YtipkicijfedfoaaDoor
set_option linter.unusedVariables false
open Go.RowKit Go.Own Go.Quo Go.Inc
theorem info25 : (Tryd.prog.info? 25).map (fun i => (i.zero, i.size, i.bytes)) = some (some (.agg #[.int .i64 0, .int .i64 0, .string ⟨#[]⟩, .slice none 0 0, .int .i64 0, .int .i64 0, .slice none 0 0, .slice none 0 0, .int .i64 0, .bool false]), 10, 136) := by kernel_rfl
theorem size25 : (Tryd.prog.info? 25).map (·.size) = some 10 := by kernel_rfl
/-- the value of an incident -/
abbrev icV (x : Ic) (An Ac Au : Option Addr) (cn cc cu : Nat) : Value := .agg #[.int .i64 x.id, .int .i64 x.urg, .string x.code, .slice An x.nodes.length cn, .int .i64 x.dist, .int .i64 x.since, .slice Ac x.calls.length cc, .slice Au x.units.length cu, .int .i64 x.merged, .bool x.closed]
theorem own_below {w w' : World} {base C : Nat} {e : TypeId} {size n : Nat} {v : Value} {xs : List Value} (h : w.ownsRow base e size v n xs) (hb : Below C w w') (hC : ∀ g, v.ownBlock = some g → g < C) : w'.ownsRow base e size v n xs := by
  refine ⟨h.1, ?_⟩
  rcases h.2 with h0 | ⟨g, cap, cur, rfl, hb1, hg, r⟩
  · exact .inl h0
  · exact .inr ⟨g, cap, cur, rfl, hb1, (hb.block g (hC g rfl)).trans hg, r⟩
theorem own_fr {S : Nat → Prop} {w w' : World} {base : Nat} {e : TypeId} {size n : Nat} {v : Value} {xs : List Value} (h : w.ownsRow base e size v n xs) (hf : Fr S w w') (hS : ∀ g, v.ownBlock = some g → ¬ S g) : w'.ownsRow base e size v n xs := by
  refine ⟨h.1, ?_⟩
  rcases h.2 with h0 | ⟨g, cap, cur, rfl, hb1, hg, r⟩
  · exact .inl h0
  · exact .inr ⟨g, cap, cur, rfl, hb1, (hf.block g (Array.getElem?_eq_some_iff.1 hg).1 (hS g rfl)).trans hg, r⟩
/-- rows of different element types lie in different blocks -/
theorem own_ne_blk {w : World} {base : Nat} {e t : TypeId} {size n p : Nat} {v : Value} {xs : List Value} {cs : Array Value} (h : w.ownsRow base e size v n xs) (hp : Blk w p t cs) (hne : t ≠ e) : ∀ g, v.ownBlock = some g → g ≠ p := by
  intro g hg
  rintro rfl
  rcases h.2 with ⟨rfl, -⟩ | ⟨g', cap, cur, rfl, -, hh, -⟩
  · cases hg
  · simp [Value.ownBlock] at hg
    subst hg
    unfold Blk at hp
    rw [hp] at hh
    injection hh with hh
    injection hh with _ ht
    exact hne ht
theorem own_ne_own {w : World} {base base' : Nat} {e t : TypeId} {size size' n n' : Nat} {v v' : Value} {xs xs' : List Value} (h : w.ownsRow base e size v n xs) (h' : w.ownsRow base' t size' v' n' xs') (hne : t ≠ e) : ∀ g, v.ownBlock = some g → some g ≠ v'.ownBlock := by
  intro g hg he
  rcases h'.2 with ⟨rfl, -⟩ | ⟨g', cap, cur, rfl, -, hh, -⟩
  · cases he
  · simp [Value.ownBlock] at he
    subst he
    exact own_ne_blk h (show Blk w g t cur from hh) hne g hg rfl
def CopyPost (x : Ic) (w : World) (e : Ending) (w' : World) : Prop := ∃ An Ac Au cn cc cu, e = .returned (icV x An Ac Au cn cc cu) ∧
  w'.ownsRow w.heap.size 3 1 (.slice An x.nodes.length cn) x.nodes.length (x.nodes.map (Value.int .i64)) ∧ w'.ownsRow w.heap.size 2 1 (.slice Ac x.calls.length cc) x.calls.length (x.calls.map (Value.int .i64)) ∧ w'.ownsRow w.heap.size 3 1 (.slice Au x.units.length cu) x.units.length (x.units.map (Value.int .i64)) ∧ Below w.heap.size w w'
set_option maxRecDepth 10000 in
set_option maxHeartbeats 4000000 in
theorem copy42 (B : Nat → Prop) (id urg dist since merged : Int) (code : ByteArray) (nodes calls units : List Int) (An Ac Au : Option Addr) (cn cc cu : Nat) (closed : Bool) (w : World)
    (hn : RI w B An nodes) (hc : RI w B Ac calls) (hu : RI w B Au units) (hln : nodes.length ≤ 100000) (hlc : calls.length ≤ 100000) (hlu : units.length ≤ 100000) :
    Calls Tryd.prog 42 #[.agg #[.int .i64 id, .int .i64 urg, .string code, .slice An nodes.length cn, .int .i64 dist, .int .i64 since, .slice Ac calls.length cc, .slice Au units.length cu, .int .i64 merged, .bool closed]] w (CopyPost ⟨id, urg, code, nodes, dist, since, calls, units, merged, closed⟩ w) := by
  have HX := Lib.hid ((Blk.new w 25 #[.int .i64 id, .int .i64 urg, .string code, .slice An nodes.length cn, .int .i64 dist, .int .i64 since, .slice Ac calls.length cc, .slice Au units.length cu, .int .i64 merged, .bool closed]).alloc (.cells #[.int .i64 0, .int .i64 0, .string ⟨#[]⟩, .slice none 0 0, .int .i64 0, .int .i64 0, .slice none 0 0, .slice none 0 0, .int .i64 0, .bool false] 25))
  have HY := Lib.hid (show Blk ((w.alloc (.cells #[.int .i64 id, .int .i64 urg, .string code, .slice An nodes.length cn, .int .i64 dist, .int .i64 since, .slice Ac calls.length cc, .slice Au units.length cu, .int .i64 merged, .bool closed] 25)).alloc (.cells #[.int .i64 0, .int .i64 0, .string ⟨#[]⟩, .slice none 0 0, .int .i64 0, .int .i64 0, .slice none 0 0, .slice none 0 0, .int .i64 0, .bool false] 25)) (w.heap.size + 1) 25 #[.int .i64 0, .int .i64 0, .string ⟨#[]⟩, .slice none 0 0, .int .i64 0, .int .i64 0, .slice none 0 0, .slice none 0 0, .int .i64 0, .bool false] by
    have := Blk.new (w.alloc (.cells #[.int .i64 id, .int .i64 urg, .string code, .slice An nodes.length cn, .int .i64 dist, .int .i64 since, .slice Ac calls.length cc, .slice Au units.length cu, .int .i64 merged, .bool closed] 25)) 25 #[.int .i64 0, .int .i64 0, .string ⟨#[]⟩, .slice none 0 0, .int .i64 0, .int .i64 0, .slice none 0 0, .slice none 0 0, .int .i64 0, .bool false]
    simpa using this)
  have HN := Lib.hid ((hn.alloc (.cells #[.int .i64 id, .int .i64 urg, .string code, .slice An nodes.length cn, .int .i64 dist, .int .i64 since, .slice Ac calls.length cc, .slice Au units.length cu, .int .i64 merged, .bool closed] 25)).alloc (.cells #[.int .i64 0, .int .i64 0, .string ⟨#[]⟩, .slice none 0 0, .int .i64 0, .int .i64 0, .slice none 0 0, .slice none 0 0, .int .i64 0, .bool false] 25))
  have HC := Lib.hid ((hc.old (by omega)).more (B' := fun k => k < w.heap.size) (fun k hk => hk.2))
  have HU := Lib.hid ((hu.old (by omega)).more (B' := fun k => k < w.heap.size) (fun k hk => hk.2))
  have HB := Lib.hid (((Below.refl w.heap.size w).alloc (Nat.le_refl _) (.cells #[.int .i64 id, .int .i64 urg, .string code, .slice An nodes.length cn, .int .i64 dist, .int .i64 since, .slice Ac calls.length cc, .slice Au units.length cu, .int .i64 merged, .bool closed] 25)).alloc (by simp) (.cells #[.int .i64 0, .int .i64 0, .string ⟨#[]⟩, .slice none 0 0, .int .i64 0, .int .i64 0, .slice none 0 0, .slice none 0 0, .int .i64 0, .bool false] 25))
  clear hn hc hu
  go_enter Tryd.func42, Tryd.ntmps42
  go_upto_region 1 with (fail)
  have HS := Lib.hid (show w.heap.size + 2 ≤ ((w.alloc (.cells #[.int .i64 id, .int .i64 urg, .string code, .slice An nodes.length cn, .int .i64 dist, .int .i64 since, .slice Ac calls.length cc, .slice Au units.length cu, .int .i64 merged, .bool closed] 25)).alloc (.cells #[.int .i64 0, .int .i64 0, .string ⟨#[]⟩, .slice none 0 0, .int .i64 0, .int .i64 0, .slice none 0 0, .slice none 0 0, .int .i64 0, .bool false] 25)).heap.size by simp)
  generalize (w.alloc _).alloc _ = W at *
  obtain ⟨x0, x1, x2⟩ := HX.out.facts
  go_upto_region 2 with (go_at_call 68; ((with_reducible refine (clone68 B An cn nodes _ HN.out hln).mono ?_); rintro e w2 ⟨A2, c2, rfl, ho2, hb2⟩; have HO2 := Lib.hid ho2; have HX2 := Lib.hid (HX.out.below hb2 HX.out.lt); have HY2 := Lib.hid (HY.out.below hb2 HY.out.lt); have HB2 := Lib.hid (HB.out.trans (hb2.mono HB.out.size)); have hs2 := Lib.hid hb2.size; clear ho2 hb2 x0 x1 x2; obtain ⟨z0, z1, z2⟩ := HX2.out.facts))
  have HX3 := Lib.hid (show Blk (w2.setCell ⟨w.heap.size, 3, none⟩ (.slice A2 nodes.length c2)) w.heap.size 25 #[.int .i64 id, .int .i64 urg, .string code, .slice A2 nodes.length c2, .int .i64 dist, .int .i64 since, .slice Ac calls.length cc, .slice Au units.length cu, .int .i64 merged, .bool closed] by have := HX2.out.set_ 3 (.slice A2 nodes.length c2); simpa using this)
  have HY3 := Lib.hid (HY2.out.far (p := ⟨w.heap.size, 3, none⟩) (by simp) (.slice A2 nodes.length c2))
  have HO3 := Lib.hid (ownsRow_setCell_below (World.ownsRow.mono HO2.out HS.out) (a := ⟨w.heap.size, 3, none⟩) (by simp) (.slice A2 nodes.length c2))
  have HB3 := Lib.hid (HB2.out.setCell (p := ⟨w.heap.size, 3, none⟩) (Nat.le_refl _) (.slice A2 nodes.length c2))
  have HC3 := Lib.hid (HC.out.below HB3.out (fun k hk => hk))
  have hs3 := Lib.hid (show W.heap.size ≤ (w2.setCell ⟨w.heap.size, 3, none⟩ (.slice A2 nodes.length c2)).heap.size by rw [World.size_setCell]; exact hs2.out)
  clear HX2 HY2 HO2 HB2 HN HX HY HB z0 z1 z2
  generalize w2.setCell _ _ = W3 at *
  obtain ⟨x0, x1, x2⟩ := HX3.out.facts
  go_upto_region 3 with (go_at_call 74; ((with_reducible refine (clone74 _ Ac cc calls _ HC3.out hlc).mono ?_); rintro e w3 ⟨A3, c3, rfl, ho4, hb4⟩; have HO4 := Lib.hid (World.ownsRow.mono ho4 (show w.heap.size + 2 ≤ W3.heap.size from Nat.le_trans HS.out (hs3.out))); have HP4 := Lib.hid (own_below HO3.out hb4 (fun g hg => (HO3.out.lt g hg).2)); have HX4 := Lib.hid (HX3.out.below hb4 HX3.out.lt); have HY4 := Lib.hid (HY3.out.below hb4 HY3.out.lt); have HB4 := Lib.hid (HB3.out.trans (hb4.mono HB3.out.size)); have hs4 := Lib.hid (Nat.le_trans hs3.out hb4.size); clear ho4 hb4 x0 x1 x2; obtain ⟨z0, z1, z2⟩ := HX4.out.facts))
  have HX5 := Lib.hid (show Blk (w3.setCell ⟨w.heap.size, 6, none⟩ (.slice A3 calls.length c3)) w.heap.size 25 #[.int .i64 id, .int .i64 urg, .string code, .slice A2 nodes.length c2, .int .i64 dist, .int .i64 since, .slice A3 calls.length c3, .slice Au units.length cu, .int .i64 merged, .bool closed] by have := HX4.out.set_ 6 (.slice A3 calls.length c3); simpa using this)
  have HY5 := Lib.hid (HY4.out.far (p := ⟨w.heap.size, 6, none⟩) (by simp) (.slice A3 calls.length c3))
  have HO5 := Lib.hid (ownsRow_setCell_below HP4.out (a := ⟨w.heap.size, 6, none⟩) (by simp) (.slice A3 calls.length c3))
  have HC5 := Lib.hid (ownsRow_setCell_below HO4.out (a := ⟨w.heap.size, 6, none⟩) (by simp) (.slice A3 calls.length c3))
  have HB5 := Lib.hid (HB4.out.setCell (p := ⟨w.heap.size, 6, none⟩) (Nat.le_refl _) (.slice A3 calls.length c3))
  have HU5 := Lib.hid (HU.out.below HB5.out (fun k hk => hk))
  have hs5 := Lib.hid (show W.heap.size ≤ (w3.setCell ⟨w.heap.size, 6, none⟩ (.slice A3 calls.length c3)).heap.size by rw [World.size_setCell]; exact hs4.out)
  clear HX4 HY4 HO4 HP4 HB4 HX3 HY3 HO3 HB3 HC3 HC z0 z1 z2
  generalize w3.setCell _ _ = W5 at *
  obtain ⟨x0, x1, x2⟩ := HX5.out.facts
  go_upto_region 4 with (go_at_call 68; ((with_reducible refine (clone68 _ Au cu units _ HU5.out hlu).mono ?_); rintro e w4 ⟨A4, c4, rfl, ho6, hb6⟩; have HO6 := Lib.hid (World.ownsRow.mono ho6 (show w.heap.size + 2 ≤ W5.heap.size from Nat.le_trans HS.out hs5.out)); have HP6 := Lib.hid (own_below HO5.out hb6 (fun g hg => (HO5.out.lt g hg).2)); have HC6 := Lib.hid (own_below HC5.out hb6 (fun g hg => (HC5.out.lt g hg).2)); have HX6 := Lib.hid (HX5.out.below hb6 HX5.out.lt); have HY6 := Lib.hid (HY5.out.below hb6 HY5.out.lt); have HB6 := Lib.hid (HB5.out.trans (hb6.mono HB5.out.size)); clear ho6 hb6 x0 x1 x2; obtain ⟨z0, z1, z2⟩ := HX6.out.facts))
  have HX7 := Lib.hid (show Blk (w4.setCell ⟨w.heap.size, 7, none⟩ (.slice A4 units.length c4)) w.heap.size 25 #[.int .i64 id, .int .i64 urg, .string code, .slice A2 nodes.length c2, .int .i64 dist, .int .i64 since, .slice A3 calls.length c3, .slice A4 units.length c4, .int .i64 merged, .bool closed] by have := HX6.out.set_ 7 (.slice A4 units.length c4); simpa using this)
  have HY7 := Lib.hid (HY6.out.far (p := ⟨w.heap.size, 7, none⟩) (by simp) (.slice A4 units.length c4))
  have HN7 := Lib.hid (ownsRow_setCell_below HP6.out (a := ⟨w.heap.size, 7, none⟩) (by simp) (.slice A4 units.length c4))
  have HU7 := Lib.hid (ownsRow_setCell_below HO6.out (a := ⟨w.heap.size, 7, none⟩) (by simp) (.slice A4 units.length c4))
  have HC7 := Lib.hid (ownsRow_setCell_below HC6.out (a := ⟨w.heap.size, 7, none⟩) (by simp) (.slice A4 units.length c4))
  have HB7 := Lib.hid (HB6.out.setCell (p := ⟨w.heap.size, 7, none⟩) (Nat.le_refl _) (.slice A4 units.length c4))
  clear HX6 HY6 HO6 HP6 HB6 HC6 HX5 HY5 HO5 HB5 HC5 HU5 HU z0 z1 z2
  generalize w4.setCell _ _ = W7 at *
  obtain ⟨x0, x1, x2⟩ := HX7.out.facts
  have hy := HY7.out
  go_wp2_with (refine wpList_storeBlk rfl (.tmp 2) (.tmp 15) 25 rfl (w.heap.size + 1) 25 _ #[.int .i64 id, .int .i64 urg, .string code, .slice A2 nodes.length c2, .int .i64 dist, .int .i64 since, .slice A3 calls.length c3, .slice A4 units.length c4, .int .i64 merged, .bool closed] _ 10 136 info25 rfl rfl rfl hy rfl (by intro u hu; simp at hu; rcases hu with rfl | rfl | rfl | rfl | rfl | rfl | rfl | rfl | rfl | rfl <;> rfl) ?_; intro w8 hb8 hf8 hs8)
  refine bodyPost_ret (results_cell_row (p := 2) (ty := 25) Tryd.results42 _ w8 (w.heap.size + 1) 25 #[.int .i64 id, .int .i64 urg, .string code, .slice A2 nodes.length c2, .int .i64 dist, .int .i64 since, .slice A3 calls.length c3, .slice A4 units.length c4, .int .i64 merged, .bool closed] (0, 0) _ rfl hb8 Tryd.underlying25 rfl size25) rfl ?_
  refine ⟨A2, A3, A4, c2, c3, c4, rfl, ?_, ?_, ?_, ?_⟩
  · exact World.ownsRow.mono (own_fr HN7.out hf8 (fun g hg e => by have := (HN7.out.lt g hg).1; omega)) (by omega)
  · exact World.ownsRow.mono (own_fr HC7.out hf8 (fun g hg e => by have := (HC7.out.lt g hg).1; omega)) (by omega)
  · exact World.ownsRow.mono (own_fr HU7.out hf8 (fun g hg e => by have := (HU7.out.lt g hg).1; omega)) (by omega)
  · exact HB7.out.trans (hf8.below (by have := HB7.out.size; exact this) (fun k hk e => by omega))
end Go.Proofs.YtipkicijfedfoaaDoor

import Derived.Test.YtipkicijfedfoaaDoorRall
namespace Go.Proofs.YtipkicijfedfoaaDoor
set_option linter.unusedVariables false
open Go.RowKit Go.Own Go.Quo Go.Inc Go.Wire
/-- all numbers fit, all lists are short -/
structure IcS (x : Ic) : Prop where
  id : In64 x.id
  urg : In64 x.urg
  code : x.code.size ≤ 1000
  nodes : InR x.nodes
  nodesL : x.nodes.length ≤ 1000
  dist : In64 x.dist
  since : In64 x.since
  calls : InR x.calls
  callsL : x.calls.length ≤ 1000
  units : InR x.units
  unitsL : x.units.length ≤ 1000
  merged : In64 x.merged
theorem IcS.w {x : Ic} (h : IcS x) : IcW x := ⟨h.id, h.urg, by have := h.code; omega, h.nodes, by have := h.nodesL; omega, h.dist, h.since, h.calls, by have := h.callsL; omega, h.units, by have := h.unitsL; omega, h.merged⟩
theorem reach_held {w w' : World} {g : Nat} {t : TypeId} {v0 v1 v2 v3 v4 v5 v6 v7 v8 v9 : Value} (h : Blk w' g t #[v0, v1, v2, v3, v4, v5, v6, v7, v8, v9]) : w'.cell? ⟨g, 0, none⟩ = some v0 ∧ w'.cell? ⟨g, 1, none⟩ = some v1 ∧ w'.cell? ⟨g, 2, none⟩ = some v2 ∧ w'.cell? ⟨g, 3, none⟩ = some v3 ∧ w'.cell? ⟨g, 4, none⟩ = some v4 ∧ w'.cell? ⟨g, 5, none⟩ = some v5 ∧ w'.cell? ⟨g, 6, none⟩ = some v6 ∧ w'.cell? ⟨g, 7, none⟩ = some v7 ∧ w'.cell? ⟨g, 8, none⟩ = some v8 ∧ w'.cell? ⟨g, 9, none⟩ = some v9 := by
  refine ⟨?_, ?_, ?_, ?_, ?_, ?_, ?_, ?_, ?_, ?_⟩ <;> (rw [Blk.cell h]; rfl)
def ths (x : Ic) (An A6 Au : Option Addr) (cn c6 cu : Nat) : List Th := [⟨0, x.id, false, ⟨#[]⟩, none, 0, []⟩, ⟨0, x.urg, false, ⟨#[]⟩, none, 0, []⟩, ⟨3, 0, false, x.code, none, 0, []⟩, ⟨4, 0, false, ⟨#[]⟩, An, cn, x.nodes⟩, ⟨0, x.dist, false, ⟨#[]⟩, none, 0, []⟩, ⟨0, x.since, false, ⟨#[]⟩, none, 0, []⟩, ⟨4, 0, false, ⟨#[]⟩, A6, c6, x.calls⟩, ⟨4, 0, false, ⟨#[]⟩, Au, cu, x.units⟩, ⟨0, x.merged, false, ⟨#[]⟩, none, 0, []⟩, ⟨1, 0, x.closed, ⟨#[]⟩, none, 0, []⟩]
theorem ths_enc (x : Ic) (An A6 Au : Option Addr) (cn c6 cu : Nat) : (ths x An A6 Au cn c6 cu).flatMap encT = encX x := by
  unfold ths encX
  simp only [List.flatMap_cons, List.flatMap_nil, encT]
  simp
theorem ths_ok {w : World} {B : Nat → Prop} {x : Ic} {An A6 Au : Option Addr} {cn c6 cu : Nat} (hx : IcS x) (hn : RI w B An x.nodes) (hc : RI w B A6 x.calls) (hu : RI w B Au x.units) : ∀ t ∈ ths x An A6 Au cn c6 cu, okT w B t := by
  intro t ht
  unfold ths at ht
  simp only [List.mem_cons, List.not_mem_nil, or_false] at ht
  unfold okT
  rcases ht with rfl | rfl | rfl | rfl | rfl | rfl | rfl | rfl | rfl | rfl
  · exact .inl ⟨rfl, hx.id⟩
  · exact .inl ⟨rfl, hx.urg⟩
  · exact .inr (.inr (.inl ⟨rfl, hx.code⟩))
  · exact .inr (.inr (.inr ⟨rfl, hx.nodes, hx.nodesL, hn⟩))
  · exact .inl ⟨rfl, hx.dist⟩
  · exact .inl ⟨rfl, hx.since⟩
  · exact .inr (.inr (.inr ⟨rfl, hx.calls, hx.callsL, hc⟩))
  · exact .inr (.inr (.inr ⟨rfl, hx.units, hx.unitsL, hu⟩))
  · exact .inl ⟨rfl, hx.merged⟩
  · exact .inr (.inl rfl)
set_option maxRecDepth 10000 in
set_option maxHeartbeats 8000000 in
theorem all40 (B : Nat → Prop) (id urg dist since merged : Int) (code : ByteArray) (nodes calls units : List Int) (An Ac Au : Option Addr) (cn cc cu : Nat) (closed : Bool) (w : World)
    (hn : RI w B An nodes) (hc : RI w B Ac calls) (hu : RI w B Au units) (hx : IcS ⟨id, urg, code, nodes, dist, since, calls, units, merged, closed⟩) :
    Calls Tryd.prog 40 #[.agg #[.int .i64 id, .int .i64 urg, .string code, .slice An nodes.length cn, .int .i64 dist, .int .i64 since, .slice Ac calls.length cc, .slice Au units.length cu, .int .i64 merged, .bool closed]] w (BysPost (encX ⟨id, urg, code, nodes, dist, since, calls, units, merged, closed⟩) w) := by
  have HW := Lib.hid ((Below.refl w.heap.size w).alloc (Nat.le_refl _) (.cells #[.int .i64 id, .int .i64 urg, .string code, .slice An nodes.length cn, .int .i64 dist, .int .i64 since, .slice Ac calls.length cc, .slice Au units.length cu, .int .i64 merged, .bool closed] 25))
  have HX := Lib.hid (Blk.new w 25 #[.int .i64 id, .int .i64 urg, .string code, .slice An nodes.length cn, .int .i64 dist, .int .i64 since, .slice Ac calls.length cc, .slice Au units.length cu, .int .i64 merged, .bool closed])
  have HN := Lib.hid (((hn.old (by omega)).more (B' := fun k => k < w.heap.size) (fun k hk => hk.2)).alloc (.cells #[.int .i64 id, .int .i64 urg, .string code, .slice An nodes.length cn, .int .i64 dist, .int .i64 since, .slice Ac calls.length cc, .slice Au units.length cu, .int .i64 merged, .bool closed] 25))
  have HC := Lib.hid (((hc.old (by omega)).more (B' := fun k => k < w.heap.size) (fun k hk => hk.2)).alloc (.cells #[.int .i64 id, .int .i64 urg, .string code, .slice An nodes.length cn, .int .i64 dist, .int .i64 since, .slice Ac calls.length cc, .slice Au units.length cu, .int .i64 merged, .bool closed] 25))
  have HU := Lib.hid (((hu.old (by omega)).more (B' := fun k => k < w.heap.size) (fun k hk => hk.2)).alloc (.cells #[.int .i64 id, .int .i64 urg, .string code, .slice An nodes.length cn, .int .i64 dist, .int .i64 since, .slice Ac calls.length cc, .slice Au units.length cu, .int .i64 merged, .bool closed] 25))
  have HXS := Lib.hid hx
  have hlc : calls.length ≤ 1000 := hx.callsL
  have HSz := Lib.hid (show w.heap.size < (w.alloc (.cells #[.int .i64 id, .int .i64 urg, .string code, .slice An nodes.length cn, .int .i64 dist, .int .i64 since, .slice Ac calls.length cc, .slice Au units.length cu, .int .i64 merged, .bool closed] 25)).heap.size by simp)
  clear hn hc hu hx
  go_enter Tryd.func40, Tryd.ntmps40
  go_upto_region 1 with (fail)
  generalize w.alloc _ = W at *
  have HK := Lib.hid fun (W' : World) (hb : Below W.heap.size W W') => reach_held (w := W) (HX.out.below hb HX.out.lt)
  have K0 := HK.out _ (Below.refl _ W).drew
  have H72 := Lib.hid (ints72 _ Ac cc calls W.drew (HC.out.drew) (by omega))
  have H71 := Lib.hid fun (W' : World) (A6 : Option Addr) (c6 : Nat) (hb : Below W.heap.size W W') (hr : RI W' (fun k => k < W'.heap.size) A6 calls) =>
    (show Calls Tryd.prog 71 #[.slice (some ⟨W'.heap.size, 0, none⟩) 10 10] (W'.alloc (.cells ((ths ⟨id, urg, code, nodes, dist, since, calls, units, merged, closed⟩ An A6 Au cn c6 cu).flatMap thL).toArray 69)) (BysPost (encX ⟨id, urg, code, nodes, dist, since, calls, units, merged, closed⟩) (W'.alloc (.cells ((ths ⟨id, urg, code, nodes, dist, since, calls, units, merged, closed⟩ An A6 Au cn c6 cu).flatMap thL).toArray 69))) from by
      have := all71 (fun k => k = W'.heap.size) (some ⟨W'.heap.size, 0, none⟩) 10 (ths ⟨id, urg, code, nodes, dist, since, calls, units, merged, closed⟩ An A6 Au cn c6 cu) (W'.alloc (.cells ((ths ⟨id, urg, code, nodes, dist, since, calls, units, merged, closed⟩ An A6 Au cn c6 cu).flatMap thL).toArray 69)) (Reads.newS W' _ 69 (0, 0) 10 5 rfl _ rfl) (show 10 ≤ 20 by decide) (ths_ok HXS.out (((HN.out.below hb (fun k hk => Nat.lt_trans hk HSz.out)).alloc _).more (fun k hk => by have := hb.size; have := HSz.out; simp; omega)) ((hr.alloc _).more (fun k hk => by simp; omega)) (((HU.out.below hb (fun k hk => Nat.lt_trans hk HSz.out)).alloc _).more (fun k hk => by have := hb.size; have := HSz.out; simp; omega)))
      rw [ths_enc] at this
      exact this)
  simp only [ths, thL, List.flatMap_cons, List.flatMap_nil, List.cons_append, List.nil_append, List.append_nil, List.length_nil] at H71
  go_region_held (fun w' => w'.cell? ⟨w.heap.size, 0, none⟩ = some (.int .i64 id) ∧ w'.cell? ⟨w.heap.size, 1, none⟩ = some (.int .i64 urg) ∧ w'.cell? ⟨w.heap.size, 2, none⟩ = some (.string code) ∧ w'.cell? ⟨w.heap.size, 3, none⟩ = some (.slice An nodes.length cn) ∧ w'.cell? ⟨w.heap.size, 4, none⟩ = some (.int .i64 dist) ∧ w'.cell? ⟨w.heap.size, 5, none⟩ = some (.int .i64 since) ∧ w'.cell? ⟨w.heap.size, 6, none⟩ = some (.slice Ac calls.length cc) ∧ w'.cell? ⟨w.heap.size, 7, none⟩ = some (.slice Au units.length cu) ∧ w'.cell? ⟨w.heap.size, 8, none⟩ = some (.int .i64 merged) ∧ w'.cell? ⟨w.heap.size, 9, none⟩ = some (.bool closed)) (first | assumption | exact K0 | exact HK.out _ (B2.alloc B2.size _)) (first
    | (go_at_call 72; ((with_reducible refine H72.out.mono ?_); rintro e w2 ⟨A6, c6, rfl, ho2, hb2⟩; have B2 := ((Below.refl W.heap.size W).drew).trans hb2; have HO2 := Lib.hid ho2; clear ho2 hb2; have KB2 := HK.out _ B2))
    | (go_at_call 71; ((with_reducible refine (H71.out w2 A6 c6 B2 ((ri_own HO2.out).old (by omega) |>.more (fun k hk => hk.2))).mono ?_); rintro e w3 ⟨A7, c7, rfl, ho3, hb3⟩; have B3 := (B2.alloc B2.size _).trans (hb3.mono (by have := B2.size; simp; omega)); have HO3 := Lib.hid ho3; have hs3 := B2.size; clear ho3 hb3; have KB3 := HK.out _ B3)))
  all_goals
    go_wp2_with fail
    go_ret
    have := HSz.out
    exact ⟨A7, c7, rfl, World.ownsRow.mono HO3.out (by simp; omega), HW.out.trans (B3.mono (by omega))⟩
end Go.Proofs.YtipkicijfedfoaaDoor

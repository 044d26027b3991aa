import Derived.Test.YtipkicijfedfoaaDoorCln
import Derived.Deep.Onto
namespace Go.Proofs.YtipkicijfedfoaaDoor
set_option linter.unusedVariables false
open Go.RowKit Go.Own Go.Quo Go.Inc
theorem ri_own {w : World} {base : Nat} {t : TypeId} {A : Option Addr} {c : Nat} {l : List Int} (h : w.ownsRow base t 1 (.slice A l.length c) l.length (l.map (Value.int .i64))) : RI w (fun k => base ≤ k) A l :=
  (Reads.of_own h).more (fun k hk => (h.lt k hk).1)
def FirstPost (p : Nat) (v0 v4 v7 v8 v9 : Value) (c : Cr) (w : World) (e : Ending) (w' : World) : Prop := ∃ An cn Ac, e = .returned (.tuple #[]) ∧
  Blk w' p 25 #[v0, .int .i64 c.urg, .string c.code, .slice An c.nodes.length cn, v4, .int .i64 c.since, .slice Ac 1 1, v7, v8, v9] ∧
  w'.ownsRow w.heap.size 3 1 (.slice An c.nodes.length cn) c.nodes.length (c.nodes.map (Value.int .i64)) ∧ w'.ownsRow w.heap.size 2 1 (.slice Ac 1 1) 1 [.int .i64 c.call] ∧ Fr (fun k => k = p) w w'
set_option maxRecDepth 10000 in
set_option maxHeartbeats 4000000 in
theorem first32 (B : Nat → Prop) (p : Nat) (v0 v1 v2 v3 v4 v5 v6 v7 v8 v9 : Value) (call inc urg dist since : Int) (code : ByteArray) (A : Option Addr) (c : Nat) (nodes : List Int) (closed : Bool) (w : World)
    (hp : Blk w p 25 #[v0, v1, v2, v3, v4, v5, v6, v7, v8, v9]) (h : RI w B A nodes) (hB : ∀ k, B k → k ≠ p) (hl : nodes.length ≤ 100000) :
    Calls Tryd.prog 32 #[.pointer (some ⟨p, 0, none⟩), .agg #[.int .i64 call, .int .i64 inc, .int .i64 urg, .string code, .slice A nodes.length c, .int .i64 dist, .int .i64 since, .bool closed]] w (FirstPost p v0 v4 v7 v8 v9 ⟨call, inc, urg, code, nodes, dist, since, closed⟩ w) := by
  have hpl := hp.lt
  have hpn : p ≠ w.heap.size := by omega
  obtain ⟨x0, x1, x2⟩ := (Blk.new w 27 #[.int .i64 call, .int .i64 inc, .int .i64 urg, .string code, .slice A nodes.length c, .int .i64 dist, .int .i64 since, .bool closed]).facts
  have HP := Lib.hid (((hp.set_ 1 (.int .i64 urg)).set_ 2 (.string code)).alloc (.cells #[.int .i64 call, .int .i64 inc, .int .i64 urg, .string code, .slice A nodes.length c, .int .i64 dist, .int .i64 since, .bool closed] 27))
  have HR := Lib.hid (((h.setCell (p := ⟨p, 1, none⟩) (fun h => hB _ h rfl) (.int .i64 urg)).setCell (p := ⟨p, 2, none⟩) (fun h => hB _ h rfl) (.string code)).alloc (.cells #[.int .i64 call, .int .i64 inc, .int .i64 urg, .string code, .slice A nodes.length c, .int .i64 dist, .int .i64 since, .bool closed] 27))
  have HX := Lib.hid (show Blk (((w.setCell ⟨p, 1, none⟩ (.int .i64 urg)).setCell ⟨p, 2, none⟩ (.string code)).alloc (.cells #[.int .i64 call, .int .i64 inc, .int .i64 urg, .string code, .slice A nodes.length c, .int .i64 dist, .int .i64 since, .bool closed] 27)) w.heap.size 27 #[.int .i64 call, .int .i64 inc, .int .i64 urg, .string code, .slice A nodes.length c, .int .i64 dist, .int .i64 since, .bool closed] by
    have := Blk.new ((w.setCell ⟨p, 1, none⟩ (.int .i64 urg)).setCell ⟨p, 2, none⟩ (.string code)) 27 #[.int .i64 call, .int .i64 inc, .int .i64 urg, .string code, .slice A nodes.length c, .int .i64 dist, .int .i64 since, .bool closed]
    simpa using this)
  have HF := Lib.hid ((((Fr.refl (fun k => k = p) w).setCell (p := ⟨p, 1, none⟩) (.inl rfl) (.int .i64 urg)).setCell (p := ⟨p, 2, none⟩) (.inl rfl) (.string code)).alloc (.cells #[.int .i64 call, .int .i64 inc, .int .i64 urg, .string code, .slice A nodes.length c, .int .i64 dist, .int .i64 since, .bool closed] 27))
  obtain ⟨y0, y1, y2⟩ := hp.facts
  clear h hp
  go_enter Tryd.func32, Tryd.ntmps32
  go_wp2_with (go_at_call 68; ((with_reducible refine (clone68 B A c nodes _ HR.out hl).mono ?_); rintro e w2 ⟨A2, c2, rfl, ho2, hb2⟩; have HO2 := Lib.hid ho2; have HP2 := Lib.hid (HP.out.below hb2 HP.out.lt); have HX2 := Lib.hid (HX.out.below hb2 HX.out.lt); have HF2 := Lib.hid (HF.out.trans (Fr.of_below hb2)); have hs2 := Lib.hid hb2.size; clear ho2 hb2 x0 x1 x2 y0 y1 y2; obtain ⟨z0, z1, z2⟩ := HP2.out.facts; obtain ⟨u0, u1, u2⟩ := HX2.out.facts))
  go_end0
  have hg : w.heap.size < w2.heap.size := by have := hs2.out; simp at this; omega
  have hp2 : p < w2.heap.size := by omega
  refine ⟨A2, c2, some ⟨w2.heap.size, 0, none⟩, rfl, ?_, ?_, ?_, ?_⟩
  · have := (((HP2.out.set_ 3 (.slice A2 nodes.length c2)).set_ 5 (.int .i64 since)).set_ 6 (.slice (some ⟨w2.heap.size, 0, none⟩) 1 1)).alloc (.cells #[.int .i64 call] 2)
    simpa using this
  · have := World.ownsRow.mono HO2.out (show w.heap.size + 1 ≤ _ by simp)
    exact World.ownsRow.alloc (World.ownsRow.mono (ownsRow_setCell_below (ownsRow_setCell_below (ownsRow_setCell_below this (a := ⟨p, 3, none⟩) (by simp; omega) _) (a := ⟨p, 5, none⟩) (by simp; omega) _) (a := ⟨p, 6, none⟩) (by simp; omega) _) (by omega)) _
  · exact ⟨by simp, .inr ⟨w2.heap.size, 1, #[.int .i64 call], rfl, by omega, by have := heap_alloc_new (((w2.setCell ⟨p, 3, none⟩ (.slice A2 nodes.length c2)).setCell ⟨p, 5, none⟩ (.int .i64 since)).setCell ⟨p, 6, none⟩ (.slice (some ⟨w2.heap.size, 0, none⟩) 1 1)) (.cells #[.int .i64 call] 2); simpa using this, Nat.le_refl _, by simp only [maxLen]; omega, by simp, by simp⟩⟩
  · exact (((HF2.out.setCell (p := ⟨p, 3, none⟩) (.inl rfl) _).setCell (p := ⟨p, 5, none⟩) (.inl rfl) _).setCell (p := ⟨p, 6, none⟩) (.inl rfl) _).alloc _
end Go.Proofs.YtipkicijfedfoaaDoor

import Derived.Test.YtnmmiiajcjcccaaCm1
import Derived.Test.YtnmmiiajcjcccaaSm2
import Derived.Sort.Grow
import Derived.Deep.RegionHeldLaw
namespace Go.Proofs.Ytnmmiiajcjcccaa
set_option linter.unusedVariables false
open Go.RowKit Go.Own Go.Quo Go.Aid
theorem cell_al {W' : World} (o : Obj) {a : Addr} {v : Value} (hv : W'.cell? a = some v) : (W'.alloc o).cell? a = some v := (World.cell?_alloc_lt _ o _ (World.block_lt_of_cell? _ _ hv)).trans hv
set_option maxRecDepth 10000 in
set_option maxHeartbeats 4000000 in
theorem clos38 (B : Nat → Prop) (p g bb bs : Nat) (v0 : Value) (D sp : List Int) (A : Option Addr) (c n : Nat) (x y : Nat) (W : World) (h1 : Blk W bb 32 #[.pointer (some ⟨p, 0, none⟩)]) (h2 : Blk W p 72 #[v0, .slice (some ⟨g, 0, none⟩) n n]) (h3 : IB W g 2 D) (hD : D.length = n)
    (h4 : Blk W bs 22 #[.slice A n c]) (h5 : Reads W B 1 A sp.length (sp.map (Value.int .i64))) (hs : sp.length = n) (hx : x < n) (hy : y < n) :
    Calls Try.prog 38 #[.int .i64 (x : Int), .int .i64 (y : Int), .pointer (some ⟨bb, 0, none⟩), .pointer (some ⟨bs, 0, none⟩)] W (fun e w' => e = .returned (.int .i64 (askC D sp x y)) ∧ ∃ q os', w' = Sort.grow (W.drewN q) os') := by
  subst hD
  have hpA := h5.plain (by omega)
  rw [hs] at hpA
  obtain ⟨a0, a1, a2⟩ := h1.facts
  obtain ⟨b0, b1, b2⟩ := h2.facts
  obtain ⟨c0, c1, c2⟩ := h4.facts
  have gx : W.cell? ⟨g, x, none⟩ = some (.int .i64 (gd D x)) := by
    rw [h3.cell x, gd_get hx]; simp [hx]
  have gy : W.cell? ⟨g, y, none⟩ = some (.int .i64 (gd D y)) := by
    rw [h3.cell y, gd_get hy]; simp [hy]
  have sx : W.cell? ⟨bk A, ofs A + x, none⟩ = some (.int .i64 (gd sp x)) := by
    rw [h5.cell2 x (by omega) (by omega), gd_get (by omega)]; simp [hs, hx]
  have sy : W.cell? ⟨bk A, ofs A + y, none⟩ = some (.int .i64 (gd sp y)) := by
    rw [h5.cell2 y (by omega) (by omega), gd_get (by omega)]; simp [hs, hy]
  have hgs := h3.lt
  have ix := fun W => ix53 (g := g) D.length D.length x hx W
  have iy := fun W => ix53 (g := g) D.length D.length y hy W
  have jx := fun W => ix22 hpA c x hx W
  have jy := fun W => ix22 hpA c y hy W
  have H40 := Lib.hid fun a b W => cmp40 a b W
  have H41 := Lib.hid fun a b W => cmp41 a b W
  have H39 := Lib.hid fun a b e => or39 (fun k => k = W.heap.size) (some ⟨W.heap.size, 0, none⟩) 3 [a, b, e] (W.alloc (.cells #[.int .i64 a, .int .i64 b, .int .i64 e] 3)).drew (Reads.newS W [.int .i64 a, .int .i64 b, .int .i64 e] 3 (0, 0) 3 1 rfl _ rfl).drew (by simp)
  unfold askC
  generalize gd D x = dx at *
  generalize gd D y = dy at *
  generalize gd sp x = px at *
  generalize gd sp y = py at *
  have e1 : W.cell? ⟨bb, 0, none⟩ = some (.pointer (some ⟨p, 0, none⟩)) := by rw [a1]; rfl
  have e2 : W.cell? ⟨p, 1, none⟩ = some (.slice (some ⟨g, 0, none⟩) D.length D.length) := by rw [b1]; rfl
  have e3 : W.cell? ⟨bs, 0, none⟩ = some (.slice A D.length c) := by rw [c1]; rfl
  have HAl := Lib.hid fun (W' : World) (o : Obj) (h : W'.cell? ⟨bb, 0, none⟩ = some (.pointer (some ⟨p, 0, none⟩)) ∧ W'.cell? ⟨p, 1, none⟩ = some (.slice (some ⟨g, 0, none⟩) D.length D.length) ∧ W'.cell? ⟨bs, 0, none⟩ = some (.slice A D.length c) ∧ W'.cell? ⟨g, x, none⟩ = some (.int .i64 dx) ∧ W'.cell? ⟨g, y, none⟩ = some (.int .i64 dy) ∧ W'.cell? ⟨bk A, ofs A + x, none⟩ = some (.int .i64 px) ∧ W'.cell? ⟨bk A, ofs A + y, none⟩ = some (.int .i64 py)) => (⟨cell_al o h.1, cell_al o h.2.1, cell_al o h.2.2.1, cell_al o h.2.2.2.1, cell_al o h.2.2.2.2.1, cell_al o h.2.2.2.2.2.1, cell_al o h.2.2.2.2.2.2⟩ : (W'.alloc o).cell? ⟨bb, 0, none⟩ = some (.pointer (some ⟨p, 0, none⟩)) ∧ (W'.alloc o).cell? ⟨p, 1, none⟩ = some (.slice (some ⟨g, 0, none⟩) D.length D.length) ∧ (W'.alloc o).cell? ⟨bs, 0, none⟩ = some (.slice A D.length c) ∧ (W'.alloc o).cell? ⟨g, x, none⟩ = some (.int .i64 dx) ∧ (W'.alloc o).cell? ⟨g, y, none⟩ = some (.int .i64 dy) ∧ (W'.alloc o).cell? ⟨bk A, ofs A + x, none⟩ = some (.int .i64 px) ∧ (W'.alloc o).cell? ⟨bk A, ofs A + y, none⟩ = some (.int .i64 py))
  have HS0 := Lib.hid (show W.drew.cell? ⟨bb, 0, none⟩ = some (.pointer (some ⟨p, 0, none⟩)) ∧ W.drew.cell? ⟨p, 1, none⟩ = some (.slice (some ⟨g, 0, none⟩) D.length D.length) ∧ W.drew.cell? ⟨bs, 0, none⟩ = some (.slice A D.length c) ∧ W.drew.cell? ⟨g, x, none⟩ = some (.int .i64 dx) ∧ W.drew.cell? ⟨g, y, none⟩ = some (.int .i64 dy) ∧ W.drew.cell? ⟨bk A, ofs A + x, none⟩ = some (.int .i64 px) ∧ W.drew.cell? ⟨bk A, ofs A + y, none⟩ = some (.int .i64 py) from ⟨e1, e2, e3, gx, gy, sx, sy⟩)
  clear h1 h2 h3 h4 h5 a0 a1 a2 b0 b1 b2 c0 c1 c2 hgs
  go_enter Try.func38, Try.ntmps38
  go_wp2_with fail
  clear e1 e2 e3 gx gy sx sy
  go_region_held (fun w' => w'.cell? ⟨bb, 0, none⟩ = some (.pointer (some ⟨p, 0, none⟩)) ∧ w'.cell? ⟨p, 1, none⟩ = some (.slice (some ⟨g, 0, none⟩) D.length D.length) ∧ w'.cell? ⟨bs, 0, none⟩ = some (.slice A D.length c) ∧ w'.cell? ⟨g, x, none⟩ = some (.int .i64 dx) ∧ w'.cell? ⟨g, y, none⟩ = some (.int .i64 dy) ∧ w'.cell? ⟨bk A, ofs A + x, none⟩ = some (.int .i64 px) ∧ w'.cell? ⟨bk A, ofs A + y, none⟩ = some (.int .i64 py)) (first | exact HS0.out | exact HAl.out _ _ HS0.out) (first
    | (go_at_call 40; refine (H40.out _ _ _).mono ?_; rintro e w2 ⟨rfl, rfl⟩)
    | (go_at_call 41; refine (H41.out _ _ _).mono ?_; rintro e w2 ⟨rfl, rfl⟩)
    | (go_at_call 39; refine (H39.out _ _ _).mono ?_; rintro e w2 ⟨rfl, rfl⟩))
  go_wp2_with fail
  go_ret
  exact ⟨by simp, 1, #[.cells #[.int .i64 (cmpI dx dy), .int .i64 (cmpI py px), .int .i64 (cmpI x y)] 3], rfl⟩
end Go.Proofs.Ytnmmiiajcjcccaa

import Derived.Test.YtipkicijfedfoaaDoorMRb1
import Derived.Test.YtipkicijfedfoaaDoorMOpnI
import Derived.Sort.Grow
import Derived.Deep.RegionHeldLaw
import Derived.Deep.DeepCutAuto
namespace Go.Proofs.YtipkicijfedfoaaDoor
set_option linter.unusedVariables false
open Go.RowKit Go.Own Go.Quo Go.Inc Go.Sort
theorem cell_al {W' : World} (o : Obj) {a : Addr} {v : Value} (hv : W'.cell? a = some v) : (W'.alloc o).cell? a = some v := (World.cell?_alloc_lt _ o _ (World.block_lt_of_cell? _ _ hv)).trans hv
/-- what the closure of Rebuild answers -/
def cfC (x y : Ca) : Int := firstNZ [cmpI x.c.since y.c.since, cmpI x.c.call y.c.call]
set_option maxRecDepth 10000 in
set_option maxHeartbeats 4000000 in
theorem clos64 (x y : Ca) (W : World) : Calls Tryd.prog 64 #[caV x, caV y] W (fun e w' => e = .returned (.int .i64 (cfC x y)) ∧ ∃ q os', w' = grow (W.drewN q) os') := by
  obtain ⟨⟨xc, xi, xu, xd, xn, xt, xs, xl⟩, xA, xk⟩ := x
  obtain ⟨⟨yc, yi, yu, yd, yn, yt, ys, yl⟩, yA, yk⟩ := y
  unfold caV cfC
  have H66 := Lib.hid fun a b W => cmp66 a b W
  have H65 := Lib.hid fun (a b : Int) (W : World) => or65 (fun k => k = W.heap.size) (some ⟨W.heap.size, 0, none⟩) 2 [a, b] (W.alloc (.cells #[.int .i64 a, .int .i64 b] 3)).drew (Reads.newS W [.int .i64 a, .int .i64 b] 3 (0, 0) 2 1 rfl _ rfl).drew (by simp)
  have HAl := Lib.hid fun (W' : World) (o : Obj) (h : W'.cell? ⟨W.heap.size, 6, none⟩ = some (.int .i64 xs) ∧ W'.cell? ⟨W.heap.size, 0, none⟩ = some (.int .i64 xc) ∧ W'.cell? ⟨W.heap.size + 1, 6, none⟩ = some (.int .i64 ys) ∧ W'.cell? ⟨W.heap.size + 1, 0, none⟩ = some (.int .i64 yc)) => (⟨cell_al o h.1, cell_al o h.2.1, cell_al o h.2.2.1, cell_al o h.2.2.2⟩ : (W'.alloc o).cell? ⟨W.heap.size, 6, none⟩ = some (.int .i64 xs) ∧ (W'.alloc o).cell? ⟨W.heap.size, 0, none⟩ = some (.int .i64 xc) ∧ (W'.alloc o).cell? ⟨W.heap.size + 1, 6, none⟩ = some (.int .i64 ys) ∧ (W'.alloc o).cell? ⟨W.heap.size + 1, 0, none⟩ = some (.int .i64 yc))
  have HX := Lib.hid (Blk.new W 27 #[.int .i64 xc, .int .i64 xi, .int .i64 xu, .string xd, .slice xA xn.length xk, .int .i64 xt, .int .i64 xs, .bool xl])
  have HY := Lib.hid (Blk.new (W.alloc (.cells #[.int .i64 xc, .int .i64 xi, .int .i64 xu, .string xd, .slice xA xn.length xk, .int .i64 xt, .int .i64 xs, .bool xl] 27)) 27 #[.int .i64 yc, .int .i64 yi, .int .i64 yu, .string yd, .slice yA yn.length yk, .int .i64 yt, .int .i64 ys, .bool yl])
  have HX2 := Lib.hid (HX.out.alloc (.cells #[.int .i64 yc, .int .i64 yi, .int .i64 yu, .string yd, .slice yA yn.length yk, .int .i64 yt, .int .i64 ys, .bool yl] 27))
  have e6 : ((W.alloc (.cells #[.int .i64 xc, .int .i64 xi, .int .i64 xu, .string xd, .slice xA xn.length xk, .int .i64 xt, .int .i64 xs, .bool xl] 27)).alloc (.cells #[.int .i64 yc, .int .i64 yi, .int .i64 yu, .string yd, .slice yA yn.length yk, .int .i64 yt, .int .i64 ys, .bool yl] 27)).cell? ⟨W.heap.size, 6, none⟩ = some (.int .i64 xs) := by rw [Blk.cell HX2.out]; rfl
  have e0 : ((W.alloc (.cells #[.int .i64 xc, .int .i64 xi, .int .i64 xu, .string xd, .slice xA xn.length xk, .int .i64 xt, .int .i64 xs, .bool xl] 27)).alloc (.cells #[.int .i64 yc, .int .i64 yi, .int .i64 yu, .string yd, .slice yA yn.length yk, .int .i64 yt, .int .i64 ys, .bool yl] 27)).cell? ⟨W.heap.size, 0, none⟩ = some (.int .i64 xc) := by rw [Blk.cell HX2.out]; rfl
  have f6 : ((W.alloc (.cells #[.int .i64 xc, .int .i64 xi, .int .i64 xu, .string xd, .slice xA xn.length xk, .int .i64 xt, .int .i64 xs, .bool xl] 27)).alloc (.cells #[.int .i64 yc, .int .i64 yi, .int .i64 yu, .string yd, .slice yA yn.length yk, .int .i64 yt, .int .i64 ys, .bool yl] 27)).cell? ⟨W.heap.size + 1, 6, none⟩ = some (.int .i64 ys) := by have := Blk.cell HY.out 6; rw [show (W.alloc (.cells #[.int .i64 xc, .int .i64 xi, .int .i64 xu, .string xd, .slice xA xn.length xk, .int .i64 xt, .int .i64 xs, .bool xl] 27)).heap.size = W.heap.size + 1 by simp] at this; rw [this]; rfl
  have f0 : ((W.alloc (.cells #[.int .i64 xc, .int .i64 xi, .int .i64 xu, .string xd, .slice xA xn.length xk, .int .i64 xt, .int .i64 xs, .bool xl] 27)).alloc (.cells #[.int .i64 yc, .int .i64 yi, .int .i64 yu, .string yd, .slice yA yn.length yk, .int .i64 yt, .int .i64 ys, .bool yl] 27)).cell? ⟨W.heap.size + 1, 0, none⟩ = some (.int .i64 yc) := by have := Blk.cell HY.out 0; rw [show (W.alloc (.cells #[.int .i64 xc, .int .i64 xi, .int .i64 xu, .string xd, .slice xA xn.length xk, .int .i64 xt, .int .i64 xs, .bool xl] 27)).heap.size = W.heap.size + 1 by simp] at this; rw [this]; rfl
  have HS0 := Lib.hid (show _ ∧ _ ∧ _ ∧ _ from ⟨e6, e0, f6, f0⟩)
  clear e6 e0 f6 f0 HX HY HX2
  go_enter Tryd.func64, Tryd.ntmps64
  go_upto_region 1 with fail
  obtain ⟨W2, hW2⟩ : ∃ W2, W2 = (W.alloc (.cells #[.int .i64 xc, .int .i64 xi, .int .i64 xu, .string xd, .slice xA xn.length xk, .int .i64 xt, .int .i64 xs, .bool xl] 27)).alloc (.cells #[.int .i64 yc, .int .i64 yi, .int .i64 yu, .string yd, .slice yA yn.length yk, .int .i64 yt, .int .i64 ys, .bool yl] 27) := ⟨_, rfl⟩
  rw [← hW2] at HS0 ⊢
  have HS1 := Lib.hid (show W2.drew.cell? ⟨W.heap.size, 6, none⟩ = some (.int .i64 xs) ∧ W2.drew.cell? ⟨W.heap.size, 0, none⟩ = some (.int .i64 xc) ∧ W2.drew.cell? ⟨W.heap.size + 1, 6, none⟩ = some (.int .i64 ys) ∧ W2.drew.cell? ⟨W.heap.size + 1, 0, none⟩ = some (.int .i64 yc) from HS0.out)
  have HW2 := Lib.hid hW2
  clear hW2
  go_region_held (fun w' => w'.cell? ⟨W.heap.size, 6, none⟩ = some (.int .i64 xs) ∧ w'.cell? ⟨W.heap.size, 0, none⟩ = some (.int .i64 xc) ∧ w'.cell? ⟨W.heap.size + 1, 6, none⟩ = some (.int .i64 ys) ∧ w'.cell? ⟨W.heap.size + 1, 0, none⟩ = some (.int .i64 yc)) (first | exact HS1.out | exact HAl.out _ _ HS1.out) (first
    | (go_at_call 66; refine (H66.out _ _ _).mono ?_; rintro e w2 ⟨rfl, rfl⟩)
    | (go_at_call 65; refine (H65.out _ _ _).mono ?_; rintro e w2 ⟨rfl, rfl⟩))
  all_goals
    go_wp2_with fail
    go_ret
    refine ⟨by simp, 1, #[.cells #[.int .i64 xc, .int .i64 xi, .int .i64 xu, .string xd, .slice xA xn.length xk, .int .i64 xt, .int .i64 xs, .bool xl] 27, .cells #[.int .i64 yc, .int .i64 yi, .int .i64 yu, .string yd, .slice yA yn.length yk, .int .i64 yt, .int .i64 ys, .bool yl] 27, .cells #[.int .i64 (cmpI xs ys), .int .i64 (cmpI xc yc)] 3], ?_⟩
    rw [HW2.out]
    rfl
end Go.Proofs.YtipkicijfedfoaaDoor

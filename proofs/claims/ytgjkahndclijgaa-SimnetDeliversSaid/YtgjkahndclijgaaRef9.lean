import Derived.Test.YtgjkahndclijgaaRef8
namespace Go.Proofs.Ytgjkahndclijgaa
open Go.RowKit Go.Own
abbrev pk0 : Array Value := #[.int .i64 0, .int .i64 0, .slice none 0 0]
abbrev pkC (x : It) : Array Value := #[.int .i64 x.frm, .int .i64 x.to, .slice x.A x.n x.c]
set_option maxRecDepth 10000 in
set_option maxHeartbeats 1000000 in
theorem give_no (R : RefS) (B : Nat → Prop) (id : Int) (w : World) (h : Ref w B R) (hl : R.items.length ≤ 1000) (hx : rfind R.items id = none) :
    Calls Try.prog 35 #[rv R, .int .i64 id] w fun e w' => e = .returned (.tuple #[rv R, .agg pk0, .int .i64 4]) ∧ Below w.heap.size w w' := by
  go_enter Try.func35, Try.ntmps35
  go_wp2_with fail
  generalize hW : ((w.alloc (.cells (refC R) 40)).alloc (.cells refZ 40)).alloc (.cells pk0 31) = W
  have hb0 : Blk W w.heap.size 40 (refC R) := by rw [← hW]; exact ((Blk.new w 40 _).alloc _).alloc _
  have hb1 : Blk W (w.heap.size + 1) 40 refZ := by rw [← hW]; simpa using (Blk.new (w.alloc _) 40 _).alloc _
  have hb2 : Blk W (w.heap.size + 1 + 1) 31 pk0 := by rw [← hW]; simpa using Blk.new ((w.alloc _).alloc _) 31 _
  have hbW : Below w.heap.size w W := by rw [← hW]; exact (((Below.refl _ _).alloc (Nat.le_refl _) _).alloc (by simp) _).alloc (by simp; omega) _
  have hsW : W.heap.size = w.heap.size + 3 := by rw [← hW]; simp
  have hRW := h.olds hbW
  clear hW
  refine (find_no R _ id W hRW hl hx).mono ?_
  rintro e w1 ⟨rfl, hbel1⟩
  have e0 := hb0.below hbel1 hb0.lt
  have e1 := hb1.below hbel1 hb1.lt
  have e2 := hb2.below hbel1 hb2.lt
  have hs1 := hbel1.size
  obtain ⟨lt0, c0, f0⟩ := e0.facts
  simp only [refC] at c0
  have hbel : Below w.heap.size w w1 := hbW.trans (hbel1.mono (by omega))
  have HS := Lib.hid hsW
  have HS1 := Lib.hid hs1
  clear hb0 hb1 hb2 hRW h hbW hbel1 hx hsW hs1 hl
  go_wp2_with (first
    | (refine wpList_storeBlk rfl (.tmp 4) (.tmp 17) 40 rfl (w.heap.size + 1) 40 refZ _ _ 8 96 info40 rfl rfl rfl (e1.alloc _) rfl (by simp [Value.oneCell']) ?_
       intro w4 x2 hF4 hs4
       have e4 := (e2.alloc (.cells pk0 31)).fr hF4 (by omega)
       have HS4 := Lib.hid hs4
       clear hs4)
    | (refine wpList_storeBlk rfl (.tmp 5) (.tmp 18) 31 rfl (w.heap.size + 1 + 1) 31 pk0 _ _ 3 40 info31 rfl rfl rfl e4 rfl (by simp [Value.oneCell']) ?_
       intro w5 x5 hF5 hs5
       have x4 := x2.fr hF5 (by omega)
       obtain ⟨xlt, xc, xf⟩ := x4.facts
       obtain ⟨ylt, yc, yf⟩ := x5.facts))
  refine bodyPost_ret (v := .tuple #[rv R, .agg pk0, .int .i64 4]) (by simp [results, Try.results35, go_sem, xc, yc]) rfl ⟨rfl, ?_⟩
  have := HS.out
  have := HS1.out
  have h4 := HS4.out
  simp at h4
  exact ((hbel.alloc (by omega) _).trans (hF4.below (by simp; omega) (fun k hk => by omega))).trans (hF5.below (by omega) (fun k hk => by omega))
set_option maxRecDepth 10000 in
set_option maxHeartbeats 1000000 in
theorem give_cut (R : RefS) (B : Nat → Prop) (id : Int) (x : It) (w : World) (h : Ref w B R) (hl : R.items.length ≤ 1000) (hx : rfind R.items id = some x) (hj : joinB R x.frm x.to = false) :
    Calls Try.prog 35 #[rv R, .int .i64 id] w fun e w' => e = .returned (.tuple #[rv R, .agg pk0, .int .i64 16]) ∧ Below w.heap.size w w' := by
  go_enter Try.func35, Try.ntmps35
  go_wp2_with fail
  generalize hW : ((w.alloc (.cells (refC R) 40)).alloc (.cells refZ 40)).alloc (.cells pk0 31) = W
  have hb0 : Blk W w.heap.size 40 (refC R) := by rw [← hW]; exact ((Blk.new w 40 _).alloc _).alloc _
  have hb1 : Blk W (w.heap.size + 1) 40 refZ := by rw [← hW]; simpa using (Blk.new (w.alloc _) 40 _).alloc _
  have hb2 : Blk W (w.heap.size + 1 + 1) 31 pk0 := by rw [← hW]; simpa using Blk.new ((w.alloc _).alloc _) 31 _
  have hbW : Below w.heap.size w W := by rw [← hW]; exact (((Below.refl _ _).alloc (Nat.le_refl _) _).alloc (by simp) _).alloc (by simp; omega) _
  have hsW : W.heap.size = w.heap.size + 3 := by rw [← hW]; simp
  have hRW := h.olds hbW
  clear hW
  refine (find_yes R _ id x W hRW hl hx).mono ?_
  rintro e w1 ⟨rfl, hbel1⟩
  have e0 := hb0.below hbel1 hb0.lt
  have e1 := hb1.below hbel1 hb1.lt
  have e2 := hb2.below hbel1 hb2.lt
  have hs1 := hbel1.size
  obtain ⟨lt0, c0, f0⟩ := e0.facts
  simp only [refC] at c0
  have hbel : Below w.heap.size w w1 := hbW.trans (hbel1.mono (by omega))
  have HS := Lib.hid hsW
  have HS1 := Lib.hid hs1
  have HR := Lib.hid h
  clear hb0 hb1 hb2 hRW h hbW hbel1 hx hsW hs1 hl
  go_wp2_with fail
  have hsW := HS.out
  have hss1 := HS1.out
  have hbW2 := hbel.alloc (show w.heap.size ≤ w1.heap.size by omega) (.cells (pkC x) 31)
  have hRW := HR.out.olds hbW2
  have hb0 := e0.alloc (.cells (pkC x) 31)
  have hb1 := e1.alloc (.cells (pkC x) 31)
  have hb2 := e2.alloc (.cells (pkC x) 31)
  have hsW2 : w.heap.size + 3 ≤ (w1.alloc (.cells (pkC x) 31)).heap.size := by simp; omega
  clear HS HS1 HR e0 e1 e2 hbel lt0 c0 f0 hss1
  generalize (w1.alloc (.cells (pkC x) 31)) = W2 at *
  refine (joined_n R _ x.frm x.to W2 hRW hj).mono ?_
  rintro e w2 ⟨rfl, hb2'⟩
  have e0 := hb0.below hb2' hb0.lt
  have e1 := hb1.below hb2' hb1.lt
  have e2 := hb2.below hb2' hb2.lt
  have hsz2 := hb2'.size
  have hbel : Below w.heap.size w w2 := hbW2.trans (hb2'.mono (by omega))
  have HS2 := Lib.hid hsW2; have HS := Lib.hid hsW; have HZ := Lib.hid hsz2
  obtain ⟨lt0, c0, f0⟩ := e0.facts
  simp only [refC] at c0
  clear hb0 hb1 hRW hb2' hbW2 hsW2 hsW hsz2
  go_wp2_with (first
    | (refine wpList_storeBlk rfl (.tmp 4) (.tmp 26) 40 rfl (w.heap.size + 1) 40 refZ _ _ 8 96 info40 rfl rfl rfl e1 rfl (by simp [Value.oneCell']) ?_
       intro w4 x2 hF4 hs4
       have e4 := e2.fr hF4 (by omega)
       have HS4 := Lib.hid hs4
       clear hs4)
    | (refine wpList_storeBlk rfl (.tmp 5) (.tmp 27) 31 rfl (w.heap.size + 1 + 1) 31 pk0 _ _ 3 40 info31 rfl rfl rfl e4 rfl (by simp [Value.oneCell']) ?_
       intro w5 x5 hF5 hs5
       have x4 := x2.fr hF5 (by omega)
       obtain ⟨xlt, xc, xf⟩ := x4.facts
       obtain ⟨ylt, yc, yf⟩ := x5.facts))
  refine bodyPost_ret (v := .tuple #[rv R, .agg pk0, .int .i64 16]) (by simp [results, Try.results35, go_sem, xc, yc]) rfl ⟨rfl, ?_⟩
  have := HS.out
  have := HZ.out
  have := HS2.out
  have h4 := HS4.out
  exact (hbel.trans (hF4.below (by omega) (fun k hk => by omega))).trans (hF5.below (by omega) (fun k hk => by omega))
end Go.Proofs.Ytgjkahndclijgaa

import Derived.Test.YtgjkahndclijgaaRef6
namespace Go.Proofs.Ytgjkahndclijgaa
open Go.RowKit Go.Own
theorem Ref.olds {w W : World} {B : Nat → Prop} {R : RefS} (h : Ref w B R) (hb : Below w.heap.size w W) : Ref W (fun k => B k ∧ k < w.heap.size) R :=
  Ref.fr (S := (w.heap.size ≤ ·)) ⟨h.grp.old (by omega), h.its.old (by omega), fun x hx => (h.bod x hx).old (by omega)⟩ ⟨hb.os, hb.tape, hb.output, hb.size, fun k hk hn => hb.block k (by omega)⟩ (fun k hk => by omega)
set_option maxRecDepth 10000 in
set_option maxHeartbeats 1000000 in
theorem lose_no (R : RefS) (B : Nat → Prop) (id : Int) (w : World) (h : Ref w B R) (hl : R.items.length ≤ 1000) (hx : rfind R.items id = none) :
    Calls Try.prog 36 #[rv R, .int .i64 id] w fun e w' => e = .returned (.tuple #[rv R, .int .i64 4]) ∧ Below w.heap.size w w' := by
  go_enter Try.func36, Try.ntmps36
  go_wp2_with fail
  generalize hW : (w.alloc (.cells (refC R) 40)).alloc (.cells refZ 40) = W
  have hb0 : Blk W w.heap.size 40 (refC R) := by rw [← hW]; exact (Blk.new w 40 _).alloc _
  have hb1 : Blk W (w.heap.size + 1) 40 refZ := by rw [← hW]; simpa using Blk.new (w.alloc _) 40 _
  have hbW : Below w.heap.size w W := by rw [← hW]; exact ((Below.refl _ _).alloc (Nat.le_refl _) _).alloc (by simp) _
  have hsW : W.heap.size = w.heap.size + 2 := by rw [← hW]; simp
  have hRW := h.olds hbW
  clear hW
  refine (find_no R _ id W hRW hl hx).mono ?_
  rintro e w1 ⟨rfl, hbel1⟩
  have e0 := hb0.below hbel1 hb0.lt
  have e1 := hb1.below hbel1 hb1.lt
  have hs1 := hbel1.size
  obtain ⟨lt0, c0, f0⟩ := e0.facts
  simp only [refC] at c0
  have hbel : Below w.heap.size w w1 := hbW.trans (hbel1.mono (by omega))
  have HS := Lib.hid hsW
  have HS1 := Lib.hid hs1
  clear hb0 hb1 hRW h hbW hbel1 hx hsW hs1 hl
  go_wp2_with (refine wpList_storeBlk rfl (.tmp 4) (.tmp 16) 40 rfl (w.heap.size + 1) 40 refZ _ _ 8 96 info40 rfl rfl rfl (e1.alloc _) rfl (by simp [Value.oneCell']) ?_; (intro w4 x2 hF4 hs4; obtain ⟨xlt, xc, xf⟩ := x2.facts))
  refine bodyPost_ret (v := .tuple #[rv R, .int .i64 4]) (by simp [results, Try.results36, go_sem, xc]) rfl ⟨rfl, ?_⟩
  have := HS.out
  have := HS1.out
  exact (hbel.alloc (by omega) _).trans (hF4.below (by simp; omega) (fun k hk => by omega))
def lostR (R : RefS) (A : Option Addr) (c : Nat) (id : Int) : RefS := { withoutR R A c id with lost := R.lost + 1 }
def LosePost (R : RefS) (id : Int) (w : World) (e : Ending) (w' : World) : Prop := ∃ A c, e = .returned (.tuple #[rv (lostR R A c id), .int .i64 0]) ∧ Reads w' (w.heap.size ≤ ·) 4 A (rdel R.items id).length (itcs (rdel R.items id)) ∧ Below w.heap.size w w'
set_option maxRecDepth 10000 in
set_option maxHeartbeats 1000000 in
theorem lose_ok (R : RefS) (B : Nat → Prop) (id : Int) (x : It) (w : World) (h : Ref w B R) (hl : R.items.length ≤ 1000) (hx : rfind R.items id = some x) (hs0 : 0 ≤ R.lost) (hs1 : R.lost ≤ 1000000) :
    Calls Try.prog 36 #[rv R, .int .i64 id] w (LosePost R id w) := by
  go_enter Try.func36, Try.ntmps36
  go_wp2_with fail
  generalize hW : (w.alloc (.cells (refC R) 40)).alloc (.cells refZ 40) = W
  have hb0 : Blk W w.heap.size 40 (refC R) := by rw [← hW]; exact (Blk.new w 40 _).alloc _
  have hb1 : Blk W (w.heap.size + 1) 40 refZ := by rw [← hW]; simpa using Blk.new (w.alloc _) 40 _
  have hbW : Below w.heap.size w W := by rw [← hW]; exact ((Below.refl _ _).alloc (Nat.le_refl _) _).alloc (by simp) _
  have hsW : W.heap.size = w.heap.size + 2 := by rw [← hW]; simp
  have hRW := h.olds hbW
  clear hW
  refine (find_yes R _ id x W hRW hl hx).mono ?_
  rintro e w1 ⟨rfl, hbel1⟩
  have e0 := hb0.below hbel1 hb0.lt
  have e1 := hb1.below hbel1 hb1.lt
  have hss1 := hbel1.size
  obtain ⟨lt0, c0, f0⟩ := e0.facts
  simp only [refC] at c0
  have hbel : Below w.heap.size w w1 := hbW.trans (hbel1.mono (by omega))
  have HS := Lib.hid hsW
  have HS1 := Lib.hid hss1
  have HR := Lib.hid h
  clear hb0 hb1 hRW h hbW hbel1 hx hsW hss1
  go_wp2_with fail
  have hsW := HS.out
  have hss1 := HS1.out
  have hRW := HR.out.olds (hbel.alloc (by omega) (.cells #[.int .i64 x.frm, .int .i64 x.to, .slice x.A x.n x.c] 31))
  have hb0 := e0.alloc (.cells #[.int .i64 x.frm, .int .i64 x.to, .slice x.A x.n x.c] 31)
  have hb1 := e1.alloc (.cells #[.int .i64 x.frm, .int .i64 x.to, .slice x.A x.n x.c] 31)
  have hbW2 := hbel.alloc (show w.heap.size ≤ w1.heap.size by omega) (.cells #[.int .i64 x.frm, .int .i64 x.to, .slice x.A x.n x.c] 31)
  have hsW2 : w.heap.size + 2 ≤ (w1.alloc (.cells #[.int .i64 x.frm, .int .i64 x.to, .slice x.A x.n x.c] 31)).heap.size := by simp; omega
  clear HS HS1 HR e0 e1 hbel lt0 c0 f0 hss1
  generalize (w1.alloc (.cells #[.int .i64 x.frm, .int .i64 x.to, .slice x.A x.n x.c] 31)) = W2 at *
  refine (without_any R _ id W2 hRW hl).mono ?_
  rintro e w2 ⟨A2, c2, rfl, hR2, hb2'⟩
  have e0 := hb0.below hb2' hb0.lt
  have e2 := hb1.below hb2' hb1.lt
  have hsz2 := hb2'.size
  simp only [withoutR, rv]
  have hbel : Below w.heap.size w w2 := hbW2.trans (hb2'.mono (by omega))
  have HS2 := Lib.hid hsW2; have HS := Lib.hid hsW; have HZ := Lib.hid hsz2
  clear hb0 hb1 hRW hb2' hbW2 hsW2 hsW hsz2
  go_wp2_with (first
    | (refine wpList_storeBlk rfl (.tmp 2) (.tmp 19) 40 rfl w.heap.size 40 (refC R) _ _ 8 96 info40 rfl rfl rfl e0 rfl (by simp [Value.oneCell']) ?_
       intro w3 d0 hF3 hs3
       have d2 := e2.fr hF3 (by omega)
       obtain ⟨lt0, c0, f0⟩ := d0.facts
       have HS3 := Lib.hid hs3
       clear hs3)
    | (refine wpList_storeBlk rfl (.tmp 4) (.tmp 24) 40 rfl (w.heap.size + 1) 40 refZ _ _ 8 96 info40 rfl rfl rfl (d2.far (by simp) _) rfl (by simp [Value.oneCell']) ?_
       intro w4 x2 hF4 hs4
       obtain ⟨xlt, xc, xf⟩ := x2.facts))
  refine bodyPost_ret (v := .tuple #[rv (lostR R A2 c2 id), .int .i64 0]) (by simp [results, Try.results36, go_sem, xc, lostR, withoutR]) rfl ⟨A2, c2, rfl, ?_, ?_⟩
  · have := HS2.out
    have h3 := hR2.fr hF3 (fun k hk => by omega)
    have h4 := (h3.setCell (p := ⟨w.heap.size, 6, none⟩) (by simp; omega) (.int .i64 (R.lost + 1))).fr hF4 (fun k hk => by omega)
    exact h4.more (fun k hk => by omega)
  · have s2 := hbel.size
    have b3 := hbel.trans (hF3.below (B := w.heap.size) s2 (fun k hk => by omega))
    exact (b3.setCell (p := ⟨w.heap.size, 6, none⟩) (by simp) _).trans (hF4.below (by simpa using b3.size) (fun k hk => by omega))
end Go.Proofs.Ytgjkahndclijgaa

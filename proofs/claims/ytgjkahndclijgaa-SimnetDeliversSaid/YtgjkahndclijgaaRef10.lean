import Derived.Test.YtgjkahndclijgaaRef9
namespace Go.Proofs.Ytgjkahndclijgaa
open Go.RowKit Go.Own
def cameR (R : RefS) (A : Option Addr) (c : Nat) (id : Int) : RefS := { withoutR R A c id with came := R.came + 1 }
def GivePost (R : RefS) (id : Int) (x : It) (w : World) (e : Ending) (w' : World) : Prop := ∃ A c, e = .returned (.tuple #[rv (cameR R A c id), .agg (pkC x), .int .i64 0]) ∧ Reads w' (w.heap.size ≤ ·) 4 A (rdel R.items id).length (itcs (rdel R.items id)) ∧ Below w.heap.size w w'
set_option maxRecDepth 10000 in
set_option maxHeartbeats 1000000 in
theorem give_ok (R : RefS) (B : Nat → Prop) (id : Int) (x : It) (w : World) (h : Ref w B R) (hl : R.items.length ≤ 1000) (hx : rfind R.items id = some x) (hj : joinB R x.frm x.to = true) (hs0 : 0 ≤ R.came) (hs1 : R.came ≤ 1000000) :
    Calls Try.prog 35 #[rv R, .int .i64 id] w (GivePost R id x w) := by
  go_enter Try.func35, Try.ntmps35
  go_wp2_with fail
  generalize hW : ((w.alloc (.cells (refC R) 40)).alloc (.cells refZ 40)).alloc (.cells pk0 31) = W
  have hb0 : Blk W w.heap.size 40 (refC R) := by rw [← hW]; exact ((Blk.new w 40 _).alloc _).alloc _
  have hb1 : Blk W (w.heap.size + 1) 40 refZ := by rw [← hW]; simpa using (Blk.new (w.alloc _) 40 _).alloc _
  have hb2 : Blk W (w.heap.size + 1 + 1) 31 pk0 := by rw [← hW]; simpa using Blk.new ((w.alloc _).alloc _) 31 _
  have hbW : Below w.heap.size w W := by rw [← hW]; exact (((Below.refl _ _).alloc (Nat.le_refl _) _).alloc (by simp) _).alloc (by simp; omega) _
  have hsW : W.heap.size = w.heap.size + 3 := by rw [← hW]; simp
  have hRW := h.olds hbW
  clear hW
  refine (find_yes R _ id x W hRW hl hx).mono ?_
  rintro e w1 ⟨rfl, hbel1⟩
  have e0 := hb0.below hbel1 hb0.lt
  have e1 := hb1.below hbel1 hb1.lt
  have e2 := hb2.below hbel1 hb2.lt
  have hss1 := hbel1.size
  obtain ⟨lt0, c0, f0⟩ := e0.facts
  simp only [refC] at c0
  have hbel : Below w.heap.size w w1 := hbW.trans (hbel1.mono (by omega))
  have HS := Lib.hid hsW
  have HS1 := Lib.hid hss1
  have HR := Lib.hid h
  clear hb0 hb1 hb2 hRW h hbW hbel1 hx hsW hss1
  go_wp2_with fail
  have hsW := HS.out
  have hss1 := HS1.out
  have hbW2 := hbel.alloc (show w.heap.size ≤ w1.heap.size by omega) (.cells (pkC x) 31)
  have hRW := HR.out.olds hbW2
  have hb0 := e0.alloc (.cells (pkC x) 31)
  have hb1 := e1.alloc (.cells (pkC x) 31)
  have hb2 := e2.alloc (.cells (pkC x) 31)
  have hsW2 : w.heap.size + 3 ≤ (w1.alloc (.cells (pkC x) 31)).heap.size := by simp; omega
  have hb3 : Blk (w1.alloc (.cells (pkC x) 31)) w1.heap.size 31 (pkC x) := Blk.new w1 31 _
  have hRo := HR.out
  clear HS HS1 HR e0 e1 e2 hbel lt0 c0 f0
  generalize (w1.alloc (.cells (pkC x) 31)) = W2 at *
  refine (joined_y R _ x.frm x.to W2 hRW hj).mono ?_
  rintro e w2 ⟨rfl, hb2'⟩
  have e0 := hb0.below hb2' hb0.lt
  have e1 := hb1.below hb2' hb1.lt
  have e2 := hb2.below hb2' hb2.lt
  have e3 := hb3.below hb2' hb3.lt
  have hsz2 := hb2'.size
  have hbel : Below w.heap.size w w2 := hbW2.trans (hb2'.mono (by omega))
  have HS2 := Lib.hid hsW2; have HS := Lib.hid hsW; have HZ := Lib.hid hsz2; have HS1 := Lib.hid hss1
  obtain ⟨lt0, c0, f0⟩ := e0.facts
  simp only [refC] at c0
  have HRo := Lib.hid hRo
  clear hb0 hb1 hb3 hRW hb2' hbW2 hsW2 hsW hsz2 hss1 hRo
  go_wp2_with fail
  have hRW := HRo.out.olds hbel
  clear lt0 c0 f0
  refine (without_any R _ id w2 hRW hl).mono ?_
  rintro e w3 ⟨A3, c3, rfl, hR3, hb3'⟩
  have g0 := e0.below hb3' e0.lt
  have g1 := e1.below hb3' e1.lt
  have g2 := e2.below hb3' e2.lt
  have g3 := e3.below hb3' e3.lt
  have hsz3 := hb3'.size
  simp only [withoutR, rv]
  have hsW := HS.out; have hsW2 := HS2.out; have hsz2 := HZ.out; have hss1 := HS1.out
  have hbel3 : Below w.heap.size w w3 := hbel.trans (hb3'.mono (by omega))
  have ne0 : w1.heap.size ≠ w.heap.size := by omega
  have ne1 : w1.heap.size ≠ w.heap.size + 1 := by omega
  have ne2 : w1.heap.size ≠ w.heap.size + 1 + 1 := by omega
  have HZ3 := Lib.hid hsz3
  clear e0 e1 e2 e3 hRW hb3' hbel hsz3 hsW hsW2 hsz2 hss1 HRo
  go_wp2_with (refine wpList_storeBlk rfl (.tmp 2) (.tmp 30) 40 rfl w.heap.size 40 (refC R) _ _ 8 96 info40 rfl rfl rfl g0 rfl (by simp [Value.oneCell']) ?_
               intro w4 d0 hF4 hs4
               have d1 := g1.fr hF4 (by omega)
               have d2 := g2.fr hF4 (by omega)
               have d3 := g3.fr hF4 (by omega)
               obtain ⟨lt0, c0, f0⟩ := d0.facts
               obtain ⟨lt3, c3', f3⟩ := d3.facts
               have HS4 := Lib.hid hs4
               clear hs4)
  obtain ⟨lt1, c1, f1⟩ := d1.facts
  obtain ⟨lt2, c2, f2⟩ := d2.facts
  have hsm1 : ∀ i : Nat, (⟨w.heap.size + 1, i, none⟩ : Addr) ≠ ⟨w.heap.size, 5, none⟩ := by simp
  go_region
  go_wp2
  have hsW := HS.out; have hsW2 := HS2.out; have hsz2 := HZ.out; have hss1 := HS1.out; have hsz3 := HZ3.out; have hs4 := HS4.out
  refine bodyPost_ret (v := .tuple #[rv (cameR R A3 c3 id), .agg (pkC x), .int .i64 0]) (by simp [results, Try.results35, go_sem, c1, c2, cameR, withoutR]) rfl ⟨A3, c3, rfl, ?_, ?_⟩
  · have h4 := (hR3.fr hF4 (fun k hk => by omega)).more (B' := (w.heap.size + 3 ≤ ·)) (fun k hk => by omega)
    refine Reads.more (B := (w.heap.size + 3 ≤ ·)) ?_ (fun k hk => by omega)
    refine Reads.drew ?_
    repeat (refine Reads.setCell ?_ (by first | (simp; done) | (simp; omega)) _)
    exact h4
  · have b4 := hbel3.trans (hF4.below (B := w.heap.size) hbel3.size (fun k hk => by omega))
    refine Below.drew ?_
    repeat (refine Below.setCell ?_ (by first | (simp; done) | (simp; omega)) _)
    exact b4
end Go.Proofs.Ytgjkahndclijgaa

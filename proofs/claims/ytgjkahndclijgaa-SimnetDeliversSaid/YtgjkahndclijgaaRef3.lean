import Derived.Test.YtgjkahndclijgaaRef2
import Derived.Deep.RegionHeld3
import Derived.Deep.RegionLaw
import Derived.Deep.DeepCutAuto
namespace Go.Proofs.Ytgjkahndclijgaa
open Go.RowKit Go.Own

def rputR (R : RefS) (A : Option Addr) (c : Nat) (x : It) : RefS := { R with ia := A, ic := c, items := R.items ++ [x], next := R.next + 1 }
def RputPost (R : RefS) (x : It) (w : World) (e : Ending) (w' : World) : Prop := ∃ A c, e = .returned (.tuple #[rv (rputR R A c x), .int .i64 (R.next + 1)]) ∧ Reads w' (w.heap.size ≤ ·) 4 A (R.items.length + 1) (itcs (R.items ++ [x])) ∧ Below w.heap.size w w'
set_option maxRecDepth 10000 in
set_option maxHeartbeats 2000000 in
theorem rput_any (R : RefS) (B : Nat → Prop) (f t : Int) (A : Option Addr) (n c : Nat) (body : List Int) (w : World) (h : Ref w B R) (hl : R.items.length ≤ 1000) (hn0 : 0 ≤ R.next) (hn1 : R.next ≤ 1000000) :
    Calls Try.prog 41 #[rv R, .agg #[.int .i64 f, .int .i64 t, .slice A n c]] w (RputPost R ⟨R.next + 1, f, t, A, n, c, body⟩ w) := by
  have hits := (h.its.old (by omega)).more (B' := (· < w.heap.size)) (fun k hk => hk.2)
  go_enter Try.func41, Try.ntmps41
  go_wp2_with fail
  generalize hW : (((w.alloc (.cells #[.int .i64 R.n, .slice R.ga R.n R.gc, .slice R.ia R.items.length R.ic, .int .i64 (R.next + 1), .int .i64 R.sent, .int .i64 R.came, .int .i64 R.lost, .int .i64 R.dbl] 40)).alloc (.cells #[.int .i64 f, .int .i64 t, .slice A n c] 31)).alloc (.cells #[.int .i64 0, .slice none 0 0, .slice none 0 0, .int .i64 0, .int .i64 0, .int .i64 0, .int .i64 0, .int .i64 0] 40)) = W
  have hb0 : Blk W w.heap.size 40 #[.int .i64 R.n, .slice R.ga R.n R.gc, .slice R.ia R.items.length R.ic, .int .i64 (R.next + 1), .int .i64 R.sent, .int .i64 R.came, .int .i64 R.lost, .int .i64 R.dbl] := by rw [← hW]; exact ((Blk.new w 40 _).alloc _).alloc _
  have hb1 : Blk W (w.heap.size + 1) 31 #[.int .i64 f, .int .i64 t, .slice A n c] := by rw [← hW]; simpa using (Blk.new (w.alloc _) 31 _).alloc _
  have hb2 : Blk W (w.heap.size + 2) 40 #[.int .i64 0, .slice none 0 0, .slice none 0 0, .int .i64 0, .int .i64 0, .int .i64 0, .int .i64 0, .int .i64 0] := by rw [← hW]; simpa using Blk.new ((w.alloc _).alloc _) 40 _
  have hbW : Below w.heap.size w W := by rw [← hW]; exact (((Below.refl _ _).alloc (Nat.le_refl _) _).alloc (by simp) _).alloc (by simp <;> omega) _
  have hsW : W.heap.size = w.heap.size + 3 := by rw [← hW]; simp
  have hitW := hits.below hbW (fun _ h => h)
  clear hW hits
  have q2 : W.cell? ⟨w.heap.size, 2, none⟩ = some (.slice R.ia R.items.length R.ic) := hb0.cell 2
  have q3 : W.cell? ⟨w.heap.size, 3, none⟩ = some (.int .i64 (R.next + 1)) := hb0.cell 3
  have p0 : W.cell? ⟨w.heap.size + 1, 0, none⟩ = some (.int .i64 f) := hb1.cell 0
  have p1 : W.cell? ⟨w.heap.size + 1, 1, none⟩ = some (.int .i64 t) := hb1.cell 1
  have p2 : W.cell? ⟨w.heap.size + 1, 2, none⟩ = some (.slice A n c) := hb1.cell 2
  have hsW' : w.heap.size + 3 ≤ W.heap.size := by omega
  have lt0 : w.heap.size < W.heap.size := by omega
  have lt1 : w.heap.size + 1 < W.heap.size := by omega
  have HSW := Lib.hid hsW; clear hsW
  have hsrc := fun W' : World => Reads.newS W' (itc ⟨R.next + 1, f, t, A, n, c, body⟩) 63 (0, 0) 1 4 rfl _ rfl
  have hnone : ∀ k, k = W.heap.size → some k ≠ (Value.slice none 0 0).ownBlock := by simp [Value.ownBlock]
  go_cut [14] (fun _ wx => ∃ A3 c3, Blk wx w.heap.size 40 #[.int .i64 R.n, .slice R.ga R.n R.gc, .slice A3 (R.items.length + 1) c3, .int .i64 (R.next + 1), .int .i64 R.sent, .int .i64 R.came, .int .i64 R.lost, .int .i64 R.dbl] ∧
    Blk wx (w.heap.size + 2) 40 #[.int .i64 0, .slice none 0 0, .slice none 0 0, .int .i64 0, .int .i64 0, .int .i64 0, .int .i64 0, .int .i64 0] ∧ Reads wx (w.heap.size + 3 ≤ ·) 4 A3 (R.items.length + 1) (itcs (R.items ++ [⟨R.next + 1, f, t, A, n, c, body⟩])) ∧ Below w.heap.size w wx)
  case first =>
    go_region_law (first
        | (refine step_append_any _ (by rfl) (.tmp 11) (.tmp 13) _ (by rfl) (w.heap.size + 3) 63 _ 4 48 Try.underlying38 info63 rfl (by omega) (.slice none 0 0) 0 [] (by rfl) (World.ownsRow_nil _ _ _ _) (fun k => k < w.heap.size) R.ia R.items.length R.ic (itcs R.items) (by rfl) ?_ (itcs_one _) (by simp only [maxLen]; omega) (by omega) ?_ ?_
           · first | exact hitW.drew | exact (hitW.alloc _).drew
           · first | exact hsW' | (simp; omega)
           intro A2 c2 w2 hown2 hgr2 hat2
           simp only [Nat.zero_add, List.nil_append] at hown2 hat2
           have hs2 : W.heap.size ≤ w2.heap.size := by have := hgr2.size; simp at this; omega
           have hf2 : w2.frozen? ⟨w.heap.size, 2, none⟩ = false := by rw [grown_frozen hgr2 (by simp <;> omega) (by simp [Value.ownBlock])]; first | exact hb0.frozen 2 | exact (hb0.alloc _).frozen 2
           have q3' : w2.cell? ⟨w.heap.size, 3, none⟩ = some (.int .i64 (R.next + 1)) := by rw [grown_cell hgr2 (by simp <;> omega) (by simp [Value.ownBlock])]; first | exact hb0.cell 3 | exact (hb0.alloc _).cell 3
           have p0' : w2.cell? ⟨w.heap.size + 1, 0, none⟩ = some (.int .i64 f) := by rw [grown_cell hgr2 (by simp <;> omega) (by simp [Value.ownBlock])]; first | exact hb1.cell 0 | exact (hb1.alloc _).cell 0
           have p1' : w2.cell? ⟨w.heap.size + 1, 1, none⟩ = some (.int .i64 t) := by rw [grown_cell hgr2 (by simp <;> omega) (by simp [Value.ownBlock])]; first | exact hb1.cell 1 | exact (hb1.alloc _).cell 1
           have p2' : w2.cell? ⟨w.heap.size + 1, 2, none⟩ = some (.slice A n c) := by rw [grown_cell hgr2 (by simp <;> omega) (by simp [Value.ownBlock])]; first | exact hb1.cell 2 | exact (hb1.alloc _).cell 2
           have lt0' : w.heap.size < w2.heap.size := by omega
           have lt1' : w.heap.size + 1 < w2.heap.size := by omega
           first | have hB2 := hb0.drew.grown hgr2 (by simp [Value.ownBlock]) | have hB2 := (hb0.alloc _).drew.grown hgr2 (by simp [Value.ownBlock])
           first | have hC2 := hb2.drew.grown hgr2 (by simp [Value.ownBlock]) | have hC2 := (hb2.alloc _).drew.grown hgr2 (by simp [Value.ownBlock]))
        | (refine step_append_any _ (by rfl) (.tmp 14) (.tmp 19) _ (by rfl) (w.heap.size + 3) 63 _ 4 48 Try.underlying38 info63 rfl (by omega) (.slice A2 R.items.length c2) R.items.length (itcs R.items) (by rfl) (by first | exact hown2.alloc _ | exact hown2) _ _ 1 1 (itc ⟨R.next + 1, f, t, A, n, c, body⟩) (by rfl) (by first | exact hsrc _ | exact (hsrc _).drew.grown hgr2 hnone) (fun u hu => itcs_one [⟨R.next + 1, f, t, A, n, c, body⟩] u (by simpa [itcs] using hu)) (by simp only [maxLen]; omega) (by omega) (by first | omega | (simp; omega)) ?_
           intro A3 c3 w3 hown3 hgr3 hat3
           have hr3 : ∀ g, (Value.slice A2 R.items.length c2).ownBlock = some g → w.heap.size + 3 ≤ g := fun g hg => (hown2.lt g hg).1
           first | have hB3 := hB2.grown hgr3 (fun e => by have := hr3 _ e.symm; omega) | have hB3 := (hB2.alloc _).grown hgr3 (fun e => by have := hr3 _ e.symm; omega)
           first | have hC3 := hC2.grown hgr3 (fun e => by have := hr3 _ e.symm; omega) | have hC3 := (hC2.alloc _).grown hgr3 (fun e => by have := hr3 _ e.symm; omega)
           have q2' : w3.cell? ⟨w.heap.size, 2, none⟩ = some (.slice R.ia R.items.length R.ic) := hB3.cell 2
           have hf3 : w3.frozen? ⟨w.heap.size, 2, none⟩ = false := hB3.frozen 2))
    all_goals
      go_wp2_with fail
      go_meet
      case rel =>
        refine ⟨A3, c3, by simpa using hB3.set_ 2 (.slice A3 (R.items.length + 1) c3), hC3.far (p := ⟨w.heap.size, 2, none⟩) (by simp) _, ?_, ?_⟩
        · have := ((Reads.of_own hown3).more (B' := fun k => w.heap.size + 3 ≤ k) (fun k hk => (hown3.lt k hk).1)).setCell (p := ⟨w.heap.size, 2, none⟩) (by simp) (.slice A3 (R.items.length + 1) c3)
          rw [itcs_append]; simpa [itcs] using this
        · have b2 : Below w.heap.size w w2 := by first | exact (hbW.drew).grown hgr2 (by simp <;> omega) (by simp [Value.ownBlock]) | exact ((hbW.alloc (by omega) _).drew).grown hgr2 (by simp <;> omega) (by simp [Value.ownBlock])
          have b3 : Below w.heap.size w w3 := by first | exact b2.grown hgr3 (by omega) (fun k hk => by have := hr3 k hk; omega) | exact (b2.alloc (by omega) _).grown hgr3 (by simp <;> omega) (fun k hk => by have := hr3 k hk; omega)
          exact b3.setCell (by simp) _
  case rest =>
    obtain ⟨A3, c3, hB, hC, hR, hbel⟩ := hcut
    obtain ⟨blt, bc, bf⟩ := hB.facts
    obtain ⟨clt, cc, cf⟩ := hC.facts
    have clt' : w.heap.size + 1 + 1 < wc.heap.size := clt
    clear hb0 hb1 hb2 hitW q2 q3 p0 p1 p2 hbW hsrc
    go_wp2
    go_region
    go_wp2
    have cc' : ∀ i, wc.cell? ⟨w.heap.size + 1 + 1, i, none⟩ = _ := cc
    refine bodyPost_ret (v := .tuple #[rv (rputR R A3 c3 ⟨R.next + 1, f, t, A, n, c, body⟩), .int .i64 (R.next + 1)]) (by simp [results, Try.results41, go_sem, cc', rputR]) rfl ⟨A3, c3, rfl, ?_, ?_⟩
    · have n1 : ∀ i u W, Reads W (w.heap.size + 3 ≤ ·) 4 A3 (R.items.length + 1) (itcs (R.items ++ [⟨R.next + 1, f, t, A, n, c, body⟩])) → Reads (W.setCell ⟨w.heap.size + 1 + 1, i, none⟩ u) (w.heap.size + 3 ≤ ·) 4 A3 (R.items.length + 1) (itcs (R.items ++ [⟨R.next + 1, f, t, A, n, c, body⟩])) := fun i u W h => h.setCell (by simp) u
      exact Reads.more (n1 _ _ _ (n1 _ _ _ (n1 _ _ _ (n1 _ _ _ (n1 _ _ _ (n1 _ _ _ (n1 _ _ _ (n1 _ _ _ hR)))))))).drew (fun k hk => by omega)
    · exact ((((((((hbel.setCell (by simp; omega) _).setCell (by simp; omega) _).setCell (by simp; omega) _).setCell (by simp; omega) _).setCell (by simp; omega) _).setCell (by simp; omega) _).setCell (by simp; omega) _).setCell (by simp; omega) _).drew
end Go.Proofs.Ytgjkahndclijgaa

import Derived.Test.YtgjkahndclijgaaRef4
namespace Go.Proofs.Ytgjkahndclijgaa
open Go.RowKit Go.Own
theorem info31 : (Try.prog.info? 31).map (fun i => (i.zero, i.size, i.bytes)) = some (some (.agg #[.int .i64 0, .int .i64 0, .slice none 0 0]), 3, 40) := by kernel_rfl
set_option maxRecDepth 10000 in
set_option maxHeartbeats 1000000 in
theorem split_bad (R : RefS) (A : Option Addr) (n c : Nat) (w : World) (hn : n ≠ R.n) :
    Calls Try.prog 38 #[rv R, .slice A n c] w fun e w' => e = .returned (.tuple #[rv R, .int .i64 1]) ∧ Below w.heap.size w w' := by
  have hne : ((n : Int) != (R.n : Int)) = true := by simp; omega
  go_enter Try.func38, Try.ntmps38
  go_wp2
  refine bodyPost_ret (v := .tuple #[rv R, .int .i64 1]) (by simp [results, Try.results38, go_sem]) rfl ⟨rfl, ?_⟩
  exact ((Below.refl _ _).alloc (Nat.le_refl _) _).alloc (by simp) _
def splitR (R : RefS) (A : Option Addr) (c : Nat) (gs : List Int) : RefS := { R with ga := A, gc := c, groups := gs }
def SplitPost (R : RefS) (gs : List Int) (w : World) (e : Ending) (w' : World) : Prop := ∃ A c, e = .returned (.tuple #[rv (splitR R A c gs), .int .i64 0]) ∧ Reads w' (w.heap.size ≤ ·) 1 A R.n (gs.map (Value.int .i64)) ∧ Below w.heap.size w w'
set_option maxRecDepth 10000 in
set_option maxHeartbeats 1000000 in
theorem split_ok (R : RefS) (B : Nat → Prop) (A : Option Addr) (c : Nat) (gs : List Int) (w : World) (hr : Reads w B 1 A R.n (gs.map (Value.int .i64))) (hn : R.n ≤ 1000) :
    Calls Try.prog 38 #[rv R, .slice A R.n c] w (SplitPost R gs w) := by
  have hne : ((R.n : Int) != (R.n : Int)) = false := by simp
  go_enter Try.func38, Try.ntmps38
  go_wp2_with (first
    | (at_builtin; (refine wpList_append_any _ rfl _ _ _ rfl (w.heap.size + 2) 3 (.int .i64 0) 1 8 Try.underlying37 info3 rfl (by omega) (.slice none 0 0) 0 [] rfl (World.ownsRow_nil _ _ _ _) _ A R.n c (gs.map (Value.int .i64)) rfl ((hr.alloc _).alloc _) (ints_oneCell .i64 gs) (by simp only [maxLen]; omega) (by omega) (by simp) ?_; intro A2 c2 w2 hown2 hgr2 hat2; simp only [Nat.zero_add, List.nil_append] at hown2 hat2; have b0 : Blk w2 w.heap.size 40 (refC R) := ((Blk.new w 40 (refC R)).alloc _).grown hgr2 (by simp [Value.ownBlock]); have b1 : Blk w2 (w.heap.size + 1) 40 refZ := (show Blk _ (w.heap.size + 1) 40 refZ by simpa using Blk.new (w.alloc (.cells (refC R) 40)) 40 refZ).grown hgr2 (by simp [Value.ownBlock]); obtain ⟨lt0, c0, f0⟩ := b0.facts; obtain ⟨lt1, c1, f1⟩ := b1.facts; simp only [refC, refZ] at c0 c1))
    | (refine wpList_storeBlk rfl (.tmp 4) (.tmp 17) 40 rfl (w.heap.size + 1) 40 refZ _ _ 8 96 info40 rfl rfl rfl (b1.far (by simp) _) rfl (by simp [Value.oneCell']) ?_
       intro w4 x2 hF4 hs4
       obtain ⟨xlt, xc, xf⟩ := x2.facts))
  have b2 : Below w.heap.size w w2 := (((Below.refl _ _).alloc (Nat.le_refl _) _).alloc (by simp) _).grown hgr2 (by simp <;> omega) (by simp [Value.ownBlock])
  refine bodyPost_ret (v := .tuple #[rv (splitR R A2 c2 gs), .int .i64 0]) (by simp [results, Try.results38, go_sem, xc, splitR]) rfl ⟨A2, c2, rfl, ?_, ?_⟩
  · have h1 := ((Reads.of_own hown2).more (B' := fun k => w.heap.size + 2 ≤ k) (fun k hk => (hown2.lt k hk).1)).setCell (p := ⟨w.heap.size, 1, none⟩) (by simp) (.slice A2 R.n c2)
    exact (h1.fr hF4 (fun k hk => by omega)).more (fun k hk => by omega)
  · have b3 := b2.setCell (p := ⟨w.heap.size, 1, none⟩) (by simp) (.slice A2 R.n c2)
    exact b3.trans (hF4.below (by simpa using b3.size) (fun k hk => by omega))
end Go.Proofs.Ytgjkahndclijgaa

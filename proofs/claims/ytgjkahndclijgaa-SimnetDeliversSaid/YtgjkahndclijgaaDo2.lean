import Derived.Test.YtgjkahndclijgaaDo1
namespace Go.Proofs.Ytgjkahndclijgaa
open Go.RowKit Go.Own
set_option maxRecDepth 10000 in
set_option maxHeartbeats 1000000 in
theorem do_drop (p : Nat) (R : RefS) (a : ActS) (hk : a.kind = 2) (er : Int) (S : Nat → Prop) (J : World → Prop) (K K' : RefS → World → Prop) (w : World) (hS : ∀ k, w.heap.size ≤ k → ¬ S k)
    (hK : ∀ R' a b, K R' a → Fr (fun k => k = w.heap.size + 1 + 1) a b → K' R' b) (H1 : ∀ W, Below w.heap.size w W → w.heap.size + 3 ≤ W.heap.size → Calls Try.prog 21 #[.pointer (some ⟨p, 0, none⟩), .int .i64 a.id] W fun e w' => e = .returned (.int .i64 er) ∧ Fr S W w' ∧ J w')
    (H2 : ∀ W, Fr S w W → w.heap.size + 3 ≤ W.heap.size → J W → Calls Try.prog 36 #[rv R, .int .i64 a.id] W (RPost K (fun R' => .tuple #[rv R', .int .i64 er]) W)) :
    Calls Try.prog 31 #[.pointer (some ⟨p, 0, none⟩), rv R, actV a] w (DoPost S K' w) := by
  have HS := Lib.hid hS
  have HK := Lib.hid hK
  have HH1 := Lib.hid H1
  have HH2 := Lib.hid H2
  simp only [actV, hk]
  clear hS hK H1 H2 hk
  go_enter Try.func31, Try.ntmps31
  go_wp2_with fail
  generalize hW : ((w.alloc (.cells (refC R) 40)).alloc (.cells #[.int .i64 2, .int .i64 a.frm, .int .i64 a.tgt, .slice a.A a.n a.c, .int .i64 a.id, .slice a.GA a.gn a.gc] 52)).alloc (.cells refZ 40) = W
  have hb0 : Blk W w.heap.size 40 (refC R) := by rw [← hW]; exact ((Blk.new w 40 _).alloc _).alloc _
  have hb1 : Blk W (w.heap.size + 1) 52 #[.int .i64 2, .int .i64 a.frm, .int .i64 a.tgt, .slice a.A a.n a.c, .int .i64 a.id, .slice a.GA a.gn a.gc] := by rw [← hW]; simpa using (Blk.new (w.alloc _) 52 _).alloc _
  have hb2 : Blk W (w.heap.size + 1 + 1) 40 refZ := by rw [← hW]; simpa using Blk.new ((w.alloc _).alloc _) 40 _
  have hbW : Below w.heap.size w W := by rw [← hW]; exact (((Below.refl _ _).alloc (Nat.le_refl _) _).alloc (by simp) _).alloc (by simp; omega) _
  have hsW : w.heap.size + 3 ≤ W.heap.size := by rw [← hW]; simp
  clear hW
  refine (HH1.out W hbW hsW).mono ?_
  rintro e w1 ⟨rfl, hF1, hJ1⟩
  have e0 := hb0.fr hF1 (HS.out _ (by omega))
  have e1 := hb1.fr hF1 (HS.out _ (by omega))
  have e2 := hb2.fr hF1 (HS.out _ (by omega))
  have hFw1 : Fr S w w1 := (Fr.of_below hbW).trans hF1
  obtain ⟨lt0, c0, f0⟩ := e0.facts
  obtain ⟨lt1, c1, f1⟩ := e1.facts
  simp only [refC] at c0
  clear hb0 hb1 hb2
  go_wp2_with fail
  refine (HH2.out w1 hFw1 (Nat.le_trans hsW hF1.size) hJ1).mono ?_
  rintro e w2 ⟨R', rfl, hB2, hK2⟩
  have g2 := e2.below hB2 e2.lt
  clear lt0 c0 f0 lt1 c1 f1 e0 e1 e2 hJ1
  simp only [rv]
  go_wp2_with (refine wpList_storeBlk rfl (.tmp 6) (.tmp 96) 40 rfl (w.heap.size + 1 + 1) 40 refZ _ _ 8 96 info40 rfl rfl rfl (g2.alloc _) rfl (by simp [Value.oneCell']) ?_
               intro w4 x2 hF4 hs4
               obtain ⟨xlt, xc, xf⟩ := x2.facts)
  have hF2 : Fr S w w2 := hFw1.trans (Fr.of_below hB2)
  have hs2 := hF2.size
  have hF4' : Fr (fun k => k = w.heap.size + 1 + 1) w2 w4 := ((Fr.refl _ _).alloc _).trans hF4
  refine bodyPost_ret (v := .tuple #[rv R', .bool true]) (by simp [results, Try.results31, go_sem, xc]) rfl ⟨R', rfl, ?_, HK.out _ _ _ hK2 hF4'⟩
  exact ⟨hF4'.os.trans hF2.os, hF4'.tape.trans hF2.tape, hF4'.output.trans hF2.output, Nat.le_trans hF2.size hF4'.size, fun k hk hn => (hF4'.block k (by omega) (by omega)).trans (hF2.block k hk hn)⟩
set_option maxRecDepth 10000 in
set_option maxHeartbeats 1000000 in
theorem do_dup (p : Nat) (R : RefS) (a : ActS) (hk : a.kind = 3) (id er : Int) (S : Nat → Prop) (J : World → Prop) (K K' : RefS → World → Prop) (w : World) (hS : ∀ k, w.heap.size ≤ k → ¬ S k)
    (hK : ∀ R' a b, K R' a → Fr (fun k => k = w.heap.size + 1 + 1) a b → K' R' b) (H1 : ∀ W, Below w.heap.size w W → w.heap.size + 3 ≤ W.heap.size → Calls Try.prog 13 #[.pointer (some ⟨p, 0, none⟩), .int .i64 a.id] W fun e w' => e = .returned (.tuple #[.int .i64 id, .int .i64 er]) ∧ Fr S W w' ∧ J w')
    (H2 : ∀ W, Fr S w W → w.heap.size + 3 ≤ W.heap.size → J W → Calls Try.prog 37 #[rv R, .int .i64 a.id] W (RPost K (fun R' => .tuple #[rv R', .int .i64 id, .int .i64 er]) W)) :
    Calls Try.prog 31 #[.pointer (some ⟨p, 0, none⟩), rv R, actV a] w (DoPost S K' w) := by
  have HS := Lib.hid hS
  have HK := Lib.hid hK
  have HH1 := Lib.hid H1
  have HH2 := Lib.hid H2
  simp only [actV, hk]
  clear hS hK H1 H2 hk
  go_enter Try.func31, Try.ntmps31
  go_wp2_with fail
  generalize hW : ((w.alloc (.cells (refC R) 40)).alloc (.cells #[.int .i64 3, .int .i64 a.frm, .int .i64 a.tgt, .slice a.A a.n a.c, .int .i64 a.id, .slice a.GA a.gn a.gc] 52)).alloc (.cells refZ 40) = W
  have hb0 : Blk W w.heap.size 40 (refC R) := by rw [← hW]; exact ((Blk.new w 40 _).alloc _).alloc _
  have hb1 : Blk W (w.heap.size + 1) 52 #[.int .i64 3, .int .i64 a.frm, .int .i64 a.tgt, .slice a.A a.n a.c, .int .i64 a.id, .slice a.GA a.gn a.gc] := by rw [← hW]; simpa using (Blk.new (w.alloc _) 52 _).alloc _
  have hb2 : Blk W (w.heap.size + 1 + 1) 40 refZ := by rw [← hW]; simpa using Blk.new ((w.alloc _).alloc _) 40 _
  have hbW : Below w.heap.size w W := by rw [← hW]; exact (((Below.refl _ _).alloc (Nat.le_refl _) _).alloc (by simp) _).alloc (by simp; omega) _
  have hsW : w.heap.size + 3 ≤ W.heap.size := by rw [← hW]; simp
  clear hW
  refine (HH1.out W hbW hsW).mono ?_
  rintro e w1 ⟨rfl, hF1, hJ1⟩
  have e0 := hb0.fr hF1 (HS.out _ (by omega))
  have e1 := hb1.fr hF1 (HS.out _ (by omega))
  have e2 := hb2.fr hF1 (HS.out _ (by omega))
  have hFw1 : Fr S w w1 := (Fr.of_below hbW).trans hF1
  obtain ⟨lt0, c0, f0⟩ := e0.facts
  obtain ⟨lt1, c1, f1⟩ := e1.facts
  simp only [refC] at c0
  clear hb0 hb1 hb2
  go_wp2_with fail
  refine (HH2.out w1 hFw1 (Nat.le_trans hsW hF1.size) hJ1).mono ?_
  rintro e w2 ⟨R', rfl, hB2, hK2⟩
  have g2 := e2.below hB2 e2.lt
  clear lt0 c0 f0 lt1 c1 f1 e0 e1 e2 hJ1
  simp only [rv]
  go_wp2_with (refine wpList_storeBlk rfl (.tmp 6) (.tmp 117) 40 rfl (w.heap.size + 1 + 1) 40 refZ _ _ 8 96 info40 rfl rfl rfl (g2.alloc _) rfl (by simp [Value.oneCell']) ?_
               intro w4 x2 hF4 hs4
               obtain ⟨xlt, xc, xf⟩ := x2.facts)
  have hF2 : Fr S w w2 := hFw1.trans (Fr.of_below hB2)
  have hs2 := hF2.size
  have hF4' : Fr (fun k => k = w.heap.size + 1 + 1) w2 w4 := ((Fr.refl _ _).alloc _).trans hF4
  refine bodyPost_ret (v := .tuple #[rv R', .bool true]) (by simp [results, Try.results31, go_sem, xc]) rfl ⟨R', rfl, ?_, HK.out _ _ _ hK2 hF4'⟩
  exact ⟨hF4'.os.trans hF2.os, hF4'.tape.trans hF2.tape, hF4'.output.trans hF2.output, Nat.le_trans hF2.size hF4'.size, fun k hk hn => (hF4'.block k (by omega) (by omega)).trans (hF2.block k hk hn)⟩
set_option maxRecDepth 10000 in
set_option maxHeartbeats 1000000 in
theorem do_part (p : Nat) (R : RefS) (a : ActS) (hk : a.kind = 4) (er : Int) (S : Nat → Prop) (J : World → Prop) (K K' : RefS → World → Prop) (w : World) (hS : ∀ k, w.heap.size ≤ k → ¬ S k)
    (hK : ∀ R' a b, K R' a → Fr (fun k => k = w.heap.size + 1 + 1) a b → K' R' b) (H1 : ∀ W, Below w.heap.size w W → w.heap.size + 3 ≤ W.heap.size → Calls Try.prog 22 #[.pointer (some ⟨p, 0, none⟩), .slice a.GA a.gn a.gc] W fun e w' => e = .returned (.int .i64 er) ∧ Fr S W w' ∧ J w')
    (H2 : ∀ W, Fr S w W → w.heap.size + 3 ≤ W.heap.size → J W → Calls Try.prog 38 #[rv R, .slice a.GA a.gn a.gc] W (RPost K (fun R' => .tuple #[rv R', .int .i64 er]) W)) :
    Calls Try.prog 31 #[.pointer (some ⟨p, 0, none⟩), rv R, actV a] w (DoPost S K' w) := by
  have HS := Lib.hid hS
  have HK := Lib.hid hK
  have HH1 := Lib.hid H1
  have HH2 := Lib.hid H2
  simp only [actV, hk]
  clear hS hK H1 H2 hk
  go_enter Try.func31, Try.ntmps31
  go_wp2_with fail
  generalize hW : ((w.alloc (.cells (refC R) 40)).alloc (.cells #[.int .i64 4, .int .i64 a.frm, .int .i64 a.tgt, .slice a.A a.n a.c, .int .i64 a.id, .slice a.GA a.gn a.gc] 52)).alloc (.cells refZ 40) = W
  have hb0 : Blk W w.heap.size 40 (refC R) := by rw [← hW]; exact ((Blk.new w 40 _).alloc _).alloc _
  have hb1 : Blk W (w.heap.size + 1) 52 #[.int .i64 4, .int .i64 a.frm, .int .i64 a.tgt, .slice a.A a.n a.c, .int .i64 a.id, .slice a.GA a.gn a.gc] := by rw [← hW]; simpa using (Blk.new (w.alloc _) 52 _).alloc _
  have hb2 : Blk W (w.heap.size + 1 + 1) 40 refZ := by rw [← hW]; simpa using Blk.new ((w.alloc _).alloc _) 40 _
  have hbW : Below w.heap.size w W := by rw [← hW]; exact (((Below.refl _ _).alloc (Nat.le_refl _) _).alloc (by simp) _).alloc (by simp; omega) _
  have hsW : w.heap.size + 3 ≤ W.heap.size := by rw [← hW]; simp
  clear hW
  refine (HH1.out W hbW hsW).mono ?_
  rintro e w1 ⟨rfl, hF1, hJ1⟩
  have e0 := hb0.fr hF1 (HS.out _ (by omega))
  have e1 := hb1.fr hF1 (HS.out _ (by omega))
  have e2 := hb2.fr hF1 (HS.out _ (by omega))
  have hFw1 : Fr S w w1 := (Fr.of_below hbW).trans hF1
  obtain ⟨lt0, c0, f0⟩ := e0.facts
  obtain ⟨lt1, c1, f1⟩ := e1.facts
  simp only [refC] at c0
  clear hb0 hb1 hb2
  go_wp2_with fail
  refine (HH2.out w1 hFw1 (Nat.le_trans hsW hF1.size) hJ1).mono ?_
  rintro e w2 ⟨R', rfl, hB2, hK2⟩
  have g2 := e2.below hB2 e2.lt
  clear lt0 c0 f0 lt1 c1 f1 e0 e1 e2 hJ1
  simp only [rv]
  go_wp2_with (refine wpList_storeBlk rfl (.tmp 6) (.tmp 139) 40 rfl (w.heap.size + 1 + 1) 40 refZ _ _ 8 96 info40 rfl rfl rfl (g2.alloc _) rfl (by simp [Value.oneCell']) ?_
               intro w4 x2 hF4 hs4
               obtain ⟨xlt, xc, xf⟩ := x2.facts)
  have hF2 : Fr S w w2 := hFw1.trans (Fr.of_below hB2)
  have hs2 := hF2.size
  have hF4' : Fr (fun k => k = w.heap.size + 1 + 1) w2 w4 := ((Fr.refl _ _).alloc _).trans hF4
  refine bodyPost_ret (v := .tuple #[rv R', .bool true]) (by simp [results, Try.results31, go_sem, xc]) rfl ⟨R', rfl, ?_, HK.out _ _ _ hK2 hF4'⟩
  exact ⟨hF4'.os.trans hF2.os, hF4'.tape.trans hF2.tape, hF4'.output.trans hF2.output, Nat.le_trans hF2.size hF4'.size, fun k hk hn => (hF4'.block k (by omega) (by omega)).trans (hF2.block k hk hn)⟩
set_option maxRecDepth 10000 in
set_option maxHeartbeats 1000000 in
theorem do_none (p : Nat) (R : RefS) (a : ActS) (hk0 : ¬ a.kind = 0) (hk1 : ¬ a.kind = 1) (hk2 : ¬ a.kind = 2) (hk3 : ¬ a.kind = 3) (hk4 : ¬ a.kind = 4) (w : World) :
    Calls Try.prog 31 #[.pointer (some ⟨p, 0, none⟩), rv R, actV a] w fun e w' => e = .returned (.tuple #[rv R, .bool true]) ∧ Below w.heap.size w w' := by
  have b0 : (a.kind == 0) = false := by simp [hk0]
  have b1 : (a.kind == 1) = false := by simp [hk1]
  have b2 : (a.kind == 2) = false := by simp [hk2]
  have b3 : (a.kind == 3) = false := by simp [hk3]
  have b4 : (a.kind == 4) = false := by simp [hk4]
  go_enter Try.func31, Try.ntmps31
  go_wp2
  refine bodyPost_ret (v := .tuple #[rv R, .bool true]) (by simp [results, Try.results31, go_sem]) rfl ⟨rfl, ?_⟩
  exact (((Below.refl _ _).alloc (Nat.le_refl _) _).alloc (by simp) _).alloc (by simp; omega) _
end Go.Proofs.Ytgjkahndclijgaa

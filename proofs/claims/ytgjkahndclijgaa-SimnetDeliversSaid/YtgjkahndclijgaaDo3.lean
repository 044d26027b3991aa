import Derived.Test.YtgjkahndclijgaaDo2
namespace Go.Proofs.Ytgjkahndclijgaa
open Go.RowKit Go.Own
set_option maxRecDepth 10000 in
set_option maxHeartbeats 2000000 in
theorem do_give (p : Nat) (R : RefS) (a : ActS) (hk : a.kind = 1) (f t er : Int) (A1 A2 : Option Addr) (n1 n2 c1 c2 : Nat) (S : Nat → Prop) (J : World → Prop) (K K' : RefS → World → Prop) (w : World) (hS : ∀ k, w.heap.size ≤ k → ¬ S k)
    (hJ : ∀ W o, J W → J (W.alloc o)) (hK : ∀ R' a b, K R' a → Fr (fun k => k = w.heap.size + 1 + 1) a b → K' R' b) (H1 : ∀ W, Below w.heap.size w W → w.heap.size + 3 ≤ W.heap.size → Calls Try.prog 14 #[.pointer (some ⟨p, 0, none⟩), .int .i64 a.id] W fun e w' => e = .returned (.tuple #[.agg #[.int .i64 f, .int .i64 t, .slice A1 n1 c1], .int .i64 er]) ∧ Fr S W w' ∧ J w')
    (H2 : ∀ W, Fr S w W → w.heap.size + 3 ≤ W.heap.size → J W → Calls Try.prog 35 #[rv R, .int .i64 a.id] W (RPost K (fun R' => .tuple #[rv R', .agg #[.int .i64 f, .int .i64 t, .slice A2 n2 c2], .int .i64 er]) W))
    (H3 : ∀ R' W W', K R' W → Below W.heap.size W W' → Calls Try.prog 20 #[.agg #[.int .i64 f, .int .i64 t, .slice A1 n1 c1], .agg #[.int .i64 f, .int .i64 t, .slice A2 n2 c2]] W' fun e w' => e = .returned (.bool true) ∧ Below W'.heap.size W' w') :
    Calls Try.prog 31 #[.pointer (some ⟨p, 0, none⟩), rv R, actV a] w (DoPost S K' w) := by
  have HS := Lib.hid hS
  have HK := Lib.hid hK
  have HH1 := Lib.hid H1
  have HH2 := Lib.hid H2
  have HH3 := Lib.hid H3
  simp only [actV, hk]
  clear hS hK H1 H2 H3 hk
  go_enter Try.func31, Try.ntmps31
  go_wp2_with fail
  generalize hW : ((w.alloc (.cells (refC R) 40)).alloc (.cells #[.int .i64 1, .int .i64 a.frm, .int .i64 a.tgt, .slice a.A a.n a.c, .int .i64 a.id, .slice a.GA a.gn a.gc] 52)).alloc (.cells refZ 40) = W
  have hb0 : Blk W w.heap.size 40 (refC R) := by rw [← hW]; exact ((Blk.new w 40 _).alloc _).alloc _
  have hb1 : Blk W (w.heap.size + 1) 52 #[.int .i64 1, .int .i64 a.frm, .int .i64 a.tgt, .slice a.A a.n a.c, .int .i64 a.id, .slice a.GA a.gn a.gc] := by rw [← hW]; simpa using (Blk.new (w.alloc _) 52 _).alloc _
  have hb2 : Blk W (w.heap.size + 1 + 1) 40 refZ := by rw [← hW]; simpa using Blk.new ((w.alloc _).alloc _) 40 _
  have hbW : Below w.heap.size w W := by rw [← hW]; exact (((Below.refl _ _).alloc (Nat.le_refl _) _).alloc (by simp) _).alloc (by simp; omega) _
  have hsW : w.heap.size + 3 ≤ W.heap.size := by rw [← hW]; simp
  clear hW
  refine (HH1.out W hbW hsW).mono ?_
  rintro e w1 ⟨rfl, hF1, hJ1⟩
  have e0 := hb0.fr hF1 (HS.out _ (by omega))
  have e1 := hb1.fr hF1 (HS.out _ (by omega))
  have e2 := hb2.fr hF1 (HS.out _ (by omega))
  have hFw1 : Fr S w w1 := (Fr.of_below hbW).trans hF1
  obtain ⟨lt0, c0, f0⟩ := e0.facts
  obtain ⟨lt1, q1, f1⟩ := e1.facts
  simp only [refC] at c0
  clear hb0 hb1 hb2
  go_wp2_with fail
  have hJ2 := hJ w1 (.cells #[.int .i64 f, .int .i64 t, .slice A1 n1 c1] 31) hJ1
  have hF2 := hFw1.alloc (.cells #[.int .i64 f, .int .i64 t, .slice A1 n1 c1] 31)
  have g0 := e2.alloc (.cells #[.int .i64 f, .int .i64 t, .slice A1 n1 c1] 31)
  have g3 : Blk (w1.alloc (.cells #[.int .i64 f, .int .i64 t, .slice A1 n1 c1] 31)) w1.heap.size 31 #[.int .i64 f, .int .i64 t, .slice A1 n1 c1] := Blk.new w1 31 _
  have hs2 : w.heap.size + 3 ≤ (w1.alloc (.cells #[.int .i64 f, .int .i64 t, .slice A1 n1 c1] 31)).heap.size := by have := hF1.size; simp; omega
  have ne1 : w.heap.size + 3 ≤ w1.heap.size := Nat.le_trans hsW hF1.size
  clear lt0 c0 f0 lt1 q1 f1 e0 e1 e2 hJ1 hFw1 hF1
  generalize w1.alloc (.cells #[.int .i64 f, .int .i64 t, .slice A1 n1 c1] 31) = W2 at *
  refine (HH2.out W2 hF2 hs2 hJ2).mono ?_
  rintro e w2 ⟨R', rfl, hB2, hK2⟩
  have e2 := g0.below hB2 g0.lt
  have e3 := g3.below hB2 g3.lt
  have hFw2 : Fr S w w2 := hF2.trans (Fr.of_below hB2)
  simp only [rv]
  go_wp2_with fail
  generalize hW3 : ((w2.alloc (.cells (refC R') 40)).alloc (.cells #[.int .i64 f, .int .i64 t, .slice A2 n2 c2] 31)) = W3
  have k2 : Blk W3 (w.heap.size + 1 + 1) 40 refZ := by rw [← hW3]; exact (e2.alloc _).alloc _
  have k3 : Blk W3 w1.heap.size 31 #[.int .i64 f, .int .i64 t, .slice A1 n1 c1] := by rw [← hW3]; exact (e3.alloc _).alloc _
  have k4 : Blk W3 w2.heap.size 40 (refC R') := by rw [← hW3]; exact (Blk.new w2 40 _).alloc _
  have k5 : Blk W3 (w2.heap.size + 1) 31 #[.int .i64 f, .int .i64 t, .slice A2 n2 c2] := by rw [← hW3]; simpa using Blk.new (w2.alloc _) 31 _
  have hB3 : Below w2.heap.size w2 W3 := by rw [← hW3]; exact ((Below.refl _ _).alloc (Nat.le_refl _) _).alloc (by simp) _
  have hs3 : w2.heap.size + 2 = W3.heap.size := by rw [← hW3]; simp
  have ne2 : w.heap.size + 1 + 1 ≠ w2.heap.size := by have := hFw2.size; have := e2.lt; omega
  clear hW3 hJ2 hF2 g0 g3 hs2 e2 e3 hsW hbW hJ HH1 HH2
  have HSm := Lib.hid fun W' (h : Below W3.heap.size W3 W') => HH3.out R' w2 W' hK2 (hB3.trans (h.mono (by omega)))
  have HC := Lib.hid fun W' (h : Below W3.heap.size W3 W') => And.intro (k2.below h k2.lt).facts (k4.below h k4.lt).facts
  obtain ⟨l2, c2', f2⟩ := k2.facts
  obtain ⟨l3, c3, f3⟩ := k3.facts
  obtain ⟨l4, c4, f4⟩ := k4.facts
  obtain ⟨l5, c5, f5⟩ := k5.facts
  simp only [refC] at c4
  simp only [refZ] at c2'
  have HS3 := Lib.hid hs3
  clear k2 k3 k4 k5 hs3 HH3
  go_region_with (go_at_call 20; ((with_reducible refine (HSm.out _ ((Below.refl _ _).drew)).mono ?_); (rintro e w3 ⟨rfl, hB4⟩; obtain ⟨⟨m2, d2, p2⟩, ⟨m4, d4, p4⟩⟩ := HC.out w3 (((Below.refl _ _).drew).trans hB4); simp only [refC] at d4; simp only [refZ] at d2)))
  all_goals
    go_wp2
    have hB5 : Below w2.heap.size w2 w3 := hB3.drew.trans (hB4.mono (by have := HS3.out; simp; omega))
    have hF5 : Fr (fun k => k = w.heap.size + 1 + 1) w2 w3 := Fr.of_below hB5
    have hs2 := hFw2.size
    refine bodyPost_ret (v := .tuple #[rv R', .bool true]) (by simp [results, Try.results31, go_sem, d2]) rfl ⟨R', rfl, ?_, ?_⟩
    · repeat (with_reducible refine Fr.setCell ?_ (Or.inr (by simp; omega)) _)
      with_reducible exact hFw2.trans (Fr.of_below hB5)
    · refine HK.out R' w2 _ hK2 ?_
      repeat (with_reducible refine Fr.setCell ?_ (Or.inl (by simp)) _)
      with_reducible exact hF5
end Go.Proofs.Ytgjkahndclijgaa

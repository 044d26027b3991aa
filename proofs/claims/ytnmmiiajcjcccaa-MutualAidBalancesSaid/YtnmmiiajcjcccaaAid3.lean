import Derived.Test.YtnmmiiajcjcccaaAid2
import Derived.Deep.Onto
namespace Go.Aid
open Go.Quo (gd gd_get)
def tot (l : List Int) : Nat := (l.map Int.toNat).sum
theorem tot_set : ∀ (l : List Int) (k : Nat) (x : Int), k < l.length → tot (l.set k x) + (gd l k).toNat = tot l + x.toNat
  | [], k, x, h => by simp at h
  | a :: r, 0, x, _ => by simp [tot, gd]; omega
  | a :: r, k + 1, x, h => by
    have ih := tot_set r k x (by simpa using h)
    have e : gd (a :: r) (k + 1) = gd r k := by simp [gd]
    rw [e]
    simp only [tot, List.set_cons_succ, List.map_cons, List.sum_cons] at ih ⊢
    omega
theorem tot_dec {l : List Int} {k : Nat} (hk : k < l.length) (h0 : 0 < gd l k) : tot (dec l k) + 1 = tot l := by
  have := tot_set l k (gd l k - 1) hk
  unfold dec
  simp only [Int.toNat_natCast]
  omega
theorem tot_pos {l : List Int} {k : Nat} (hk : k < l.length) (h0 : 0 < gd l k) : 0 < tot l := by have := tot_dec hk h0; omega
theorem tot_le : ∀ (l : List Int) (b : Nat), (∀ k, k < l.length → gd l k ≤ b) → tot l ≤ l.length * b
  | [], b, _ => by simp [tot]
  | a :: r, b, h => by
    have ih := tot_le r b (fun k hk => by have := h (k + 1) (by simpa using hk); simpa [gd] using this)
    have h0 : a ≤ b := by have := h 0 (by simp); simpa [gd] using this
    simp only [tot, List.map_cons, List.sum_cons, List.length_cons, Nat.add_mul, Nat.one_mul] at ih ⊢
    omega
theorem dec_len (l : List Int) (a : Int) : (dec l a).length = l.length := by simp [dec]
theorem gr_cases (l : List Int) : (grF l = -1 ∧ ∀ i, i < l.length → gd l i ≤ 0) ∨ ∃ k : Nat, grF l = k ∧ k < l.length ∧ 0 < gd l k := by
  rcases grUp_is l l.length with ⟨e, h⟩ | ⟨k, e, hk, hp, _⟩
  · exact .inl ⟨e, h⟩
  · exact .inr ⟨k, e, hk, hp⟩
theorem dec_hi {l : List Int} {a : Nat} {b : Int} (ha : a < l.length) (h : ∀ k, gd l k ≤ b) : ∀ k, gd (dec l a) k ≤ b := fun k => by
  unfold dec
  rw [gd_set _ _ _ _ (by simpa using ha)]
  have := h k
  have := h a
  split
  · simp only [Int.toNat_natCast]; omega
  · omega
def pairsL (p : Int × Int) : List Value := [.int .i64 p.1, .int .i64 p.2]
theorem pairsL_len (p : Int × Int) : (pairsL p).length = 2 := rfl
/-- What has been done and what is still to do. -/
structure PSt (n : Nat) (all : List (Int × Int)) (m : Nat) (s t : List Int) (d : List (Int × Int)) : Prop where
  sl : s.length = n
  tl : t.length = n
  sh : ∀ k, gd s k ≤ 1000
  th : ∀ k, gd t k ≤ 1000
  eq : d ++ planF (tot t) s t = all
  le : d.length + tot t = m
theorem PSt.stop {n : Nat} {all : List (Int × Int)} {m : Nat} {s t : List Int} {d : List (Int × Int)} (h : PSt n all m s t d) (hs : grF s < 0 ∨ grF t < 0) : d = all := by
  have := h.eq
  cases hn : tot t with
  | zero => rw [hn] at this; simpa [planF] using this
  | succ k => rw [hn] at this; simpa [planF, hs] using this
theorem PSt.next {n : Nat} {all : List (Int × Int)} {m : Nat} {s t : List Int} {d : List (Int × Int)} (h : PSt n all m s t d) {a b : Nat} (ha : grF s = a) (hb : grF t = b) (ha' : a < s.length) (hb' : b < t.length) (ht : 0 < gd t b) :
    PSt n all m (dec s a) (dec t b) (d ++ [((a : Int), (b : Int))]) := by
  have e := tot_dec hb' ht
  refine ⟨by rw [dec_len]; exact h.sl, by rw [dec_len]; exact h.tl, dec_hi ha' h.sh, dec_hi hb' h.th, ?_, by have := h.le; simp; omega⟩
  have := h.eq
  rw [← e, planF, if_neg (by rw [ha, hb]; omega), ha, hb] at this
  simpa using this
end Go.Aid
namespace Go.Proofs.Ytnmmiiajcjcccaa
set_option linter.unusedVariables false
open Go.RowKit Go.Own Go.Quo Go.Aid
theorem info28 : (Try.prog.info? 28).map (fun i => (i.zero, i.size, i.bytes)) = some (some (.agg #[.int .i64 0, .int .i64 0]), 2, 16) := by kernel_rfl
/-- A slice of pairs, made by the call. -/
def PairsPost (l : List (Int × Int)) (w : World) (e : Ending) (w' : World) : Prop :=
  ∃ A c, e = .returned (.slice A l.length c) ∧ w'.ownsRow w.heap.size 28 2 (.slice A l.length c) l.length (l.flatMap pairsL) ∧ Below w.heap.size w w'
theorem plan_bad (A A2 : Option Addr) (n n2 c c2 : Nat) (w : World) (h : n ≠ n2 ∨ 64 < n) :
    Calls Try.prog 12 #[.slice A n c, .slice A2 n2 c2] w (PairsPost [] w) := by
  have HB := Lib.hid (balance_bad A A2 n n2 c c2 w h)
  clear h
  go_enter Try.func12, Try.ntmps12
  go_wp2_with fail
  refine HB.out.mono ?_
  rintro e w' ⟨rfl, rfl⟩
  go_wp2_with fail
  go_ret
  exact ⟨none, 0, rfl, World.ownsRow_nil _ _ _ _, Below.refl _ _⟩
set_option maxRecDepth 10000 in
set_option maxHeartbeats 4000000 in
theorem plan_ok (B B2 : Nat → Prop) (A A2 : Option Addr) (c c2 : Nat) (f wa : List Int) (w : World) (h : RI w B A f) (h2 : RI w B2 A2 wa) (hl : f.length = wa.length) (h64 : f.length ≤ 64) :
    Calls Try.prog 12 #[.slice A f.length c, .slice A2 wa.length c2] w (PairsPost (planF (tot (shoF (leftF f wa))) (surF (leftF f wa)) (shoF (leftF f wa))) w) := by
  have HB := Lib.hid (balance_ok B B2 A A2 c c2 f wa w h h2 hl h64)
  obtain ⟨n, hn⟩ : ∃ n : Nat, f.length = n := ⟨_, rfl⟩
  have hLl : (leftF f wa).length = n := by rw [left_len hl, hn]
  have hLr : ∀ k, gd (leftF f wa) k ≤ 1000 ∧ -1000 ≤ gd (leftF f wa) k := fun k => by
    by_cases hk : k < f.length
    · rw [left_gd hl hk]
      have := clamp_r (gd f k)
      have := clamp_r (gd wa k)
      omega
    · rw [gd_out (by rw [hLl]; omega)]; omega
  rw [hn] at HB h64
  rw [← hl, hn] at HB ⊢
  generalize leftF f wa = L at *
  have hsl : (surF L).length = n := by simpa [surF] using hLl
  have htl : (shoF L).length = n := by simpa [shoF] using hLl
  have hsr : ∀ k, gd (surF L) k ≤ 1000 := fun k => by rw [gd_sur]; have := hLr k; omega
  have htr : ∀ k, gd (shoF L) k ≤ 1000 := fun k => by rw [gd_sho]; have := hLr k; omega
  have hm : tot (shoF L) ≤ 64000 := Nat.le_trans (tot_le _ 1000 (fun k _ => htr k)) (by rw [htl]; omega)
  have HP0 := Lib.hid (show PSt n (planF (tot (shoF L)) (surF L) (shoF L)) (tot (shoF L)) (surF L) (shoF L) [] from ⟨hsl, htl, hsr, htr, rfl, by simp⟩)
  generalize planF (tot (shoF L)) (surF L) (shoF L) = all at *
  generalize tot (shoF L) = M at *
  clear h h2 hl hn hLl hLr hsl htl hsr htr
  go_enter Try.func12, Try.ntmps12
  go_wp2_with fail
  refine HB.out.mono ?_
  rintro e w1 ⟨g1, g2, rfl, hne, hg1, hg2, b1, b2, hbw⟩
  go_wp2_with fail
  have hl1 := b1.lt
  have hl2 := b2.lt
  have HO0 := Lib.hid (World.ownsRow_nil w1 w1.heap.size 28 2)
  go_loopw [8, 9, 10] (fun v8 _ _ wr => ∃ (A8 : Option Addr) (c8 : Nat) (s t : List Int) (d : List (Int × Int)), v8 = .slice A8 d.length c8 ∧ PSt n all M s t d ∧ wr.ownsRow w1.heap.size 28 2 (.slice A8 d.length c8) d.length (d.flatMap pairsL) ∧ IB wr g1 3 s ∧ IB wr g2 3 t ∧ Below w.heap.size w wr ∧ w1.heap.size ≤ wr.heap.size) (fun v8 _ _ _ => M - slen v8)
  case atStart => exact ⟨none, 0, surF L, shoF L, [], rfl, HP0.out, HO0.out, b1, b2, hbw, Nat.le_refl _⟩
  case round =>
    obtain ⟨A8, c8, s, t, d, rfl, hP, hO, k1, k2, hbel, hw1s⟩ := hrel
    have HP := Lib.hid hP
    have HO := Lib.hid hO
    have K1 := Lib.hid k1
    have K2 := Lib.hid k2
    have Hsl := Lib.hid hP.sl
    have Htl := Lib.hid hP.tl
    have hdl : d.length ≤ 64000 := by have := hP.le; omega
    have G1 := greatest_any (· = g1) (some ⟨g1, 0, none⟩) n s wr (IB.reads k1) (by rw [hP.sl]; omega)
    have G2 := greatest_any (· = g2) (some ⟨g2, 0, none⟩) n t wr (IB.reads k2) (by rw [hP.tl]; omega)
    rw [hP.sl] at G1
    rw [hP.tl] at G2
    have HG1 := Lib.hid G1
    have HG2 := Lib.hid G2
    have hs := gr_cases s
    have ht := gr_cases t
    have hsr := hP.sh
    have htr := hP.th
    have hbw2 := hbel.size
    clear G1 G2 hP hO k1 k2 b1 b2
    rcases hs with ⟨hs, -⟩ | ⟨a, hs, ha, ha0⟩
    · obtain rfl : d = all := HP.out.stop (.inl (by omega))
      rw [hs] at HG1
      go_wp2_with fail
      refine HG1.out.mono ?_
      rintro e w2 ⟨rfl, rfl⟩
      go_wp2_with fail
      refine HG2.out.mono ?_
      rintro e w2 ⟨rfl, rfl⟩
      go_wp2_with fail
      go_ret
      exact ⟨A8, c8, rfl, HO.out.mono hbw.size, hbel⟩
    rcases ht with ⟨ht, -⟩ | ⟨b, ht, hb, hb0⟩
    · obtain rfl : d = all := HP.out.stop (.inr (by omega))
      rw [hs] at HG1
      rw [ht] at HG2
      have hna : ¬ ((a : Int) < 0) := by omega
      go_wp2_with fail
      refine HG1.out.mono ?_
      rintro e w2 ⟨rfl, rfl⟩
      go_wp2_with fail
      refine HG2.out.mono ?_
      rintro e w2 ⟨rfl, rfl⟩
      go_wp2_with fail
      go_ret
      exact ⟨A8, c8, rfl, HO.out.mono hbw.size, hbel⟩
    have HN := Lib.hid (HP.out.next hs ht ha hb hb0)
    rw [hs] at HG1
    rw [ht] at HG2
    have hna : ¬ ((a : Int) < 0) := by omega
    have hnb : ¬ ((b : Int) < 0) := by omega
    rw [Hsl.out] at ha
    rw [Htl.out] at hb
    have q1 := IB.at_ K1.out (k := a) (by rw [Hsl.out]; exact ha)
    have q2 := IB.at_ K2.out (k := b) (by rw [Htl.out]; exact hb)
    obtain ⟨x0, -, x2⟩ := (K1.out).facts
    obtain ⟨y0, -, y2⟩ := (K2.out).facts
    have hixa := fun W => ixg (g := g1) n n a ha W
    have hixb := fun W => ixg (g := g2) n n b hb W
    have hw1 : IntKind.i64.wrap (gd s a - 1) = gd s a - 1 := IntWalk.i64_in _ (by have := hsr a; omega)
    have hw2 : IntKind.i64.wrap (gd t b - 1) = gd t b - 1 := IntWalk.i64_in _ (by have := htr b; omega)
    have HD1 := Lib.hid (show dec s a = s.set a (gd s a - 1) from rfl)
    have HD2 := Lib.hid (show dec t b = t.set b (gd t b - 1) from rfl)
    have hlt1 : g1 < w1.heap.size := hl1
    have hlt2 : g2 < w1.heap.size := hl2
    generalize gd s a = xa at *
    generalize gd t b = xb at *
    have J1 := Lib.hid (Blk.far (p := ⟨g2, b, none⟩) (IB.put K1.out a (xa - 1)) hne (.int .i64 (xb - 1)))
    have J2 := Lib.hid (IB.put (Blk.far (p := ⟨g1, a, none⟩) K2.out (fun e => hne e.symm) (.int .i64 (xa - 1))) b (xb - 1))
    have J3 := Lib.hid (ownsRow_setCell_below (ownsRow_setCell_below HO.out (a := ⟨g1, a, none⟩) hlt1 (.int .i64 (xa - 1))) (a := ⟨g2, b, none⟩) hlt2 (.int .i64 (xb - 1)))
    have J4 := Lib.hid (Below.setCell (Below.setCell hbel (p := ⟨g1, a, none⟩) hg1 (.int .i64 (xa - 1))) (p := ⟨g2, b, none⟩) hg2 (.int .i64 (xb - 1)))
    have hss : ((wr.setCell ⟨g1, a, none⟩ (.int .i64 (xa - 1))).setCell ⟨g2, b, none⟩ (.int .i64 (xb - 1))).heap.size = wr.heap.size := by simp
    clear hsr htr hb0 ha0
    go_wp2_with fail
    refine HG1.out.mono ?_
    rintro e w2 ⟨rfl, rfl⟩
    go_wp2_with fail
    refine HG2.out.mono ?_
    rintro e w2 ⟨rfl, rfl⟩
    go_wp2_with (at_builtin; refine wpList_append_any _ rfl _ _ _ rfl w1.heap.size 28 _ 2 16 Try.underlying25 info28 rfl (by omega) (.slice A8 d.length c8) d.length (d.flatMap pairsL) rfl (J3.out.alloc (.cells #[.int .i64 (a : Int), .int .i64 (b : Int)] 28)) _ (some ⟨wr.heap.size, 0, none⟩) 1 1 [.int .i64 (a : Int), .int .i64 (b : Int)] rfl (Reads.newS _ [.int .i64 (a : Int), .int .i64 (b : Int)] 28 (0, 0) 1 2 rfl _ hss.symm) (by simp [Value.oneCell']) (by simp only [maxLen]; omega) (by omega) (by simp; omega) ?_; intro A4 c4 w4 hown4 hgr4 hat4)
    have e4 : (d ++ [((a : Int), (b : Int))]).length = d.length + 1 := by simp
    have hne1 : ∀ g, g < w1.heap.size → some g ≠ (Value.slice A8 d.length c8).ownBlock := fun g hg e => by have := (HO.out.lt g e.symm).1; omega
    refine ⟨⟨A4, c4, dec s a, dec t b, d ++ [((a : Int), (b : Int))], by rw [e4], HN.out, ?_, ?_, ?_, (J4.out.alloc (by rw [hss]; omega) _).grown hgr4 ?_ ?_, by have := hgr4.size; simp at this; omega⟩, by simp [slen]; have := HN.out.le; omega⟩
    · rw [e4, List.flatMap_append]; exact hown4
    · rw [HD1.out]; exact (J1.out.alloc _).grown hgr4 (hne1 g1 hlt1)
    · rw [HD2.out]; exact (J2.out.alloc _).grown hgr4 (hne1 g2 hlt2)
    · simp; omega
    · intro g hg; have := (HO.out.lt g hg).1; omega
end Go.Proofs.Ytnmmiiajcjcccaa

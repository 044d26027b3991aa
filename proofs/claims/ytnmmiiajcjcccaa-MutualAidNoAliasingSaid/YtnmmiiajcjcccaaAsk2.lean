import Derived.Test.YtnmmiiajcjcccaaAsk1
namespace Go.Proofs.Ytnmmiiajcjcccaa
set_option linter.unusedVariables false
open Go.RowKit Go.Own Go.Quo Go.Aid
def natV (x : Nat) : Value := .int .i64 (Int.ofNat x)
/-- What the call of the sort does to a row of districts. -/
def SortPost (D sp : List Int) (base : Nat) (A : Option Addr) (xs : List Nat) (W : World) (e : Ending) (w' : World) : Prop := e = .returned (.tuple #[]) ∧ Fr (fun k => base ≤ k) W w' ∧ Reads w' (fun k => base ≤ k) 1 A xs.length ((xs.mergeSort (askLe D sp)).map natV)
theorem sort_any (B : Nat → Prop) (p g bb bs base : Nat) (v0 : Value) (D sp : List Int) (A : Option Addr) (c n : Nat) (A2 : Option Addr) (cap : Nat) (xs : List Nat) (W : World) (h1 : Blk W bb 32 #[.pointer (some ⟨p, 0, none⟩)]) (h2 : Blk W p 72 #[v0, .slice (some ⟨g, 0, none⟩) n n]) (h3 : IB W g 2 D) (hD : D.length = n)
    (h4 : Blk W bs 22 #[.slice A n c]) (h5 : Reads W B 1 A sp.length (sp.map (Value.int .i64))) (hs : sp.length = n) (hxs : ∀ x ∈ xs, x < n) (hn : 0 < n) (hl : xs.length ≤ 1000)
    (hb1 : bb < base) (hb2 : p < base) (hb3 : g < base) (hb4 : bs < base) (hB : ∀ k, B k → k < base) (ho : W.ownsRow base 3 1 (.slice A2 xs.length cap) xs.length (xs.map natV)) :
    Calls Try.prog 37 #[.slice A2 xs.length cap, .func (.func 38) #[] #[.pointer (some ⟨bb, 0, none⟩), .pointer (some ⟨bs, 0, none⟩)]] W (SortPost D sp base A2 xs W) := by
  rcases ho.2 with ⟨e1, e2⟩ | ⟨blk, cap', cur, e1, e2, e3⟩
  · obtain rfl : xs = [] := List.length_eq_zero_iff.1 e2
    refine (sort_none A2 cap _ W).mono ?_
    rintro e w' ⟨rfl, rfl⟩
    exact ⟨rfl, Fr.refl _ _, by simpa using Reads.none_⟩
  · injection e1 with e1 _ e4
    subst e1
    refine (sort_some B p g bb bs v0 D sp A c n blk cap base xs W h1 h2 h3 hD h4 h5 hs hxs hn hl (by omega) (by omega) (by omega) (by omega) (fun k hk => by have := hB k hk; omega) ho).mono ?_
    rintro e w' ⟨rfl, hf, hr⟩
    exact ⟨rfl, hf.mono (fun k _ hk => by omega), hr.more (fun k hk => by omega)⟩
set_option maxRecDepth 10000 in
set_option maxHeartbeats 4000000 in
theorem ask_ok (B : Nat → Prop) (p m g : Nat) (s : LSt) (ls : List Ln) (dist : Int) (A : Option Addr) (c : Nat) (sp : List Int) (w : World) (h : Led w p m g s ls) (hr : Reads w B 1 A sp.length (sp.map (Value.int .i64))) (h1 : ¬ dist < 0) (h2 : ¬ (s.n : Int) ≤ dist) (h3 : sp.length = s.n) (h64 : s.n ≤ 64) :
    Calls Try.prog 23 #[.pointer (some ⟨p, 0, none⟩), .int .i64 dist, .slice A sp.length c] w (AskPost ((askS (debts s.n s.all) dist sp).map Int.ofNat) w) := by
  obtain ⟨npm, npg, nmg, hpl, hml, hgl⟩ := h.ne
  have hpb := h.pb
  have hgb := h.gb
  have hDl := debts_len s.n s.all
  clear h
  generalize debts s.n s.all = D at *
  generalize s.n = n at *
  subst hDl
  have hn0 : 0 < D.length := by omega
  have hrA := hr.plain (by omega)
  rw [h3] at hrA
  have HR := Lib.hid (show Reads w (fun k => k < w.heap.size) 1 A sp.length (sp.map (Value.int .i64)) from (hr.old (by omega)).more (fun k hk => hk.2))
  have hb1 := Blk.new w 32 #[.pointer (some ⟨p, 0, none⟩)]
  have hw2 := ((Below.refl w.heap.size w).alloc (Nat.le_refl _) (.cells #[.pointer (some ⟨p, 0, none⟩)] 32)).alloc (by simp) (.cells #[.slice A sp.length c] 22)
  have hb2 := hb1.alloc (.cells #[.slice A sp.length c] 22)
  have hb3 := Blk.new (w.alloc (.cells #[.pointer (some ⟨p, 0, none⟩)] 32)) 22 #[.slice A sp.length c]
  have hb4 := (hpb.alloc (.cells #[.pointer (some ⟨p, 0, none⟩)] 32)).alloc (.cells #[.slice A sp.length c] 22)
  have hs1 : (w.alloc (.cells #[.pointer (some ⟨p, 0, none⟩)] 32)).heap.size = w.heap.size + 1 := by simp
  have hs2 : ((w.alloc (.cells #[.pointer (some ⟨p, 0, none⟩)] 32)).alloc (.cells #[.slice A sp.length c] 22)).heap.size = w.heap.size + 2 := by simp
  rw [hs1] at hb3
  have HW := Lib.hid hw2
  have HG := Lib.hid hgb
  rw [h3] at hb2 hb3 hw2 HW hs2 hb4
  rw [h3]
  have HB2 := Lib.hid hb2
  have HB3 := Lib.hid hb3
  have HB4 := Lib.hid hb4
  have HS2 := Lib.hid hs2
  clear hw2 hb1 hb2 hb3 hb4 hpb hs1 hs2 hgb hr
  go_enter Try.func23, Try.ntmps23
  go_wp2_with fail
  generalize (w.alloc (.cells #[.pointer (some ⟨p, 0, none⟩)] 32)).alloc (.cells #[.slice A D.length c] 22) = W2 at *
  obtain ⟨a0, a1, a2⟩ := HB2.out.facts
  obtain ⟨b0, b1, b2⟩ := HB3.out.facts
  obtain ⟨c0, c1, c2⟩ := HB4.out.facts
  have d1' : decide (dist < 0) = false := by simpa using h1
  have d2' : decide ((D.length : Int) ≤ dist) = false := by simpa using h2
  go_quiet (fail)
  have HB2' := Lib.hid (HB2.out.drewN nq)
  have HB3' := Lib.hid (HB3.out.drewN nq)
  have HB4' := Lib.hid (HB4.out.drewN nq)
  have HW3 := Lib.hid ((((Fr.of_below HW.out (S := fun _ => False)).drewN nq)).below (B := w.heap.size) (Nat.le_refl _) (fun _ _ => id))
  have HS3 := Lib.hid (show (W2.drewN nq).heap.size = w.heap.size + 2 from HS2.out)
  clear a0 a1 a2 b0 b1 b2 c0 c1 c2 HB2 HB3 HB4 HW HS2
  generalize W2.drewN nq = W3 at *
  obtain ⟨a0, a1, a2⟩ := HB2'.out.facts
  obtain ⟨b0, b1, b2⟩ := HB3'.out.facts
  obtain ⟨c0, c1, c2⟩ := HB4'.out.facts
  go_wp2_with fail
  have hs3 := HS3.out
  have H3 := Lib.hid h3
  clear h3
  go_loopw [7, 33] (fun va vi wr => ∃ (k : Nat) (A' : Option Addr) (c' : Nat), k ≤ D.length ∧ vi = .int .i64 k ∧ va = .slice A' (askN dist sp k).length c' ∧ wr.ownsRow W3.heap.size 3 1 (.slice A' (askN dist sp k).length c') (askN dist sp k).length ((askN dist sp k).map natV) ∧ Below W3.heap.size W3 wr) (fun _ vi _ => D.length - (intOf vi).toNat)
  case atStart => exact ⟨0, none, 0, Nat.zero_le _, rfl, rfl, World.ownsRow_nil _ _ _ _, Below.refl _ _⟩
  case round =>
    obtain ⟨k, A', c', hk, rfl, rfl, hown, hbel⟩ := hrel
    have HB := Lib.hid hbel
    have HO := Lib.hid hown
    have hkl := askN_len dist sp k
    by_cases hlt : k < D.length
    · have hlt' : (k : Int) < D.length := by omega
      have hix := fun W => ix22 hrA c k hlt W
      have hcell : wr.cell? ⟨bk A, ofs A + k, none⟩ = some (.int .i64 (gd sp k)) := by
        have := ((HR.out.below (HW3.out.trans (hbel.mono (by omega))) (fun _ h => h))).cell2 k (by rw [H3.out]; omega) (by omega)
        have hks : k < sp.length := by rw [H3.out]; exact hlt
        rw [this, gd_get hks]; simp [hks]
      have hsz := hbel.size
      have HSu := Lib.hid (askN_succ dist sp k)
      have HFin := Lib.hid (show ∀ w', Below W3.heap.size W3 w' → ∀ A'' c'', w'.ownsRow W3.heap.size 3 1 (.slice A'' (askN dist sp (k + 1)).length c'') (askN dist sp (k + 1)).length ((askN dist sp (k + 1)).map natV) → True from fun _ _ _ _ _ => trivial)
      clear hown hbel
      by_cases hp : askP dist sp k = true
      · have hp2 := hp
        unfold askP at hp2
        simp only [Bool.and_eq_true, bne_iff_ne, ne_eq, decide_eq_true_eq] at hp2
        have p1 : ((k : Int) == dist) = false := by simpa using hp2.1
        have p1' : ¬ (k : Int) = dist := hp2.1
        have p2 : decide (0 < gd sp k) = true := by simpa using hp2.2
        have HP := Lib.hid hp
        clear hp hp2
        generalize hq : askN dist sp k = xs at *
        go_wp2_with (at_builtin; refine wpList_append_any _ rfl _ _ _ rfl W3.heap.size 3 _ 1 8 Try.underlying22 info3 rfl (by omega) (.slice A' xs.length c') xs.length (xs.map natV) rfl (HO.out.alloc _) _ (some ⟨wr.heap.size, 0, none⟩) 1 1 [.int .i64 (k : Int)] rfl (Reads.newS wr [.int .i64 (k : Int)] 3 (0, 0) 1 1 rfl _ rfl) (by simp [Value.oneCell']) (by simp only [maxLen]; omega) (by omega) (by simp; omega) ?_; intro A2 c2 w2 hown hgr hat)
        have e1 : askN dist sp (k + 1) = xs ++ [k] := by rw [HSu.out, if_pos HP.out]
        refine ⟨⟨k + 1, A2, c2, by omega, by go_num, ?_, ?_, ?_⟩, by simp [intOf]; omega⟩
        · rw [e1]; simp
        · rw [e1]; simp only [List.length_append, List.map_append]; exact hown
        · exact Below.grown (HB.out.alloc hsz _) hgr (by simp; omega) (fun j hj => (HO.out.lt j hj).1)
      · have e1 := Lib.hid (show askN dist sp (k + 1) = askN dist sp k by rw [HSu.out, if_neg hp])
        by_cases hd : (k : Int) = dist
        · clear hp
          have hd2 : ((k : Int) == dist) = true := by simpa using hd
          generalize hq : askN dist sp k = xs at *
          subst hd
          go_wp2_with fail
          exact ⟨⟨k + 1, A', c', by omega, by go_num, by rw [e1.out], by rw [e1.out]; exact HO.out, HB.out⟩, by simp [intOf]; omega⟩
        · have hd2 : ((k : Int) == dist) = false := by simpa using hd
          have hp2 : decide (0 < gd sp k) = false := by
            unfold askP at hp
            simp only [Bool.and_eq_true, bne_iff_ne, ne_eq, decide_eq_true_eq] at hp
            simp only [decide_eq_false_iff_not]
            exact fun h => hp ⟨hd, h⟩
          clear hp
          generalize hq : askN dist sp k = xs at *
          go_wp2_with fail
          exact ⟨⟨k + 1, A', c', by omega, by go_num, by rw [e1.out], by rw [e1.out]; exact HO.out, HB.out⟩, by simp [intOf]; omega⟩
    · have hlt' : ¬ (k : Int) < D.length := by omega
      have he : k = D.length := by omega
      subst he
      have b3w := HW3.out.trans (hbel.mono (by omega))
      have HSo := Lib.hid (sort_any (fun k => k < w.heap.size) p g w.heap.size (w.heap.size + 1) W3.heap.size _ D sp A c D.length A' c' (askN dist sp D.length) wr (HB2'.out.below hbel (by omega)) (HB4'.out.below hbel (by omega)) (HG.out.below b3w (by omega)) rfl (HB3'.out.below hbel (by omega)) (HR.out.below b3w (fun _ h => h)) H3.out (fun x hx => askN_lt hx) hn0 (by omega) (by omega) (by omega) (by omega) (by omega) (fun k hk => by omega) hown)
      have HBw := Lib.hid b3w
      have hs4 := hbel.size
      clear hown hbel b3w
      go_wp2_with (go_at_call 37; ((with_reducible refine HSo.out.mono ?_); rintro e w6 ⟨rfl, hf6, hr6⟩))
      go_ret
      have hlen : (askN dist sp D.length).length = ((askS D dist sp).map Int.ofNat).length := by simp [askS]
      refine ⟨A', c', ?_, ?_, HBw.out.trans (hf6.below (by omega) (fun k hk e => by omega))⟩
      · rw [← hlen]; rfl
      · rw [← hlen, List.map_map]
        exact hr6.more (fun k hk => by omega)
end Go.Proofs.Ytnmmiiajcjcccaa

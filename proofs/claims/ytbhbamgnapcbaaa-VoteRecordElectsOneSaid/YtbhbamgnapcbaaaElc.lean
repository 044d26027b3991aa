import Derived.Test.YtbhbamgnapcbaaaElP
import Derived.Test.YtbhbamgnapcbaaaOpnV
namespace Go.Proofs.Ytbhbamgnapcbaaa
set_option linter.unusedVariables false
open Go.RowKit Go.Own Go.Quo
theorem info70b : (Try.prog.info? 70).map (fun i => (i.zero, i.size, i.bytes)) = some (some (.agg #[.int .i64 0, .int .i64 0]), 2, 16) := by kernel_rfl
set_option maxRecDepth 10000 in
set_option maxHeartbeats 4000000 in
theorem elects_main (m : Ms) (A : Option Addr) (c : Nat) (vs : List Int) (w : World) (h : MR w (· < w.heap.size) m) (hr : Reads w (· < w.heap.size) 1 A vs.length (vs.map (Value.int .u8))) (hu : ∀ x ∈ vs, 0 ≤ x ∧ x < 256) (hl : vs.length ≤ 9) (ho : m.o.length ≤ 12) (hn : m.n.length ≤ 12) (hv : vB m.o m.n = true) :
    Calls Try.prog 7 #[msV m, .slice A vs.length c] w fun e w' => e = .returned (.bool true) ∧ Below w.heap.size w w' := by
  have b1 : Below w.heap.size w (w.alloc (.cells (msC m) 65)) := (Below.refl _ _).alloc (Nat.le_refl _) _
  have g1 : Blk (w.alloc (.cells (msC m) 65)) w.heap.size 65 (msC m) := Blk.new w 65 _
  have HAl := Lib.hid fun W => alive_any W
  have HM := Lib.hid h
  have HRd := Lib.hid hr
  have HU := Lib.hid hu
  have hPl := hr.plain (by omega)
  have hb : ¬ (9 : Int) < vs.length := by omega
  have hc : ¬ (12 : Int) < m.o.length := by omega
  have hd : ¬ (12 : Int) < m.n.length := by omega
  have HRi := Lib.hid fun W (x : Below w.heap.size w W) => right_b (· < w.heap.size) m W (HM.out.below x) true hv
  have HWi := Lib.hid fun W (x : Below w.heap.size w W) (B2 : Nat → Prop) A' c' (l : List (Int × Int)) (y : Reads W B2 2 A' l.length (l.flatMap prL)) (hl : l.length ≤ 100) (hz : ∀ p ∈ l, 0 ≤ p.2 ∧ p.2 ≤ 4) => winner_any (· < w.heap.size) B2 m A' c' l W (HM.out.below x) y hl (fun p hp => by have := hz p hp; simp [Lit.wf, IntKind.min, IntKind.max, IntKind.signed, IntKind.bits]; omega)
  obtain ⟨L, hL⟩ : ∃ L, votesOf vs = L := ⟨_, rfl⟩
  have hLl : L.length = vs.length := by rw [← hL, votesOf_len]
  have HL := Lib.hid hL
  have HGet := Lib.hid fun k (hk : k < vs.length) => (hL ▸ votesOf_get hk : L[k]? = some ((k : Int), gd vs k % 5))
  have HRg := Lib.hid (hL ▸ votesOf_range vs : ∀ p ∈ L, 0 ≤ p.2 ∧ p.2 ≤ 4)
  have HOn := Lib.hid (hL ▸ votesOf_once vs : ∀ y a b, (y, a) ∈ L → (y, b) ∈ L → a = b)
  have HLl := Lib.hid hLl
  clear h hr hu hv hL hLl
  go_enter Try.func7, Try.ntmps7
  go_wp2_with fail
  generalize w.alloc (.cells (msC m) 65) = W1 at *
  refine (HAl.out W1).mono ?_
  rintro e w2 ⟨rfl, b2⟩
  have g2 := g1.below b2 g1.lt
  obtain ⟨q0, q1, q2⟩ := g2.facts
  have bb := b1.trans (b2.mono b1.size)
  go_wp2_with fail
  refine (HRi.out w2 bb).mono ?_
  rintro e w3 ⟨rfl, rfl⟩
  have g3 := g2.alloc (.cells (msC m) 65)
  have b3 := bb.alloc bb.size (.cells (msC m) 65)
  go_wp2_with fail
  generalize w2.alloc (.cells (msC m) 65) = W3 at *
  have s3 := b3.size
  clear HRi HAl q0 q1 q2 bb b2 g2
  go_loopw [5, 7, 8, 38] (fun v5 _ _ vi wr => ∃ (k : Nat) (Al : Option Addr) (cl : Nat), k ≤ vs.length ∧ vi = .int .i64 k ∧ v5 = .slice Al k cl ∧ wr.ownsRow W3.heap.size 70 2 (.slice Al k cl) k ((L.take k).flatMap prL) ∧ Below W3.heap.size W3 wr) (fun _ _ _ vi _ => vs.length - (intOf vi).toNat)
  case atStart => exact ⟨0, none, 0, Nat.zero_le _, rfl, rfl, World.ownsRow_nil _ _ _ _, Below.refl _ _⟩
  case round =>
    obtain ⟨k, Al, cl, hk, rfl, rfl, hown, hbel⟩ := hrel
    have hsr := hbel.size
    have HO := Lib.hid hown
    clear hown
    have bw : Below w.heap.size w wr := b3.trans (hbel.mono s3)
    by_cases hlt : k < vs.length
    · have hlt' : (k : Int) < vs.length := by omega
      have hix := fun W => ix31 hPl c k hlt W
      have hcell : wr.cell? ⟨bk A, ofs A + k, none⟩ = some (.int .u8 (gd vs k)) := by
        have := (HRd.out.below bw (fun _ h => h)).cell2 k (by omega) (by omega)
        rw [this, gd_get hlt]
        simp [hlt]
      have hgr : 0 ≤ gd vs k ∧ gd vs k < 256 := by rw [gd_get hlt]; exact HU.out _ (List.getElem_mem _)
      have hTk := Lib.hid (show L.take (k + 1) = L.take k ++ [((k : Int), gd vs k % 5)] by rw [List.take_add_one, HGet.out k hlt]; rfl)
      have hcv : IntKind.i64.wrap (gd vs k) = gd vs k := IntWalk.i64_in _ (by omega)
      generalize gd vs k = gk at *
      have ho2 := HO.out.alloc (.cells #[.int .i64 (k : Int), .int .i64 (gk % 5)] 70)
      go_wp2_with (at_builtin; refine wpList_append_any _ rfl _ _ _ rfl W3.heap.size 70 _ 2 16 Try.underlying66 info70b rfl (by omega) (.slice Al k cl) k ((L.take k).flatMap prL) rfl ho2 _ (some ⟨wr.heap.size, 0, none⟩) 1 1 [.int .i64 (k : Int), .int .i64 (gk % 5)] rfl (Reads.newS _ [.int .i64 (k : Int), .int .i64 (gk % 5)] 70 (0, 0) 1 2 rfl _ rfl) (by intro u hu; simp at hu; rcases hu with rfl | rfl <;> rfl) (by simp only [maxLen]; omega) (by omega) (by simp; omega) ?_; intro A4 c4 w4 hown4 hgr4 hat4)
      refine ⟨⟨k + 1, A4, c4, by omega, by go_num, rfl, ?_, (hbel.alloc hsr _).grown hgr4 (by simp; omega) (fun g hg => (HO.out.lt g hg).1)⟩, by simp [intOf]; omega⟩
      rw [hTk.out, List.flatMap_append]
      simpa [prL] using hown4
    · have hlt' : ¬ (k : Int) < vs.length := by omega
      have he : k = vs.length := by omega
      subst he
      have hTL : L.take vs.length = L := by rw [← HLl.out, List.take_length]
      rw [hTL] at HO
      have hLn := HLl.out
      obtain ⟨w4, rfl⟩ : ∃ w4 : World, w4 = wr := ⟨_, rfl⟩
      have hl9 : L.length ≤ 9 := by omega
      rw [← HLl.out] at HO ⊢
      obtain ⟨N, hN⟩ : ∃ N : Nat, L.length = N := ⟨_, rfl⟩
      rw [hN] at HO hl9 ⊢
      have HNl := Lib.hid hN
      have hR4 := Lib.hid (((Reads.of_own HO.out).old (by omega)).more (B' := fun g => g < w4.heap.size) (fun g hg => hg.2))
      have hPL := (Reads.of_own HO.out).plain (by omega)
      obtain ⟨i70, hi70, hs70⟩ := info70
      clear hTL hLn HLl HO HGet hN hb hl hlt hk hlt' hPl
      go_wp2_with fail
      go_loopw [6, 9, 54] (fun v6 _ vi wr => ∃ (k : Nat) (At : Option Addr) (ct : Nat), k ≤ N ∧ vi = .int .i64 k ∧ v6 = .slice At k ct ∧ wr.ownsRow w4.heap.size 70 2 (.slice At k ct) k ((L.reverse.take k).flatMap prL) ∧ Below w4.heap.size w4 wr) (fun _ _ vi _ => N - (intOf vi).toNat)
      case atStart => exact ⟨0, none, 0, Nat.zero_le _, rfl, rfl, World.ownsRow_nil _ _ _ _, Below.refl _ _⟩
      case round =>
        obtain ⟨k, At, ct, hk, rfl, rfl, hown, hbq⟩ := hrel
        have hsq := hbq.size
        have HO := Lib.hid hown
        clear hown
        have bwq : Below w.heap.size w wr := bw.trans (hbq.mono bw.size)
        by_cases hlt : k < N
        · have hlt' : (k : Int) < N := by omega
          have hkN : N - 1 - k < L.length := by have := HNl.out; omega
          obtain ⟨p, hp⟩ : ∃ p, L[N - 1 - k]? = some p := ⟨_, List.getElem?_eq_getElem hkN⟩
          have hTk := Lib.hid (show L.reverse.take (k + 1) = L.reverse.take k ++ [p] by
            rw [List.take_add_one, List.getElem?_reverse (by have := HNl.out; omega), HNl.out, hp]; rfl)
          have hix : ∀ W : World, (Instr.indexAt 66 (.slice Al N cl) (.int .i64 ((N : Int) - 1 - k))).run Try.prog W = .ok (.pointer (some ⟨bk Al, ofs Al + (N - 1 - k) * 2, none⟩)) W := fun W => by
            have := run_indexAt2 (P := Try.prog) Try.underlying66 hi70 hs70 hPL cl (N - 1 - k) (by omega) W
            rw [show (N : Int) - 1 - k = ((N - 1 - k : Nat) : Int) by omega]
            exact this
          have hR5 := hR4.out.below hbq (fun _ h => h)
          rw [← HNl.out] at hR5
          obtain ⟨d0, d1⟩ := pr_cells hR5 (k := N - 1 - k) hp
          have hw1 : IntKind.i64.wrap ((N : Int) - 1) = (N : Int) - 1 := IntWalk.i64_in _ (by omega)
          have hw2 : IntKind.i64.wrap ((N : Int) - 1 - k) = (N : Int) - 1 - k := IntWalk.i64_in _ (by omega)
          clear hp hR5
          obtain ⟨pv, px⟩ := p
          simp only at d0 d1
          have ho2 := HO.out.alloc (.cells #[.int .i64 pv, .int .i64 px] 70)
          go_wp2_with (at_builtin; refine wpList_append_any _ rfl _ _ _ rfl w4.heap.size 70 _ 2 16 Try.underlying66 info70b rfl (by omega) (.slice At k ct) k ((L.reverse.take k).flatMap prL) rfl ho2 _ (some ⟨wr.heap.size, 0, none⟩) 1 1 [.int .i64 pv, .int .i64 px] rfl (Reads.newS _ [.int .i64 pv, .int .i64 px] 70 (0, 0) 1 2 rfl _ rfl) (by intro u hu; simp at hu; rcases hu with rfl | rfl <;> rfl) (by simp only [maxLen]; omega) (by omega) (by simp; omega) ?_; intro A5 c5 w5 hown5 hgr5 hat5)
          refine ⟨⟨k + 1, A5, c5, by omega, by go_num, rfl, ?_, (hbq.alloc hsq _).grown hgr5 (by simp; omega) (fun g hg => (HO.out.lt g hg).1)⟩, by simp [intOf]; omega⟩
          rw [hTk.out, List.flatMap_append]
          simpa [prL] using hown5
        · have hlt' : ¬ (k : Int) < N := by omega
          have he : k = N := by omega
          subst he
          have hrl : L.reverse.take k = L.reverse := by rw [List.take_of_length_le (by rw [List.length_reverse, HNl.out]; exact Nat.le_refl _)]
          rw [hrl] at HO
          obtain ⟨w5, rfl⟩ : ∃ w5 : World, w5 = wr := ⟨_, rfl⟩
          have rT := Lib.hid (((Reads.of_own HO.out).old (by omega)).more (B' := fun g => g < w5.heap.size) (fun g hg => hg.2))
          have g5 := (g3.below hbel g3.lt).below hbq (by have := g3.lt; omega)
          have HW1 := Lib.hid (fun W (x : Below w5.heap.size w5 W) => HWi.out W (bwq.trans (x.mono bwq.size)) _ Al cl L (by rw [HNl.out]; exact (hR4.out.below hbq (fun _ h => h)).fr (S := fun _ => False) (Fr.of_below x) (fun _ _ => id)) (by rw [HNl.out]; omega) HRg.out)
          have HW2 := Lib.hid (fun W (x : Below w5.heap.size w5 W) => HWi.out W (bwq.trans (x.mono bwq.size)) _ At ct L.reverse (by rw [List.length_reverse, HNl.out]; exact rT.out.below x (fun _ h => h)) (by rw [List.length_reverse, HNl.out]; omega) (fun p hp => HRg.out p (List.mem_reverse.1 hp)))
          rw [List.length_reverse] at HW2
          rw [HNl.out] at HW1 HW2
          obtain ⟨q0, q1, q2⟩ := g5.facts
          clear hrl hlt hlt' hk
          go_wp2_with fail
          refine (HW1.out w5 (Below.refl _ _)).mono ?_
          rintro e w6 ⟨x, rfl, hx, hB6⟩
          have g6 := g5.below hB6 g5.lt
          obtain ⟨z0, z1, z2⟩ := g6.facts
          go_wp2_with fail
          refine (HW2.out w6 hB6).mono ?_
          rintro e w7 ⟨y, rfl, hy, hB7⟩
          obtain rfl := hx.uniq hy.rev
          have hxr := hx.range HRg.out
          have g7 := g6.below hB7 g6.lt
          have B7 := hB6.trans (hB7.mono hB6.size)
          have b7 := bwq.trans (B7.mono bwq.size)
          obtain ⟨u0, u1, u2⟩ := g7.facts
          have e1 : (x != x) = false := by simp
          have e2 : ¬ x < -1 := by omega
          have e3 : ¬ (4 : Int) < x := by omega
          have HX := Lib.hid hx
          clear hx hy HW1 HW2
          by_cases hx1 : x = -1
          · have e4 : (x == -1) = true := by simpa using hx1
            go_wp2_with fail
            go_ret
            exact ⟨rfl, b7⟩
          · have e4 : (x == -1) = false := by simpa using hx1
            have hRL := Lib.hid ((hR4.out.below hbq (fun _ h => h)).fr (S := fun _ => False) (Fr.of_below B7) (fun _ _ => id))
            have hs5 := hbq.size
            have hs7 := B7.size
            have hgl7 := g7.lt
            go_wp2_with fail
            go_loopw [11, 13, 89] (fun v11 _ vi wr => ∃ (j : Nat) (Ar : Option Addr) (cr : Nat), j ≤ k ∧ vi = .int .i64 j ∧ v11 = .slice Ar (restOf (L.take j) x).length cr ∧ wr.ownsRow w7.heap.size 70 2 (.slice Ar (restOf (L.take j) x).length cr) (restOf (L.take j) x).length ((restOf (L.take j) x).flatMap prL) ∧ Below w7.heap.size w7 wr) (fun _ _ vi _ => k - (intOf vi).toNat)
            case atStart => exact ⟨0, none, 0, Nat.zero_le _, rfl, rfl, World.ownsRow_nil _ _ _ _, Below.refl _ _⟩
            case round =>
              obtain ⟨j, Ar, cr, hj, rfl, rfl, hown, hbr⟩ := hrel
              have hsr' := hbr.size
              have HO2 := Lib.hid hown
              clear hown
              have hrl2 : (restOf (L.take j) x).length ≤ 9 := by
                have : (restOf (L.take j) x).length ≤ (L.take j).length := List.length_filter_le _ _
                rw [List.length_take, HNl.out] at this
                omega
              by_cases hlt : j < k
              · have hlt' : (j : Int) < k := by omega
                obtain ⟨p, hp⟩ : ∃ p, L[j]? = some p := ⟨_, List.getElem?_eq_getElem (by rw [HNl.out]; exact hlt)⟩
                have hTj := Lib.hid (show L.take (j + 1) = L.take j ++ [p] by rw [List.take_add_one, hp]; rfl)
                have hix := fun W => run_indexAt2 (P := Try.prog) Try.underlying66 hi70 hs70 hPL cl j hlt W
                have hR5 := hRL.out.fr (S := fun _ => False) (Fr.of_below hbr) (fun _ _ => id)
                rw [← HNl.out] at hR5
                obtain ⟨d0, d1⟩ := pr_cells hR5 hp
                clear hp hR5
                obtain ⟨pv, px⟩ := p
                simp only at d0 d1
                have hsn : restOf (L.take (j + 1)) x = restOf (L.take j) x ++ (if px = x then [] else [(pv, px)]) := by
                  unfold restOf
                  rw [hTj.out, List.filter_append]
                  by_cases e : px = x
                  · rw [if_pos e, List.filter_cons_of_neg (by simp [e])]; simp
                  · rw [if_neg e, List.filter_cons_of_pos (by simpa using e)]; simp
                by_cases hpx : px = x
                · have hpb : (px != x) = false := by simp [hpx]
                  rw [if_pos hpx, List.append_nil] at hsn
                  have HSn := Lib.hid hsn
                  clear hsn hpx
                  go_wp2_with fail
                  exact ⟨⟨j + 1, Ar, cr, by omega, by go_num, by rw [HSn.out], by rw [HSn.out]; exact HO2.out.alloc _, hbr.alloc hsr' _⟩, by simp [intOf]; omega⟩
                · have hpb : (px != x) = true := by simpa using hpx
                  rw [if_neg hpx] at hsn
                  have HSn := Lib.hid hsn
                  clear hsn hpx
                  generalize restOf (L.take j) x = rj at *
                  have ho3 := (HO2.out.alloc (.cells #[.int .i64 pv, .int .i64 px] 70)).alloc (.cells #[.int .i64 pv, .int .i64 px] 70)
                  go_wp2_with (at_builtin; refine wpList_append_any _ rfl _ _ _ rfl w7.heap.size 70 _ 2 16 Try.underlying66 info70b rfl (by omega) (.slice Ar rj.length cr) rj.length (rj.flatMap prL) rfl ho3 _ (some ⟨wr.heap.size + 1, 0, none⟩) 1 1 [.int .i64 pv, .int .i64 px] rfl (Reads.newS _ [.int .i64 pv, .int .i64 px] 70 (0, 0) 1 2 rfl _ (by simp)) (by intro u hu; simp at hu; rcases hu with rfl | rfl <;> rfl) (by simp only [maxLen]; omega) (by omega) (by simp; omega) ?_; intro A5 c5 w8 hown5 hgr5 hat5)
                  have e5 : (restOf (L.take (j + 1)) x).length = rj.length + 1 := by rw [HSn.out]; simp
                  refine ⟨⟨j + 1, A5, c5, by omega, by go_num, by rw [e5], ?_, ((hbr.alloc hsr' _).alloc (by simp; omega) _).grown hgr5 (by simp; omega) (fun g hg => (HO2.out.lt g hg).1)⟩, by simp [intOf]; omega⟩
                  rw [e5, HSn.out, List.flatMap_append]
                  simpa [prL] using hown5
              · have hlt' : ¬ (j : Int) < k := by omega
                have he : j = k := by omega
                subst he
                have hTL : L.take j = L := by rw [← HNl.out, List.take_length]
                rw [hTL] at HO2 hrl2 ⊢
                have b8 := b7.trans (hbr.mono b7.size)
                have HW3 := Lib.hid (HWi.out wr b8 _ Ar cr (restOf L x) (Reads.of_own HO2.out) (by omega) (fun p hp => HRg.out p (List.mem_filter.1 hp).1))
                have g8 := g7.below hbr hgl7
                obtain ⟨s0, s1, s2⟩ := g8.facts
                go_wp2_with fail
                refine HW3.out.mono ?_
                rintro e w9 ⟨y, rfl, hy, hB9⟩
                obtain rfl := HX.out.one hx1 hy HOn.out
                go_wp2_with fail
                go_ret
                exact ⟨rfl, b8.trans (hB9.mono b8.size)⟩
end Go.Proofs.Ytbhbamgnapcbaaa

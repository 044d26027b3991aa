import Derived.Test.YtnmmiiajcjcccaaAid9
namespace Go.Proofs.Ytnmmiiajcjcccaa
set_option linter.unusedVariables false
open Go.RowKit Go.Own Go.Quo Go.Aid
set_option maxRecDepth 10000 in
set_option maxHeartbeats 8000000 in
theorem rfair_ok (B B2 B3 : Nat → Prop) (A A2 A3 : Option Addr) (c c2 c3 : Nat) (f wa : List Int) (l : List (Int × Int)) (w : World) (h : RI w B A f) (h2 : RI w B2 A2 wa) (h3 : Reads w B3 2 A3 l.length (l.flatMap pairsL)) (hl : f.length = wa.length) (h64 : f.length ≤ 64) (hl5 : l.length ≤ 64000) :
    Calls Try.prog 16 #[.slice A f.length c, .slice A2 wa.length c2, .slice A3 l.length c3] w (BoolPost (FairR f.length (leftF f wa) l) w) := by
  have HB := Lib.hid (left_ok B B2 A A2 c c2 f wa w h h2 hl h64)
  obtain ⟨n, hn⟩ : ∃ n : Nat, f.length = n := ⟨_, rfl⟩
  have hLl : (leftF f wa).length = n := by rw [left_len hl, hn]
  have hLr : ∀ k, gd (leftF f wa) k ≤ 1000 ∧ -1000 ≤ gd (leftF f wa) k := fun k => by
    by_cases hk : k < f.length
    · rw [left_gd hl hk]
      have := clamp_r (gd f k)
      have := clamp_r (gd wa k)
      omega
    · rw [gd_out (by rw [hLl]; omega)]; omega
  have HR3 := Lib.hid (h3.old (by omega))
  have hp3 := h3.plain (by omega)
  rw [hn] at HB h64
  rw [← hl, hn] at HB ⊢
  generalize leftF f wa = L at *
  have HLl := Lib.hid hLl
  have HLr := Lib.hid hLr
  clear h h2 h3 hl hn hLr hLl
  have hnil2 : ∀ (a : Addr) (n c : Nat) (W : World), (binOp .eql 22 (.slice (some a) n c) (.slice none 0 0)).run Try.prog W = .ok (.bool false) W := fun _ _ _ _ => by rfl
  have hmk := run_make1 (P := Try.prog) 68 4 (.bool false) 1 Try.underlying68 info4 rfl n (by omega) (by omega)
  go_enter Try.func16, Try.ntmps16
  go_wp2_with fail
  refine HB.out.mono ?_
  rintro e w1 ⟨g, cg, rfl, ho1, hbw⟩
  rw [HLl.out] at ho1 ⊢
  have HO1 := Lib.hid ho1
  have hg1 := (ho1.lt g rfl)
  have hws := hbw.size
  clear ho1
  go_wp2_with (at_builtin; refine wpList_append_any _ rfl _ _ _ rfl w1.heap.size 3 (.int .i64 0) 1 8 Try.underlying22 info3 rfl (by omega) (.slice (some ⟨w1.heap.size, 0, none⟩) 0 0) 0 [] rfl (World.ownsRow_lit w1 #[] 0 (Nat.le_refl _) (by simp [maxLen]) (by simp)) _ (some ⟨g, 0, none⟩) n cg (L.map (Value.int .i64)) rfl ((Reads.of_own HO1.out).alloc _) (ints_one L) (by simp only [maxLen]; omega) (by omega) (by simp) ?_; intro A2 c2' w2 hown hgr hat)
  rw [Nat.zero_add] at *
  obtain ⟨g8, rfl⟩ := own_not_nil hown hat
  have hb2 : Below w1.heap.size w1 w2 := Below.grown (row := some w1.heap.size) ((Below.refl _ _).alloc (Nat.le_refl _) _) hgr (by simp) (fun k hk => by cases hk; exact Nat.le_refl _)
  have HS0 := Lib.hid (LvSt.start l HLl.out)
  have HO0 := Lib.hid (show w2.ownsRow w1.heap.size 3 1 (.slice (some ⟨g8, 0, none⟩) n c2') n (L.map (Value.int .i64)) by simpa using hown)
  clear hown hgr hat
  go_loopw [9, 10, 11] (fun vi _ _ wr => ∃ (k : Nat) (s : List Int), k ≤ l.length ∧ vi = .int .i64 k ∧ LvSt n L l k s ∧ wr.ownsRow w1.heap.size 3 1 (.slice (some ⟨g8, 0, none⟩) n c2') n (s.map (Value.int .i64)) ∧ Below w1.heap.size w1 wr) (fun vi _ _ _ => l.length - (intOf vi).toNat)
  case atStart => exact ⟨0, L, Nat.zero_le _, rfl, HS0.out, HO0.out, hb2⟩
  case round =>
    obtain ⟨k, s, hk, rfl, hS, hO, hbel⟩ := hrel
    have HS := Lib.hid hS
    have HO := Lib.hid hO
    have g8lt := hO.lt g8 rfl
    clear hS hO
    have bw : Below w.heap.size w wr := hbw.trans (hbel.mono hws)
    by_cases hlt : k < l.length
    · have hlt' : (k : Int) < l.length := by omega
      obtain ⟨x, hx⟩ : ∃ x, l[k]? = some x := ⟨_, List.getElem?_eq_getElem hlt⟩
      obtain ⟨y1, y2⟩ := prs_cells (HR3.out.below bw (fun _ h => h.2)) hx
      have hix := fun W => ix25 hp3 c3 k hlt W
      have i0 := fun W => (show (Instr.indexAt 28 (.pointer (some ⟨bk A3, ofs A3 + k * 2, none⟩)) (.int .i64 0)).run Try.prog W = .ok (.pointer (some ⟨bk A3, ofs A3 + k * 2, none⟩)) W from ix28o _ _ 0 (by omega) W)
      have i1 := fun W => (show (Instr.indexAt 28 (.pointer (some ⟨bk A3, ofs A3 + k * 2, none⟩)) (.int .i64 1)).run Try.prog W = .ok (.pointer (some ⟨bk A3, ofs A3 + k * 2 + 1, none⟩)) W from ix28o _ _ 1 (by omega) W)
      have HX := Lib.hid hx
      clear hx
      obtain ⟨xa, xb⟩ := x
      simp only at y1 y2
      go_wp2_with fail
      go_quiet (fail)
      have HO2 := Lib.hid (own_drewN HO.out nq)
      have jb := below_drewN hbel nq
      have bw2 := below_drewN bw nq
      clear y1 y2 HO
      generalize wr.drewN nq = W4 at *
      rcases (by omega : xa < 0 ∨ (¬ xa < 0 ∧ (n : Int) ≤ xa) ∨ (¬ xa < 0 ∧ ¬ (n : Int) ≤ xa ∧ xb < 0) ∨ (¬ xa < 0 ∧ ¬ (n : Int) ≤ xa ∧ ¬ xb < 0 ∧ (n : Int) ≤ xb) ∨ (¬ xa < 0 ∧ ¬ (n : Int) ≤ xa ∧ ¬ xb < 0 ∧ ¬ (n : Int) ≤ xb)) with q1 | ⟨q1, q2⟩ | ⟨q1, q2, q3⟩ | ⟨q1, q2, q3, q4⟩ | ⟨q1, q2, q3, q4⟩
      case inr.inr.inr.inr =>
        by_cases q5 : xa = xb
        · have q6 : (xa == xb) = true := by simpa using q5
          have HNo := Lib.hid (LvSt.bad (n := n) (L := L) HX.out (by simp only [stepOk]; omega))
          go_wp2_with fail
          go_ret
          exact ⟨false, rfl, ⟨fun h => (by cases h), fun h => absurd h HNo.out⟩, bw2⟩
        · have q6 : (xa == xb) = false := by simpa using q5
          obtain ⟨a, rfl⟩ : ∃ a : Nat, xa = a := ⟨xa.toNat, by omega⟩
          obtain ⟨b, rfl⟩ : ∃ b : Nat, xb = b := ⟨xb.toNat, by omega⟩
          have ha : a < n := by omega
          have hb : b < n := by omega
          have hab : a ≠ b := by omega
          have hixa := fun W => ixg (g := g8) n c2' a ha W
          have hixb := fun W => ixg (g := g8) n c2' b hb W
          have ca := HO2.out.cellAt a (by omega)
          have cb := HO2.out.cellAt b (by omega)
          rw [List.getElem?_map, List.getElem?_eq_getElem (by rw [HS.out.sl]; exact ha), ← gd_get (by rw [HS.out.sl]; exact ha), Option.map_some] at ca
          rw [List.getElem?_map, List.getElem?_eq_getElem (by rw [HS.out.sl]; exact hb), ← gd_get (by rw [HS.out.sl]; exact hb), Option.map_some] at cb
          have fa := HO2.out.frozenAt a
          have fb := HO2.out.frozenAt b
          have HN := Lib.hid (HS.out.next HX.out ha hb hab)
          have va := HS.out.sv a ha
          have vb := HS.out.sv b hb
          have ra := lv_r k a (HLr.out a) hl5
          have rb := lv_r k b (HLr.out b) hl5
          have hw1 : IntKind.i64.wrap (gd s a - 1) = gd s a - 1 := IntWalk.i64_in _ (by omega)
          have hw2 : IntKind.i64.wrap (gd s b + 1) = gd s b + 1 := IntWalk.i64_in _ (by omega)
          clear va vb ra rb HX
          go_wp2_with fail
          obtain ⟨p1, p2⟩ := HO2.out.stored a (.int .i64 (gd s a - 1))
          obtain ⟨p3, p4⟩ := p1.stored b (.int .i64 (gd s b + 1))
          refine ⟨⟨k + 1, _, by omega, by go_num, HN.out, ?_, (jb.setCell (p := ⟨g8, a, none⟩) g8lt.1 _).setCell (p := ⟨g8, b, none⟩) g8lt.1 _⟩, by simp [intOf]; omega⟩
          rw [List.map_set, List.map_set]; exact p3
      all_goals
        have HNo := Lib.hid (LvSt.bad (n := n) (L := L) HX.out (by simp only [stepOk]; omega))
        go_wp2_with fail
        go_ret
        exact ⟨false, rfl, ⟨fun h => (by cases h), fun h => absurd h HNo.out⟩, bw2⟩
    · have hlt' : ¬ (k : Int) < l.length := by omega
      have he : k = l.length := by omega
      subst he
      clear HO0 HS0
      have hwr := hbel.size
      have Hok := Lib.hid (show ∀ x ∈ l, stepOk n x by have := HS.out.ok; rwa [List.take_length] at this)
      have Hsv := Lib.hid (show ∀ i, i < n → gd s i = lv L l i by have := HS.out.sv; rwa [List.take_length] at this)
      have Hsl := Lib.hid HS.out.sl
      clear HS
      go_upto_region 13 with (fail)
      go_cut [12, 13] (fun v7 v8 wx => ∃ g3 g4, v7 = .slice (some ⟨g3, 0, none⟩) n n ∧ v8 = .slice (some ⟨g4, 0, none⟩) n n ∧ g3 ≠ g4 ∧ wr.heap.size ≤ g3 ∧ wr.heap.size ≤ g4 ∧ BBk wx g3 (List.replicate n false) ∧ BBk wx g4 (List.replicate n false) ∧ Below wr.heap.size wr wx)
      case first =>
        have z1 : BBk ((wr.alloc (.cells (zrow (.bool false) n) 4)).alloc (.cells (zrow (.bool false) n) 4)) wr.heap.size (List.replicate n false) := (zrow_bb n wr).alloc _
        have z2 : BBk ((wr.alloc (.cells (zrow (.bool false) n) 4)).alloc (.cells (zrow (.bool false) n) 4)) (wr.heap.size + 1) (List.replicate n false) := by simpa using zrow_bb n (wr.alloc (.cells (zrow (.bool false) n) 4))
        have zb : Below wr.heap.size wr ((wr.alloc (.cells (zrow (.bool false) n) 4)).alloc (.cells (zrow (.bool false) n) 4)) := ((Below.refl _ _).alloc (Nat.le_refl _) _).alloc (by simp) _
        go_region_law (fail)
        all_goals
          go_wp2_with fail
          go_meet
          case rel =>
            first
              | exact ⟨_, _, rfl, rfl, by omega, by omega, by omega, z1, z2, zb.drew⟩
              | exact ⟨_, _, rfl, rfl, by omega, by omega, by omega, z2, z1, zb.drew⟩
      case rest =>
        obtain ⟨g3, g4, rfl, rfl, hne34, hg3, hg4, b3, b4, hbc⟩ := hcut
        obtain ⟨w3, rfl⟩ : ∃ w3 : World, w3 = wc := ⟨_, rfl⟩
        obtain ⟨w0, rfl⟩ : ∃ w0 : World, w0 = wr := ⟨_, rfl⟩
        have HB3 := Lib.hid hbc
        have HP0 := Lib.hid (PQSt.start n l)
        clear hbc
        go_wp2_with fail
        go_loopw [14, 15, 16] (fun vi _ _ wr => ∃ (k : Nat) (p q : List Bool), k ≤ l.length ∧ vi = .int .i64 k ∧ PQSt n l k p q ∧ BBk wr g3 p ∧ BBk wr g4 q ∧ Below w0.heap.size w0 wr) (fun vi _ _ _ => l.length - (intOf vi).toNat)
        case atStart => exact ⟨0, _, _, Nat.zero_le _, rfl, HP0.out, b3, b4, HB3.out⟩
        case round =>
          obtain ⟨k, p, q, hk, rfl, hS, j3, j4, hbel3⟩ := hrel
          have HS := Lib.hid hS
          have bw3 : Below w.heap.size w wr := bw.trans (hbel3.mono bw.size)
          clear hS b3 b4
          by_cases hlt : k < l.length
          · have hlt' : (k : Int) < l.length := by omega
            obtain ⟨x, hx⟩ : ∃ x, l[k]? = some x := ⟨_, List.getElem?_eq_getElem hlt⟩
            obtain ⟨y1, y2⟩ := prs_cells (HR3.out.below bw3 (fun _ h => h.2)) hx
            have hix := fun W => ix25 hp3 c3 k hlt W
            have i0 := fun W => (show (Instr.indexAt 28 (.pointer (some ⟨bk A3, ofs A3 + k * 2, none⟩)) (.int .i64 0)).run Try.prog W = .ok (.pointer (some ⟨bk A3, ofs A3 + k * 2, none⟩)) W from ix28o _ _ 0 (by omega) W)
            have i1 := fun W => (show (Instr.indexAt 28 (.pointer (some ⟨bk A3, ofs A3 + k * 2, none⟩)) (.int .i64 1)).run Try.prog W = .ok (.pointer (some ⟨bk A3, ofs A3 + k * 2 + 1, none⟩)) W from ix28o _ _ 1 (by omega) W)
            have hxo := Hok.out x (List.mem_of_getElem? hx)
            have HX := Lib.hid hx
            clear hx
            obtain ⟨xa, xb⟩ := x
            obtain ⟨q1, q2, q3, q4, -⟩ := hxo
            simp only at y1 y2 q1 q2 q3 q4
            obtain ⟨a, rfl⟩ : ∃ a : Nat, xa = a := ⟨xa.toNat, by omega⟩
            obtain ⟨b, rfl⟩ : ∃ b : Nat, xb = b := ⟨xb.toNat, by omega⟩
            have ha : a < n := by omega
            have hb : b < n := by omega
            have hixc := fun W => ixb (g := g3) n n a ha W
            have hixd := fun W => ixb (g := g4) n n b hb W
            have cc := bb_at j3 (HS.out.pv a ha)
            have cd := bb_at j4 (HS.out.qv b hb)
            obtain ⟨m3, -, f3⟩ := j3.facts
            obtain ⟨m4, -, f4⟩ := j4.facts
            have HN := Lib.hid (HS.out.next HX.out ha hb)
            have J3 := Lib.hid j3
            have J4 := Lib.hid j4
            generalize decide (0 < lentN (List.take k l) a) = d3 at *
            generalize decide (0 < gotN (List.take k l) b) = d4 at *
            clear j3 j4
            go_wp2_with fail
            go_quiet (fail)
            go_wp2_with fail
            refine ⟨⟨k + 1, _, _, by omega, by go_num, HN.out, ?_, ?_, below_drewN ((hbel3.setCell (p := ⟨g3, a, none⟩) hg3 _).setCell (p := ⟨g4, b, none⟩) hg4 _) nq⟩, by simp [intOf]; omega⟩
            · exact ((bb_put J3.out a true).far (p := ⟨g4, b, none⟩) hne34 _).drewN nq
            · exact (bb_put (J4.out.far (p := ⟨g3, a, none⟩) (fun e => hne34 e.symm) _) b true).drewN nq
          · have hlt' : ¬ (k : Int) < l.length := by omega
            have he : k = l.length := by omega
            subst he
            have HPv := Lib.hid (show ∀ i, i < n → p[i]? = some (decide (0 < lentN l i)) by have := HS.out.pv; rwa [List.take_length] at this)
            have HQv := Lib.hid (show ∀ i, i < n → q[i]? = some (decide (0 < gotN l i)) by have := HS.out.qv; rwa [List.take_length] at this)
            have J3 := Lib.hid j3
            have J4 := Lib.hid j4
            have HB5 := Lib.hid hbel3
            clear j3 j4 hbel3 HB3 HP0 HS
            obtain ⟨w5, rfl⟩ : ∃ w5 : World, w5 = wr := ⟨_, rfl⟩
            go_upto_region 19 with (fail)
            iterate 10 go_step
            refine wp_of_eq (c' := sub [true, true, true, true, true, true, true, true] (Try.f16.body.getD .skip)) (by kernel_rfl) ?_
            have K8 := Lib.hid (show w5.ownsRow w1.heap.size 3 1 (.slice (some ⟨g8, 0, none⟩) n c2') n (s.map (Value.int .i64)) from own_below HO.out HB5.out (fun q hq => (HO.out.lt q hq).2))
            have K7 := Lib.hid (show w5.ownsRow w.heap.size 3 1 (.slice (some ⟨g, 0, none⟩) n cg) n (L.map (Value.int .i64)) from own_below HO1.out (hbel.trans (HB5.out.mono hbel.size)) (fun q hq => (HO1.out.lt q hq).2))
            exact rfair_rest w w5 w.heap.size w1.heap.size n g cg g8 c2' g3 g4 L s l p q h64 hl5 HLl HLr Hok Hsv Hsl HPv HQv J3 J4 K8 K7 bw3 _ _ _ _ _ _ _ _ _ _ _ _ _ _ _ _ _ _ _ _ _ _ _ _ _ _ _ _ _ _ _ _ _ _ _ _ _ _ _ _ _ _ _ _ _ _ _ _ _ _ _ _ _ _ _ _ _ _ _ _ _ _ _ _ _ _ _ _ _ _ _ _ _ _ _ _ _ _ _ _ _ _ _ _ _ _ _ _ _ _ _ _ _ _ _ _ _ _ _ _ _ _ _ _ _ _ _ _ _ _ _ _ _ _ _ _ _ _ _ _ _ _ _ _ _ _ _ _ _ _ _ _ _ _ _ _ _ _ _ _ _ _ _ _ _ _ _ _ _ _ _ _ _ _ _ _ _ _ _ _ _ _ _ _ _ _ _ _ _ _ _ _ _ _ _ _ _ _ _ _ _ _ _ _ _ _ _ _ _ _ _ _ _ _ _ _ _ _ _ _ _ _ _ _ _ _ _ _ _ _ _ _ _ _ _ _ _ _ _ _ _ _ _ _ _ _ _ _
end Go.Proofs.Ytnmmiiajcjcccaa

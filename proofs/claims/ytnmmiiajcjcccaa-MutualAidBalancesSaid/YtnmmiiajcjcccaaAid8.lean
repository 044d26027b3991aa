import Derived.Test.YtnmmiiajcjcccaaAid7
namespace Go.Proofs.Ytnmmiiajcjcccaa
set_option linter.unusedVariables false
open Go.RowKit Go.Own Go.Quo Go.Aid
def FairRes (f wa : List Int) (l : List (Int × Int)) : Prop := f.length = wa.length ∧ f.length ≤ 64 ∧ FairP f.length (leftF f wa) l
def BoolPost (P : Prop) (w : World) (e : Ending) (w' : World) : Prop := ∃ b : Bool, e = .returned (.bool b) ∧ (b = true ↔ P) ∧ Below w.heap.size w w'
theorem fair_bad (A A2 : Option Addr) (n n2 c c2 : Nat) (v : Value) (w : World) (h : n ≠ n2 ∨ 64 < n) :
    Calls Try.prog 15 #[.slice A n c, .slice A2 n2 c2, v] w fun e w' => e = .returned (.bool false) ∧ w' = w := by
  have HB := Lib.hid (balance_bad A A2 n n2 c c2 w h)
  clear h
  go_enter Try.func15, Try.ntmps15
  go_wp2_with fail
  refine HB.out.mono ?_
  rintro e w' ⟨rfl, rfl⟩
  go_wp2_with fail
  go_ret
  exact ⟨rfl, rfl⟩
theorem zrow_bb (n : Nat) (w : World) : BBk (w.alloc (.cells (zrow (.bool false) n) 4)) w.heap.size (List.replicate n false) := by
  have : zrow (.bool false) n = ((List.replicate n false).map Value.bool).toArray := by
    apply Array.ext'
    simp [zrow]
  rw [this]
  exact Blk.new w 4 _
theorem ix28 (g : Nat) (k : Nat) (hk : k < 2) (w : World) : (Instr.indexAt 28 (.pointer (some ⟨g, 0, none⟩)) (.int .i64 (k : Int))).run Try.prog w = .ok (.pointer (some ⟨g, k, none⟩)) w := by
  obtain ⟨i, hi, hs⟩ := i3x
  simp [Instr.indexAt, asIntOf, run_underlying Try.underlying28, sizeOf, typeInfo, hi, hs, Instr.sureAddr, Addr.add_lit, hk]
set_option maxRecDepth 10000 in
set_option maxHeartbeats 8000000 in
theorem fair_ok (B B2 B3 : Nat → Prop) (A A2 A3 : Option Addr) (c c2 c3 : Nat) (f wa : List Int) (l : List (Int × Int)) (w : World) (h : RI w B A f) (h2 : RI w B2 A2 wa) (h3 : Reads w B3 2 A3 l.length (l.flatMap pairsL)) (hl : f.length = wa.length) (h64 : f.length ≤ 64) (hl5 : l.length ≤ 64000) :
    Calls Try.prog 15 #[.slice A f.length c, .slice A2 wa.length c2, .slice A3 l.length c3] w (BoolPost (FairP f.length (leftF f wa) l) w) := by
  have HB := Lib.hid (balance_ok B B2 A A2 c c2 f wa w h h2 hl h64)
  obtain ⟨n, hn⟩ : ∃ n : Nat, f.length = n := ⟨_, rfl⟩
  have hLl : (leftF f wa).length = n := by rw [left_len hl, hn]
  have hLr : ∀ k, gd (leftF f wa) k ≤ 1000 ∧ -1000 ≤ gd (leftF f wa) k := fun k => by
    by_cases hk : k < f.length
    · rw [left_gd hl hk]
      have := clamp_r (gd f k)
      have := clamp_r (gd wa k)
      omega
    · rw [gd_out (by rw [hLl]; omega)]; omega
  have HR3 := Lib.hid (h3.old (by omega))
  have hp3 := h3.plain (by omega)
  rw [hn] at HB h64
  rw [← hl, hn] at HB ⊢
  generalize leftF f wa = L at *
  have HLl := Lib.hid hLl
  have HLr := Lib.hid hLr
  clear h h2 h3 hl hn hLr hLl
  have hmk := run_make1 (P := Try.prog) 68 4 (.bool false) 1 Try.underlying68 info4 rfl n (by omega) (by omega)
  go_enter Try.func15, Try.ntmps15
  go_wp2_with fail
  refine HB.out.mono ?_
  rintro e w1 ⟨g1, g2, rfl, hne, hg1, hg2, b1, b2, hbw⟩
  have hl1 := b1.lt
  have hl2 := b2.lt
  go_upto_region 5 with (fail)
  go_cut [11, 12] (fun v7 v8 wx => ∃ g3 g4, v7 = .slice (some ⟨g3, 0, none⟩) n n ∧ v8 = .slice (some ⟨g4, 0, none⟩) n n ∧ g3 ≠ g4 ∧ w1.heap.size ≤ g3 ∧ w1.heap.size ≤ g4 ∧ BBk wx g3 (List.replicate n false) ∧ BBk wx g4 (List.replicate n false) ∧ Below w1.heap.size w1 wx)
  case first =>
    have z1 : BBk ((w1.alloc (.cells (zrow (.bool false) n) 4)).alloc (.cells (zrow (.bool false) n) 4)) w1.heap.size (List.replicate n false) := (zrow_bb n w1).alloc _
    have z2 : BBk ((w1.alloc (.cells (zrow (.bool false) n) 4)).alloc (.cells (zrow (.bool false) n) 4)) (w1.heap.size + 1) (List.replicate n false) := by simpa using zrow_bb n (w1.alloc (.cells (zrow (.bool false) n) 4))
    have zb : Below w1.heap.size w1 ((w1.alloc (.cells (zrow (.bool false) n) 4)).alloc (.cells (zrow (.bool false) n) 4)) := ((Below.refl _ _).alloc (Nat.le_refl _) _).alloc (by simp) _
    go_region_law (fail)
    all_goals
      go_wp2_with fail
      go_meet
      case rel =>
        first
          | exact ⟨_, _, rfl, rfl, by omega, by omega, by omega, z1, z2, zb.drew⟩
          | exact ⟨_, _, rfl, rfl, by omega, by omega, by omega, z2, z1, zb.drew⟩
  case rest =>
    obtain ⟨g3, g4, rfl, rfl, hne34, hg3, hg4, b3, b4, hbw1⟩ := hcut
    obtain ⟨w3, rfl⟩ : ∃ w3 : World, w3 = wc := ⟨_, rfl⟩
    have hbc : Below w.heap.size w w3 := hbw.trans (hbw1.mono hbw.size)
    have HF0 := Lib.hid (FSt.start l HLl.out)
    have c1 := b1.below hbw1 hl1
    have c2 := b2.below hbw1 hl2
    have hl3 := b3.lt
    have hl4 := b4.lt
    have hws := hbw.size
    clear b1 b2
    go_wp2_with fail
    go_loopw [14, 15, 16, 34] (fun _ _ _ vi wr => ∃ (k : Nat) (s t : List Int) (p q : List Bool), k ≤ l.length ∧ vi = .int .i64 k ∧ FSt n L l k s t p q ∧ IB wr g1 3 s ∧ IB wr g2 3 t ∧ BBk wr g3 p ∧ BBk wr g4 q ∧ Below w.heap.size w wr ∧ w3.heap.size ≤ wr.heap.size) (fun _ _ _ vi _ => l.length - (intOf vi).toNat)
    case atStart => exact ⟨0, _, _, _, _, Nat.zero_le _, rfl, HF0.out, c1, c2, b3, b4, hbc, Nat.le_refl _⟩
    case round =>
      obtain ⟨k, s, t, p, q, hk, rfl, hF, k1, k2, k3, k4, hbel, hsz⟩ := hrel
      have HF := Lib.hid hF
      clear hF c1 c2 b3 b4
      by_cases hlt : k < l.length
      · have hlt' : (k : Int) < l.length := by omega
        obtain ⟨x, hx⟩ : ∃ x, l[k]? = some x := ⟨_, List.getElem?_eq_getElem hlt⟩
        obtain ⟨y1, y2⟩ := prs_cells (HR3.out.below hbel (fun _ h => h.2)) hx
        have hix := fun W => ix25 hp3 c3 k hlt W
        have HX := Lib.hid hx
        clear hx
        obtain ⟨xa, xb⟩ := x
        simp only at y1 y2
        have i0 := fun W => (show (Instr.indexAt 28 (.pointer (some ⟨wr.heap.size, 0, none⟩)) (.int .i64 0)).run Try.prog W = _ from ix28 wr.heap.size 0 (by omega) W)
        have i1 := fun W => (show (Instr.indexAt 28 (.pointer (some ⟨wr.heap.size, 0, none⟩)) (.int .i64 1)).run Try.prog W = _ from ix28 wr.heap.size 1 (by omega) W)
        have gx : Blk (wr.alloc (.cells #[.int .i64 xa, .int .i64 xb] 28)) wr.heap.size 28 #[.int .i64 xa, .int .i64 xb] := Blk.new wr 28 _
        have k1' := k1.alloc (.cells #[.int .i64 xa, .int .i64 xb] 28)
        have k2' := k2.alloc (.cells #[.int .i64 xa, .int .i64 xb] 28)
        have k3' := k3.alloc (.cells #[.int .i64 xa, .int .i64 xb] 28)
        have k4' := k4.alloc (.cells #[.int .i64 xa, .int .i64 xb] 28)
        have bel' := hbel.alloc hbel.size (.cells #[.int .i64 xa, .int .i64 xb] 28)
        have hsz' : (wr.alloc (.cells #[.int .i64 xa, .int .i64 xb] 28)).heap.size = wr.heap.size + 1 := by simp
        clear k1 k2 k3 k4
        go_wp2_with fail
        generalize wr.alloc (.cells #[.int .i64 xa, .int .i64 xb] 28) = W3 at *
        obtain ⟨x0, x1, x2⟩ := gx.facts
        clear gx
        go_quiet (fail)
        have j1 := k1'.drewN nq
        have j2 := k2'.drewN nq
        have j3 := k3'.drewN nq
        have j4 := k4'.drewN nq
        have jb := below_drewN bel' nq
        have js : (W3.drewN nq).heap.size = wr.heap.size + 1 := hsz'
        clear k1' k2' k3' k4' bel' hsz' x0 x1 x2
        generalize W3.drewN nq = W4 at *
        rcases (by omega : xa < 0 ∨ (¬ xa < 0 ∧ (n : Int) ≤ xa) ∨ (¬ xa < 0 ∧ ¬ (n : Int) ≤ xa ∧ xb < 0) ∨ (¬ xa < 0 ∧ ¬ (n : Int) ≤ xa ∧ ¬ xb < 0 ∧ (n : Int) ≤ xb) ∨ (¬ xa < 0 ∧ ¬ (n : Int) ≤ xa ∧ ¬ xb < 0 ∧ ¬ (n : Int) ≤ xb)) with q1 | ⟨q1, q2⟩ | ⟨q1, q2, q3⟩ | ⟨q1, q2, q3, q4⟩ | ⟨q1, q2, q3, q4⟩
        case inr.inr.inr.inr =>
          by_cases q5 : xa = xb
          · have q6 : (xa == xb) = true := by simpa using q5
            have HNo := Lib.hid (FSt.bad (n := n) (L := L) HX.out (by simp only [stepOk]; omega))
            go_wp2_with fail
            go_ret
            exact ⟨false, rfl, ⟨fun h => (by cases h), fun h => absurd h HNo.out⟩, jb⟩
          · have q6 : (xa == xb) = false := by simpa using q5
            obtain ⟨a, rfl⟩ : ∃ a : Nat, xa = a := ⟨xa.toNat, by omega⟩
            obtain ⟨b, rfl⟩ : ∃ b : Nat, xb = b := ⟨xb.toNat, by omega⟩
            have ha : a < n := by omega
            have hb : b < n := by omega
            have hixa := fun W => ixg (g := g1) n n a ha W
            have hixb := fun W => ixg (g := g2) n n b hb W
            have hixc := fun W => ixb (g := g3) n n a ha W
            have hixd := fun W => ixb (g := g4) n n b hb W
            have ca := IB.at_ j1 (k := a) (by rw [HF.out.sl]; exact ha)
            have cb := IB.at_ j2 (k := b) (by rw [HF.out.tl]; exact hb)
            have cc := bb_at j3 (HF.out.pv a ha)
            have cd := bb_at j4 (HF.out.qv b hb)
            have va := HF.out.sv a ha
            have vb := HF.out.tv b hb
            have HOs := Lib.hid fun h => HF.out.out_s HX.out ha h
            have HOt := Lib.hid fun h => HF.out.out_t HX.out hb h
            have HNx := Lib.hid fun h1 h2 => HF.out.next HX.out ha hb (by omega) h1 h2
            have la := HLr.out a
            have lb := HLr.out b
            unfold sF at va
            unfold tF at vb
            have hw1 : IntKind.i64.wrap (gd s a - 1) = gd s a - 1 := IntWalk.i64_in _ (by omega)
            have hw2 : IntKind.i64.wrap (gd t b - 1) = gd t b - 1 := IntWalk.i64_in _ (by omega)
            have J1 := Lib.hid j1
            have J2 := Lib.hid j2
            have J3 := Lib.hid j3
            have J4 := Lib.hid j4
            obtain ⟨m1, -, f1⟩ := j1.facts
            obtain ⟨m2, -, f2⟩ := j2.facts
            obtain ⟨m3, -, f3⟩ := j3.facts
            obtain ⟨m4, -, f4⟩ := j4.facts
            clear j1 j2 j3 j4 va vb la lb HX
            generalize decide (0 < lentN (List.take k l) a) = d3 at *
            generalize decide (0 < gotN (List.take k l) b) = d4 at *
            by_cases hs0 : gd s a = 0
            · have hs1 : (gd s a == 0) = true := by simpa using hs0
              go_wp2_with fail
              go_ret
              exact ⟨false, rfl, ⟨fun h => (by cases h), fun h => absurd h (HOs.out hs0)⟩, jb⟩
            have hs1 : (gd s a == 0) = false := by simpa using hs0
            by_cases ht0 : gd t b = 0
            · have ht1 : (gd t b == 0) = true := by simpa using ht0
              go_wp2_with fail
              go_ret
              exact ⟨false, rfl, ⟨fun h => (by cases h), fun h => absurd h (HOt.out ht0)⟩, jb⟩
            have ht1 : (gd t b == 0) = false := by simpa using ht0
            have HN := Lib.hid (HNx.out hs0 ht0)
            clear HNx HOs HOt
            have n13 : g1 ≠ g3 := by omega
            have n14 : g1 ≠ g4 := by omega
            have n23 : g2 ≠ g3 := by omega
            have n24 : g2 ≠ g4 := by omega
            go_wp2_with fail
            refine ⟨⟨k + 1, _, _, _, _, by omega, by go_num, HN.out, ?_, ?_, ?_, ?_, ?_, ?_⟩, by simp [intOf]; omega⟩
            · exact (((IB.put J1.out a _).far (p := ⟨g2, b, none⟩) hne _).far (p := ⟨g3, a, none⟩) n13 _).far (p := ⟨g4, b, none⟩) n14 _
            · exact (((IB.put (J2.out.far (p := ⟨g1, a, none⟩) (fun e => hne e.symm) _) b _)).far (p := ⟨g3, a, none⟩) n23 _).far (p := ⟨g4, b, none⟩) n24 _
            · exact (bb_put ((J3.out.far (p := ⟨g1, a, none⟩) (fun e => n13 e.symm) _).far (p := ⟨g2, b, none⟩) (fun e => n23 e.symm) _) a true).far (p := ⟨g4, b, none⟩) hne34 _
            · exact bb_put (((J4.out.far (p := ⟨g1, a, none⟩) (fun e => n14 e.symm) _).far (p := ⟨g2, b, none⟩) (fun e => n24 e.symm) _).far (p := ⟨g3, a, none⟩) (fun e => hne34 e.symm) _) b true
            · exact (((jb.setCell (p := ⟨g1, a, none⟩) hg1 _).setCell (p := ⟨g2, b, none⟩) hg2 _).setCell (p := ⟨g3, a, none⟩) (by show _ ≤ g3; omega) _).setCell (p := ⟨g4, b, none⟩) (by show _ ≤ g4; omega) _
            · simp; omega
        all_goals
          have HNo := Lib.hid (FSt.bad (n := n) (L := L) HX.out (by simp only [stepOk]; omega))
          go_wp2_with fail
          go_ret
          exact ⟨false, rfl, ⟨fun h => (by cases h), fun h => absurd h HNo.out⟩, jb⟩
      · have hlt' : ¬ (k : Int) < l.length := by omega
        have he : k = l.length := by omega
        subst he
        have G1 := greatest_any (· = g1) (some ⟨g1, 0, none⟩) n s wr (IB.reads k1) (by rw [HF.out.sl]; omega)
        have G2 := greatest_any (· = g2) (some ⟨g2, 0, none⟩) n t wr (IB.reads k2) (by rw [HF.out.tl]; omega)
        rw [HF.out.sl] at G1
        rw [HF.out.tl] at G2
        have HE := Lib.hid HF.out.end_
        have HG1 := Lib.hid G1
        have HG2 := Lib.hid G2
        have hsr : ∀ i, i < n → 0 ≤ gd s i ∧ gd s i ≤ 1000 := fun i hi => by have := HF.out.sv i hi; unfold sF at this; have := HLr.out i; omega
        have htr : ∀ i, i < n → 0 ≤ gd t i ∧ gd t i ≤ 1000 := fun i hi => by have := HF.out.tv i hi; unfold tF at this; have := HLr.out i; omega
        have HV1 := Lib.hid (even_any g2 g4 t q n wr k2 k4 HF.out.tl HF.out.ql (by omega) htr)
        have HV2 := Lib.hid fun j => even_any g1 g3 s p n (wr.drewN j) (k1.drewN j) (k3.drewN j) HF.out.sl HF.out.pl (by omega) hsr
        clear G1 G2 hsr htr k1 k2 k3 k4 HF
        rcases (by omega : grF s < 0 ∨ (¬ grF s < 0 ∧ grF t < 0) ∨ (¬ grF s < 0 ∧ ¬ grF t < 0)) with c1 | ⟨c1, c2⟩ | ⟨c1, c2⟩
        · have d1 : ¬ (0 : Int) ≤ grF s := by omega
          have HOr := Lib.hid (show grF s < 0 ∨ grF t < 0 from .inl c1)
          generalize grF s = y1 at *
          generalize grF t = y2 at *
          go_wp2_with fail
          refine HG1.out.mono ?_
          rintro e w2 ⟨rfl, rfl⟩
          go_wp2_with fail
          refine HV1.out.mono ?_
          rintro e w2 ⟨bt, rfl, hbt, j1, rfl⟩
          have HBt := Lib.hid hbt
          clear hbt
          cases bt with
          | false =>
            go_wp2_with fail
            go_ret
            exact ⟨false, rfl, ⟨fun h => (by cases h), fun h => HBt.out.2 (HE.out.1 h).2.1⟩, below_drewN hbel _⟩
          | true =>
            go_wp2_with fail
            refine (HV2.out j1).mono ?_
            rintro e w2 ⟨bs, rfl, hbs, j2, rfl⟩
            have HBs := Lib.hid hbs
            clear hbs
            go_wp2_with fail
            go_ret
            exact ⟨bs, rfl, ⟨fun h => HE.out.2 ⟨HOr.out, HBt.out.1 (by trivial), HBs.out.1 h⟩, fun h => HBs.out.2 (HE.out.1 h).2.2⟩, below_drewN hbel _⟩
        · have d1 : (0 : Int) ≤ grF s := by omega
          have d2 : ¬ (0 : Int) ≤ grF t := by omega
          have HOr := Lib.hid (show grF s < 0 ∨ grF t < 0 from .inr c2)
          generalize grF s = y1 at *
          generalize grF t = y2 at *
          go_wp2_with fail
          refine HG1.out.mono ?_
          rintro e w2 ⟨rfl, rfl⟩
          go_wp2_with fail
          refine HG2.out.mono ?_
          rintro e w2 ⟨rfl, rfl⟩
          go_wp2_with fail
          refine HV1.out.mono ?_
          rintro e w2 ⟨bt, rfl, hbt, j1, rfl⟩
          have HBt := Lib.hid hbt
          clear hbt
          cases bt with
          | false =>
            go_wp2_with fail
            go_ret
            exact ⟨false, rfl, ⟨fun h => (by cases h), fun h => HBt.out.2 (HE.out.1 h).2.1⟩, below_drewN hbel _⟩
          | true =>
            go_wp2_with fail
            refine (HV2.out j1).mono ?_
            rintro e w2 ⟨bs, rfl, hbs, j2, rfl⟩
            have HBs := Lib.hid hbs
            clear hbs
            go_wp2_with fail
            go_ret
            exact ⟨bs, rfl, ⟨fun h => HE.out.2 ⟨HOr.out, HBt.out.1 (by trivial), HBs.out.1 h⟩, fun h => HBs.out.2 (HE.out.1 h).2.2⟩, below_drewN hbel _⟩
        · have d1 : (0 : Int) ≤ grF s := by omega
          have d2 : (0 : Int) ≤ grF t := by omega
          have HOr := Lib.hid (show ¬ (grF s < 0 ∨ grF t < 0) by omega)
          generalize grF s = y1 at *
          generalize grF t = y2 at *
          go_wp2_with fail
          refine HG1.out.mono ?_
          rintro e w2 ⟨rfl, rfl⟩
          go_wp2_with fail
          refine HG2.out.mono ?_
          rintro e w2 ⟨rfl, rfl⟩
          go_wp2_with fail
          go_ret
          exact ⟨false, rfl, ⟨fun h => (by cases h), fun h => absurd (HE.out.1 h).1 HOr.out⟩, hbel⟩
end Go.Proofs.Ytnmmiiajcjcccaa

import Derived.Test.YtbhbamgnapcbaaaMat
import Derived.Deep.CutBlock
namespace Go.Proofs.Ytbhbamgnapcbaaa
set_option linter.unusedVariables false
open Go.RowKit Go.Own Go.Quo Go.Wire
theorem newsA_len (s : St) (x : Int) : (newsA s x).length ≤ 1 := by
  unfold newsA
  split
  · simp
  · split <;> simp
theorem newsG_len (s : St) (x y : Int) : (newsG s x y).length ≤ 1 := by
  unfold newsG
  split
  · simp
  · split
    · simp
    · split <;> simp
/-- What stands behind the switch. -/
def MaM (w : World) (p mb k : Nat) (Ar : Option Addr) (cr : Nat) (rs : List Rc) (v4 v5 v6 v11 v12 v13 : Value) (wx : World) : Prop :=
  ∃ (s : St) (Z : Nat → Prop) (j v : Nat) (er : Int) (An : Option Addr) (cn : Nat) (nrs : List Rc) (b0 : Nat), v4 = .pointer (some ⟨v, 0, none⟩) ∧ v5 = .pointer (some ⟨j, 0, none⟩) ∧ v6 = .bool true ∧ v11 = .int .i64 er ∧ v12 = .int .i64 er ∧ v13 = .slice An nrs.length cn ∧ nrs.length ≤ 1 ∧ VS wx Z p j v s.recs s.t s.n ∧ Good s (k + 1) ∧ (rs ++ nrs).map recOf = s.recs ∧ MaI wx (fun g => ¬ Z g ∧ g ≠ v) mb Ar cr rs s.t s.n ∧ Reads wx (fun g => b0 ≤ g) 2 An nrs.length (nrs.flatMap rcL) ∧ (∀ r ∈ nrs, Reads wx (fun g => b0 ≤ g) 1 r.A r.body.length (bys r.body)) ∧ b0 ≤ wx.heap.size ∧ mb < b0 ∧ (∀ g, (Value.slice Ar rs.length cr).ownBlock = some g → g < b0) ∧ (∀ g, b0 ≤ g → ¬ Z g ∧ g ≠ v) ∧ (∀ g, Z g → w.heap.size ≤ g) ∧ w.heap.size ≤ v ∧ Below w.heap.size w wx
theorem MaI.stp {w w' : World} {Z Z' : Nat → Prop} {v mb : Nat} {Ar : Option Addr} {cr : Nat} {rs : List Rc} {t n : Int} (h : MaI w (fun g => ¬ Z g ∧ g ≠ v) mb Ar cr rs t n) (hf : Fr (fun g => Z g ∨ g = v) w w') (hz : ∀ g, Z' g → Z g ∨ w.heap.size ≤ g) {v' : Nat} (hv : v' = v ∨ w.heap.size ≤ v') : MaI w' (fun g => ¬ Z' g ∧ g ≠ v') mb Ar cr rs t n := by
  refine ((h.more (N' := fun g => (¬ Z g ∧ g ≠ v) ∧ g < w.heap.size) (fun g hg hn => ⟨hn, hg⟩)).fr hf (fun g hg hh => hh.elim hg.1.1 hg.1.2)).more (fun g _ hg => ⟨fun e => (hz g e).elim hg.1.1 (fun e => by have := hg.2; omega), fun e => ?_⟩)
  rcases hv with e' | e'
  · exact hg.1.2 (e.trans e')
  · have := hg.2; omega
/-- A call of the reference, and its ballot stored, behind a call of the program. -/
theorem MaM.mk {w w7 w8 : World} {p mb k j v : Nat} {Z7 : Nat → Prop} {s7 : St} {Ar A8 : Option Addr} {cr c8 : Nat} {rs nrs : List Rc} {t n er : Int} (V7 : VS w7 Z7 p j v s7.recs s7.t s7.n) (g7 : Good s7 (k + 1)) (M7 : MaI w7 (fun g => ¬ Z7 g ∧ g ≠ v) mb Ar cr rs t n)
    (hB : Below w7.heap.size w7 w8) (hr : Reads w8 (w7.heap.size ≤ ·) 2 A8 nrs.length (nrs.flatMap rcL)) (hd : ∀ r ∈ nrs, Reads w8 (w7.heap.size ≤ ·) 1 r.A r.body.length (bys r.body)) (hm : (rs ++ nrs).map recOf = s7.recs) (hl : nrs.length ≤ 1) (hz : ∀ g, Z7 g → w.heap.size ≤ g) (hv : w.heap.size ≤ v) (hmb : w.heap.size ≤ mb) (hb : Below w.heap.size w w7) :
    MaM w p mb k Ar cr rs (.pointer (some ⟨v, 0, none⟩)) (.pointer (some ⟨j, 0, none⟩)) (.bool true) (.int .i64 er) (.int .i64 er) (.slice A8 nrs.length c8) ((w8.setCell ⟨mb, 0, none⟩ (.int .i64 s7.t)).setCell ⟨mb, 1, none⟩ (.int .i64 s7.n)) := by
  have f8 : Fr (fun _ => False) w7 w8 := Fr.of_below hB
  have M8 := M7.fr f8 (fun _ _ => id)
  have V8 := V7.fr f8 (fun _ _ => id)
  have hmlt := M7.m.lt
  have hvlt := V7.b.lt
  have s8 := hB.size
  have f9 : Fr (fun g => g = mb) w8 ((w8.setCell ⟨mb, 0, none⟩ (.int .i64 s7.t)).setCell ⟨mb, 1, none⟩ (.int .i64 s7.n)) := ((Fr.refl (fun g => g = mb) _).setCell (.inl rfl) _).setCell (.inl rfl) _
  refine ⟨s7, Z7, j, v, er, A8, c8, nrs, w7.heap.size, rfl, rfl, rfl, rfl, rfl, rfl, hl, V8.fr f9 (fun g hg e => ?_), g7, hm, M8.set s7.t s7.n, hr.fr f9 (fun g hg e => by omega), fun r h => (hd r h).fr f9 (fun g hg e => by omega), by simpa using s8, hmlt, fun g hg => own_lt M7.ro hg, fun g hg => ⟨fun e => by have := V7.bd g e; omega, by omega⟩, hz, hv, hb.trans ((hB.mono hb.size).trans (f9.below (B := w.heap.size) (by have := hb.size; omega) (fun g hg e => by omega)))⟩
  subst e
  rcases hg with e | e
  · exact M7.zm.1 e
  · exact M7.zm.2 e
set_option maxRecDepth 10000 in
set_option maxHeartbeats 8000000 in
theorem matches_law (A : Option Addr) (c : Nat) (l : List Ac) (w : World) (h : AcA w A l) :
    Calls Try.prog 4 #[.slice A l.length c] w fun e w' => e = .returned (.bool true) ∧ Below w.heap.size w w' := by
  have HAl := Lib.hid (alive_any w)
  have HNw := Lib.hid fun W => storage_new W
  have HRn := Lib.hid fun W => rnew_any W
  have HOp := Lib.hid fun W' p X s k (x : FileP W' p X (encJ initS s.recs) (encJ initS s.recs).length false) (g : Good s k) (hk : k ≤ 900) => opened_any W' p X s.recs s.t s.n x (g.fit (by omega)) (by have := g.len; omega) g.recs g.rst
  have HR := Lib.hid h.r
  have HBk := Lib.hid h.b
  have hln := h.n
  have hPl := h.r.plain (by omega)
  obtain ⟨i51, hi51, hs51⟩ := info51
  clear h
  by_cases hbig : 40 < l.length
  · have hb : (40 : Int) < l.length := by omega
    go_enter Try.func4, Try.ntmps4
    go_wp2_with (go_at_call 8; ((with_reducible refine HAl.out.mono ?_); rintro e w2 ⟨rfl, b2⟩))
    go_ret
    exact ⟨rfl, b2⟩
  · have hb : ¬ (40 : Int) < l.length := by omega
    go_enter Try.func4, Try.ntmps4
    go_wp2_with (go_at_call 8; ((with_reducible refine HAl.out.mono ?_); rintro e w2 ⟨rfl, b2⟩))
    refine (HNw.out w2).mono ?_
    rintro e w3 ⟨rfl, hF3, hB3⟩
    have s2 := b2.size
    have b3 := b2.trans (hB3.mono s2)
    have s3 := hB3.size
    have HO3 := Lib.hid (HOp.out w3 _ _ ⟨[], 0, -1⟩ 0 hF3 Good.new (by omega))
    clear hF3
    go_wp2_with fail
    refine HO3.out.mono ?_
    rintro e w4 ⟨Z, v, j, rfl, hvs, hZ, hv, hj, hf4⟩
    have s4 := hf4.size
    have b4 := b3.trans (hf4.below (B := w.heap.size) b3.size (fun k hk e => by omega))
    have hZ' : ∀ g, Z g → w.heap.size ≤ g := fun g hg => (hZ g hg).elim (fun e => by omega) (fun e => e.elim (fun e => e.elim) (fun e => by omega))
    have HV4 := Lib.hid hvs
    clear hvs hZ
    go_wp2_with fail
    refine (HRn.out w4).mono ?_
    rintro e w5 ⟨rfl, hB5⟩
    have s5 := hB5.size
    have hZlt := HV4.out.bd
    have hvlt := HV4.out.b.lt
    have f6 : Fr (fun _ => False) w4 (w5.alloc (.cells #[.int .i64 0, .int .i64 (-1)] 40)) := (Fr.of_below hB5).alloc _
    have b6 : Below w.heap.size w (w5.alloc (.cells #[.int .i64 0, .int .i64 (-1)] 40)) := b4.trans (f6.below b4.size (fun _ _ => id))
    have H0 : MaR w w2.heap.size w5.heap.size l (.pointer (some ⟨v, 0, none⟩)) (.pointer (some ⟨j, 0, none⟩)) (.bool true) (.slice none 0 0) (.int .i64 0) (w5.alloc (.cells #[.int .i64 0, .int .i64 (-1)] 40)) :=
      ⟨0, ⟨[], 0, -1⟩, Z, j, v, none, 0, [], Nat.zero_le _, rfl, rfl, rfl, rfl, rfl, HV4.out.fr f6 (fun _ _ => id), Good.new, rfl, ⟨Blk.new w5 40 _, World.ownsRow_nil _ _ _ _, ⟨fun hz => by have := hZlt _ hz; omega, by omega⟩, (fun g hg => by cases hg), fun r hr => by simp at hr⟩, hZ', by omega, by omega, (fun g hg => by cases hg), b6⟩
    clear hZlt
    go_wp2_with fail
    have hl40 : l.length ≤ 40 := by omega
    have hmb : w.heap.size ≤ w5.heap.size := by omega
    generalize w5.alloc (.cells #[.int .i64 0, .int .i64 (-1)] 40) = W5 at *
    clear HAl HNw HO3 HV4 f6 b6
    go_loopw [4, 5, 6, 8, 29] (fun v4 v5 v6 v8 v29 wr => MaR w w2.heap.size w5.heap.size l v4 v5 v6 v8 v29 wr) (fun _ _ _ _ v29 _ => l.length - (intOf v29).toNat)
    case atStart => exact H0
    case round =>
      clear H0
      obtain ⟨k, s, Z, j, v, Ar, cr, rs, hk, rfl, rfl, rfl, rfl, rfl, hvs, hgd, hrs, hma, hZ, hv, -, hro, hbel⟩ := hrel
      have hsz' := hbel.size
      by_cases hlt : k < l.length
      · have hlt' : (k : Int) < l.length := by omega
        obtain ⟨x, hgx⟩ : ∃ x, l[k]? = some x := ⟨_, List.getElem?_eq_getElem hlt⟩
        have hxk := HBk.out x (List.mem_of_getElem? hgx)
        have hix := fun W => run_indexAt2 (P := Try.prog) Try.underlying46 hi51 hs51 hPl c k hlt W
        obtain ⟨c0, c1, c2, c3⟩ := ac_cells (HR.out.below hbel (fun _ h => h)) hgx
        clear hgx
        obtain ⟨kd, tx, wx, kp⟩ := x
        simp only at c0 c1 c2 c3 hxk
        have f6 : Fr (fun _ => False) wr (wr.alloc (.cells #[.int .i64 kd, .int .i64 tx, .int .i64 wx, .int .u8 kp] 51)) := (Fr.refl _ _).alloc _
        have V6 := hvs.fr f6 (fun _ _ => id)
        have M6 := hma.fr f6 (fun _ _ => id)
        have g6 : Blk (wr.alloc (.cells #[.int .i64 kd, .int .i64 tx, .int .i64 wx, .int .u8 kp] 51)) wr.heap.size 51 #[.int .i64 kd, .int .i64 tx, .int .i64 wx, .int .u8 kp] := Blk.new wr 51 _
        have b6 : Below w.heap.size w (wr.alloc (.cells #[.int .i64 kd, .int .i64 tx, .int .i64 wx, .int .u8 kp] 51)) := hbel.alloc hsz' _
        have hZlt := hvs.bd
        have hvlt := hvs.b.lt
        have hmlt := hma.m.lt
        have hks : (wr.alloc (.cells #[.int .i64 kd, .int .i64 tx, .int .i64 wx, .int .u8 kp] 51)).heap.size = wr.heap.size + 1 := by simp
        have HAd := Lib.hid (advance_all _ Z w2.heap.size j v s k tx V6 hgd (by omega))
        have HGr := Lib.hid (grant_all _ Z w2.heap.size j v s k tx wx V6 hgd (by omega))
        have HZ := Lib.hid hZ
        have HZl := Lib.hid hZlt
        have HGd := Lib.hid hgd
        have HV6 := Lib.hid V6
        have HM6 := Lib.hid M6
        have HRo := Lib.hid hro
        have HRs := Lib.hid hrs
        have hrl : rs.length ≤ k := by have := congrArg List.length hrs; have := hgd.len; simp at *; omega
        have HRL := Lib.hid fun g (hg : (Value.slice Ar rs.length cr).ownBlock = some g) => own_lt hma.ro hg
        clear hvs hZ hZlt hgd V6 M6 hma hro hrs f6
        go_upto_block 2 with (fail)
        generalize wr.alloc (.cells #[.int .i64 kd, .int .i64 tx, .int .i64 wx, .int .u8 kp] 51) = W6 at *
        have HW6 := Lib.hid (show ∀ g, Z g → g < wr.heap.size + 1 from fun g hg => by have := HZl.out g hg; omega)
        obtain ⟨q0, q1, q2⟩ := g6.facts
        obtain ⟨n0, n1, n2⟩ := HM6.out.m.facts
        go_cut [4, 5, 6, 11, 12, 13] (fun v4 v5 v6 v11 v12 v13 wx => MaM w w2.heap.size w5.heap.size k Ar cr rs v4 v5 v6 v11 v12 v13 wx)
        case first =>
          by_cases h0 : kd = 0
          · subst h0
            go_wp2_with fail
            refine HAd.out.mono ?_
            rintro e w7 ⟨rfl, Z7, V7, hZ7, f7⟩
            have hs7 := f7.size
            have M7 := HM6.out.stp f7 hZ7 (.inl rfl)
            have g7 := g6.fr f7 (fun e => e.elim (fun e => by have := HZl.out _ e; omega) (fun e => by omega))
            have b7 := b6.trans (f7.below (B := w.heap.size) (by omega) (fun g hg e => e.elim (fun e => by have := HZ.out g e; omega) (fun e => by omega)))
            have HV7 := Lib.hid V7
            have HM7 := Lib.hid M7
            have HZ7 := Lib.hid hZ7
            obtain ⟨y0, y1, y2⟩ := g7.facts
            obtain ⟨m0, m1, m2⟩ := M7.m.facts
            have HSt := Lib.hid (rstep_any s tx w7)
            clear V7 M7 hZ7
            go_wp2_with fail
            refine HSt.out.mono ?_
            rintro e w8 ⟨A8, c8, nrs, rfl, hm8, r8, d8, hB8⟩
            have m8 := HM7.out.m.below hB8 HM7.out.m.lt
            obtain ⟨z0, z1, z2⟩ := m8.facts
            have hnl : nrs.length ≤ 1 := by
              have := congrArg List.length hm8
              rw [List.length_map] at this
              rw [this]; exact newsA_len s tx
            go_wp2_with fail
            go_meet
            case rel =>
              exact MaM.mk HV7.out (HGd.out.adv tx) HM7.out hB8 r8 d8 (by rw [List.map_append, HRs.out, hm8, newsA_recs]) hnl (fun g hg => (HZ7.out g hg).elim (HZ.out g) (fun e => by omega)) hv hmb b7
          · have h0b : (kd == 0) = false := by simpa using h0
            clear h0
            by_cases h1 : kd = 1
            · subst h1
              go_wp2_with fail
              refine HGr.out.mono ?_
              rintro e w7 ⟨rfl, Z7, V7, hZ7, f7⟩
              have hs7 := f7.size
              have M7 := HM6.out.stp f7 hZ7 (.inl rfl)
              have g7 := g6.fr f7 (fun e => e.elim (fun e => by have := HZl.out _ e; omega) (fun e => by omega))
              have b7 := b6.trans (f7.below (B := w.heap.size) (by omega) (fun g hg e => e.elim (fun e => by have := HZ.out g e; omega) (fun e => by omega)))
              have HV7 := Lib.hid V7
              have HM7 := Lib.hid M7
              have HZ7 := Lib.hid hZ7
              obtain ⟨y0, y1, y2⟩ := g7.facts
              obtain ⟨m0, m1, m2⟩ := M7.m.facts
              have HSt := Lib.hid (rvote_any s k HGd.out tx wx w7)
              clear V7 M7 hZ7
              go_wp2_with fail
              refine HSt.out.mono ?_
              rintro e w8 ⟨A8, c8, nrs, rfl, hm8, r8, d8, hB8⟩
              have m8 := HM7.out.m.below hB8 HM7.out.m.lt
              obtain ⟨z0, z1, z2⟩ := m8.facts
              have hnl : nrs.length ≤ 1 := by
                have := congrArg List.length hm8
                rw [List.length_map] at this
                rw [this]; exact newsG_len s tx wx
              go_wp2_with fail
              go_meet
              case rel =>
                exact MaM.mk HV7.out (HGd.out.grt tx wx) HM7.out hB8 r8 d8 (by rw [List.map_append, HRs.out, hm8, newsG_recs]) hnl (fun g hg => (HZ7.out g hg).elim (HZ.out g) (fun e => by omega)) hv hmb b7
            · have h1b : (kd == 1) = false := by simpa using h1
              clear h1
              by_cases h2 : kd = 2
              · subst h2
                have HPf := Lib.hid (powerFail_any _ w2.heap.size Z _ kp 1 HV6.out.file (HGd.out.fit (by omega)) hxk.1)
                have hcv : IntKind.i64.wrap kp = kp := IntWalk.i64_in _ (by omega)
                have hzp := HV6.out.zp
                go_wp2_with fail
                refine HPf.out.mono ?_
                rintro e w7 ⟨rfl, F7, f7⟩
                have HPo := Lib.hid (powerOn_any w7 w2.heap.size Z _ _ true F7)
                clear F7
                go_wp2_with fail
                refine HPo.out.mono ?_
                rintro e w8 ⟨rfl, F8, f8⟩
                have HO8 := Lib.hid (HOp.out w8 _ _ s k F8 HGd.out (by omega))
                clear F8
                go_wp2_with fail
                refine HO8.out.mono ?_
                rintro e w9 ⟨Z9, v9, j9, rfl, V9, hZ9, hv9, hj9, f9⟩
                have HV9 := Lib.hid V9
                clear V9
                go_wp2_with fail
                go_meet
                case rel =>
                  have hs7 := f7.size
                  have hs8 := f8.size
                  have hs9 := f9.size
                  have hz9 : ∀ g, Z9 g → Z g ∨ W6.heap.size ≤ g := fun g hg => by
                    rcases hZ9 g hg with e | e | e
                    · exact .inl (e ▸ hzp)
                    · exact .inl e
                    · exact .inr (by omega)
                  have F69 : Fr (fun g => Z g ∨ g = v) W6 w9 := ((f7.trans f8).trans f9).mono (fun g _ e => .inl (e ▸ hzp))
                  have M9 := HM6.out.stp F69 hz9 (v' := v9) (.inr (by omega))
                  have hv9l := HV9.out.b.lt
                  have hm9l := M9.m.lt
                  refine ⟨s, Z9, j9, v9, 0, none, 0, [], w9.heap.size, rfl, rfl, rfl, rfl, rfl, rfl, by simp, HV9.out, HGd.out.more (by omega), by rw [List.append_nil]; exact HRs.out, M9, Reads.none_, (fun r hr => by simp at hr), Nat.le_refl _, hm9l, fun g hg => own_lt M9.ro hg, fun g hg => ⟨fun e => by have := HV9.out.bd g e; omega, by omega⟩, fun g hg => (hz9 g hg).elim (HZ.out g) (fun e => by omega), by omega, b6.trans (F69.below (B := w.heap.size) (by omega) (fun g hg e => e.elim (fun e => by have := HZ.out g e; omega) (fun e => by omega)))⟩
              · have h2b : (kd == 2) = false := by simpa using h2
                clear h2
                go_wp2_with fail
                go_meet
                case rel =>
                  refine ⟨s, Z, j, v, 0, none, 0, [], W6.heap.size, rfl, rfl, rfl, rfl, rfl, rfl, by simp, HV6.out, HGd.out.more (by omega), by rw [List.append_nil]; exact HRs.out, HM6.out, Reads.none_, (fun r hr => by simp at hr), Nat.le_refl _, HM6.out.m.lt, fun g hg => own_lt HM6.out.ro hg, fun g hg => ⟨fun e => by have := HZl.out g e; omega, by omega⟩, HZ.out, hv, b6⟩
        case rest =>
          obtain ⟨s7, Z7, j7, v7, er, An, cn, nrs, b0, rfl, rfl, rfl, rfl, rfl, rfl, hnl, V7, g7, hm7, M7, rn, dn, hb0, hmb0, hr0, hN0, hZ7, hv7, b7⟩ := hcut
          clear HAd HGr HGd HV6 HM6 HZl HZ HRs HRL HW6
          have hro7 := M7.ro
          have HM7 := Lib.hid M7
          have HV7 := Lib.hid V7
          have HG7 := Lib.hid g7
          have HMp := Lib.hid hm7
          have HRn := Lib.hid rn
          have HDn := Lib.hid dn
          have HR0 := Lib.hid hr0
          have HN0 := Lib.hid hN0
          have HZ7 := Lib.hid hZ7
          have hvl7 := V7.b.lt
          obtain ⟨wd, rfl⟩ : ∃ wd : World, wd = wc := ⟨_, rfl⟩
          clear M7 V7 g7 hm7 rn dn hr0 hN0 hZ7
          have hl9 : rs.length + nrs.length ≤ 1000 := by omega
          go_wp2_with (at_builtin; refine wpList_append_any _ rfl _ _ _ rfl 0 33 _ 2 32 Try.underlying22 info33 rfl (by omega) (.slice Ar rs.length cr) rs.length (rs.flatMap rcL) rfl hro7 _ An nrs.length cn (nrs.flatMap rcL) rfl HRn.out (rcL_one nrs) (by simp only [maxLen]; omega) (by omega) (by omega) ?_; intro A9 c9 w9 hown9 hgr9 hat9)
          have M9 := HM7.out.app (b0 := b0) hown9 hgr9 hat9 HDn.out (fun g hg => by omega) hmb0 HR0.out HN0.out
          have f9 : Fr (fun g => (Value.slice Ar rs.length cr).ownBlock = some g) wd w9 := (Fr.refl (fun g => (Value.slice Ar rs.length cr).ownBlock = some g) _).grown hgr9 (fun g hg => .inl hg)
          have V9 := HV7.out.fr f9 (fun g hg e => hg.elim (HM7.out.zr g e).1 (HM7.out.zr g e).2)
          have s9 := f9.size
          have hro9 : ∀ g, (Value.slice A9 (rs ++ nrs).length c9).ownBlock = some g → w.heap.size ≤ g := fun g hg => by
            rw [List.length_append] at hg
            rcases hat9 with e | e
            · rw [e] at hg; exact HRo.out g hg
            · rw [e] at hg; injection hg with hg; have := b7.size; omega
          have b9 := b7.trans (f9.below (B := w.heap.size) b7.size (fun g hg e => by have := HRo.out g e; omega))
          have HM9 := Lib.hid M9
          have HV9 := Lib.hid V9
          have HRo9 := Lib.hid hro9
          have hlen9 := Lib.hid (show (rs ++ nrs).length = rs.length + nrs.length from List.length_append)
          have HT := Lib.hid fun W' (x : Below w9.heap.size w9 W') => (term_any W' Z7 w2.heap.size j7 v7 s7.recs s7.t s7.n (HV9.out.fr (Fr.of_below (S := fun _ => False) x) (fun _ _ => id))).mono (R' := fun e w' => e = .returned (.int .i64 s7.t) ∧ Below W'.heap.size W' w') (fun e w' hx => ⟨hx.1, hx.2 ▸ Below.refl _ _⟩)
          have HF := Lib.hid fun W' (x : Below w9.heap.size w9 W') => (votedFor_any W' Z7 w2.heap.size j7 v7 s7.recs s7.t s7.n (HV9.out.fr (Fr.of_below (S := fun _ => False) x) (fun _ _ => id))).mono (R' := fun e w' => e = .returned (.int .i64 s7.n) ∧ Below W'.heap.size W' w') (fun e w' hx => ⟨hx.1, hx.2 ▸ Below.refl _ _⟩)
          have HA := Lib.hid fun W' (x : Below w9.heap.size w9 W') => all_any W' Z7 w2.heap.size j7 s7.recs _ false (HV9.out.fr (Fr.of_below (S := fun _ => False) x) (fun _ _ => id)).js (by have := HG7.out.len; omega) (fun y hy => by have := (HG7.out.ok y hy).2.1; omega)
          have HS := Lib.hid fun (W1 W' : World) (x : Below w9.heap.size w9 W1) (y : Below W1.heap.size W1 W') (A1 : Option Addr) (c1 : Nat) (l1 : List Rc) (hm : l1.map recOf = s7.recs) (r1 : Reads W' (W1.heap.size ≤ ·) 2 A1 l1.length (l1.flatMap rcL)) (d1 : ∀ r ∈ l1, Reads W' (W1.heap.size ≤ ·) 1 r.A r.body.length (bys r.body)) => (by
            have x2 := x.trans (y.mono x.size)
            have M := HM9.out.fr (Fr.of_below (S := fun _ => False) x2) (fun _ _ => id)
            have := same_recs W' (W1.heap.size ≤ ·) (fun _ => True) A1 A9 c1 c9 l1 (rs ++ nrs) (by rw [hm, HMp.out]) r1 ((Reads.of_own M.ro).more (fun _ _ => trivial)) (by have := congrArg List.length hm; have := HG7.out.len; simp at *; omega) d1 (fun r hr => (M.bd r hr).more (fun _ _ => trivial))
            rw [hlen9.out] at this
            exact this.mono (R' := fun e w' => e = .returned (.bool true) ∧ Below W'.heap.size W' w') (fun e w' hx => ⟨hx.1, by obtain ⟨q, hq⟩ := hx.2; rw [hq]; exact below_drewN (Below.refl _ _) q⟩))
          have HC := Lib.hid fun W' (x : Below w9.heap.size w9 W') => (show W'.cell? ⟨w5.heap.size, 0, none⟩ = some (.int .i64 s7.t) ∧ W'.cell? ⟨w5.heap.size, 1, none⟩ = some (.int .i64 s7.n) from ⟨(HM9.out.m.below x HM9.out.m.lt).cell 0, (HM9.out.m.below x HM9.out.m.lt).cell 1⟩)
          have K9 := HC.out _ (Below.refl _ _)
          have e1 : (er != er) = false := by simp
          have e2 : (s7.t != s7.t) = false := by simp
          have e3 : (s7.n != s7.n) = false := by simp
          clear M9 V9 hro9 hown9 hgr9 hat9 hro7 f9
          first
            | (go_region_held (fun w' => w'.cell? ⟨w5.heap.size, 0, none⟩ = some (.int .i64 s7.t) ∧ w'.cell? ⟨w5.heap.size, 1, none⟩ = some (.int .i64 s7.n)) (first | assumption | exact K9) (first
                | (((with_reducible refine (HT.out _ ((Below.refl _ _).drew)).mono ?_); rintro e wa ⟨rfl, hba⟩; have Ba := ((Below.refl w9.heap.size w9).drew).trans hba; clear hba; have KBa := HC.out _ Ba))
                | (((with_reducible refine (HF.out _ Ba).mono ?_); rintro e wb ⟨rfl, hbb⟩; have Bb := Ba.trans (hbb.mono Ba.size); clear hbb; have KBb := HC.out _ Bb))
                | (((with_reducible refine (HA.out _ Bb).mono ?_); rintro e wg ⟨Ag, cg, lg, rfl, hmg, rg, dg, hbg⟩; have Bg := Bb.trans (hbg.mono Bb.size); have KBg := HC.out _ Bg; have HSg := Lib.hid (HS.out _ _ Bb hbg Ag cg lg hmg rg dg)))
                | (((with_reducible refine HSg.out.mono ?_); rintro e wh ⟨rfl, hbh⟩; have Bh := Bg.trans (hbh.mono Bg.size); have KBh := HC.out _ Bh))))
            | fail
          all_goals
            go_wp2_with fail
            refine ⟨⟨k + 1, s7, Z7, j7, v7, A9, c9, rs ++ nrs, by omega, rfl, rfl, rfl, by rw [hlen9.out], by simp, HV9.out.fr (Fr.of_below (S := fun _ => False) Bh) (fun _ _ => id), HG7.out, HMp.out, HM9.out.fr (Fr.of_below (S := fun _ => False) Bh) (fun _ _ => id), HZ7.out, hv7, hmb, HRo9.out, b9.trans (Bh.mono b9.size)⟩, by simp [intOf]; omega⟩
      · have hlt' : ¬ (k : Int) < l.length := by omega
        clear hvs hgd hrs hma hro
        go_wp2
        go_ret
        exact ⟨rfl, hbel⟩
end Go.Proofs.Ytbhbamgnapcbaaa

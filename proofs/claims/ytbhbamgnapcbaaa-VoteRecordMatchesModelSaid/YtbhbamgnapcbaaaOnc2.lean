import Derived.Test.YtbhbamgnapcbaaaOnc1
namespace Go.Proofs.Ytbhbamgnapcbaaa
set_option linter.unusedVariables false
open Go.RowKit Go.Own Go.Quo Go.Wire
/-- An operation. -/
structure Ac where
  kind : Int
  term : Int
  who : Int
  keep : Int
def acL (a : Ac) : List Value := [.int .i64 a.kind, .int .i64 a.term, .int .i64 a.who, .int .u8 a.keep]
theorem acL_len (a : Ac) : (acL a).length = 4 := rfl
structure AcA (w : World) (A : Option Addr) (l : List Ac) : Prop where
  r : Reads w (· < w.heap.size) 4 A l.length (l.flatMap acL)
  n : l.length ≤ 140737488351232
  b : ∀ a ∈ l, 0 ≤ a.keep ∧ a.keep < 256
theorem ac_cells {w : World} {B : Nat → Prop} {A : Option Addr} {l : List Ac} (h : Reads w B 4 A l.length (l.flatMap acL)) {k : Nat} {x : Ac} (hx : l[k]? = some x) :
    w.cell? ⟨bk A, ofs A + k * 4, none⟩ = some (.int .i64 x.kind) ∧ w.cell? ⟨bk A, ofs A + k * 4 + 1, none⟩ = some (.int .i64 x.term) ∧ w.cell? ⟨bk A, ofs A + k * 4 + 2, none⟩ = some (.int .i64 x.who) ∧ w.cell? ⟨bk A, ofs A + k * 4 + 3, none⟩ = some (.int .u8 x.keep) := by
  have hk := (List.getElem?_eq_some_iff.1 hx).1
  refine ⟨?_, ?_, ?_, ?_⟩
  · rw [h.cell2 (k * 4) (by omega) (by omega)]
    simpa [acL] using flat_get acL 4 acL_len l k 0 x hx (by omega)
  · rw [Nat.add_assoc, h.cell2 (k * 4 + 1) (by omega) (by omega)]
    simpa [acL] using flat_get acL 4 acL_len l k 1 x hx (by omega)
  · rw [Nat.add_assoc, h.cell2 (k * 4 + 2) (by omega) (by omega)]
    simpa [acL] using flat_get acL 4 acL_len l k 2 x hx (by omega)
  · rw [Nat.add_assoc, h.cell2 (k * 4 + 3) (by omega) (by omega)]
    simpa [acL] using flat_get acL 4 acL_len l k 3 x hx (by omega)
theorem info51 : ∃ i, Try.prog.info? 51 = some i ∧ i.size = 4 := by
  have : (Try.prog.info? 51).map (fun i => i.size) = some 4 := by kernel_rfl
  cases h : Try.prog.info? 51 with
  | none => rw [h] at this; cases this
  | some i => rw [h] at this; exact ⟨i, rfl, by simpa using this⟩
theorem zero3 (w : World) : (zeroValue 3).run Try.prog w = .ok (.int .i64 0) w := by kernel_rfl
/-- What stands before each round. -/
def OnR (w : World) (p mb : Nat) (l : List Ac) (v4 v6 v8 v28 : Value) (wr : World) : Prop :=
  ∃ (k : Nat) (s : St) (Z : Nat → Prop) (j v : Nat) (kvs : List (Int × Value)) (tm : Int), k ≤ l.length ∧ v4 = .pointer (some ⟨v, 0, none⟩) ∧ v6 = .bool true ∧ v8 = .int .i64 tm ∧ v28 = .int .i64 k ∧ VS wr Z p j v s.recs s.t s.n ∧ Good s k ∧ tm ≤ s.t ∧ MapB wr mb .i64 kvs ∧ VotesOk kvs s ∧ ¬ Z mb ∧ (∀ g, Z g → w.heap.size ≤ g) ∧ w.heap.size ≤ v ∧ Below w.heap.size w wr
set_option maxRecDepth 10000 in
set_option maxHeartbeats 4000000 in
theorem once_law (A : Option Addr) (c : Nat) (l : List Ac) (w : World) (h : AcA w A l) :
    Calls Try.prog 5 #[.slice A l.length c] w fun e w' => e = .returned (.bool true) ∧ Below w.heap.size w w' := by
  have HAl := Lib.hid (alive_any w)
  have HNw := Lib.hid fun W => storage_new W
  have HOp := Lib.hid fun W' p X s k (x : FileP W' p X (encJ initS s.recs) (encJ initS s.recs).length false) (g : Good s k) (hk : k ≤ 900) => opened_any W' p X s.recs s.t s.n x (g.fit (by omega)) (by have := g.len; omega) g.recs g.rst
  have HR := Lib.hid h.r
  have HBk := Lib.hid h.b
  have hln := h.n
  have hPl := h.r.plain (by omega)
  obtain ⟨i51, hi51, hs51⟩ := info51
  clear h
  by_cases hbig : 40 < l.length
  · have hb : (40 : Int) < l.length := by omega
    go_enter Try.func5, Try.ntmps5
    go_wp2_with (go_at_call 8; ((with_reducible refine HAl.out.mono ?_); rintro e w2 ⟨rfl, b2⟩))
    go_ret
    exact ⟨rfl, b2⟩
  · have hb : ¬ (40 : Int) < l.length := by omega
    go_enter Try.func5, Try.ntmps5
    go_wp2_with (go_at_call 8; ((with_reducible refine HAl.out.mono ?_); rintro e w2 ⟨rfl, b2⟩))
    refine (HNw.out w2).mono ?_
    rintro e w3 ⟨rfl, hF3, hB3⟩
    have s2 := b2.size
    have b3 := b2.trans (hB3.mono s2)
    have s3 := hB3.size
    have HO3 := Lib.hid (HOp.out w3 _ _ ⟨[], 0, -1⟩ 0 hF3 Good.new (by omega))
    clear hF3
    go_wp2_with fail
    refine HO3.out.mono ?_
    rintro e w4 ⟨Z, v, j, rfl, hvs, hZ, hv, hj, hf4⟩
    have s4 := hf4.size
    have b4 := b3.trans (hf4.below (B := w.heap.size) b3.size (fun k hk e => by omega))
    have hZ' : ∀ g, Z g → w.heap.size ≤ g := fun g hg => (hZ g hg).elim (fun e => by omega) (fun e => e.elim (fun e => e.elim) (fun e => by omega))
    have hmm := @run_makeMap Try.prog
    have HV4 := Lib.hid hvs
    have hZlt := hvs.bd
    have f5 : Fr (fun _ => False) w4 (w4.alloc (.map #[] 0)) := (Fr.refl _ _).alloc _
    have H0 : OnR w w2.heap.size w4.heap.size l (.pointer (some ⟨v, 0, none⟩)) (.bool true) (.int .i64 0) (.int .i64 0) (w4.alloc (.map #[] 0)) :=
      ⟨0, ⟨[], 0, -1⟩, Z, j, v, [], 0, Nat.zero_le _, rfl, rfl, rfl, rfl, hvs.fr f5 (fun _ _ => id), Good.new, Int.le_refl _, MapB.new w4 .i64, (fun T u hT => by cases hT), (fun hz => by have := hZlt _ hz; omega), hZ', by omega, b4.alloc (b4.size) _⟩
    clear hvs hZlt
    go_wp2_with fail
    have hl40 : l.length ≤ 40 := by omega
    generalize w4.alloc (.map #[] 0) = W5 at *
    clear HAl HNw HO3 HV4
    go_loopw [4, 6, 8, 28] (fun v4 v6 v8 v28 wr => OnR w w2.heap.size w4.heap.size l v4 v6 v8 v28 wr) (fun _ _ _ v28 _ => l.length - (intOf v28).toNat)
    case atStart => exact H0
    case round =>
      clear H0
      obtain ⟨k, s, Z, j, v, kvs, tm, hk, rfl, rfl, rfl, rfl, hvs, hgd, htm, hmap, hvo, hnz, hZ, hv, hbel⟩ := hrel
      have hsz' := hbel.size
      have htm' : ¬ s.t < tm := by omega
      by_cases hlt : k < l.length
      · have hlt' : (k : Int) < l.length := by omega
        obtain ⟨x, hgx⟩ : ∃ x, l[k]? = some x := ⟨_, List.getElem?_eq_getElem hlt⟩
        have hxk := HBk.out x (List.mem_of_getElem? hgx)
        have hix := fun W => run_indexAt2 (P := Try.prog) Try.underlying46 hi51 hs51 hPl c k hlt W
        obtain ⟨c0, c1, c2, c3⟩ := ac_cells (HR.out.below hbel (fun _ h => h)) hgx
        clear hgx
        obtain ⟨kd, tx, wx, kp⟩ := x
        simp only at c0 c1 c2 c3 hxk
        have f6 : Fr (fun _ => False) wr (wr.alloc (.cells #[.int .i64 kd, .int .i64 tx, .int .i64 wx, .int .u8 kp] 51)) := (Fr.refl _ _).alloc _
        have V6 := hvs.fr f6 (fun _ _ => id)
        have m6 := hmap.fr f6 id
        have g6 : Blk (wr.alloc (.cells #[.int .i64 kd, .int .i64 tx, .int .i64 wx, .int .u8 kp] 51)) wr.heap.size 51 #[.int .i64 kd, .int .i64 tx, .int .i64 wx, .int .u8 kp] := Blk.new wr 51 _
        have b6 : Below w.heap.size w (wr.alloc (.cells #[.int .i64 kd, .int .i64 tx, .int .i64 wx, .int .u8 kp] 51)) := hbel.alloc hsz' _
        have hZlt := hvs.bd
        have hmlt := hmap.lt
        have hvlt := hvs.b.lt
        have hvne := m6.ne_blk V6.b
        have hks : (wr.alloc (.cells #[.int .i64 kd, .int .i64 tx, .int .i64 wx, .int .u8 kp] 51)).heap.size = wr.heap.size + 1 := by simp
        have HT6 := Lib.hid (term_any _ Z w2.heap.size j v s.recs s.t s.n V6)
        have HAd := Lib.hid (advance_all _ Z w2.heap.size j v s k tx V6 hgd (by omega))
        have HGr := Lib.hid (grant_all _ Z w2.heap.size j v s k tx wx V6 hgd (by omega))
        have HZ := Lib.hid hZ
        have HZl := Lib.hid hZlt
        have HVo := Lib.hid hvo
        have HGd := Lib.hid hgd
        have HV6 := Lib.hid V6
        clear hvs hZ hZlt hvo hgd V6 hmap
        have HEnd := Lib.hid fun (W' : World) (s' : St) (Z' : Nat → Prop) (j' v' : Nat) (kvs' : List (Int × Value)) (V' : VS W' Z' w2.heap.size j' v' s'.recs s'.t s'.n) (g' : Good s' (k + 1)) (t' : s.t ≤ s'.t) (m' : MapB W' w4.heap.size .i64 kvs') (o' : VotesOk kvs' s') (z' : ∀ g, Z' g → Z g ∨ wr.heap.size ≤ g) (hn' : ∀ g, Z' g → g ≠ w4.heap.size) (hv' : w.heap.size ≤ v') (b' : Below w.heap.size w W') => (show OnR w w2.heap.size w4.heap.size l (.pointer (some ⟨v', 0, none⟩)) (.bool true) (.int .i64 s.t) (.int .i64 ((k : Int) + 1)) W' ∧ l.length - (intOf (.int .i64 ((k : Int) + 1))).toNat < l.length - (intOf (.int .i64 (k : Int))).toNat by
          refine ⟨⟨k + 1, s', Z', j', v', kvs', s.t, by omega, rfl, rfl, rfl, by simp, V', g', t', m', o', fun hz => hn' _ hz rfl, fun g hg => ?_, hv', b'⟩, by simp [intOf]; omega⟩
          rcases z' g hg with e | e
          · exact HZ.out g e
          · omega)
        have hmlt6 : w4.heap.size < wr.heap.size + 1 := by omega
        have HNz := Lib.hid (show ∀ (Z' : Nat → Prop), (∀ g, Z' g → Z g ∨ wr.heap.size + 1 ≤ g) → ∀ g, Z' g → g ≠ w4.heap.size by
          rintro Z' hz g hg rfl
          rcases hz _ hg with e | e
          · exact hnz e
          · omega)
        have HFm := Lib.hid (show ¬ (Z w4.heap.size ∨ w4.heap.size = v) from fun e => e.elim hnz hvne)
        by_cases h0 : kd = 0
        · subst h0
          go_wp2_with (go_at_call 15; ((with_reducible refine HT6.out.mono ?_); rintro e w7 ⟨rfl, rfl⟩))
          refine HAd.out.mono ?_
          rintro e w7 ⟨rfl, Z7, V7, hZ7, f7⟩
          have HV7 := Lib.hid V7
          clear V7
          go_wp2
          obtain ⟨o7, t7⟩ := HVo.out.adv tx
          exact HEnd.out w7 _ Z7 j v kvs HV7.out (HGd.out.adv tx) t7 (m6.fr f7 HFm.out) o7 (fun g hg => (hZ7 g hg).elim .inl (fun e => .inr (by omega))) (HNz.out Z7 (fun g hg => by rw [← hks]; exact hZ7 g hg)) hv (b6.trans (f7.below (B := w.heap.size) (by omega) (fun g hg e => e.elim (fun e => by have := HZ.out g e; omega) (fun e => by omega))))
        · have h0b : (kd == 0) = false := by simpa using h0
          clear h0
          by_cases h1 : kd = 1
          · subst h1
            by_cases he : (grtF s tx wx).2 = 0
            · rw [he] at HGr
              obtain ⟨o7, t7, u7⟩ := HVo.out.yes he
              have HO7 := Lib.hid o7
              have HU7 := Lib.hid u7
              clear o7 u7 he
              go_wp2_with (go_at_call 15; ((with_reducible refine HT6.out.mono ?_); rintro e w7 ⟨rfl, rfl⟩))
              refine HGr.out.mono ?_
              rintro e w7 ⟨rfl, Z7, V7, hZ7, f7⟩
              have m7 := m6.fr f7 HFm.out
              have hn7 := HNz.out Z7 (fun g hg => by rw [← hks]; exact hZ7 g hg)
              have g7 := g6.fr f7 (fun e => e.elim (fun e => by have := HZl.out _ e; omega) (fun e => by omega))
              have b7 := b6.trans (f7.below (B := w.heap.size) (by omega) (fun g hg e => e.elim (fun e => by have := HZ.out g e; omega) (fun e => by omega)))
              have HV7 := Lib.hid V7
              have HN7 := Lib.hid hn7
              have HZ7 := Lib.hid hZ7
              obtain ⟨y0, y1, y2⟩ := g7.facts
              have hup := fun (W : World) (h : MapB W w4.heap.size .i64 kvs) => MapB.update (P := Try.prog) h Try.underlying61 Try.underlying2 tx
              have hfin : ∀ W', W' = mput w7 w4.heap.size .i64 tx (.int .i64 wx) → (OnR w w2.heap.size w4.heap.size l (.pointer (some ⟨v, 0, none⟩)) (.bool true) (.int .i64 s.t) (.int .i64 ((k : Int) + 1)) W' ∧ l.length - (intOf (.int .i64 ((k : Int) + 1))).toNat < l.length - (intOf (.int .i64 (k : Int))).toNat) := by
                rintro W' rfl
                have f8 : Fr (fun g => g = w4.heap.size) w7 (mput w7 w4.heap.size .i64 tx (.int .i64 wx)) := (Fr.refl (fun g => g = w4.heap.size) _).mput (.inl rfl) _ _ _
                have b8 := b7.trans (f8.below (B := w.heap.size) b7.size (fun g hg e => by omega))
                refine HEnd.out _ _ Z7 j v _ (HV7.out.fr f8 (fun g hg e => ?_)) (HGd.out.grt tx wx) t7 (m7.put tx (.int .i64 wx)) HO7.out (fun g hg => (HZ7.out g hg).elim .inl (fun e => .inr (by omega))) HN7.out hv b8
                rcases hg with hg | hg
                · exact HN7.out g hg e
                · exact hvne (by omega)
              have HFin := Lib.hid hfin
              clear hfin V7 hn7 hZ7
              cases hkg : kget kvs tx with
              | none =>
                have hlk : ∀ W : World, MapB W w4.heap.size .i64 kvs → (Instr.lookup 61 (.map (some w4.heap.size)) (.int .i64 tx) true).run Try.prog W = .ok (.tuple #[.int .i64 0, .bool false]) W := fun W h => by
                  have := MapB.lookup (P := Try.prog) h Try.underlying61 Try.underlying2 zero3 tx true
                  rw [hkg] at this
                  simpa using this
                go_wp2
                exact HFin.out _ rfl
              | some u =>
                obtain rfl := HU7.out u hkg
                have hlk : ∀ W : World, MapB W w4.heap.size .i64 kvs → (Instr.lookup 61 (.map (some w4.heap.size)) (.int .i64 tx) true).run Try.prog W = .ok (.tuple #[.int .i64 wx, .bool true]) W := fun W h => by
                  have := MapB.lookup (P := Try.prog) h Try.underlying61 Try.underlying2 zero3 tx true
                  rw [hkg] at this
                  simpa using this
                have hne : (wx != wx) = false := by simp
                go_wp2
                exact HFin.out _ rfl
            · have heb : ((grtF s tx wx).2 != 0) = true := by simpa using he
              obtain ⟨o7, t7⟩ := HVo.out.no he
              have HO7 := Lib.hid o7
              clear o7 he
              go_wp2_with (go_at_call 15; ((with_reducible refine HT6.out.mono ?_); rintro e w7 ⟨rfl, rfl⟩))
              refine HGr.out.mono ?_
              rintro e w7 ⟨rfl, Z7, V7, hZ7, f7⟩
              have HV7 := Lib.hid V7
              clear V7
              go_wp2
              exact HEnd.out w7 _ Z7 j v kvs HV7.out (HGd.out.grt tx wx) t7 (m6.fr f7 HFm.out) HO7.out (fun g hg => (hZ7 g hg).elim .inl (fun e => .inr (by omega))) (HNz.out Z7 (fun g hg => by rw [← hks]; exact hZ7 g hg)) hv (b6.trans (f7.below (B := w.heap.size) (by omega) (fun g hg e => e.elim (fun e => by have := HZ.out g e; omega) (fun e => by omega))))
          · have h1b : (kd == 1) = false := by simpa using h1
            clear h1
            by_cases h2 : kd = 2
            · subst h2
              have HPf := Lib.hid (powerFail_any _ w2.heap.size Z _ kp 1 HV6.out.file (HGd.out.fit (by omega)) hxk.1)
              have hcv : IntKind.i64.wrap kp = kp := IntWalk.i64_in _ (by omega)
              have hzp := HV6.out.zp
              go_wp2_with (go_at_call 15; ((with_reducible refine HT6.out.mono ?_); rintro e w7 ⟨rfl, rfl⟩))
              refine HPf.out.mono ?_
              rintro e w7 ⟨rfl, F7, f7⟩
              have HPo := Lib.hid (powerOn_any w7 w2.heap.size Z _ _ true F7)
              clear F7
              go_wp2_with fail
              refine HPo.out.mono ?_
              rintro e w8 ⟨rfl, F8, f8⟩
              have HO8 := Lib.hid (HOp.out w8 _ _ s k F8 HGd.out (by omega))
              clear F8
              go_wp2_with fail
              refine HO8.out.mono ?_
              rintro e w9 ⟨Z9, v9, j9, rfl, V9, hZ9, hv9, hj9, f9⟩
              have HV9 := Lib.hid V9
              clear V9
              go_wp2
              have f79 := (f7.trans f8).trans (f9.mono (fun g _ e => e))
              have hs7 := f7.size
              have hs8 := f8.size
              have hpm : ¬ w4.heap.size = w2.heap.size := fun e => hnz (e ▸ hzp)
              have m9 := ((m6.fr f7 hpm).fr f8 hpm).fr f9 hpm
              have f69 : Below w.heap.size w w9 := ((b6.trans (f7.below (B := w.heap.size) (by omega) (fun g hg e => by have := HZ.out _ hzp; omega))).trans (f8.below (B := w.heap.size) (by omega) (fun g hg e => by have := HZ.out _ hzp; omega))).trans (f9.below (B := w.heap.size) (by omega) (fun g hg e => by have := HZ.out _ hzp; omega))
              have hz9 : ∀ g, Z9 g → Z g ∨ wr.heap.size + 1 ≤ g := fun g hg => by
                rcases hZ9 g hg with e | e | e
                · exact .inl (e ▸ hzp)
                · exact .inl e
                · exact .inr (by omega)
              exact HEnd.out w9 s Z9 j9 v9 kvs HV9.out (HGd.out.more (by omega)) (Int.le_refl _) m9 HVo.out (fun g hg => (hz9 g hg).elim .inl (fun e => .inr (by omega))) (HNz.out Z9 hz9) (by omega) f69
            · have h2b : (kd == 2) = false := by simpa using h2
              clear h2
              go_wp2_with (go_at_call 15; ((with_reducible refine HT6.out.mono ?_); rintro e w7 ⟨rfl, rfl⟩))
              exact HEnd.out _ s Z j v kvs HV6.out (HGd.out.more (by omega)) (Int.le_refl _) m6 HVo.out (fun g hg => .inl hg) (HNz.out Z (fun g hg => .inl hg)) hv b6
      · have hlt' : ¬ (k : Int) < l.length := by omega
        clear hmap hvs hvo hgd hnz
        go_wp2
        go_ret
        exact ⟨rfl, hbel⟩
end Go.Proofs.Ytbhbamgnapcbaaa

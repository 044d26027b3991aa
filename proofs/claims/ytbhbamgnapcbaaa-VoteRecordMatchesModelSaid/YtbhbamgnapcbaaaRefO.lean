import Derived.Test.YtbhbamgnapcbaaaRec2
import Derived.Deep.RegionHeld
namespace Go.Proofs.Ytbhbamgnapcbaaa
set_option linter.unusedVariables false
open Go.RowKit Go.Own Go.Quo Go.Wire
theorem info33 : (Try.prog.info? 33).map (fun i => (i.zero, i.size, i.bytes)) = some (some (.agg #[.int .u8 0, .slice none 0 0]), 2, 32) := by kernel_rfl
set_option maxRecDepth 10000 in
set_option maxHeartbeats 400000 in
theorem rnew_any (w : World) : Calls Try.prog 18 #[] w fun e w' => e = .returned (.agg #[.int .i64 0, .int .i64 (-1)]) ∧ Below w.heap.size w w' := by
  go_enter Try.func18, Try.ntmps18
  go_wp2
  exact bodyPost_ret (v := .agg #[.int .i64 0, .int .i64 (-1)]) (by simp [results, Try.results18, go_sem]) rfl ⟨rfl, (Below.refl _ _).alloc (Nat.le_refl _) _⟩
def ROP (res : Option (Int × Int)) (w : World) (e : Ending) (w' : World) : Prop :=
  (∀ t n, res = some (t, n) → e = .returned (.tuple #[.agg #[.int .i64 t, .int .i64 n], .int .i64 0])) ∧ (res = none → e = .returned (.tuple #[.agg #[.int .i64 0, .int .i64 0], .int .i64 2])) ∧ Below w.heap.size w w'
set_option maxRecDepth 10000 in
set_option maxHeartbeats 4000000 in
theorem ropen_any (w : World) (A : Option Addr) (c : Nat) (l : List Rc) (h : Reads w (· < w.heap.size) 2 A l.length (l.flatMap rcL)) (hl : l.length ≤ 1000000) (hb : ∀ x ∈ l, Reads w (· < w.heap.size) 1 x.A x.body.length (bys x.body) ∧ Bytes x.body ∧ x.body.length ≤ 1000000) :
    Calls Try.prog 14 #[.slice A l.length c] w (ROP (rAll (l.map recOf) (0, -1)) w) := by
  have HN := Lib.hid fun W => rnew_any W
  have HB := Lib.hid hb
  have HRes := Lib.hid (show rAll ((l.map recOf).drop 0) (0, -1) = rAll (l.map recOf) (0, -1) by simp)
  generalize rAll (l.map recOf) (0, -1) = res at *
  obtain ⟨i, hi, hz, hsz, hby⟩ := info_parts info33
  have hPl := h.plain (by omega)
  clear hb
  have b0 : Below w.heap.size w (w.alloc (.cells #[.int .i64 0, .int .i64 0] 40)) := (Below.refl _ _).alloc (Nat.le_refl _) _
  have g0 : Blk (w.alloc (.cells #[.int .i64 0, .int .i64 0] 40)) w.heap.size 40 #[.int .i64 0, .int .i64 0] := Blk.new w 40 _
  go_enter Try.func14, Try.ntmps14
  go_wp2_with fail
  generalize w.alloc (.cells #[.int .i64 0, .int .i64 0] 40) = W0 at *
  refine (HN.out W0).mono ?_
  rintro e w1 ⟨rfl, hB1⟩
  have b1 := b0.trans (hB1.mono b0.size)
  have g1 := g0.below hB1 g0.lt
  have hlt1 := g1.lt
  go_wp2_with fail
  have g3 : Blk (w1.alloc (.cells #[.int .i64 0, .int .i64 (-1)] 40)) w1.heap.size 40 #[.int .i64 0, .int .i64 (-1)] := Blk.new w1 40 _
  have g2 := g1.alloc (.cells #[.int .i64 0, .int .i64 (-1)] 40)
  have b2 := b1.alloc b1.size (.cells #[.int .i64 0, .int .i64 (-1)] 40)
  generalize w1.alloc (.cells #[.int .i64 0, .int .i64 (-1)] 40) = W2 at *
  go_loopw [14] (fun vi wr => ∃ (k : Nat) (t n : Int), k ≤ l.length ∧ vi = .int .i64 k ∧ Blk wr w.heap.size 40 #[.int .i64 0, .int .i64 0] ∧ Blk wr w1.heap.size 40 #[.int .i64 t, .int .i64 n] ∧ rAll ((l.map recOf).drop k) (t, n) = res ∧ -1 ≤ n ∧ Below w.heap.size w wr) (fun vi _ => l.length - (intOf vi).toNat)
  case atStart => exact ⟨0, 0, -1, Nat.zero_le _, rfl, g2, g3, HRes.out, by omega, b2⟩
  case round =>
    obtain ⟨k, t, n, hk, rfl, hb0, hbb, hres, hn1, hbel⟩ := hrel
    have HE := Lib.hid hres
    clear hres
    have hsz' := hbel.size
    by_cases hlt : k < l.length
    · have hlt' : (k : Int) < l.length := by omega
      obtain ⟨x, hgx⟩ : ∃ x, l[k]? = some x := ⟨_, List.getElem?_eq_getElem hlt⟩
      have hxm := List.mem_of_getElem? hgx
      have hgr : (l.map recOf)[k]? = some (recOf x) := by rw [List.getElem?_map, hgx]; rfl
      have hRr := h.below hbel (fun _ h => h)
      have hix := fun W => run_indexAt2 (P := Try.prog) Try.underlying22 hi hsz hPl c k hlt W
      obtain ⟨c0, c1⟩ := rc_cells hRr hgx
      obtain ⟨hxr0, hxb, hxl⟩ := HB.out x hxm
      have hxr := hxr0.below hbel (fun _ h => h)
      have HE2 := Lib.hid (rAll_cons hgr (t, n) ▸ HE.out)
      clear hgr hxm hgx hRr HE hxr0
      obtain ⟨kd, xA, xc, body⟩ := x
      simp only [recOf] at *
      have hx2 := hxr.alloc (.cells #[.int .u8 kd, .slice xA body.length xc] 33)
      have hx3 := hx2.alloc (.cells #[] 5)
      have ho3 : ((wr.alloc (.cells #[.int .u8 kd, .slice xA body.length xc] 33)).alloc (.cells #[] 5)).ownsRow w.heap.size 5 1 (.slice (some ⟨wr.heap.size + 1, 0, none⟩) 0 0) 0 [] := by
        have := World.ownsRow_made (base := w.heap.size) (e := 5) (size := 1) (wr.alloc (.cells #[.int .u8 kd, .slice xA body.length xc] 33)) #[] 0 (by simp; omega) (by simp) (by simp)
        simpa using this
      have k0 := (hb0.alloc (.cells #[.int .u8 kd, .slice xA body.length xc] 33)).alloc (.cells #[] 5)
      have kb := (hbb.alloc (.cells #[.int .u8 kd, .slice xA body.length xc] 33)).alloc (.cells #[] 5)
      have kx : Blk ((wr.alloc (.cells #[.int .u8 kd, .slice xA body.length xc] 33)).alloc (.cells #[] 5)) wr.heap.size 33 #[.int .u8 kd, .slice xA body.length xc] := (Blk.new wr 33 _).alloc _
      have hlg := hbb.lt
      have hl0 := hb0.lt
      have bel2 := (hbel.alloc hsz' (.cells #[.int .u8 kd, .slice xA body.length xc] 33)).alloc (by simp; omega) (.cells #[] 5)
      by_cases h84 : kd = 84
      · subst h84
        go_wp2_with (at_builtin; refine wpList_append_any _ rfl _ _ _ rfl w.heap.size 5 _ 1 1 Try.underlying31 info5 rfl (by omega) (.slice (some ⟨wr.heap.size + 1, 0, none⟩) 0 0) 0 [] rfl ho3 _ xA body.length xc (bys body) rfl hx3 (bys_one body) (by simp only [maxLen]; omega) (by omega) (by simp; omega) ?_; intro A4 c4 w4 hown4 hgr4 hat4; have jx := kx.grown hgr4 (by simp [Value.ownBlock]); obtain ⟨y0, y1, y2⟩ := jx.facts)
        have j0 := (k0.grown hgr4 (by simp [Value.ownBlock]; omega)).alloc (.cells #[.slice A4 body.length c4, .int .i64 0] 96)
        have jb := (kb.grown hgr4 (by simp [Value.ownBlock]; omega)).alloc (.cells #[.slice A4 body.length c4, .int .i64 0] 96)
        have hs4 := hgr4.size
        simp only [World.size_alloc] at hs4
        have bel4 := (bel2.grown hgr4 (by simp; omega) (fun g hg => by simp [Value.ownBlock] at hg; omega)).alloc (by omega) (.cells #[.slice A4 body.length c4, .int .i64 0] 96)
        have hR : RRP (w4.alloc (.cells #[.slice A4 body.length c4, .int .i64 0] 96)) w4.heap.size (· < w4.heap.size) body 0 := by
          have ho : w4.ownsRow w.heap.size 5 1 (.slice A4 body.length c4) body.length (bys body) := by simpa using hown4
          exact ⟨A4, c4, Blk.new w4 96 _, (((Reads.of_own ho).old (by omega)).more (fun k hk => hk.2)).alloc _, own_cap ho⟩
        clear hown4 hgr4 hat4 y0 y1 y2 jx k0 kb kx hx3 ho3
        generalize w4.alloc (.cells #[.slice A4 body.length c4, .int .i64 0] 96) = W5 at *
        have HI := Lib.hid fun W' (x : RRP W' w4.heap.size (· < w4.heap.size) body 0) => rint_ok w4.heap.size _ body W' x (by omega) hxb hxl
        have HS0 := Lib.hid (show (rTerm body t).bind (rAll ((l.map recOf).drop (k + 1))) = res from HE2.out)
        have HR := Lib.hid (show rTerm body t = if finE (rdI body).1 (rdI body).2.2 = 0 ∧ validT (rdI body).2.1 = true ∧ ¬ (rdI body).2.1 ≤ t then some ((rdI body).2.1, -1) else none from rfl)
        generalize rTerm body t = rr at *
        generalize rdI body = a at *
        obtain ⟨er, tt, rest⟩ := a
        try simp only at HI
        have HR2 := Lib.hid (show rr = if finE er rest = 0 ∧ validT tt = true ∧ ¬ tt ≤ t then some (tt, -1) else none from HR.out)
        clear HR
        have HQ := Lib.hid fun W' q (x : validT tt = q) => number_any tt W' q x
        refine (HI.out W5 hR).mono ?_
        rintro e w6 ⟨rfl, ⟨rest', hR6, hrr⟩, hf6⟩
        have HFe := Lib.hid (finE_of hrr)
        try simp only at HFe
        have HF2 := Lib.hid (end_any w4.heap.size _ rest' er w6 hR6)
        rw [HFe.out] at HF2
        generalize finE er rest = fe at *
        have hcs : ¬ fe = 0 ∧ rr = none ∨ (fe = 0 ∧ (validT tt = false ∧ rr = none ∨ validT tt = true ∧ (tt ≤ t ∧ rr = none ∨ ¬ tt ≤ t ∧ rr = some (tt, -1)))) := by
          rw [HR2.out]
          by_cases h1 : fe = 0
          · right
            refine ⟨h1, ?_⟩
            cases hvt : validT tt
            · left; simp
            · right
              refine ⟨rfl, ?_⟩
              by_cases h2 : tt ≤ t
              · left; exact ⟨h2, by simp [h2]⟩
              · right; exact ⟨h2, by rw [if_pos ⟨h1, rfl, h2⟩]⟩
          · left; exact ⟨h1, by simp [h1]⟩
        have hs6 := hf6.size
        have i0 := j0.fr hf6 (by omega)
        have ib := jb.fr hf6 (by omega)
        have bel6 := bel4.trans (hf6.below (B := w.heap.size) bel4.size (fun k hk e => by omega))
        obtain ⟨f0, f1, f2⟩ := i0.facts
        obtain ⟨x0, x1, x2⟩ := ib.facts
        clear hR hR6 hrr hxr hx2 hxb HI HR2
        rcases hcs with ⟨z1, rfl⟩ | ⟨rfl, ⟨z2, rfl⟩ | ⟨z2, ⟨z3, rfl⟩ | ⟨z3, rfl⟩⟩⟩
        · have HS := Lib.hid (show none = res from HS0.out)
          go_wp2_with (first
            | (go_at_call 42; ((with_reducible refine HF2.out.mono ?_); rintro e w7 ⟨rfl, rfl⟩)))
          refine bodyPost_ret (v := .tuple #[.agg #[.int .i64 0, .int .i64 0], .int .i64 2]) (by simp [results, Try.results14, go_sem, f1]) rfl ⟨fun _ _ e => (by rw [← HS.out] at e; cases e), fun _ => rfl, (bel6.setCell (by simp) _).setCell (by simp) _⟩
        · have HS := Lib.hid (show none = res from HS0.out)
          have HV := Lib.hid (HQ.out w6 _ z2)
          go_wp2_with (first
            | (go_at_call 42; ((with_reducible refine HF2.out.mono ?_); rintro e w7 ⟨rfl, rfl⟩))
            | (go_at_call 43; ((with_reducible refine HV.out.mono ?_); rintro e w7 ⟨rfl, rfl⟩)))
          refine bodyPost_ret (v := .tuple #[.agg #[.int .i64 0, .int .i64 0], .int .i64 2]) (by simp [results, Try.results14, go_sem, f1]) rfl ⟨fun _ _ e => (by rw [← HS.out] at e; cases e), fun _ => rfl, (bel6.setCell (by simp) _).setCell (by simp) _⟩
        · have HS := Lib.hid (show none = res from HS0.out)
          have HV := Lib.hid (HQ.out w6 _ z2)
          go_wp2_with (first
            | (go_at_call 42; ((with_reducible refine HF2.out.mono ?_); rintro e w7 ⟨rfl, rfl⟩))
            | (go_at_call 43; ((with_reducible refine HV.out.mono ?_); rintro e w7 ⟨rfl, rfl⟩)))
          refine bodyPost_ret (v := .tuple #[.agg #[.int .i64 0, .int .i64 0], .int .i64 2]) (by simp [results, Try.results14, go_sem, f1]) rfl ⟨fun _ _ e => (by rw [← HS.out] at e; cases e), fun _ => rfl, (bel6.setCell (by simp) _).setCell (by simp) _⟩
        · have HS := Lib.hid (show rAll ((l.map recOf).drop (k + 1)) (tt, -1) = res from HS0.out)
          have HV := Lib.hid (HQ.out w6 _ z2)
          go_wp2_with (first
            | (go_at_call 42; ((with_reducible refine HF2.out.mono ?_); rintro e w7 ⟨rfl, rfl⟩))
            | (go_at_call 43; ((with_reducible refine HV.out.mono ?_); rintro e w7 ⟨rfl, rfl⟩)))
          refine ⟨⟨k + 1, tt, (-1), by omega, by go_num, (i0.far (by simp; omega) _).far (by simp; omega) _, by simpa using (ib.set_ 0 (.int .i64 tt)).set_ 1 (.int .i64 (-1)), HS.out, by omega, (bel6.setCell (by simp; omega) _).setCell (by simp; omega) _⟩, by simp [intOf]; omega⟩
      · by_cases h86 : kd = 86
        · subst h86
          go_wp2_with (at_builtin; refine wpList_append_any _ rfl _ _ _ rfl w.heap.size 5 _ 1 1 Try.underlying31 info5 rfl (by omega) (.slice (some ⟨wr.heap.size + 1, 0, none⟩) 0 0) 0 [] rfl ho3 _ xA body.length xc (bys body) rfl hx3 (bys_one body) (by simp only [maxLen]; omega) (by omega) (by simp; omega) ?_; intro A4 c4 w4 hown4 hgr4 hat4; have jx := kx.grown hgr4 (by simp [Value.ownBlock]); obtain ⟨y0, y1, y2⟩ := jx.facts)
          have j0 := (k0.grown hgr4 (by simp [Value.ownBlock]; omega)).alloc (.cells #[.slice A4 body.length c4, .int .i64 0] 96)
          have jb := (kb.grown hgr4 (by simp [Value.ownBlock]; omega)).alloc (.cells #[.slice A4 body.length c4, .int .i64 0] 96)
          have hs4 := hgr4.size
          simp only [World.size_alloc] at hs4
          have bel4 := (bel2.grown hgr4 (by simp; omega) (fun g hg => by simp [Value.ownBlock] at hg; omega)).alloc (by omega) (.cells #[.slice A4 body.length c4, .int .i64 0] 96)
          have hR : RRP (w4.alloc (.cells #[.slice A4 body.length c4, .int .i64 0] 96)) w4.heap.size (· < w4.heap.size) body 0 := by
            have ho : w4.ownsRow w.heap.size 5 1 (.slice A4 body.length c4) body.length (bys body) := by simpa using hown4
            exact ⟨A4, c4, Blk.new w4 96 _, (((Reads.of_own ho).old (by omega)).more (fun k hk => hk.2)).alloc _, own_cap ho⟩
          clear hown4 hgr4 hat4 y0 y1 y2 jx k0 kb kx hx3 ho3
          generalize w4.alloc (.cells #[.slice A4 body.length c4, .int .i64 0] 96) = W5 at *
          have HI := Lib.hid fun W' (x : RRP W' w4.heap.size (· < w4.heap.size) body 0) => rint_ok w4.heap.size _ body W' x (by omega) hxb hxl
          have hrl2 : (rdI body).2.2.length ≤ 1000000 := Nat.le_trans (rdI_len body) hxl
          have HI2 := Lib.hid fun W' rs (x : RRP W' w4.heap.size (· < w4.heap.size) rs (rdI body).1) (y : (rdI body).1 = 0 → rs = (rdI body).2.2) => rint_gen w4.heap.size _ (rdI body) rs W' x y (by omega) (rdI_bytes hxb) hrl2
          have HS0 := Lib.hid (show (rVote body t n).bind (rAll ((l.map recOf).drop (k + 1))) = res from HE2.out)
          have HR := Lib.hid (show rVote body t n = if (finE (rdN (rdI body)).1 (rdN (rdI body)).2.2 = 0 ∧ validT (rdI body).2.1 = true ∧ validN (rdN (rdI body)).2.1 = true) ∧ ¬ (rdI body).2.1 < t ∧ ¬ ((rdI body).2.1 = t ∧ 0 ≤ n) then some ((rdI body).2.1, (rdN (rdI body)).2.1) else none from rfl)
          generalize rVote body t n = rr at *
          generalize rdI body = a at *
          generalize rdN a = b at *
          obtain ⟨er, tt, rest⟩ := a
          obtain ⟨er2, nn, rest2⟩ := b
          try simp only at HI HI2
          have HR2 := Lib.hid (show rr = if (finE er2 rest2 = 0 ∧ validT tt = true ∧ validN nn = true) ∧ ¬ tt < t ∧ ¬ (tt = t ∧ 0 ≤ n) then some (tt, nn) else none from HR.out)
          clear HR
          have HQ := Lib.hid fun W' q (x : validT tt = q) => number_any tt W' q x
          have HQ2 := Lib.hid fun W' q (x : validN nn = q) => somebody_any nn W' q x
          have HFq := Lib.hid fun rs (h : er2 = 0 → rs = rest2) => finE_of h
          generalize finE er2 rest2 = fe at *
          have hcs : ¬ fe = 0 ∧ rr = none ∨ (fe = 0 ∧ (validT tt = false ∧ rr = none ∨ validT tt = true ∧ (validN nn = false ∧ rr = none ∨ validN nn = true ∧ (tt < t ∧ rr = none ∨ ¬ tt < t ∧ (tt = t ∧ (n == -1) = false ∧ n ≠ -1 ∧ rr = none ∨ tt = t ∧ n = -1 ∧ rr = some (tt, nn) ∨ (tt == t) = false ∧ rr = some (tt, nn)))))) := by
            rw [HR2.out]
            by_cases h1 : fe = 0
            · right
              refine ⟨h1, ?_⟩
              cases hvt : validT tt
              · left; simp
              · right
                refine ⟨rfl, ?_⟩
                cases hvn : validN nn
                · left; simp
                · right
                  refine ⟨rfl, ?_⟩
                  by_cases h2 : tt < t
                  · left; exact ⟨h2, by simp [h2]⟩
                  · right
                    refine ⟨h2, ?_⟩
                    by_cases h3 : tt = t
                    · by_cases h4 : n = -1
                      · right; left; exact ⟨h3, h4, by rw [if_pos ⟨⟨h1, rfl, rfl⟩, h2, fun hh => by omega⟩]⟩
                      · left; exact ⟨h3, by simpa using h4, h4, by rw [if_neg (fun hh => hh.2.2 ⟨h3, by omega⟩)]⟩
                    · right; right; exact ⟨by simpa using h3, by rw [if_pos ⟨⟨h1, rfl, rfl⟩, h2, fun hh => h3 hh.1⟩]⟩
            · left; exact ⟨h1, by simp [h1]⟩
          have HVn := Lib.hid (show validN nn = true → -1 ≤ nn from fun hh => by unfold validN at hh; simp at hh; omega)
          refine (HI.out W5 hR).mono ?_
          rintro e w6a ⟨rfl, ⟨rest', hR6a, hrra⟩, hf6a⟩
          go_wp2_with fail
          refine (HI2.out w6a rest' hR6a hrra).mono ?_
          rintro e w6 ⟨rfl, ⟨rest'', hR6, hrr⟩, hf6b⟩
          have hf6 := hf6a.trans hf6b
          have HFe := Lib.hid (HFq.out _ hrr)
          have HF2 := Lib.hid (end_any w4.heap.size _ rest'' er2 w6 hR6)
          rw [HFe.out] at HF2
          have hs6 := hf6.size
          have i0 := j0.fr hf6 (by omega)
          have ib := jb.fr hf6 (by omega)
          have bel6 := bel4.trans (hf6.below (B := w.heap.size) bel4.size (fun k hk e => by omega))
          obtain ⟨f0, f1, f2⟩ := i0.facts
          obtain ⟨x0, x1, x2⟩ := ib.facts
          clear hR hR6 hrr hxr hx2 hxb HI HI2 HR2 hR6a hrra
          rcases hcs with ⟨z1, rfl⟩ | ⟨rfl, ⟨z2, rfl⟩ | ⟨z2, ⟨z3, rfl⟩ | ⟨z3, ⟨z4, rfl⟩ | ⟨z4, ⟨rfl, z5, z6, rfl⟩ | ⟨rfl, rfl, rfl⟩ | ⟨z5, rfl⟩⟩⟩⟩⟩
          · have HS := Lib.hid (show none = res from HS0.out)
            go_wp2_with (first
              | (go_at_call 42; ((with_reducible refine HF2.out.mono ?_); rintro e w7 ⟨rfl, rfl⟩)))
            refine bodyPost_ret (v := .tuple #[.agg #[.int .i64 0, .int .i64 0], .int .i64 2]) (by simp [results, Try.results14, go_sem, f1]) rfl ⟨fun _ _ e => (by rw [← HS.out] at e; cases e), fun _ => rfl, (bel6.setCell (by simp) _).setCell (by simp) _⟩
          · have HS := Lib.hid (show none = res from HS0.out)
            have HV := Lib.hid (HQ.out w6 _ z2)
            go_wp2_with (first
              | (go_at_call 42; ((with_reducible refine HF2.out.mono ?_); rintro e w7 ⟨rfl, rfl⟩))
              | (go_at_call 43; ((with_reducible refine HV.out.mono ?_); rintro e w7 ⟨rfl, rfl⟩)))
            refine bodyPost_ret (v := .tuple #[.agg #[.int .i64 0, .int .i64 0], .int .i64 2]) (by simp [results, Try.results14, go_sem, f1]) rfl ⟨fun _ _ e => (by rw [← HS.out] at e; cases e), fun _ => rfl, (bel6.setCell (by simp) _).setCell (by simp) _⟩
          · have HS := Lib.hid (show none = res from HS0.out)
            have HV := Lib.hid (HQ.out w6 _ z2)
            have HV2 := Lib.hid (HQ2.out w6 _ z3)
            go_wp2_with (first
              | (go_at_call 42; ((with_reducible refine HF2.out.mono ?_); rintro e w7 ⟨rfl, rfl⟩))
              | (go_at_call 43; ((with_reducible refine HV.out.mono ?_); rintro e w7 ⟨rfl, rfl⟩))
              | (go_at_call 44; ((with_reducible refine HV2.out.mono ?_); rintro e w7 ⟨rfl, rfl⟩)))
            refine bodyPost_ret (v := .tuple #[.agg #[.int .i64 0, .int .i64 0], .int .i64 2]) (by simp [results, Try.results14, go_sem, f1]) rfl ⟨fun _ _ e => (by rw [← HS.out] at e; cases e), fun _ => rfl, (bel6.setCell (by simp) _).setCell (by simp) _⟩
          · have HS := Lib.hid (show none = res from HS0.out)
            have HV := Lib.hid (HQ.out w6 _ z2)
            have HV2 := Lib.hid (HQ2.out w6 _ z3)
            go_wp2_with (first
              | (go_at_call 42; ((with_reducible refine HF2.out.mono ?_); rintro e w7 ⟨rfl, rfl⟩))
              | (go_at_call 43; ((with_reducible refine HV.out.mono ?_); rintro e w7 ⟨rfl, rfl⟩))
              | (go_at_call 44; ((with_reducible refine HV2.out.mono ?_); rintro e w7 ⟨rfl, rfl⟩)))
            refine bodyPost_ret (v := .tuple #[.agg #[.int .i64 0, .int .i64 0], .int .i64 2]) (by simp [results, Try.results14, go_sem, f1]) rfl ⟨fun _ _ e => (by rw [← HS.out] at e; cases e), fun _ => rfl, (bel6.setCell (by simp) _).setCell (by simp) _⟩
          · have HS := Lib.hid (show none = res from HS0.out)
            have HV := Lib.hid (HQ.out w6 _ z2)
            have HV2 := Lib.hid (HQ2.out w6 _ z3)
            go_wp2_with (first
              | (go_at_call 42; ((with_reducible refine HF2.out.mono ?_); rintro e w7 ⟨rfl, rfl⟩))
              | (go_at_call 43; ((with_reducible refine HV.out.mono ?_); rintro e w7 ⟨rfl, rfl⟩))
              | (go_at_call 44; ((with_reducible refine HV2.out.mono ?_); rintro e w7 ⟨rfl, rfl⟩)))
            refine bodyPost_ret (v := .tuple #[.agg #[.int .i64 0, .int .i64 0], .int .i64 2]) (by simp [results, Try.results14, go_sem, f1]) rfl ⟨fun _ _ e => (by rw [← HS.out] at e; cases e), fun _ => rfl, (bel6.setCell (by simp) _).setCell (by simp) _⟩
          · have HS := Lib.hid (show rAll ((l.map recOf).drop (k + 1)) (tt, nn) = res from HS0.out)
            have HV := Lib.hid (HQ.out w6 _ z2)
            have HV2 := Lib.hid (HQ2.out w6 _ z3)
            have hnn := HVn.out z3
            go_wp2_with (first
              | (go_at_call 42; ((with_reducible refine HF2.out.mono ?_); rintro e w7 ⟨rfl, rfl⟩))
              | (go_at_call 43; ((with_reducible refine HV.out.mono ?_); rintro e w7 ⟨rfl, rfl⟩))
              | (go_at_call 44; ((with_reducible refine HV2.out.mono ?_); rintro e w7 ⟨rfl, rfl⟩)))
            refine ⟨⟨k + 1, tt, nn, by omega, by go_num, (i0.far (by simp; omega) _).far (by simp; omega) _, by simpa using (ib.set_ 0 (.int .i64 tt)).set_ 1 (.int .i64 nn), HS.out, hnn, (bel6.setCell (by simp; omega) _).setCell (by simp; omega) _⟩, by simp [intOf]; omega⟩
          · have HS := Lib.hid (show rAll ((l.map recOf).drop (k + 1)) (tt, nn) = res from HS0.out)
            have HV := Lib.hid (HQ.out w6 _ z2)
            have HV2 := Lib.hid (HQ2.out w6 _ z3)
            have hnn := HVn.out z3
            go_wp2_with (first
              | (go_at_call 42; ((with_reducible refine HF2.out.mono ?_); rintro e w7 ⟨rfl, rfl⟩))
              | (go_at_call 43; ((with_reducible refine HV.out.mono ?_); rintro e w7 ⟨rfl, rfl⟩))
              | (go_at_call 44; ((with_reducible refine HV2.out.mono ?_); rintro e w7 ⟨rfl, rfl⟩)))
            refine ⟨⟨k + 1, tt, nn, by omega, by go_num, (i0.far (by simp; omega) _).far (by simp; omega) _, by simpa using (ib.set_ 0 (.int .i64 tt)).set_ 1 (.int .i64 nn), HS.out, hnn, (bel6.setCell (by simp; omega) _).setCell (by simp; omega) _⟩, by simp [intOf]; omega⟩
        · have hq1 : (kd == 84) = false := by simpa using h84
          have hq2 : (kd == 86) = false := by simpa using h86
          have HS := Lib.hid (show rAll ((l.map recOf).drop (k + 1)) (t, n) = res by
            have := HE2.out
            simp only [rStep, h84, h86, if_false] at this
            exact this)
          go_wp2_with (at_builtin; refine wpList_append_any _ rfl _ _ _ rfl w.heap.size 5 _ 1 1 Try.underlying31 info5 rfl (by omega) (.slice (some ⟨wr.heap.size + 1, 0, none⟩) 0 0) 0 [] rfl ho3 _ xA body.length xc (bys body) rfl hx3 (bys_one body) (by simp only [maxLen]; omega) (by omega) (by simp; omega) ?_; intro A4 c4 w4 hown4 hgr4 hat4; have jx := kx.grown hgr4 (by simp [Value.ownBlock]); obtain ⟨y0, y1, y2⟩ := jx.facts)
          have j0 := (k0.grown hgr4 (by simp [Value.ownBlock]; omega)).alloc (.cells #[.slice A4 body.length c4, .int .i64 0] 96)
          have jb := (kb.grown hgr4 (by simp [Value.ownBlock]; omega)).alloc (.cells #[.slice A4 body.length c4, .int .i64 0] 96)
          have hs4 := hgr4.size
          simp only [World.size_alloc] at hs4
          have bel4 := (bel2.grown hgr4 (by simp; omega) (fun g hg => by simp [Value.ownBlock] at hg; omega)).alloc (by omega) (.cells #[.slice A4 body.length c4, .int .i64 0] 96)
          have hR : RRP (w4.alloc (.cells #[.slice A4 body.length c4, .int .i64 0] 96)) w4.heap.size (· < w4.heap.size) body 0 := by
            have ho : w4.ownsRow w.heap.size 5 1 (.slice A4 body.length c4) body.length (bys body) := by simpa using hown4
            exact ⟨A4, c4, Blk.new w4 96 _, (((Reads.of_own ho).old (by omega)).more (fun k hk => hk.2)).alloc _, own_cap ho⟩
          clear hown4 hgr4 hat4 y0 y1 y2 jx k0 kb kx hx3 ho3
          generalize w4.alloc (.cells #[.slice A4 body.length c4, .int .i64 0] 96) = W5 at *
          exact ⟨⟨k + 1, t, n, by omega, by go_num, j0, jb, HS.out, hn1, bel4⟩, by simp [intOf]; omega⟩
    · have hk' : ¬ (k : Int) < l.length := by omega
      have he : k = l.length := by omega
      have HS := Lib.hid (show some (t, n) = res by
        rw [← HE.out, he, show l.length = (l.map recOf).length by simp, List.drop_length]; rfl)
      obtain ⟨f0, f1, f2⟩ := hb0.facts
      obtain ⟨x0, x1, x2⟩ := hbb.facts
      go_wp2
      refine bodyPost_ret (v := .tuple #[.agg #[.int .i64 t, .int .i64 n], .int .i64 0]) (by simp [results, Try.results14, go_sem, f1]) rfl ⟨fun t' n' e => ?_, fun e => ?_, (hbel.setCell (by simp) _).setCell (by simp) _⟩
      · rw [← HS.out] at e; cases e; rfl
      · rw [← HS.out] at e; cases e
end Go.Proofs.Ytbhbamgnapcbaaa

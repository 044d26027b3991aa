import Derived.Test.YtbhbamgnapcbaaaRec1
namespace Go.Proofs.Ytbhbamgnapcbaaa
set_option linter.unusedVariables false
open Go.RowKit Go.Own Go.Quo Go.Wire
/-- One record restored. -/
def rStep (x : Int × List Int) (s : Int × Int) : Option (Int × Int) := if x.1 = 84 then rTerm x.2 s.1 else if x.1 = 86 then rVote x.2 s.1 s.2 else some s
/-- All records restored. -/
def rAll : List (Int × List Int) → Int × Int → Option (Int × Int)
  | [], s => some s
  | x :: r, s => (rStep x s).bind (rAll r)
theorem rAll_cons {l : List (Int × List Int)} {k : Nat} {x : Int × List Int} (hx : l[k]? = some x) (s : Int × Int) : rAll (l.drop k) s = (rStep x s).bind (rAll (l.drop (k + 1))) := by
  have hk := (List.getElem?_eq_some_iff.1 hx).1
  have : l.drop k = x :: l.drop (k + 1) := by
    rw [List.drop_eq_getElem_cons hk]
    rw [List.getElem?_eq_getElem hk] at hx
    injection hx with hx
    rw [hx]
  rw [this]; rfl
def VOR (j : Nat) (res : Option (Int × Int)) (w : World) (e : Ending) (w' : World) : Prop :=
  (∀ t n, res = some (t, n) → e = .returned (.tuple #[.pointer (some ⟨w.heap.size, 0, none⟩), .int .i64 0]) ∧ Blk w' w.heap.size 91 #[.pointer (some ⟨j, 0, none⟩), .int .i64 t, .int .i64 n]) ∧ (res = none → e = .returned (.tuple #[.pointer none, .int .i64 2])) ∧ Below w.heap.size w w'
theorem fr_below_new {w w1 w2 : World} (h1 : Below w.heap.size w w1) (h2 : Fr (fun k => k = w.heap.size) w1 w2) : Below w.heap.size w w2 := h1.trans (h2.below h1.size (fun k hk e => by omega))
set_option maxRecDepth 10000 in
set_option maxHeartbeats 2000000 in
theorem vopen_any (w : World) (Z : Nat → Prop) (p j : Nat) (recs : List (Int × List Int)) (dur : Int) (h : JS w Z p j recs dur false) (hl : recs.length ≤ 1000000) (hb : ∀ x ∈ recs, Bytes x.2 ∧ x.2.length ≤ 1000000) :
    Calls Try.prog 13 #[.pointer (some ⟨j, 0, none⟩)] w (VOR j (rAll recs (0, -1)) w) := by
  have hnil : ∀ (a : Addr) (W : World), (binOp .eql 25 (.pointer (some a)) (.pointer none)).run Try.prog W = .ok (.bool false) W := fun _ _ => by rfl
  have f1 : Fr (fun _ => False) w (w.alloc (.cells #[.pointer (some ⟨j, 0, none⟩), .int .i64 0, .int .i64 (-1)] 91)) := (Fr.refl _ _).alloc _
  have g1 : Blk (w.alloc (.cells #[.pointer (some ⟨j, 0, none⟩), .int .i64 0, .int .i64 (-1)] 91)) w.heap.size 91 #[.pointer (some ⟨j, 0, none⟩), .int .i64 0, .int .i64 (-1)] := Blk.new w 91 _
  have b1 : Below w.heap.size w (w.alloc (.cells #[.pointer (some ⟨j, 0, none⟩), .int .i64 0, .int .i64 (-1)] 91)) := (Below.refl _ _).alloc (Nat.le_refl _) _
  have s1 : (w.alloc (.cells #[.pointer (some ⟨j, 0, none⟩), .int .i64 0, .int .i64 (-1)] 91)).heap.size = w.heap.size + 1 := by simp
  have h1 := h.fr f1 (fun _ _ => id)
  have HR := Lib.hid (records_any _ Z p j recs dur false h1 hl (fun x hx => (hb x hx).2))
  have HBy := Lib.hid hb
  clear h hb
  have HRes := Lib.hid (show rAll (recs.drop 0) (0, -1) = rAll recs (0, -1) by simp)
  generalize rAll recs (0, -1) = res at *
  obtain ⟨i, hi, hz, hsz, hby⟩ := info_parts info35
  go_enter Try.func13, Try.ntmps13
  go_wp2_with fail
  generalize w.alloc (.cells #[.pointer (some ⟨j, 0, none⟩), .int .i64 0, .int .i64 (-1)] 91) = W1 at *
  refine HR.out.mono ?_
  rintro e w2 ⟨ds, rfl, r2, hm2, hd2, hB2⟩
  have b2 := b1.trans (hB2.mono b1.size)
  have g2 := g1.below hB2 g1.lt
  have hdl : ds.length = recs.length := by rw [← hm2]; simp
  have HM := Lib.hid hm2
  have HD := Lib.hid hd2
  have HDl := Lib.hid hdl
  have hdn : ds.length ≤ 1000000 := by omega
  have s2 := hB2.size
  rw [s1] at *
  clear hm2 hd2 hdl
  go_wp2_with fail
  go_loopw [16] (fun vi wr => ∃ (k : Nat) (t n : Int), k ≤ ds.length ∧ vi = .int .i64 k ∧ Blk wr w.heap.size 91 #[.pointer (some ⟨j, 0, none⟩), .int .i64 t, .int .i64 n] ∧ rAll (recs.drop k) (t, n) = res ∧ Fr (fun k => k = w.heap.size) w2 wr) (fun vi _ => ds.length - (intOf vi).toNat)
  case atStart => exact ⟨0, 0, -1, Nat.zero_le _, rfl, g2, HRes.out, Fr.refl _ _⟩
  case round =>
    obtain ⟨k, t, n, hk, rfl, hblk, hres, hfr⟩ := hrel
    have HE := Lib.hid hres
    clear hres
    have hsz' := hfr.size
    by_cases hlt : k < ds.length
    · have hlt' : (k : Int) < ds.length := by omega
      obtain ⟨x, hgx⟩ : ∃ x, ds[k]? = some x := ⟨_, List.getElem?_eq_getElem hlt⟩
      have hxm := List.mem_of_getElem? hgx
      have hgr : recs[k]? = some (recOf x) := by rw [← HM.out, List.getElem?_map, hgx]; rfl
      have hRr := r2.fr hfr (fun k hk e => by omega)
      have hix : ∀ W : World, (Instr.indexAt 74 (.slice (some ⟨w.heap.size + 1, 0, none⟩) ds.length ds.length) (.int .i64 (k : Int))).run Try.prog W = .ok (.pointer (some ⟨w.heap.size + 1, k * 2, none⟩)) W := fun W => by simpa [bk, ofs, adr] using run_indexAt2 (P := Try.prog) Try.underlying74 hi hsz (A := some ⟨w.heap.size + 1, 0, none⟩) (n := ds.length) (fun _ => ⟨_, _, rfl⟩) ds.length k hlt W
      obtain ⟨c0, c1⟩ := rc_cells hRr hgx
      simp only [bk, ofs, adr, Option.getD_some, Nat.zero_add] at c0 c1
      have hxr := (HD.out x hxm).fr hfr (fun k hk e => by omega)
      obtain ⟨hxb, hxl⟩ := HBy.out (recOf x) (List.mem_of_getElem? hgr)
      have HE2 := Lib.hid (rAll_cons hgr (t, n) ▸ HE.out)
      clear hgr hxm hgx hRr HE
      obtain ⟨kd, xA, xc, body⟩ := x
      simp only [recOf] at *
      have hx2 := hxr.alloc (.cells #[.int .u8 kd, .slice xA body.length xc] 35)
      have k2 := hblk.alloc (.cells #[.int .u8 kd, .slice xA body.length xc] 35)
      have f2 := hfr.alloc (.cells #[.int .u8 kd, .slice xA body.length xc] 35)
      by_cases h84 : kd = 84
      · subst h84
        have HT := Lib.hid (restoreTerm_any _ xA xc body _ w.heap.size j t n k2 hx2 hxb (by omega))
        have HS := Lib.hid (show (rTerm body t).bind (rAll (recs.drop (k + 1))) = res from HE2.out)
        clear hxr hx2 hxb
        generalize rTerm body t = rr at *
        go_wp2_with fail
        refine HT.out.mono ?_
        rintro e w3 ⟨hy, hn, hf3⟩
        have f3 := f2.trans hf3
        cases rr with
        | none =>
          obtain rfl := hn rfl
          go_wp2
          exact bodyPost_ret (v := .tuple #[.pointer none, .int .i64 2]) (by simp [results, Try.results13, go_sem]) rfl ⟨fun _ _ e => (by rw [← HS.out] at e; cases e), fun _ => rfl, fr_below_new b2 f3⟩
        | some q =>
          obtain ⟨t', n'⟩ := q
          obtain ⟨rfl, hb3⟩ := hy _ _ rfl
          go_wp2
          exact ⟨⟨k + 1, t', n', by omega, by go_num, hb3, HS.out, f3⟩, by simp [intOf]; omega⟩
      · by_cases h86 : kd = 86
        · subst h86
          have HT := Lib.hid (restoreVote_any _ xA xc body _ w.heap.size j t n k2 hx2 hxb (by omega))
          have HS := Lib.hid (show (rVote body t n).bind (rAll (recs.drop (k + 1))) = res from HE2.out)
          clear hxr hx2 hxb
          generalize rVote body t n = rr at *
          go_wp2_with fail
          refine HT.out.mono ?_
          rintro e w3 ⟨hy, hn, hf3⟩
          have f3 := f2.trans hf3
          cases rr with
          | none =>
            obtain rfl := hn rfl
            go_wp2
            exact bodyPost_ret (v := .tuple #[.pointer none, .int .i64 2]) (by simp [results, Try.results13, go_sem]) rfl ⟨fun _ _ e => (by rw [← HS.out] at e; cases e), fun _ => rfl, fr_below_new b2 f3⟩
          | some q =>
            obtain ⟨t', n'⟩ := q
            obtain ⟨rfl, hb3⟩ := hy _ _ rfl
            go_wp2
            exact ⟨⟨k + 1, t', n', by omega, by go_num, hb3, HS.out, f3⟩, by simp [intOf]; omega⟩
        · have hq1 : (kd == 84) = false := by simpa using h84
          have hq2 : (kd == 86) = false := by simpa using h86
          have HS := Lib.hid (show rAll (recs.drop (k + 1)) (t, n) = res by
            have := HE2.out
            simp only [rStep, h84, h86, if_false] at this
            exact this)
          go_wp2
          exact ⟨⟨k + 1, t, n, by omega, by go_num, k2, HS.out, f2⟩, by simp [intOf]; omega⟩
    · have hk' : ¬ (k : Int) < ds.length := by omega
      have he : k = ds.length := by omega
      have HS := Lib.hid (show some (t, n) = res by
        rw [← HE.out, he, HDl.out, List.drop_length]; rfl)
      go_wp2
      refine bodyPost_ret (v := .tuple #[.pointer (some ⟨w.heap.size, 0, none⟩), .int .i64 0]) (by simp [results, Try.results13, go_sem]) rfl ⟨fun t' n' e => ?_, fun e => ?_, fr_below_new b2 hfr⟩
      · rw [← HS.out] at e
        cases e
        exact ⟨rfl, hblk⟩
      · rw [← HS.out] at e; cases e
set_option maxRecDepth 10000 in
set_option maxHeartbeats 400000 in
theorem vopen_none (w : World) : Calls Try.prog 13 #[.pointer none] w fun e w' => e = .returned (.tuple #[.pointer none, .int .i64 1]) ∧ w = w' := by
  have hnil : ∀ (W : World), (binOp .eql 25 (.pointer none) (.pointer none)).run Try.prog W = .ok (.bool true) W := fun _ => by rfl
  go_enter Try.func13, Try.ntmps13
  go_wp2
  exact bodyPost_ret (v := .tuple #[.pointer none, .int .i64 1]) (by simp [results, Try.results13, go_sem]) rfl ⟨rfl, rfl⟩
end Go.Proofs.Ytbhbamgnapcbaaa

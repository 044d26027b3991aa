import Derived.Test.YtbhbamgnapcbaaaRefR
import Derived.Test.YtbhbamgnapcbaaaAli2
namespace Go.Proofs.Ytbhbamgnapcbaaa
set_option linter.unusedVariables false
open Go.RowKit Go.Own Go.Quo Go.Wire
def rcZ : Rc := ⟨0, none, 0, []⟩
theorem rcL_set (ds : List Rc) (z r : Rc) (t : List Rc) : ((((ds ++ z :: t).flatMap rcL).toArray.setIfInBounds (ds.length * 2) (.int .u8 r.kind)).setIfInBounds (ds.length * 2 + 1) (.slice r.A r.body.length r.c)) = ((ds ++ r :: t).flatMap rcL).toArray := by
  have hl : (ds.flatMap rcL).length = ds.length * 2 := flat_length rcL 2 rcL_len ds
  simp only [List.flatMap_append, List.flatMap_cons, List.setIfInBounds_toArray]
  rw [List.set_append_right _ _ (by omega), hl, Nat.sub_self]
  rw [List.set_append_right _ _ (by omega), hl, show ds.length * 2 + 1 - ds.length * 2 = 1 by omega]
  rfl
theorem rcL_zero (n : Nat) : madeCells (Value.agg #[.int .u8 0, .slice none 0 0]).cells (n * 2) = ((List.replicate n rcZ).flatMap rcL).toArray := by
  have hz : ∀ (n j : Nat), ((List.replicate n rcZ).flatMap rcL)[j]? = if j < n * 2 then (if j % 2 = 0 then some (Value.int .u8 0) else some (.slice none 0 0)) else none := by
    intro n
    induction n with
    | zero => intro j; simp
    | succ n ih =>
      intro j
      rw [List.replicate_succ, List.flatMap_cons]
      match j with
      | 0 => simp [rcL, rcZ]
      | 1 => simp [rcL, rcZ]; omega
      | j + 2 =>
        rw [List.getElem?_append_right (by rw [rcL_len]; omega), rcL_len, show j + 2 - 2 = j by omega, ih]
        simp only [show (j + 2 < (n + 1) * 2) = (j < n * 2) by simp; omega, show (j + 2) % 2 = j % 2 by omega]
  apply Array.ext'
  apply List.ext_getElem?
  intro j
  rw [hz]
  by_cases hj : j < n * 2
  · rw [if_pos hj]
    simp only [madeCells, Value.cells, Array.toList_map, Array.toList_range, List.getElem?_map, List.getElem?_range hj, Option.map_some]
    rcases (show j % 2 = 0 ∨ j % 2 = 1 by omega) with e | e
    · simp [e]
    · simp [e]
  · rw [if_neg hj]
    simp [madeCells, hj]
theorem rc_cells {w : World} {B : Nat → Prop} {A : Option Addr} {l : List Rc} (h : Reads w B 2 A l.length (l.flatMap rcL)) {k : Nat} {x : Rc} (hx : l[k]? = some x) :
    w.cell? ⟨bk A, ofs A + k * 2, none⟩ = some (.int .u8 x.kind) ∧ w.cell? ⟨bk A, ofs A + k * 2 + 1, none⟩ = some (.slice x.A x.body.length x.c) := by
  have hk := (List.getElem?_eq_some_iff.1 hx).1
  constructor
  · rw [h.cell2 (k * 2) (by omega) (by omega)]
    have := flat_get rcL 2 rcL_len l k 0 x hx (by omega)
    simpa [rcL] using this
  · rw [Nat.add_assoc, h.cell2 (k * 2 + 1) (by omega) (by omega)]
    have := flat_get rcL 2 rcL_len l k 1 x hx (by omega)
    simpa [rcL] using this
def RcsPost (recs : List (Int × List Int)) (w : World) (e : Ending) (w' : World) : Prop :=
  ∃ ds : List Rc, e = .returned (.slice (some ⟨w.heap.size, 0, none⟩) ds.length ds.length) ∧ Reads w' (· = w.heap.size) 2 (some ⟨w.heap.size, 0, none⟩) ds.length (ds.flatMap rcL) ∧ ds.map recOf = recs ∧ (∀ r ∈ ds, Reads w' (fun k => w.heap.size < k) 1 r.A r.body.length (bys r.body)) ∧ Below w.heap.size w w'
theorem i35x : ∃ i, Try.prog.info? 35 = some i ∧ i.size = 2 := by obtain ⟨i, h, _, h2, _⟩ := info_parts info35; exact ⟨i, h, h2⟩
set_option maxRecDepth 10000 in
set_option maxHeartbeats 2000000 in
theorem records_any (w : World) (Z : Nat → Prop) (p j : Nat) (recs : List (Int × List Int)) (dur : Int) (off : Bool) (h : JS w Z p j recs dur off) (hl : recs.length ≤ 1000000) (hb : ∀ x ∈ recs, x.2.length ≤ 1000000) :
    Calls Try.prog 38 #[.pointer (some ⟨j, 0, none⟩)] w (RcsPost recs w) := by
  obtain ⟨A, c, Ar, cr, As, cs, rs, h1, h2⟩ := h
  have hrl : rs.length = recs.length := by rw [← h2]; simp
  obtain ⟨q0, q1, q2⟩ := h1.jb.facts
  have hR := ((Reads.of_own h1.ro).old (by omega)).more (B' := (· < w.heap.size)) (fun k hk => hk.2)
  have hPl := hR.plain (by omega)
  have hBd : ∀ r ∈ rs, Reads w (· < w.heap.size) 1 r.A r.body.length (bys r.body) := fun r hr => ((h1.bd r hr).old (by omega)).more (fun k hk => hk.2)
  have hbl : ∀ r ∈ rs, r.body.length ≤ 1000000 := fun r hr => hb (recOf r) (by rw [← h2]; exact List.mem_map_of_mem hr)
  have HB := Lib.hid hBd
  have HBl := Lib.hid hbl
  have H2 := Lib.hid h2
  have HRl := Lib.hid hrl
  have hn : rs.length ≤ 1000000 := by omega
  clear h1 hBd hbl h2 hb hl hrl
  obtain ⟨i, hi, hz, hsz, hby⟩ := info_parts info35
  have hmk : ∀ W : World, (Instr.makeSlice 74 (.int .i64 rs.length) (.int .i64 rs.length)).run Try.prog W = .ok (.slice (some ⟨W.heap.size, 0, none⟩) rs.length rs.length) (W.alloc (.cells ((List.replicate rs.length rcZ).flatMap rcL).toArray 35)) := fun W => by
    have := run_make_rowN (P := Try.prog) 74 35 i _ Try.underlying74 hi hz .i64 .i64 rs.length rs.length (Nat.le_refl _) (by rw [hby]; omega) (by omega) W
    rw [hsz, rcL_zero] at this
    exact this
  go_enter Try.func38, Try.ntmps38
  go_wp2_with fail
  go_loopw [17] (fun vi wr => ∃ (k : Nat) (ds : List Rc), k = ds.length ∧ k ≤ rs.length ∧ vi = .int .i64 k ∧ Blk wr w.heap.size 35 ((ds ++ List.replicate (rs.length - k) rcZ).flatMap rcL).toArray ∧ ds.map recOf = (rs.take k).map recOf ∧ (∀ r ∈ ds, Reads wr (fun k => w.heap.size < k) 1 r.A r.body.length (bys r.body)) ∧ Below w.heap.size w wr) (fun vi _ => rs.length - (intOf vi).toNat)
  case atStart => exact ⟨0, [], rfl, Nat.zero_le _, rfl, by simpa using Blk.new w 35 _, rfl, by simp, (Below.refl _ _).alloc (Nat.le_refl _) _⟩
  case round =>
    obtain ⟨k, ds, hkd, hk, rfl, hblk, hmap, hrd, hbel⟩ := hrel
    have HM := Lib.hid hmap
    have HD := Lib.hid hrd
    have HK := Lib.hid hkd
    clear hmap hrd hkd
    have hsz' := hbel.size
    by_cases hlt : k < rs.length
    · have hlt' : (k : Int) < rs.length := by omega
      obtain ⟨x, hgx⟩ : ∃ x, rs[k]? = some x := ⟨_, List.getElem?_eq_getElem hlt⟩
      have hxm := List.mem_of_getElem? hgx
      have hRr := hR.below hbel (fun _ h => h)
      have hix := fun W => run_indexAt2 (P := Try.prog) Try.underlying74 hi hsz hPl cr k hlt W
      have hix2 : ∀ W : World, (Instr.indexAt 74 (.slice (some ⟨w.heap.size, 0, none⟩) rs.length rs.length) (.int .i64 (k : Int))).run Try.prog W = .ok (.pointer (some ⟨w.heap.size, k * 2, none⟩)) W := fun W => by simpa [bk, ofs, adr] using run_indexAt2 (P := Try.prog) Try.underlying74 hi hsz (A := some ⟨w.heap.size, 0, none⟩) (n := rs.length) (fun _ => ⟨_, _, rfl⟩) rs.length k hlt W
      obtain ⟨c0, c1⟩ := rc_cells hRr hgx
      have HG := Lib.hid hgx
      have HX := Lib.hid ((HB.out x hxm).below hbel (fun _ h => h))
      have HCl := Lib.hid fun W' B (y : Reads W' B 1 x.A x.body.length (bys x.body)) => clone_any B x.kind x.A x.c x.body W' y (HBl.out x hxm)
      clear hR hgx hRr hxm
      go_wp2_with fail
      refine (HCl.out _ _ (HX.out.alloc _)).mono ?_
      rintro e w2 ⟨A2, c2, rfl, r2, hB2⟩
      have B2 : Below w.heap.size w w2 := (hbel.alloc hsz' _).trans (hB2.mono (by simp; omega))
      have hlw : w.heap.size < wr.heap.size := hblk.lt
      have k2 := (hblk.alloc (.cells #[.int .u8 x.kind, .slice x.A x.body.length x.c] 35)).below hB2 (by simp; omega)
      obtain ⟨y0, y1, y2⟩ := k2.facts
      have hrep : List.replicate (rs.length - k) rcZ = rcZ :: List.replicate (rs.length - (k + 1)) rcZ := by
        rw [show rs.length - k = (rs.length - (k + 1)) + 1 by omega, List.replicate_succ]
      have hz0 : (ds ++ List.replicate (rs.length - k) rcZ)[k]? = some rcZ := by
        rw [hrep, List.getElem?_append_right (by rw [← HK.out]; exact Nat.le_refl _), ← HK.out]; simp
      have z0 : w2.cell? ⟨w.heap.size, k * 2, none⟩ = some (.int .u8 0) := by
        rw [y1, List.getElem?_toArray]
        have := flat_get rcL 2 rcL_len _ k 0 _ hz0 (by omega)
        simpa [rcL, rcZ] using this
      have z1 : w2.cell? ⟨w.heap.size, k * 2 + 1, none⟩ = some (.slice none 0 0) := by
        rw [y1, List.getElem?_toArray]
        have := flat_get rcL 2 rcL_len _ k 1 _ hz0 (by omega)
        simpa [rcL, rcZ] using this
      have HR := Lib.hid hrep
      clear y1 hrep hz0
      go_wp2
      have kk := (k2.set_ (k * 2) (.int .u8 x.kind)).set_ (k * 2 + 1) (.slice A2 x.body.length c2)
      rw [HR.out, HK.out, rcL_set ds rcZ (Rc.mk x.kind A2 c2 x.body) (List.replicate (rs.length - (ds.length + 1)) rcZ), ← HK.out] at kk
      refine ⟨⟨k + 1, ds ++ [Rc.mk x.kind A2 c2 x.body], by rw [HK.out]; simp, by omega, by go_num, ?_, ?_, ?_, ?_⟩, by simp [intOf]; omega⟩
      · rw [List.append_assoc]; exact kk
      · rw [List.map_append, HM.out, List.take_add_one, HG.out]; simp [recOf]
      · intro r hr
        rcases List.mem_append.1 hr with hr | hr
        · exact (((((HD.out r hr).old (by omega)).alloc _).below hB2 (fun k hk => by simp; omega)).more (fun k hk => hk.1) |>.setCell (by simp) _).setCell (by simp) _
        · obtain rfl : r = Rc.mk x.kind A2 c2 x.body := by simpa using hr
          exact ((r2.more (fun k hk => by simp at hk; omega)).setCell (by simp) _).setCell (by simp) _
      · exact (B2.setCell (by simp) _).setCell (by simp) _
    · have hk' : ¬ (k : Int) < rs.length := by omega
      have he : k = rs.length := by omega
      go_wp2
      go_ret
      have hd : ds.length = rs.length := by rw [← HK.out, he]
      have hbk := hblk
      rw [he, Nat.sub_self, List.replicate_zero, List.append_nil] at hbk
      refine ⟨ds, by rw [hd]; rfl, ?_, by rw [HM.out, he, List.take_length, H2.out], HD.out, hbel⟩
      have := Reads.of_blk (B := (· = w.heap.size)) (n := ds.length) (size := 2) hbk (by simp [flat_length rcL 2 rcL_len]) rfl
      rwa [List.take_of_length_le (by simp [flat_length rcL 2 rcL_len])] at this
end Go.Proofs.Ytbhbamgnapcbaaa

import Derived.Test.YtnpfbpfobbadaaaRd5
import Derived.Deep.RegionHeld
namespace Go.Wire
theorem str_inj {a b : List Int} (ha : Bytes a) (hb : Bytes b) (h : (strOfNums a).toList = (strOfNums b).toList) : a = b := by
  have e : (a.map fun n => UInt8.ofNat n.toNat) = b.map fun n => UInt8.ofNat n.toNat := by
    rw [ByteArray.toList_eq, ByteArray.toList_eq] at h
    simpa [strOfNums] using h
  have hl : a.length = b.length := by simpa using congrArg List.length e
  apply List.ext_getElem hl
  intro i h1 h2
  have := congrArg (fun l : List UInt8 => (l[i]?).map UInt8.toNat) e
  simp [h1, h2] at this
  have x1 := ha a[i] (List.getElem_mem h1)
  have x2 := hb b[i] (List.getElem_mem h2)
  omega
end Go.Wire
namespace Go.Proofs.Ytnpfbpfobbadaaa
set_option linter.unusedVariables false
open Go.RowKit Go.Own Go.Quo Go.Wire
def RePost (o' n' : List Int) (ok : Bool) (w : World) (e : Ending) (w' : World) : Prop := ∃ m' : Ms, m'.o = o' ∧ m'.n = n' ∧ e = .returned (.tuple #[msV m', .bool ok]) ∧ MR w' (fun k => w.heap.size ≤ k) m' ∧ Below w.heap.size w w'
theorem gdb_at {w : World} {B : Nat → Prop} {A : Option Addr} {b : List Int} (h : Reads w B 1 A b.length (bys b)) {k : Nat} (hk : k < b.length) : w.cell? ⟨bk A, ofs A + k, none⟩ = some (.int .u8 (gd b k)) := by
  have := h.cell2 k (by omega) (by omega)
  rw [this, gd_get hk]
  simp [bys, hk]
theorem half_take (b : List Int) (a i : Nat) (h : a + i < b.length) : ((b.drop a).take (i + 1)).map (· / 2) = ((b.drop a).take i).map (· / 2) ++ [gd b (a + i) / 2] := by
  have hl : i < (b.drop a).length := by rw [List.length_drop]; omega
  rw [List.take_succ_eq_append_getElem hl, List.map_append, List.getElem_drop, gd_get h]; rfl
theorem take_all (b : List Int) (a n i : Nat) (h : ¬ (i < n ∧ a + i < b.length)) (hi : i ≤ n) : (b.drop a).take i = (b.drop a).take n := by
  by_cases h1 : i = n
  · rw [h1]
  · have : b.length ≤ a + i := by omega
    rw [List.take_of_length_le (by rw [List.length_drop]; omega), List.take_of_length_le (by rw [List.length_drop]; omega)]
theorem drop_all (b : List Int) (a n i : Nat) (h : ¬ (i < n ∧ a + i < b.length)) (hi : i ≤ n) : b.drop (a + i) = (b.drop a).drop n := by
  by_cases h1 : i = n
  · rw [h1, List.drop_drop]
  · have : b.length ≤ a + i := by omega
    rw [List.drop_drop, List.drop_eq_nil_of_le this, List.drop_eq_nil_of_le (by omega)]
theorem gd_drop (b : List Int) (a k : Nat) : gd (b.drop a) k = gd b (a + k) := by
  unfold gd
  rw [List.getD_eq_getElem?_getD, List.getD_eq_getElem?_getD, List.getElem?_drop]
set_option maxRecDepth 10000 in
set_option maxHeartbeats 2000000 in
theorem read_any (B : Nat → Prop) (A : Option Addr) (c : Nat) (b : List Int) (w : World) (h : Reads w B 1 A b.length (bys b)) (hB : Bytes b) (hl : b.length ≤ 1000) :
    Calls Try.prog 33 #[.slice A b.length c] w (RePost (readF b).1 (readF b).2.1 (readF b).2.2 w) := by
  have h := (h.old (by omega)).more (B' := (· < w.heap.size)) (fun k hk => hk.2)
  have h1 := (h.alloc (.cells msZ 24)).alloc (.cells msZ 24)
  have pA := h.plain (by omega)
  have g1 : Blk ((w.alloc (.cells msZ 24)).alloc (.cells msZ 24)) w.heap.size 24 msZ := (Blk.new w 24 _).alloc _
  have j1 : Blk ((w.alloc (.cells msZ 24)).alloc (.cells msZ 24)) (w.heap.size + 1) 24 msZ := by simpa using Blk.new (w.alloc (.cells msZ 24)) 24 msZ
  have b1 : Below w.heap.size w ((w.alloc (.cells msZ 24)).alloc (.cells msZ 24)) := ((Below.refl _ _).alloc (Nat.le_refl _) _).alloc (by simp) _
  have HB := Lib.hid hB
  have HF := Lib.hid (show readF b = if b.length = 0 then ([], [], false) else if (rsO b).length = 0 then ([], [], false) else if encM (tkO b) (tkO (rsO b)) = b then (tkO b, tkO (rsO b), true) else ([], [], false) from rfl)
  have HTk := Lib.hid fun l => (show tkO l = ((l.drop 1).take (gd l 0 / 2).toNat).map (· / 2) from rfl)
  have HRs := Lib.hid fun l => (show rsO l = (l.drop 1).drop (gd l 0 / 2).toNat from rfl)
  generalize readF b = F at *
  clear h hB
  go_enter Try.func33, Try.ntmps33
  go_wp2_with fail
  have s1 : w.heap.size + 2 ≤ ((w.alloc (.cells msZ 24)).alloc (.cells msZ 24)).heap.size := by simp
  generalize (w.alloc (.cells msZ 24)).alloc (.cells msZ 24) = W1 at *
  go_loopw [5, 6] (fun va vp wr => ∃ (k a : Nat) (o n : List Int) (A1 A2 : Option Addr) (c1 c2 : Nat), k ≤ 2 ∧ vp = .int .i64 k ∧ va = .int .i64 a ∧ a ≤ b.length ∧ ((k = 0 ∧ a = 0 ∧ o = [] ∧ n = [] ∧ A1 = none ∧ c1 = 0 ∧ A2 = none ∧ c2 = 0) ∨ (k = 1 ∧ 0 < b.length ∧ b.drop a = rsO b ∧ o = tkO b ∧ n = [] ∧ A2 = none ∧ c2 = 0) ∨ (k = 2 ∧ 0 < b.length ∧ 0 < (rsO b).length ∧ o = tkO b ∧ n = tkO (rsO b))) ∧
      o.length ≤ 1000 ∧ n.length ≤ 1000 ∧ Blk wr (w.heap.size + 1) 24 #[.slice A1 o.length c1, .slice A2 n.length c2] ∧ RI wr (fun k => w.heap.size + 2 ≤ k) A1 o ∧ RI wr (fun k => w.heap.size + 2 ≤ k) A2 n ∧ Fr (fun x => x = w.heap.size + 1) W1 wr) (fun _ p _ => 2 - (intOf p).toNat)
  case atStart => exact ⟨0, 0, [], [], none, none, 0, 0, by omega, rfl, rfl, by omega, .inl ⟨rfl, rfl, rfl, rfl, rfl, rfl, rfl, rfl⟩, by simp, by simp, j1, Reads.none_, Reads.none_, Fr.refl _ _⟩
  case round =>
    obtain ⟨k, a, o, n, A1, A2, c1, c2, hk, rfl, rfl, ha, hst, hol, hnl, jr, ro, rn, hfr⟩ := hrel
    have HSt := Lib.hid hst
    clear hst
    have hfs := hfr.size
    have hrd := h1.fr hfr (fun j hj => by omega)
    have gr := g1.fr hfr (by omega)
    by_cases hlt : k < 2
    · have hlt' : (k : Int) < 2 := by omega
      by_cases hal : a < b.length
      · have hal' : ¬ ((b.length : Int) ≤ (a : Int)) := by omega
        have hix := fun W => ix45 pA c a hal W
        have hc := gdb_at hrd hal
        have hx := HB.out (gd b a) (by rw [gd_get hal]; exact List.getElem_mem hal)
        obtain ⟨nn, hnn⟩ : ∃ nn : Nat, nn = (gd b a / 2).toNat := ⟨_, rfl⟩
        have hnnx : gd b a / 2 = (nn : Int) := by omega
        have hnl9 : nn ≤ 127 := by omega
        have HNn := Lib.hid hnn
        obtain ⟨x, hxe⟩ : ∃ x, gd b a = x := ⟨_, rfl⟩
        rw [hxe] at hc hx hnnx
        have HXe := Lib.hid hxe
        clear hnn hxe
        have hw1 : IntKind.i64.wrap x = x := IntWalk.i64_in _ (by omega)
        have hw2 : x.tdiv 2 = (nn : Int) := by rw [Int.tdiv_eq_ediv_of_nonneg hx.1]; exact hnnx
        clear hnnx
        obtain ⟨wo, rfl⟩ : ∃ wo : World, wo = wr := ⟨_, rfl⟩
        rcases (show k = 0 ∨ k = 1 by omega) with rfl | rfl
        · obtain ⟨ha0, rfl, rfl, rfl, rfl, rfl, rfl⟩ : a = 0 ∧ o = [] ∧ n = [] ∧ A1 = none ∧ c1 = 0 ∧ A2 = none ∧ c2 = 0 := by
            rcases HSt.out with ⟨_, h⟩ | ⟨h, _⟩ | ⟨h, _⟩
            · exact h
            · omega
            · omega
          have HA0 := Lib.hid ha0; clear ha0
          go_wp2_with fail
          go_loopw [5, 8] (fun va vi wr => ∃ (i : Nat) (acc : List Int) (Ai : Option Addr) (ci : Nat), i ≤ nn ∧ a + 1 + i ≤ b.length ∧ vi = .int .i64 i ∧ va = .int .i64 ((a + 1 + i : Nat) : Int) ∧ acc = ((b.drop (a + 1)).take i).map (· / 2) ∧ acc.length ≤ i ∧ Blk wr (w.heap.size + 1) 24 #[.slice Ai acc.length ci, .slice none 0 0] ∧ wr.ownsRow wo.heap.size 3 1 (.slice Ai acc.length ci) acc.length (ivs acc) ∧ Fr (fun x => x = w.heap.size + 1) wo wr) (fun _ i _ => nn - (intOf i).toNat)
          case atStart => exact ⟨0, [], none, 0, by omega, by omega, rfl, by go_num, rfl, by simp, jr, World.ownsRow_nil _ _ _ _, Fr.refl _ _⟩
          case round =>
            obtain ⟨i, acc, Ai, ci, hi, hai, rfl, rfl, hacc, hacl, jw, how, hfw⟩ := hrel
            have HAcc := Lib.hid hacc
            clear hacc
            have hws := hfw.size
            by_cases hgo : i < nn ∧ a + 1 + i < b.length
            · obtain ⟨hgo1, hgo2⟩ := hgo
              have hgo1' : (i : Int) < nn := by omega
              have hgo2' : ((a + 1 + i : Nat) : Int) < b.length := by omega
              have hix2 := fun W => ix45 pA c (a + 1 + i) hgo2 W
              have hc2 := gdb_at (hrd.fr hfw (fun j hj => by omega)) hgo2
              have hy := HB.out (gd b (a + 1 + i)) (by rw [gd_get hgo2]; exact List.getElem_mem hgo2)
              have HTa := Lib.hid (half_take b (a + 1) i hgo2)
              have hyw1 : IntKind.i64.wrap (gd b (a + 1 + i)) = gd b (a + 1 + i) := IntWalk.i64_in _ (by omega)
              have hyw2 : (gd b (a + 1 + i)).tdiv 2 = gd b (a + 1 + i) / 2 := Int.tdiv_eq_ediv_of_nonneg hy.1
              have hyw3 : IntKind.i64.wrap (gd b (a + 1 + i) / 2) = gd b (a + 1 + i) / 2 := IntWalk.i64_in _ (by omega)
              obtain ⟨z0, z1, z2⟩ := jw.facts
              generalize gd b (a + 1 + i) = y at *
              generalize hai2 : a + 1 + i = ai at *
              have HAi := Lib.hid hai2
              clear hai2
              obtain ⟨v, hv⟩ : ∃ v, y / 2 = v := ⟨_, rfl⟩
              rw [hv] at hyw2 hyw3 HTa
              clear hv
              go_wp2_with fail
              go_region_law (first
                | (refine step_append_any _ (by rfl) (.tmp 40) (.tmp 47) _ (by rfl) wo.heap.size 3 (.int .i64 0) 1 8 Try.underlying22 info3 rfl (by omega) (.slice Ai acc.length ci) acc.length (ivs acc) (by rfl) ((how.alloc _).drew) _ (some ⟨wr.heap.size, 0, none⟩) 1 1 [.int .i64 v] (by rfl) ((Reads.newS _ [.int .i64 v] 3 (0, 0) 1 1 rfl _ rfl).drew) (by simp [Value.oneCell']) (by simp only [maxLen]; omega) (by omega) (by simp; omega) ?_
                   intro A4 c4 w4 hown4 hgr4 hat4
                   have j4 := ((jw.alloc _).drew).grown hgr4 (by intro e; have := (how.lt _ e.symm).1; omega)
                   obtain ⟨y0, y1, y2⟩ := j4.facts))
              all_goals
                go_wp2_with fail
                have e5 : (acc ++ [v]).length = acc.length + 1 := by simp
                have hai3 := HAi.out
                refine ⟨⟨i + 1, acc ++ [v], A4, c4, by omega, by omega, by go_num, by rw [← hai3]; go_num, by rw [HTa.out, HAcc.out], by omega, ?_, ?_, (((hfw.alloc _).drew).grown hgr4 (fun g hg => .inr (by have := (how.lt g hg).1; omega))).setCell (.inl rfl) _⟩, by simp [intOf]; omega⟩
                · rw [e5]
                  simpa using j4.set_ 0 (.slice A4 (acc.length + 1) c4)
                · have := own_far hown4 (p := ⟨w.heap.size + 1, 0, none⟩) (by simp; omega) (.slice A4 (acc.length + 1) c4)
                  rw [e5]
                  simpa [ivs] using this
            · have hmin : i < nn → ¬ (a + 1 + i < b.length) := fun h1 h2 => hgo ⟨h1, h2⟩
              have HTall := Lib.hid (take_all b (a + 1) nn i hgo hi)
              have HDall := Lib.hid (drop_all b (a + 1) nn i hgo hi)
              clear hgo
              by_cases hin : i < nn
              · have hin' : (i : Int) < nn := by omega
                have hal2 : ¬ (((a + 1 + i : Nat) : Int) < b.length) := by have := hmin hin; omega
                generalize hai2 : a + 1 + i = ai at *
                go_wp2_with fail
                · subst hai2
                  refine ⟨⟨1, a + 1 + i, acc, [], Ai, none, ci, 0, by omega, by go_num, rfl, hai, .inr (.inl ⟨rfl, by omega, ?_, ?_, rfl, rfl, rfl⟩), by omega, by simp, jw, ?_, Reads.none_, hfr.trans hfw⟩, by simp [intOf]⟩
                  · rw [HDall.out, HRs.out, HNn.out, HA0.out]
                  · rw [HAcc.out, HTall.out, HTk.out, HNn.out, HA0.out]
                  · exact (Reads.of_own how).more (fun g hg => by have := (how.lt g hg).1; omega)
              · have hin' : ¬ (i : Int) < nn := by omega
                generalize hai2 : a + 1 + i = ai at *
                go_wp2_with fail
                · subst hai2
                  refine ⟨⟨1, a + 1 + i, acc, [], Ai, none, ci, 0, by omega, by go_num, rfl, hai, .inr (.inl ⟨rfl, by omega, ?_, ?_, rfl, rfl, rfl⟩), by omega, by simp, jw, ?_, Reads.none_, hfr.trans hfw⟩, by simp [intOf]⟩
                  · rw [HDall.out, HRs.out, HNn.out, HA0.out]
                  · rw [HAcc.out, HTall.out, HTk.out, HNn.out, HA0.out]
                  · exact (Reads.of_own how).more (fun g hg => by have := (how.lt g hg).1; omega)
        · obtain ⟨hb0, hrs, hoe, rfl, rfl, rfl⟩ : 0 < b.length ∧ b.drop a = rsO b ∧ o = tkO b ∧ n = [] ∧ A2 = none ∧ c2 = 0 := by
            rcases HSt.out with ⟨h, _⟩ | ⟨_, h⟩ | ⟨h, _⟩
            · omega
            · exact h
            · omega
          have HO := Lib.hid hoe
          have HRe := Lib.hid hrs
          have hrs0 : 0 < (rsO b).length := by rw [← hrs, List.length_drop]; omega
          clear hoe hrs
          have ro' := ro.old (by omega)
          go_wp2_with fail
          go_loopw [5, 8] (fun va vi wr => ∃ (i : Nat) (acc : List Int) (Ai : Option Addr) (ci : Nat), i ≤ nn ∧ a + 1 + i ≤ b.length ∧ vi = .int .i64 i ∧ va = .int .i64 ((a + 1 + i : Nat) : Int) ∧ acc = ((b.drop (a + 1)).take i).map (· / 2) ∧ acc.length ≤ i ∧ Blk wr (w.heap.size + 1) 24 #[.slice A1 o.length c1, .slice Ai acc.length ci] ∧ wr.ownsRow wo.heap.size 3 1 (.slice Ai acc.length ci) acc.length (ivs acc) ∧ Fr (fun x => x = w.heap.size + 1) wo wr) (fun _ i _ => nn - (intOf i).toNat)
          case atStart => exact ⟨0, [], none, 0, by omega, by omega, rfl, by go_num, rfl, by simp, jr, World.ownsRow_nil _ _ _ _, Fr.refl _ _⟩
          case round =>
            obtain ⟨i, acc, Ai, ci, hi, hai, rfl, rfl, hacc, hacl, jw, how, hfw⟩ := hrel
            have HAcc := Lib.hid hacc
            clear hacc
            have hws := hfw.size
            by_cases hgo : i < nn ∧ a + 1 + i < b.length
            · obtain ⟨hgo1, hgo2⟩ := hgo
              have hgo1' : (i : Int) < nn := by omega
              have hgo2' : ((a + 1 + i : Nat) : Int) < b.length := by omega
              have hix2 := fun W => ix45 pA c (a + 1 + i) hgo2 W
              have hc2 := gdb_at (hrd.fr hfw (fun j hj => by omega)) hgo2
              have hy := HB.out (gd b (a + 1 + i)) (by rw [gd_get hgo2]; exact List.getElem_mem hgo2)
              have HTa := Lib.hid (half_take b (a + 1) i hgo2)
              have hyw1 : IntKind.i64.wrap (gd b (a + 1 + i)) = gd b (a + 1 + i) := IntWalk.i64_in _ (by omega)
              have hyw2 : (gd b (a + 1 + i)).tdiv 2 = gd b (a + 1 + i) / 2 := Int.tdiv_eq_ediv_of_nonneg hy.1
              have hyw3 : IntKind.i64.wrap (gd b (a + 1 + i) / 2) = gd b (a + 1 + i) / 2 := IntWalk.i64_in _ (by omega)
              obtain ⟨z0, z1, z2⟩ := jw.facts
              generalize gd b (a + 1 + i) = y at *
              generalize hai2 : a + 1 + i = ai at *
              have HAi := Lib.hid hai2
              clear hai2
              obtain ⟨v, hv⟩ : ∃ v, y / 2 = v := ⟨_, rfl⟩
              rw [hv] at hyw2 hyw3 HTa
              clear hv
              go_wp2_with fail
              go_region_law (first
                | (refine step_append_any _ (by rfl) (.tmp 51) (.tmp 58) _ (by rfl) wo.heap.size 3 (.int .i64 0) 1 8 Try.underlying22 info3 rfl (by omega) (.slice Ai acc.length ci) acc.length (ivs acc) (by rfl) ((how.alloc _).drew) _ (some ⟨wr.heap.size, 0, none⟩) 1 1 [.int .i64 v] (by rfl) ((Reads.newS _ [.int .i64 v] 3 (0, 0) 1 1 rfl _ rfl).drew) (by simp [Value.oneCell']) (by simp only [maxLen]; omega) (by omega) (by simp; omega) ?_
                   intro A4 c4 w4 hown4 hgr4 hat4
                   have j4 := ((jw.alloc _).drew).grown hgr4 (by intro e; have := (how.lt _ e.symm).1; omega)
                   obtain ⟨y0, y1, y2⟩ := j4.facts))
              all_goals
                go_wp2_with fail
                have e5 : (acc ++ [v]).length = acc.length + 1 := by simp
                have hai3 := HAi.out
                refine ⟨⟨i + 1, acc ++ [v], A4, c4, by omega, by omega, by go_num, by rw [← hai3]; go_num, by rw [HTa.out, HAcc.out], by omega, ?_, ?_, (((hfw.alloc _).drew).grown hgr4 (fun g hg => .inr (by have := (how.lt g hg).1; omega))).setCell (.inl rfl) _⟩, by simp [intOf]; omega⟩
                · rw [e5]
                  simpa using j4.set_ 1 (.slice A4 (acc.length + 1) c4)
                · have := own_far hown4 (p := ⟨w.heap.size + 1, 1, none⟩) (by simp; omega) (.slice A4 (acc.length + 1) c4)
                  rw [e5]
                  simpa [ivs] using this
            · have hmin : i < nn → ¬ (a + 1 + i < b.length) := fun h1 h2 => hgo ⟨h1, h2⟩
              have HTall := Lib.hid (take_all b (a + 1) nn i hgo hi)
              have HDall := Lib.hid (drop_all b (a + 1) nn i hgo hi)
              clear hgo
              by_cases hin : i < nn
              · have hin' : (i : Int) < nn := by omega
                have hal2 : ¬ (((a + 1 + i : Nat) : Int) < b.length) := by have := hmin hin; omega
                generalize hai2 : a + 1 + i = ai at *
                go_wp2_with fail
                · subst hai2
                  refine ⟨⟨2, a + 1 + i, o, acc, A1, Ai, c1, ci, by omega, by go_num, rfl, hai, .inr (.inr ⟨rfl, hb0, hrs0, HO.out, ?_⟩), by omega, by omega, jw, ?_, ?_, hfr.trans hfw⟩, by simp [intOf]⟩
                  · rw [HAcc.out, HTall.out, ← HRe.out, HTk.out, gd_drop, List.drop_drop, HNn.out]; rfl
                  · exact (ro'.fr hfw (fun g hg => by omega)).more (fun g hg => hg.1)
                  · exact (Reads.of_own how).more (fun g hg => by have := (how.lt g hg).1; omega)
              · have hin' : ¬ (i : Int) < nn := by omega
                generalize hai2 : a + 1 + i = ai at *
                go_wp2_with fail
                · subst hai2
                  refine ⟨⟨2, a + 1 + i, o, acc, A1, Ai, c1, ci, by omega, by go_num, rfl, hai, .inr (.inr ⟨rfl, hb0, hrs0, HO.out, ?_⟩), by omega, by omega, jw, ?_, ?_, hfr.trans hfw⟩, by simp [intOf]⟩
                  · rw [HAcc.out, HTall.out, ← HRe.out, HTk.out, gd_drop, List.drop_drop, HNn.out]; rfl
                  · exact (ro'.fr hfw (fun g hg => by omega)).more (fun g hg => hg.1)
                  · exact (Reads.of_own how).more (fun g hg => by have := (how.lt g hg).1; omega)
      · have hal' : (b.length : Int) ≤ (a : Int) := by omega
        obtain ⟨q0, q1, q2⟩ := gr.facts
        simp only [msZ] at q1
        have HE := Lib.hid (show F = ([], [], false) by
          rw [HF.out]
          rcases HSt.out with ⟨_, h, _⟩ | ⟨_, h1, h2, _⟩ | ⟨h, _⟩
          · rw [if_pos (by omega)]
          · rw [if_neg (by omega), if_pos (by rw [← h2, List.length_drop]; omega)]
          · omega)
        have bb := b1.trans (hfr.below (B := w.heap.size) (by omega) (fun j hj => by omega))
        go_wp2_with fail
        refine bodyPost_ret (v := .tuple #[msV nilM, .bool false]) (by simp [results, Try.results33, go_sem, nilM, q1]) rfl ?_
        rw [HE.out]
        exact ⟨nilM, rfl, rfl, rfl, nilMR _ _, (bb.setCell (by simp) _).setCell (by simp) _⟩
    · have hge : ¬ ((k : Int) < 2) := by omega
      obtain ⟨hb0, hrs0, hoe, hne⟩ : 0 < b.length ∧ 0 < (rsO b).length ∧ o = tkO b ∧ n = tkO (rsO b) := by
        rcases HSt.out with ⟨h, _⟩ | ⟨h, _⟩ | ⟨_, h⟩
        · omega
        · omega
        · exact h
      have HFe := Lib.hid (show F = if encM o n = b then (o, n, true) else ([], [], false) by rw [HF.out, if_neg (by omega), if_neg (by omega), ← hoe, ← hne])
      clear hoe hne HSt HF
      have mr : MR wr (fun k => w.heap.size + 2 ≤ k) ⟨A1, c1, o, A2, c2, n⟩ := ⟨ro, rn, hol, hnl⟩
      have bb := b1.trans (hfr.below (B := w.heap.size) (by omega) (fun j hj => by omega))
      have HBy := Lib.hid fun W' (hb : Below wr.heap.size wr W') => bytes_any _ ⟨A1, c1, o, A2, c2, n⟩ W' (mr.below hb)
      have HBk := Lib.hid fun W' (hb : Below wr.heap.size wr W') => (show W'.cell? ⟨w.heap.size + 1, 0, none⟩ = some (.slice A1 o.length c1) ∧ W'.cell? ⟨w.heap.size + 1, 1, none⟩ = some (.slice A2 n.length c2) from ⟨(jr.below hb jr.lt).cell 0, (jr.below hb jr.lt).cell 1⟩)
      have K1 := HBk.out _ (Below.refl _ _)
      have hrw := hrd.fr (S := fun _ => False) (Fr.refl _ _) (fun _ _ => id)
      have HCb := Lib.hid fun W' (hb : Below wr.heap.size wr W') => run_convert_reads (P := Try.prog) Try.underlying45 Try.underlying5 Try.underlying9 (hrd.fr (S := fun _ => False) (Fr.of_below hb) (fun _ _ => id)) c
      have cv0 := HCb.out _ ((Below.refl _ _).drew)
      have hgl : w.heap.size < wr.heap.size := gr.lt
      have HG := Lib.hid fun W' (hb : Below wr.heap.size wr W') => (gr.below hb gr.lt).facts
      have HMb := Lib.hid (encM_bytes o n)
      have hb0' : ((b.length : Int) == 0) = false := beq_eq_false_iff_ne.2 (by omega)
      by_cases hes : encM o n = b
      · have HE := Lib.hid (show F = (o, n, true) by rw [HFe.out, if_pos hes])
        rw [hes] at HBy
        have HCe := Lib.hid fun (W' : World) (A' : Option Addr) (B' : Nat → Prop) (c' : Nat) (r : Reads W' B' 1 A' b.length (bys b)) => run_convert_reads (P := Try.prog) Try.underlying45 Try.underlying5 Try.underlying9 r c'
        clear hes
        go_wp2_with fail
        go_region_held (fun w' => w'.cell? ⟨w.heap.size + 1, 0, none⟩ = some (.slice A1 o.length c1) ∧ w'.cell? ⟨w.heap.size + 1, 1, none⟩ = some (.slice A2 n.length c2)) (first | assumption | exact K1) (first
          | (((with_reducible refine (HBy.out _ ((Below.refl _ _).drew)).mono ?_); rintro e w7 ⟨A7, c7, rfl, hr7, hb7⟩; have B7 := ((Below.refl wr.heap.size wr).drew).trans hb7; clear hb7; have K7 := HBk.out _ B7; have cvb := HCb.out _ B7; have cve := HCe.out _ _ _ c7 hr7)))
        all_goals
          obtain ⟨q0, q1, q2⟩ := HG.out _ B7
          simp only [msZ] at q1
          obtain ⟨K70, K71⟩ := K7
          go_wp2_with fail
          refine bodyPost_ret (v := .tuple #[msV ⟨A1, c1, o, A2, c2, n⟩, .bool true]) (by simp [results, Try.results33, go_sem, q1]) rfl ?_
          rw [HE.out]
          have m7 := mr.below B7
          exact ⟨⟨A1, c1, o, A2, c2, n⟩, rfl, rfl, rfl, ⟨((m7.o.setCell (by simp) _).setCell (by simp) _).more (fun g hg => by omega), ((m7.n.setCell (by simp) _).setCell (by simp) _).more (fun g hg => by omega), hol, hnl⟩, ((bb.trans (B7.mono bb.size)).setCell (by simp) _).setCell (by simp) _⟩
      · have HE := Lib.hid (show F = ([], [], false) by rw [HFe.out, if_neg hes])
        have hsn : ¬ (strOfNums (encM o n)).toList = (strOfNums b).toList := fun e => hes (str_inj HMb.out HB.out e)
        clear hes
        generalize encM o n = es at *
        have hsb : ((strOfNums es).toList == (strOfNums b).toList) = false := by simpa using hsn
        have HCe := Lib.hid fun (W' : World) (A' : Option Addr) (B' : Nat → Prop) (c' : Nat) (r : Reads W' B' 1 A' es.length (bys es)) => run_convert_reads (P := Try.prog) Try.underlying45 Try.underlying5 Try.underlying9 r c'
        go_wp2_with fail
        first | (go_region_held (fun w' => w'.cell? ⟨w.heap.size + 1, 0, none⟩ = some (.slice A1 o.length c1) ∧ w'.cell? ⟨w.heap.size + 1, 1, none⟩ = some (.slice A2 n.length c2)) (first | assumption | exact K1) (first
          | (((with_reducible refine (HBy.out _ ((Below.refl _ _).drew)).mono ?_); rintro e w7 ⟨A7, c7, rfl, hr7, hb7⟩; have B7 := ((Below.refl wr.heap.size wr).drew).trans hb7; clear hb7; have K7 := HBk.out _ B7; have cvb := HCb.out _ B7; have cve := HCe.out _ _ _ c7 hr7)))) | fail
        all_goals
          obtain ⟨q0, q1, q2⟩ := HG.out _ B7
          simp only [msZ] at q1
          go_wp2_with fail
          refine bodyPost_ret (v := .tuple #[msV nilM, .bool false]) (by simp [results, Try.results33, go_sem, nilM, q1]) rfl ?_
          rw [HE.out]
          exact ⟨nilM, rfl, rfl, rfl, nilMR _ _, ((bb.trans (B7.mono bb.size)).setCell (by simp) _).setCell (by simp) _⟩
end Go.Proofs.Ytnpfbpfobbadaaa

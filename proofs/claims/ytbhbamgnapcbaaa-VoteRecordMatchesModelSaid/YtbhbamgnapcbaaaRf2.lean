import Derived.Test.YtbhbamgnapcbaaaRf1
namespace Go.Proofs.Ytbhbamgnapcbaaa
set_option linter.unusedVariables false
open Go.RowKit Go.Own Go.Quo Go.Wire
def AlPost (recs : List (Int × List Int)) (w : World) (e : Ending) (w' : World) : Prop :=
  ∃ (A : Option Addr) (c : Nat) (rs : List Rc), e = .returned (.slice A rs.length c) ∧ rs.map recOf = recs ∧ Reads w' (w.heap.size ≤ ·) 2 A rs.length (rs.flatMap rcL) ∧ (∀ r ∈ rs, Reads w' (w.heap.size ≤ ·) 1 r.A r.body.length (bys r.body)) ∧ Below w.heap.size w w'
set_option maxRecDepth 10000 in
set_option maxHeartbeats 1000000 in
theorem all_any (w : World) (Z : Nat → Prop) (p j : Nat) (recs : List (Int × List Int)) (dur : Int) (off : Bool) (h : JS w Z p j recs dur off) (hl : recs.length ≤ 1000000) (hb : ∀ x ∈ recs, x.2.length ≤ 1000000) :
    Calls Try.prog 26 #[.pointer (some ⟨j, 0, none⟩)] w (AlPost recs w) := by
  have HR := Lib.hid (records_any w Z p j recs dur off h hl hb)
  clear h hb
  obtain ⟨i, hi, hz, hsz, hby⟩ := info_parts info35
  go_enter Try.func26, Try.ntmps26
  go_wp2_with fail
  refine HR.out.mono ?_
  rintro e w2 ⟨ds, rfl, r2, hm2, hd2, hB2⟩
  have hdl : ds.length = recs.length := by rw [← hm2]; simp
  have HM := Lib.hid hm2
  have HD := Lib.hid (fun r hr => (hd2 r hr).old (by omega))
  have R2 := Lib.hid (r2.old (by omega))
  have hdn : ds.length ≤ 1000000 := by omega
  have s2 := hB2.size
  clear hm2 hd2 hdl r2 HR
  go_wp2_with fail
  go_loopw [3, 9] (fun vb vi wr => ∃ (k : Nat) (A : Option Addr) (c : Nat), k ≤ ds.length ∧ vi = .int .i64 k ∧ vb = .slice A k c ∧ wr.ownsRow w2.heap.size 33 2 (.slice A k c) k ((ds.take k).flatMap rcL) ∧ Below w2.heap.size w2 wr) (fun _ vi _ => ds.length - (intOf vi).toNat)
  case atStart => exact ⟨0, none, 0, Nat.zero_le _, rfl, rfl, World.ownsRow_nil _ _ _ _, Below.refl _ _⟩
  case round =>
    obtain ⟨k, A, c, hk, rfl, rfl, hown, hbel⟩ := hrel
    have hsr := hbel.size
    have HOw := Lib.hid hown
    clear hown
    by_cases hlt : k < ds.length
    · have hlt' : (k : Int) < ds.length := by omega
      obtain ⟨x, hgx⟩ : ∃ x, ds[k]? = some x := ⟨_, List.getElem?_eq_getElem hlt⟩
      have HTk := Lib.hid (show ds.take (k + 1) = ds.take k ++ [x] by rw [List.take_add_one, hgx]; rfl)
      have hix : ∀ W : World, (Instr.indexAt 74 (.slice (some ⟨w.heap.size, 0, none⟩) ds.length ds.length) (.int .i64 (k : Int))).run Try.prog W = .ok (.pointer (some ⟨w.heap.size, k * 2, none⟩)) W := fun W => by simpa [bk, ofs, adr] using run_indexAt2 (P := Try.prog) Try.underlying74 hi hsz (A := some ⟨w.heap.size, 0, none⟩) (n := ds.length) (fun _ => ⟨_, _, rfl⟩) ds.length k hlt W
      obtain ⟨c0, c1⟩ := rc_cells (R2.out.below hbel (fun _ h => h.2)) hgx
      simp only [bk, ofs, adr, Option.getD_some, Nat.zero_add] at c0 c1
      clear hgx
      obtain ⟨kd, xA, xc, body⟩ := x
      simp only at c0 c1
      have hown2 := (HOw.out.alloc (.cells #[.int .u8 kd, .slice xA body.length xc] 35)).alloc (.cells #[.int .u8 kd, .slice xA body.length xc] 33)
      go_wp2_with (at_builtin; refine wpList_append_any _ rfl _ _ _ rfl w2.heap.size 33 _ 2 32 Try.underlying22 info33 rfl (by omega) (.slice A k c) k ((ds.take k).flatMap rcL) rfl hown2 _ (some ⟨wr.heap.size + 1, 0, none⟩) 1 1 [.int .u8 kd, .slice xA body.length xc] rfl (Reads.newS _ [.int .u8 kd, .slice xA body.length xc] 33 (0, 0) 1 2 rfl _ (by simp)) (by intro u hu; simp at hu; rcases hu with rfl | rfl <;> rfl) (by simp only [maxLen]; omega) (by omega) (by simp; omega) ?_; intro A4 c4 w4 hown4 hgr4 hat4)
      refine ⟨⟨k + 1, A4, c4, by omega, by go_num, rfl, ?_, ((hbel.alloc hsr _).alloc (by simp; omega) _).grown hgr4 (by simp; omega) (fun g hg => (HOw.out.lt g hg).1)⟩, by simp [intOf]; omega⟩
      rw [HTk.out, List.flatMap_append]
      simpa [rcL] using hown4
    · have hlt' : ¬ (k : Int) < ds.length := by omega
      have he : k = ds.length := by omega
      subst he
      go_wp2
      go_ret
      have o := HOw.out
      rw [List.take_length] at o
      exact ⟨A, c, ds, rfl, HM.out, (Reads.of_own o).more (fun g hg => by have := (o.lt g hg).1; omega), fun r hr => ((HD.out r hr).below hbel (fun _ h => h.2)).more (fun g hg => by have := hg.1; omega), hB2.trans (hbel.mono s2)⟩
set_option maxRecDepth 10000 in
set_option maxHeartbeats 1000000 in
theorem same_recs (w : World) (B1 B2 : Nat → Prop) (A1 A2 : Option Addr) (c1 c2 : Nat) (l1 l2 : List Rc) (hm : l1.map recOf = l2.map recOf) (r1 : Reads w B1 2 A1 l1.length (l1.flatMap rcL)) (r2 : Reads w B2 2 A2 l2.length (l2.flatMap rcL)) (hn : l1.length ≤ 1000000)
    (b1 : ∀ r ∈ l1, Reads w B1 1 r.A r.body.length (bys r.body)) (b2 : ∀ r ∈ l2, Reads w B2 1 r.A r.body.length (bys r.body)) :
    Calls Try.prog 25 #[.slice A1 l1.length c1, .slice A2 l2.length c2] w fun e w' => e = .returned (.bool true) ∧ ∃ n, w' = w.drewN n := by
  have hll : l2.length = l1.length := by have := congrArg List.length hm; simpa using this.symm
  have HM := Lib.hid hm
  have hp1 := r1.plain (by omega)
  have hp2 := r2.plain (by omega)
  have R1 := Lib.hid r1
  have R2 := Lib.hid r2
  have D1 := Lib.hid b1
  have D2 := Lib.hid b2
  rw [hll] at hp2 ⊢
  have HL := Lib.hid hll
  obtain ⟨i, hi, hz, hsz, hby⟩ := info_parts info33
  have hnb : ((l1.length : Int) != (l1.length : Int)) = false := by simp
  clear hm r1 r2 b1 b2 hll
  go_enter Try.func25, Try.ntmps25
  go_wp2_with fail
  go_loopw [5, 13] (fun _ vi wr => ∃ (k n : Nat), k ≤ l1.length ∧ vi = .int .i64 k ∧ wr = w.drewN n) (fun _ vi _ => l1.length - (intOf vi).toNat)
  case atStart => exact ⟨0, 0, Nat.zero_le _, rfl, rfl⟩
  case round =>
    obtain ⟨k, nq, hk, rfl, rfl⟩ := hrel
    by_cases hlt : k < l1.length
    · have hlt' : (k : Int) < l1.length := by omega
      obtain ⟨x, hx⟩ : ∃ x, l1[k]? = some x := ⟨_, List.getElem?_eq_getElem hlt⟩
      obtain ⟨y, hy⟩ : ∃ y, l2[k]? = some y := ⟨_, List.getElem?_eq_getElem (by have := HL.out; omega)⟩
      have hxy : recOf x = recOf y := by
        have := congrArg (fun l => l[k]?) HM.out
        simpa [hx, hy] using this
      obtain ⟨c0, c1'⟩ := rc_cells R1.out hx
      obtain ⟨d0, d1⟩ := rc_cells R2.out hy
      have xr := D1.out x (List.mem_of_getElem? hx)
      have yr := D2.out y (List.mem_of_getElem? hy)
      clear hx hy
      obtain ⟨kd, xA, xc, body⟩ := x
      obtain ⟨kd2, yA, yc, body2⟩ := y
      simp only [recOf, Prod.mk.injEq] at hxy
      obtain ⟨rfl, rfl⟩ := hxy
      simp only at c0 c1' d0 d1 xr yr
      have cv1 := fun q => run_convert_reads (P := Try.prog) Try.underlying31 Try.underlying5 Try.underlying9 (xr.drewN q) xc
      have cv2 := fun q => run_convert_reads (P := Try.prog) Try.underlying31 Try.underlying5 Try.underlying9 (yr.drewN q) yc
      have hix1 := fun W => run_indexAt2 (P := Try.prog) Try.underlying22 hi hsz hp1 c1 k hlt W
      have hix2 := fun W => run_indexAt2 (P := Try.prog) Try.underlying22 hi hsz hp2 c2 k hlt W
      have hkb : (kd != kd) = false := by simp
      clear xr yr
      go_wp2_with fail
      go_quiet (fail)
      go_wp2
      exact ⟨⟨k + 1, _, by omega, by go_num, rfl⟩, by simp [intOf]; omega⟩
    · have hlt' : ¬ (k : Int) < l1.length := by omega
      go_wp2
      go_ret
      exact ⟨rfl, nq, rfl⟩
end Go.Proofs.Ytbhbamgnapcbaaa

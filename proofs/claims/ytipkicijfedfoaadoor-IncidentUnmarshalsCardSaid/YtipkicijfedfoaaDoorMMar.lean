import Derived.Test.YtipkicijfedfoaaDoorMUnm
import Derived.Test.YtipkicijfedfoaaDoorMRbl1
namespace Go.Proofs.YtipkicijfedfoaaDoor
set_option linter.unusedVariables false
set_option linter.unusedSimpArgs false
open Go.RowKit Go.Own Go.Quo Go.Inc Go.Wire
def ByR (l : List Int) (w : World) (e : Ending) (w' : World) : Prop := ∃ A c, e = .returned (.slice A l.length c) ∧ Reads w' (w.heap.size ≤ ·) 1 A l.length (Wr.bys l) ∧ Below w.heap.size w w'
theorem encIs_len {l : List Int} (hm : l.length ≤ 1000) (h : InR l) : (encIs l).length ≤ 10 + 10 * l.length := by
  have h1 := encI_len (n := (l.length : Int)) (by omega) (by omega)
  have h2 := Wr.flat_len l h
  unfold encIs
  rw [List.length_append]; omega
theorem encS_len {s : ByteArray} (h : s.size ≤ 1000) : (Inc.encS s).length ≤ 10 + s.size := by
  have h1 := encI_len (n := (s.size : Int)) (by omega) (by omega)
  unfold Inc.encS
  rw [List.length_append, strL_len]; omega
set_option maxRecDepth 10000 in
set_option maxHeartbeats 8000000 in
theorem mar_no (B : Nat → Prop) (x : Ic) (An Ac Au : Option Addr) (cn cc cu : Nat) (w : World) (hn : RI w B An x.nodes) (hc : RI w B Ac x.calls) (hu : RI w B Au x.units) (hs : x.code.size ≤ 1000) (ln : x.nodes.length ≤ 1000) (lc : x.calls.length ≤ 1000) (lu : x.units.length ≤ 1000) (hv : icB x = false) :
    Calls Tryd.prog 23 #[.agg #[.int .i64 x.id, .int .i64 x.urg, .string x.code, .slice An x.nodes.length cn, .int .i64 x.dist, .int .i64 x.since, .slice Ac x.calls.length cc, .slice Au x.units.length cu, .int .i64 x.merged, .bool x.closed]] w (ByR [] w) := by
  have H14 := Lib.hid (show Calls Tryd.prog 14 #[.agg #[.int .i64 x.id, .int .i64 x.urg, .string x.code, .slice An x.nodes.length cn, .int .i64 x.dist, .int .i64 x.since, .slice Ac x.calls.length cc, .slice Au x.units.length cu, .int .i64 x.merged, .bool x.closed]] (w.alloc (.cells #[.int .i64 x.id, .int .i64 x.urg, .string x.code, .slice An x.nodes.length cn, .int .i64 x.dist, .int .i64 x.since, .slice Ac x.calls.length cc, .slice Au x.units.length cu, .int .i64 x.merged, .bool x.closed] 25)) (BoolB (icB x) (w.alloc (.cells #[.int .i64 x.id, .int .i64 x.urg, .string x.code, .slice An x.nodes.length cn, .int .i64 x.dist, .int .i64 x.since, .slice Ac x.calls.length cc, .slice Au x.units.length cu, .int .i64 x.merged, .bool x.closed] 25))) from valid14 B x.id x.urg x.dist x.since x.merged x.code An Ac Au cn cc cu x.nodes x.calls x.units x.closed _ (by omega) (hn.alloc _) (hc.alloc _) (hu.alloc _) (by omega) (by omega) (by omega))
  have HB := Lib.hid ((Below.refl w.heap.size w).alloc (Nat.le_refl _) (.cells #[.int .i64 x.id, .int .i64 x.urg, .string x.code, .slice An x.nodes.length cn, .int .i64 x.dist, .int .i64 x.since, .slice Ac x.calls.length cc, .slice Au x.units.length cu, .int .i64 x.merged, .bool x.closed] 25))
  obtain ⟨x0, x1, x2⟩ := (Blk.new w 25 #[.int .i64 x.id, .int .i64 x.urg, .string x.code, .slice An x.nodes.length cn, .int .i64 x.dist, .int .i64 x.since, .slice Ac x.calls.length cc, .slice Au x.units.length cu, .int .i64 x.merged, .bool x.closed]).facts
  rw [hv] at H14
  clear hv hn hc hu
  go_enter Tryd.func23, Tryd.ntmps23
  go_wp2_with (go_at_call 14; ((with_reducible refine H14.out.mono ?_); rintro e w2 ⟨rfl, hb⟩))
  go_ret
  exact ⟨none, 0, rfl, Reads.none_, HB.out.trans (hb.mono HB.out.size)⟩
set_option maxRecDepth 10000 in
set_option maxHeartbeats 8000000 in
theorem mar_yes (B : Nat → Prop) (x : Ic) (An Ac Au : Option Addr) (cn cc cu : Nat) (w : World) (hn : RI w B An x.nodes) (hc : RI w B Ac x.calls) (hu : RI w B Au x.units) (hs : x.code.size ≤ 1000) (ln : x.nodes.length ≤ 1000) (lc : x.calls.length ≤ 1000) (lu : x.units.length ≤ 1000) (hv : icB x = true) :
    Calls Tryd.prog 23 #[.agg #[.int .i64 x.id, .int .i64 x.urg, .string x.code, .slice An x.nodes.length cn, .int .i64 x.dist, .int .i64 x.since, .slice Ac x.calls.length cc, .slice Au x.units.length cu, .int .i64 x.merged, .bool x.closed]] w (ByR (encX x) w) := by
  have H14 := Lib.hid (show Calls Tryd.prog 14 #[.agg #[.int .i64 x.id, .int .i64 x.urg, .string x.code, .slice An x.nodes.length cn, .int .i64 x.dist, .int .i64 x.since, .slice Ac x.calls.length cc, .slice Au x.units.length cu, .int .i64 x.merged, .bool x.closed]] (w.alloc (.cells #[.int .i64 x.id, .int .i64 x.urg, .string x.code, .slice An x.nodes.length cn, .int .i64 x.dist, .int .i64 x.since, .slice Ac x.calls.length cc, .slice Au x.units.length cu, .int .i64 x.merged, .bool x.closed] 25)) (BoolB (icB x) (w.alloc (.cells #[.int .i64 x.id, .int .i64 x.urg, .string x.code, .slice An x.nodes.length cn, .int .i64 x.dist, .int .i64 x.since, .slice Ac x.calls.length cc, .slice Au x.units.length cu, .int .i64 x.merged, .bool x.closed] 25))) from valid14 B x.id x.urg x.dist x.since x.merged x.code An Ac Au cn cc cu x.nodes x.calls x.units x.closed _ (by omega) (hn.alloc _) (hc.alloc _) (hu.alloc _) (by omega) (by omega) (by omega))
  have HB := Lib.hid ((Below.refl w.heap.size w).alloc (Nat.le_refl _) (.cells #[.int .i64 x.id, .int .i64 x.urg, .string x.code, .slice An x.nodes.length cn, .int .i64 x.dist, .int .i64 x.since, .slice Ac x.calls.length cc, .slice Au x.units.length cu, .int .i64 x.merged, .bool x.closed] 25))
  have HX := Lib.hid (Blk.new w 25 #[.int .i64 x.id, .int .i64 x.urg, .string x.code, .slice An x.nodes.length cn, .int .i64 x.dist, .int .i64 x.since, .slice Ac x.calls.length cc, .slice Au x.units.length cu, .int .i64 x.merged, .bool x.closed])
  have HN := Lib.hid (((hn.old (by omega)).more (B' := fun k => k < w.heap.size) (fun k hk => hk.2)).alloc (.cells #[.int .i64 x.id, .int .i64 x.urg, .string x.code, .slice An x.nodes.length cn, .int .i64 x.dist, .int .i64 x.since, .slice Ac x.calls.length cc, .slice Au x.units.length cu, .int .i64 x.merged, .bool x.closed] 25))
  have HC := Lib.hid (((hc.old (by omega)).more (B' := fun k => k < w.heap.size) (fun k hk => hk.2)).alloc (.cells #[.int .i64 x.id, .int .i64 x.urg, .string x.code, .slice An x.nodes.length cn, .int .i64 x.dist, .int .i64 x.since, .slice Ac x.calls.length cc, .slice Au x.units.length cu, .int .i64 x.merged, .bool x.closed] 25))
  have HU := Lib.hid (((hu.old (by omega)).more (B' := fun k => k < w.heap.size) (fun k hk => hk.2)).alloc (.cells #[.int .i64 x.id, .int .i64 x.urg, .string x.code, .slice An x.nodes.length cn, .int .i64 x.dist, .int .i64 x.since, .slice Ac x.calls.length cc, .slice Au x.units.length cu, .int .i64 x.merged, .bool x.closed] 25))
  have hz0 : (w.alloc (.cells #[.int .i64 x.id, .int .i64 x.urg, .string x.code, .slice An x.nodes.length cn, .int .i64 x.dist, .int .i64 x.since, .slice Ac x.calls.length cc, .slice Au x.units.length cu, .int .i64 x.merged, .bool x.closed] 25)).heap.size = w.heap.size + 1 := by simp
  obtain ⟨⟨a1, a2⟩, ⟨a3, a4⟩, r8, b9, -, b2, b6, r4, r7⟩ := icB_bits hv
  have b1 : In64 x.id := ⟨by omega, by omega⟩
  have b5 : In64 x.dist := ⟨by omega, by omega⟩
  obtain ⟨x0, x1, x2⟩ := HX.out.facts
  rw [hv] at H14
  clear hv hn hc hu a1 a2 a3 a4
  have hmk := run_make1 (P := Tryd.prog) 22 3 (.int .i64 0) 8 Tryd.underlying22 info3 rfl x.calls.length (by omega) (by omega)
  go_enter Tryd.func23, Tryd.ntmps23
  go_upto_region 3 with (go_at_call 14; ((with_reducible refine H14.out.mono ?_); rintro e w2 ⟨rfl, hb⟩; have HX2 := Lib.hid (HX.out.below hb HX.out.lt); have HB2 := Lib.hid (HB.out.trans (hb.mono HB.out.size)); have HN2 := Lib.hid (HN.out.below hb (fun k hk => by have h2 : k < w.heap.size := hk; omega)); have HC2 := Lib.hid (HC.out.below hb (fun k hk => by have h2 : k < w.heap.size := hk; omega)); have HU2 := Lib.hid (HU.out.below hb (fun k hk => by have h2 : k < w.heap.size := hk; omega)); have hs2 := hb.size; clear hb x0 x1 x2; obtain ⟨x0, x1, x2⟩ := HX2.out.facts))
  rw [hz0] at hs2
  clear HX HB HN HC HU H14 hz0
  have HX3 := Lib.hid (HX2.out.alloc (.cells (zrow (.int .i64 0) x.calls.length) 3))
  have HB3 := Lib.hid (HB2.out.alloc HB2.out.size (.cells (zrow (.int .i64 0) x.calls.length) 3))
  have HN3 := Lib.hid (HN2.out.alloc (.cells (zrow (.int .i64 0) x.calls.length) 3))
  have HC3 := Lib.hid (HC2.out.alloc (.cells (zrow (.int .i64 0) x.calls.length) 3))
  have HU3 := Lib.hid (HU2.out.alloc (.cells (zrow (.int .i64 0) x.calls.length) 3))
  have HG3 := Lib.hid (show Blk (w2.alloc (.cells (zrow (.int .i64 0) x.calls.length) 3)) w2.heap.size 3 (Wr.ivs (List.replicate x.calls.length 0)).toArray by
    have := Blk.new w2 3 (zrow (.int .i64 0) x.calls.length)
    have e : zrow (.int .i64 0) x.calls.length = (Wr.ivs (List.replicate x.calls.length 0)).toArray := by simp [zrow, Wr.ivs]
    rw [← e]; exact this)
  have hgs : (w2.alloc (.cells (zrow (.int .i64 0) x.calls.length) 3)).heap.size = w2.heap.size + 1 := by simp
  obtain ⟨x0', x1', x2'⟩ := HX3.out.facts
  go_upto_block 0 with (fail)
  clear hmk HX2 HB2 HN2 HC2 HU2 x0 x1 x2
  generalize w2.alloc _ = W3 at *
  generalize w2.heap.size = g at *
  have hpC := HC3.out.plain (by omega)
  go_wp2_with fail
  go_loopw [17] (fun vi wr => ∃ (k : Nat) (q : List Int), k ≤ x.calls.length ∧ vi = .int .i64 (k : Int) ∧ q.length = x.calls.length ∧ (∀ j, j < k → gd q j = gd x.calls j) ∧ Blk wr g 3 (Wr.ivs q).toArray ∧ Fr (fun j => j = g) W3 wr) (fun vi _ => x.calls.length - (intOf vi).toNat)
  case atStart => exact ⟨0, _, Nat.zero_le _, rfl, by simp, fun j hj => by omega, HG3.out, Fr.refl _ _⟩
  case round =>
    obtain ⟨k, q, hk, rfl, hql, hqv, hG, hF⟩ := hrel
    have HQl := Lib.hid hql
    have HQv := Lib.hid hqv
    have HG := Lib.hid hG
    have HF := Lib.hid hF
    have hq1 : q.length ≤ x.calls.length := by omega
    have hq2 : x.calls.length ≤ q.length := by omega
    clear hql hqv hG hF
    by_cases hlt : k < x.calls.length
    · have hlt' : (k : Int) < x.calls.length := by omega
      have hix := fun W => ix23 hpC cc k hlt W
      have hcc := ri_cell (HC3.out.fr HF.out (fun j hj e => by have h2 : j < w.heap.size := hj; have e2 : j = g := e; omega)) hlt
      have hix2 : ∀ W : World, (Instr.indexAt 22 (.slice (some ⟨g, 0, none⟩) x.calls.length x.calls.length) (.int .i64 (k : Int))).run Tryd.prog W = .ok (.pointer (some ⟨g, k, none⟩)) W := fun W => by
        have := ix22 (A := some ⟨g, 0, none⟩) (n := x.calls.length) (fun _ => ⟨g, 0, rfl⟩) x.calls.length k hlt W
        simpa [bk, ofs, adr] using this
      have HV := Lib.hid (show ∀ v, v = gd x.calls k → ∀ j, j < k + 1 → gd (q.set k v) j = gd x.calls j from fun v hv j hj => by
        rw [Wr.gd_set (by omega)]
        by_cases hjk : j = k
        · rw [if_pos hjk, hv, hjk]
        · rw [if_neg hjk]; exact HQv.out j (by omega))
      obtain ⟨v, hv⟩ : ∃ v, v = gd x.calls k := ⟨_, rfl⟩
      rw [← hv] at hcc
      have HVv := Lib.hid (HV.out v hv)
      clear HV hv
      have a0 := HG.out.lt
      have a2 := HG.out.frozen
      have hcq : wr.cell? ⟨g, k, none⟩ = some (.int .i64 (gd q k)) := by rw [HG.out.cell]; exact Wr.ivs_get (by omega)
      have hG2 := HG.out.set_ k (.int .i64 v)
      rw [Wr.ivs_set] at hG2
      have HG2 := Lib.hid hG2
      have HF2 := Lib.hid (HF.out.setCell (p := ⟨g, k, none⟩) (.inl rfl) (.int .i64 v))
      clear hG2
      go_wp2_with fail
      exact ⟨⟨k + 1, q.set k v, by omega, by go_num, by rw [List.length_set]; omega, HVv.out, HG2.out, HF2.out⟩, by simp [intOf]; omega⟩
    · have hlt' : ¬ (k : Int) < x.calls.length := by omega
      have hk3 : k = x.calls.length := by omega
      subst hk3
      have hqe : q = x.calls := Wr.gd_ext HQl.out (fun j hj => HQv.out j hj)
      have hws := HF.out.size
      have hG := HG.out
      rw [hqe] at hG
      clear HG HQl HQv hq1 hq2 hqe hlt hlt'
      have hC4 : RI (wr.alloc (.cells #[.slice none 0 0] 72)) (fun j => j < wr.heap.size) (some ⟨g, 0, none⟩) x.calls := by
        have h1 := Reads.of_blk (B := fun j => j < wr.heap.size) (n := x.calls.length) (size := 1) hG (by simp) hG.lt
        have h2 : (Wr.ivs x.calls).toArray.toList.take (x.calls.length * 1) = Wr.ivs x.calls := List.take_of_length_le (by simp)
        rw [h2] at h1
        exact h1.alloc _
      have HC0 := Lib.hid hC4
      have hgl := hG.lt
      clear hG hC4
      have HX0 := Lib.hid ((HX3.out.fr HF.out (by show ¬ (w.heap.size = g); omega)).alloc (.cells #[.slice none 0 0] 72))
      have HN0 := Lib.hid (((HN3.out.fr HF.out (fun j hj e => by have h2 : j < w.heap.size := hj; have e2 : j = g := e; omega)).alloc (.cells #[.slice none 0 0] 72)).more (B' := fun j => j < w.heap.size ∧ j < wr.heap.size) (fun j hj => ⟨hj, by have h2 : j < w.heap.size := hj; omega⟩))
      have HU0 := Lib.hid (((HU3.out.fr HF.out (fun j hj e => by have h2 : j < w.heap.size := hj; have e2 : j = g := e; omega)).alloc (.cells #[.slice none 0 0] 72)).more (B' := fun j => j < w.heap.size ∧ j < wr.heap.size) (fun j hj => ⟨hj, by have h2 : j < w.heap.size := hj; omega⟩))
      have HB0 := Lib.hid ((HB3.out.trans (HF.out.below (B := w.heap.size) HB3.out.size (fun j hj e => by have e2 : j = g := e; omega))).alloc (by omega) (.cells #[.slice none 0 0] 72))
      have HW0 := Lib.hid (Wr.WrP.new wr)
      have hwl : w.heap.size + 1 < wr.heap.size := by omega
      clear HX3 HB3 HN3 HC3 HU3 HG3 HF x0' x1' x2' hgs
      go_upto_region 10 with (fail)
      generalize wr.alloc _ = W4 at *
      generalize wr.heap.size = p at *
      obtain ⟨x0, x1, x2⟩ := HX0.out.facts
      obtain ⟨o0, ho0⟩ : ∃ o : List Int, o = [] := ⟨_, rfl⟩
      rw [← ho0] at HW0
      have hl0 : o0.length ≤ 0 := by rw [ho0]; exact Nat.le_refl _
      have HO0 := Lib.hid ho0
      clear ho0
      have HI := Lib.hid fun (n : Int) (o : List Int) (W : World) (hw : Wr.WrP W p o) (h0 : -9223372036854775808 ≤ n) (h1 : n < 9223372036854775808) (hl : o.length ≤ 500000) => Wr.int_any p n o W hw h0 h1 (by omega)
      have HS := Lib.hid fun (o : List Int) (W : World) (hw : Wr.WrP W p o) (hl : o.length ≤ 500000) => Wr.wstr_any p x.code o W hw (by omega) (by omega)
      have HL := Lib.hid fun (A : Option Addr) (c : Nat) (l o : List Int) (W : World) (hw : Wr.WrP W p o) (hr : RI W (· < p) A l) (hx : InR l) (hm : l.length ≤ 1000) (hl : o.length ≤ 500000) => Wr.wints_any p A c l o W hw hr hx hm (by omega)
      have HBo := Lib.hid fun (o : List Int) (W : World) (hw : Wr.WrP W p o) (hl : o.length ≤ 500000) => Wr.wbool_any p x.closed o W hw (by omega)
      have HEn := Lib.hid fun (o : List Int) (W : World) (hw : Wr.WrP W p o) (hl : o.length ≤ 500000) => Wr.encoded_any p o W hw (by omega)
      have q1 := encI_len b1.1 b1.2
      have q2 := encI_len b2.1 b2.2
      have q3 := encS_len hs
      have q4 := encIs_len ln r4
      have q5 := encI_len b5.1 b5.2
      have q6 := encI_len b6.1 b6.2
      have q7 := encIs_len lc r7
      have q8 := encIs_len lu r8
      have q9 := encI_len b9.1 b9.2
      have q10 := encB_len x.closed
      have b1 : -9223372036854775808 ≤ x.id ∧ x.id < 9223372036854775808 := b1
      have b2 : -9223372036854775808 ≤ x.urg ∧ x.urg < 9223372036854775808 := b2
      have b5 : -9223372036854775808 ≤ x.dist ∧ x.dist < 9223372036854775808 := b5
      have b6 : -9223372036854775808 ≤ x.since ∧ x.since < 9223372036854775808 := b6
      have b9 : -9223372036854775808 ≤ x.merged ∧ x.merged < 9223372036854775808 := b9
      go_wp2_with (first
        | (go_at_call 55; ((with_reducible refine (HI.out x.id _ _ HW0.out b1.1 b1.2 (by omega)).mono ?_); rintro e w3 ⟨rfl, hw, hb⟩; obtain ⟨o1, ho⟩ : ∃ o, o = o0 ++ Wire.encI x.id := ⟨_, rfl⟩; rw [← ho] at hw; have HW1 := Lib.hid hw; have HO1 := Lib.hid ho; have hl1 : o1.length ≤ 10 := (by rw [ho, List.length_append]; omega); clear hw ho; have HX1 := Lib.hid (HX0.out.below hb (by omega)); have HB1 := Lib.hid (HB0.out.trans (hb.mono (by omega))); have HU1 := Lib.hid (HU0.out.below hb (fun k hk => hk.2)); have HC1 := Lib.hid (HC0.out.below hb (fun k hk => hk)); have HN1 := Lib.hid (HN0.out.below hb (fun k hk => hk.2)); clear hb x0 x1 x2; obtain ⟨x0, x1, x2⟩ := HX1.out.facts))
        | (go_at_call 55; ((with_reducible refine (HI.out x.urg _ _ HW1.out b2.1 b2.2 (by omega)).mono ?_); rintro e w4 ⟨rfl, hw, hb⟩; obtain ⟨o2, ho⟩ : ∃ o, o = o1 ++ Wire.encI x.urg := ⟨_, rfl⟩; rw [← ho] at hw; have HW2 := Lib.hid hw; have HO2 := Lib.hid ho; have hl2 : o2.length ≤ 20 := (by rw [ho, List.length_append]; omega); clear hw ho; have HX2 := Lib.hid (HX1.out.below hb (by omega)); have HB2 := Lib.hid (HB1.out.trans (hb.mono (by omega))); have HU2 := Lib.hid (HU1.out.below hb (fun k hk => hk.2)); have HC2 := Lib.hid (HC1.out.below hb (fun k hk => hk)); have HN2 := Lib.hid (HN1.out.below hb (fun k hk => hk.2)); clear hb x0 x1 x2; obtain ⟨x0, x1, x2⟩ := HX2.out.facts))
        | (go_at_call 56; ((with_reducible refine (HS.out _ _ HW2.out (by omega)).mono ?_); rintro e w5 ⟨rfl, hw, hb⟩; obtain ⟨o3, ho⟩ : ∃ o, o = o2 ++ Inc.encS x.code := ⟨_, rfl⟩; rw [← ho] at hw; have HW3 := Lib.hid hw; have HO3 := Lib.hid ho; have hl3 : o3.length ≤ 1100 := (by rw [ho, List.length_append]; omega); clear hw ho; have HX3 := Lib.hid (HX2.out.below hb (by omega)); have HB3 := Lib.hid (HB2.out.trans (hb.mono (by omega))); have HU3 := Lib.hid (HU2.out.below hb (fun k hk => hk.2)); have HC3 := Lib.hid (HC2.out.below hb (fun k hk => hk)); have HN3 := Lib.hid (HN2.out.below hb (fun k hk => hk.2)); clear hb x0 x1 x2; obtain ⟨x0, x1, x2⟩ := HX3.out.facts))
        | (go_at_call 57; ((with_reducible refine (HL.out An cn x.nodes _ _ HW3.out (HN3.out.more (fun k hk => hk.2)) r4 ln (by omega)).mono ?_); rintro e w6 ⟨rfl, hw, hb⟩; obtain ⟨o4, ho⟩ : ∃ o, o = o3 ++ Wire.encIs x.nodes := ⟨_, rfl⟩; rw [← ho] at hw; have HW4 := Lib.hid hw; have HO4 := Lib.hid ho; have hl4 : o4.length ≤ 12000 := (by rw [ho, List.length_append]; omega); clear hw ho; have HX4 := Lib.hid (HX3.out.below hb (by omega)); have HB4 := Lib.hid (HB3.out.trans (hb.mono (by omega))); have HU4 := Lib.hid (HU3.out.below hb (fun k hk => hk.2)); have HC4 := Lib.hid (HC3.out.below hb (fun k hk => hk)); have HN4 := Lib.hid (HN3.out.below hb (fun k hk => hk.2)); clear hb x0 x1 x2; obtain ⟨x0, x1, x2⟩ := HX4.out.facts))
        | (go_at_call 55; ((with_reducible refine (HI.out x.dist _ _ HW4.out b5.1 b5.2 (by omega)).mono ?_); rintro e w7 ⟨rfl, hw, hb⟩; obtain ⟨o5, ho⟩ : ∃ o, o = o4 ++ Wire.encI x.dist := ⟨_, rfl⟩; rw [← ho] at hw; have HW5 := Lib.hid hw; have HO5 := Lib.hid ho; have hl5 : o5.length ≤ 12010 := (by rw [ho, List.length_append]; omega); clear hw ho; have HX5 := Lib.hid (HX4.out.below hb (by omega)); have HB5 := Lib.hid (HB4.out.trans (hb.mono (by omega))); have HU5 := Lib.hid (HU4.out.below hb (fun k hk => hk.2)); have HC5 := Lib.hid (HC4.out.below hb (fun k hk => hk)); have HN5 := Lib.hid (HN4.out.below hb (fun k hk => hk.2)); clear hb x0 x1 x2; obtain ⟨x0, x1, x2⟩ := HX5.out.facts))
        | (go_at_call 55; ((with_reducible refine (HI.out x.since _ _ HW5.out b6.1 b6.2 (by omega)).mono ?_); rintro e w8 ⟨rfl, hw, hb⟩; obtain ⟨o6, ho⟩ : ∃ o, o = o5 ++ Wire.encI x.since := ⟨_, rfl⟩; rw [← ho] at hw; have HW6 := Lib.hid hw; have HO6 := Lib.hid ho; have hl6 : o6.length ≤ 12020 := (by rw [ho, List.length_append]; omega); clear hw ho; have HX6 := Lib.hid (HX5.out.below hb (by omega)); have HB6 := Lib.hid (HB5.out.trans (hb.mono (by omega))); have HU6 := Lib.hid (HU5.out.below hb (fun k hk => hk.2)); have HC6 := Lib.hid (HC5.out.below hb (fun k hk => hk)); have HN6 := Lib.hid (HN5.out.below hb (fun k hk => hk.2)); clear hb x0 x1 x2; obtain ⟨x0, x1, x2⟩ := HX6.out.facts))
        | (go_at_call 57; ((with_reducible refine (HL.out (some ⟨g, 0, none⟩) x.calls.length x.calls _ _ HW6.out HC6.out r7 lc (by omega)).mono ?_); rintro e w9 ⟨rfl, hw, hb⟩; obtain ⟨o7, ho⟩ : ∃ o, o = o6 ++ Wire.encIs x.calls := ⟨_, rfl⟩; rw [← ho] at hw; have HW7 := Lib.hid hw; have HO7 := Lib.hid ho; have hl7 : o7.length ≤ 23000 := (by rw [ho, List.length_append]; omega); clear hw ho; have HX7 := Lib.hid (HX6.out.below hb (by omega)); have HB7 := Lib.hid (HB6.out.trans (hb.mono (by omega))); have HU7 := Lib.hid (HU6.out.below hb (fun k hk => hk.2)); have HC7 := Lib.hid (HC6.out.below hb (fun k hk => hk)); have HN7 := Lib.hid (HN6.out.below hb (fun k hk => hk.2)); clear hb x0 x1 x2; obtain ⟨x0, x1, x2⟩ := HX7.out.facts))
        | (go_at_call 57; ((with_reducible refine (HL.out Au cu x.units _ _ HW7.out (HU7.out.more (fun k hk => hk.2)) r8 lu (by omega)).mono ?_); rintro e w10 ⟨rfl, hw, hb⟩; obtain ⟨o8, ho⟩ : ∃ o, o = o7 ++ Wire.encIs x.units := ⟨_, rfl⟩; rw [← ho] at hw; have HW8 := Lib.hid hw; have HO8 := Lib.hid ho; have hl8 : o8.length ≤ 34000 := (by rw [ho, List.length_append]; omega); clear hw ho; have HX8 := Lib.hid (HX7.out.below hb (by omega)); have HB8 := Lib.hid (HB7.out.trans (hb.mono (by omega))); have HU8 := Lib.hid (HU7.out.below hb (fun k hk => hk.2)); have HC8 := Lib.hid (HC7.out.below hb (fun k hk => hk)); have HN8 := Lib.hid (HN7.out.below hb (fun k hk => hk.2)); clear hb x0 x1 x2; obtain ⟨x0, x1, x2⟩ := HX8.out.facts))
        | (go_at_call 55; ((with_reducible refine (HI.out x.merged _ _ HW8.out b9.1 b9.2 (by omega)).mono ?_); rintro e w11 ⟨rfl, hw, hb⟩; obtain ⟨o9, ho⟩ : ∃ o, o = o8 ++ Wire.encI x.merged := ⟨_, rfl⟩; rw [← ho] at hw; have HW9 := Lib.hid hw; have HO9 := Lib.hid ho; have hl9 : o9.length ≤ 34010 := (by rw [ho, List.length_append]; omega); clear hw ho; have HX9 := Lib.hid (HX8.out.below hb (by omega)); have HB9 := Lib.hid (HB8.out.trans (hb.mono (by omega))); have HU9 := Lib.hid (HU8.out.below hb (fun k hk => hk.2)); have HC9 := Lib.hid (HC8.out.below hb (fun k hk => hk)); have HN9 := Lib.hid (HN8.out.below hb (fun k hk => hk.2)); clear hb x0 x1 x2; obtain ⟨x0, x1, x2⟩ := HX9.out.facts))
        | (go_at_call 58; ((with_reducible refine (HBo.out _ _ HW9.out (by omega)).mono ?_); rintro e w12 ⟨rfl, hw, hb⟩; obtain ⟨o10, ho⟩ : ∃ o, o = o9 ++ Inc.encB x.closed := ⟨_, rfl⟩; rw [← ho] at hw; have HW10 := Lib.hid hw; have HO10 := Lib.hid ho; have hl10 : o10.length ≤ 34011 := (by rw [ho, List.length_append]; omega); clear hw ho; have HX10 := Lib.hid (HX9.out.below hb (by omega)); have HB10 := Lib.hid (HB9.out.trans (hb.mono (by omega))); have HU10 := Lib.hid (HU9.out.below hb (fun k hk => hk.2)); have HC10 := Lib.hid (HC9.out.below hb (fun k hk => hk)); have HN10 := Lib.hid (HN9.out.below hb (fun k hk => hk.2)); clear hb x0 x1 x2; obtain ⟨x0, x1, x2⟩ := HX10.out.facts))
        | (go_at_call 59; ((with_reducible refine (HEn.out _ _ HW10.out (by omega)).mono ?_); rintro e w20 ⟨A20, c20, rfl, hr20, hb20⟩)))
      go_ret
      have he : o10 = encX x := by
        rw [HO10.out, HO9.out, HO8.out, HO7.out, HO6.out, HO5.out, HO4.out, HO3.out, HO2.out, HO1.out, HO0.out]
        unfold encX
        simp only [List.append_assoc, List.nil_append]
      rw [← he]
      exact ⟨A20, c20, rfl, hr20.more (fun j hj => Nat.le_trans HB10.out.size hj), HB10.out.trans (hb20.mono HB10.out.size)⟩
end Go.Proofs.YtipkicijfedfoaaDoor

import Derived.Test.YtipkicijfedfoaaDoorNar1
import Derived.Test.YtipkicijfedfoaaDoorAlv2
import Derived.Test.YtipkicijfedfoaaDoorOpnI
import Derived.Test.YtipkicijfedfoaaDoorInc7
import Derived.Deep.MidRow
namespace Go.Proofs.YtipkicijfedfoaaDoor
set_option linter.unusedVariables false
set_option linter.unusedSimpArgs false
open Go.RowKit Go.Own Go.Quo Go.Inc Go.Wire
def LawPost (w : World) (e : Ending) (w' : World) : Prop := e = .returned (.bool true) ∧ Below w.heap.size w w'
theorem reach_held {w w' : World} {g : Nat} {t : TypeId} {v0 v1 v2 v3 v4 v5 v6 v7 v8 v9 : Value} (h : Blk w' g t #[v0, v1, v2, v3, v4, v5, v6, v7, v8, v9]) : w'.cell? ⟨g, 0, none⟩ = some v0 ∧ w'.cell? ⟨g, 1, none⟩ = some v1 ∧ w'.cell? ⟨g, 2, none⟩ = some v2 ∧ w'.cell? ⟨g, 3, none⟩ = some v3 ∧ w'.cell? ⟨g, 4, none⟩ = some v4 ∧ w'.cell? ⟨g, 5, none⟩ = some v5 ∧ w'.cell? ⟨g, 6, none⟩ = some v6 ∧ w'.cell? ⟨g, 7, none⟩ = some v7 ∧ w'.cell? ⟨g, 8, none⟩ = some v8 ∧ w'.cell? ⟨g, 9, none⟩ = some v9 := by
  refine ⟨?_, ?_, ?_, ?_, ?_, ?_, ?_, ?_, ?_, ?_⟩ <;> (rw [Blk.cell h]; rfl)
theorem info27 : (Tryd.prog.info? 27).map (fun i => (i.zero, i.size, i.bytes)) = some (some (.agg #[.int .i64 0, .int .i64 0, .int .i64 0, .string ⟨#[]⟩, .slice none 0 0, .int .i64 0, .int .i64 0, .bool false]), 8, 88) := by kernel_rfl
theorem i27x : ∃ i, Tryd.prog.info? 27 = some i ∧ i.size = 8 := by obtain ⟨i, h, _, h2, _⟩ := info_parts info27; exact ⟨i, h, h2⟩
theorem ix36 {A : Option Addr} {n : Nat} (hA : Plain A n) (c k : Nat) (hk : k < n) (w : World) : (Instr.indexAt 36 (.slice A n c) (.int .i64 (k : Int))).run Tryd.prog w = .ok (.pointer (some ⟨bk A, ofs A + k * 8, none⟩)) w := by
  obtain ⟨i, h1, h2⟩ := i27x
  exact run_indexAt2 (P := Tryd.prog) Tryd.underlying36 h1 h2 hA c k hk w
theorem ca_range {w : World} {B : Nat → Prop} {A : Option Addr} {ts : List Ca} (h : Reads w B 8 A ts.length (ts.flatMap caL)) {k : Nat} (hk : k < ts.length) : w.rangeAt (bk A) (ofs A + k * 8) (caL ts[k]) := by
  intro j v hv
  have hj : j < 8 := by have := (List.getElem?_eq_some_iff.1 hv).1; simpa [caL] using this
  have hlt : k * 8 + j < ts.length * 8 := by omega
  have := h.cell2 (k * 8 + j) hlt (by omega)
  rw [flat_get caL 8 (fun _ => rfl) ts k j _ (List.getElem?_eq_getElem hk) hj] at this
  rw [Nat.add_assoc, this]; exact hv
set_option maxRecDepth 10000 in
set_option maxHeartbeats 16000000 in
theorem narrows4 (x : Ic) (An Ac Au : Option Addr) (cn cc cu : Nat) (ts : List Ca) (A : Option Addr) (c : Nat) (w : World) (ht : Tab w)
    (hn : RI w (· < w.heap.size) An x.nodes) (hc : RI w (· < w.heap.size) Ac x.calls) (hu : RI w (· < w.heap.size) Au x.units) (h : Reads w (· < w.heap.size) 8 A ts.length (ts.flatMap caL)) (hts : ∀ t ∈ ts, RI w (· < w.heap.size) t.A t.c.nodes) :
    Calls Tryd.prog 4 #[.agg #[.int .i64 x.id, .int .i64 x.urg, .string x.code, .slice An x.nodes.length cn, .int .i64 x.dist, .int .i64 x.since, .slice Ac x.calls.length cc, .slice Au x.units.length cu, .int .i64 x.merged, .bool x.closed], .slice A ts.length c] w (LawPost w) := by
  have hp := h.plain (by omega)
  have HR := Lib.hid h
  have HTs := Lib.hid hts
  have HT := Lib.hid ht
  have H9 := Lib.hid fun (W : World) (hb : Below w.heap.size w W) => alive9 W (Tab.below HT.out hb HT.out.lt)
  have H10 := Lib.hid fun (W : World) => small10 x.id x.urg x.dist x.since x.merged x.code An Ac Au x.nodes.length x.calls.length x.units.length cn cc cu x.closed W
  have HB := Lib.hid ((Below.refl w.heap.size w).alloc (Nat.le_refl _) (.cells #[.int .i64 x.id, .int .i64 x.urg, .string x.code, .slice An x.nodes.length cn, .int .i64 x.dist, .int .i64 x.since, .slice Ac x.calls.length cc, .slice Au x.units.length cu, .int .i64 x.merged, .bool x.closed] 25))
  have HX := Lib.hid (Blk.new w 25 #[.int .i64 x.id, .int .i64 x.urg, .string x.code, .slice An x.nodes.length cn, .int .i64 x.dist, .int .i64 x.since, .slice Ac x.calls.length cc, .slice Au x.units.length cu, .int .i64 x.merged, .bool x.closed])
  have HN := Lib.hid (hn.alloc (.cells #[.int .i64 x.id, .int .i64 x.urg, .string x.code, .slice An x.nodes.length cn, .int .i64 x.dist, .int .i64 x.since, .slice Ac x.calls.length cc, .slice Au x.units.length cu, .int .i64 x.merged, .bool x.closed] 25))
  have HC := Lib.hid (hc.alloc (.cells #[.int .i64 x.id, .int .i64 x.urg, .string x.code, .slice An x.nodes.length cn, .int .i64 x.dist, .int .i64 x.since, .slice Ac x.calls.length cc, .slice Au x.units.length cu, .int .i64 x.merged, .bool x.closed] 25))
  have HU := Lib.hid (hu.alloc (.cells #[.int .i64 x.id, .int .i64 x.urg, .string x.code, .slice An x.nodes.length cn, .int .i64 x.dist, .int .i64 x.since, .slice Ac x.calls.length cc, .slice Au x.units.length cu, .int .i64 x.merged, .bool x.closed] 25))
  obtain ⟨x0, x1, x2⟩ := HX.out.facts
  clear hn hc hu h ht hts
  cases h0 : (decide (x.nodes.length ≤ 60) && decide (x.calls.length ≤ 60) && decide (x.units.length ≤ 60) && decide (x.code.size ≤ 100)) with
  | false =>
    rw [h0] at H10
    clear h0
    go_enter Tryd.func4, Tryd.ntmps4
    go_wp2_with (first | (go_at_call 9; ((with_reducible refine (H9.out _ HB.out).mono ?_); rintro e w2 ⟨rfl, hb⟩; have HX := Lib.hid (HX.out.below hb HX.out.lt); have HB := Lib.hid (HB.out.trans (hb.mono HB.out.size)); clear x0 x1 x2; obtain ⟨x0, x1, x2⟩ := HX.out.facts; clear hb)) | (go_at_call 10; ((with_reducible refine (H10.out _).mono ?_); rintro e w3 ⟨rfl, hb⟩; have HX := Lib.hid (HX.out.below hb HX.out.lt); have HB := Lib.hid (HB.out.trans (hb.mono HB.out.size)); clear x0 x1 x2; obtain ⟨x0, x1, x2⟩ := HX.out.facts; clear hb)))
    go_ret
    exact ⟨rfl, HB.out⟩
  | true =>
    rw [h0] at H10
    by_cases h1 : 12 < ts.length
    · have h1' : (12 : Int) < ts.length := by omega
      clear h0
      go_enter Tryd.func4, Tryd.ntmps4
      go_wp2_with (first | (go_at_call 9; ((with_reducible refine (H9.out _ HB.out).mono ?_); rintro e w2 ⟨rfl, hb⟩; have HX := Lib.hid (HX.out.below hb HX.out.lt); have HB := Lib.hid (HB.out.trans (hb.mono HB.out.size)); clear x0 x1 x2; obtain ⟨x0, x1, x2⟩ := HX.out.facts; clear hb)) | (go_at_call 10; ((with_reducible refine (H10.out _).mono ?_); rintro e w3 ⟨rfl, hb⟩; have HX := Lib.hid (HX.out.below hb HX.out.lt); have HB := Lib.hid (HB.out.trans (hb.mono HB.out.size)); clear x0 x1 x2; obtain ⟨x0, x1, x2⟩ := HX.out.facts; clear hb)))
      go_ret
      exact ⟨rfl, HB.out⟩
    · have h1' : ¬ (12 : Int) < ts.length := by omega
      simp only [Bool.and_eq_true, decide_eq_true_eq] at h0
      obtain ⟨⟨⟨ln, lc⟩, lu⟩, ls⟩ := h0
      have HLs := Lib.hid (And.intro ln (And.intro lc (And.intro lu ls)))
      clear ln lc lu ls
      go_enter Tryd.func4, Tryd.ntmps4
      go_upto_block 0 with (first | (go_at_call 9; ((with_reducible refine (H9.out _ HB.out).mono ?_); rintro e w2 ⟨rfl, hb⟩; have HN2 := Lib.hid (HN.out.below hb (fun k hk => Nat.lt_of_lt_of_le hk (by simp))); have HC2 := Lib.hid (HC.out.below hb (fun k hk => Nat.lt_of_lt_of_le hk (by simp))); have HU2 := Lib.hid (HU.out.below hb (fun k hk => Nat.lt_of_lt_of_le hk (by simp))); have HX := Lib.hid (HX.out.below hb HX.out.lt); have HB := Lib.hid (HB.out.trans (hb.mono HB.out.size)); clear x0 x1 x2; obtain ⟨x0, x1, x2⟩ := HX.out.facts; clear hb)) | (go_at_call 10; ((with_reducible refine (H10.out _).mono ?_); rintro e w3 ⟨rfl, hb⟩; have HN3 := Lib.hid ((HN2.out.old (by omega)).below hb (fun k hk => hk.2)); have HC3 := Lib.hid ((HC2.out.old (by omega)).below hb (fun k hk => hk.2)); have HU3 := Lib.hid ((HU2.out.old (by omega)).below hb (fun k hk => hk.2)); have HX := Lib.hid (HX.out.below hb HX.out.lt); have HB := Lib.hid (HB.out.trans (hb.mono HB.out.size)); clear x0 x1 x2; obtain ⟨x0, x1, x2⟩ := HX.out.facts; clear hb)))
      have HI := Lib.hid (show ∃ (k : Nat) (y : Ic) (Ay Acy Auy : Option Addr) (cny ccy cuy : Nat), k ≤ ts.length ∧ Value.int .i64 0 = .int .i64 (k : Int) ∧ Blk w3 w.heap.size 25 #[.int .i64 y.id, .int .i64 y.urg, .string y.code, .slice Ay y.nodes.length cny, .int .i64 y.dist, .int .i64 y.since, .slice Acy y.calls.length ccy, .slice Auy y.units.length cuy, .int .i64 y.merged, .bool y.closed] ∧ RI w3 (fun b => b < w3.heap.size ∧ b ≠ w.heap.size) Ay y.nodes ∧ RI w3 (fun b => b < w3.heap.size ∧ b ≠ w.heap.size) Acy y.calls ∧ RI w3 (fun b => b < w3.heap.size ∧ b ≠ w.heap.size) Auy y.units ∧ (y.nodes.length ≤ 60 ∧ y.calls.length ≤ 60 + k ∧ y.units.length ≤ 60 ∧ y.code.size ≤ 100) ∧ Below w.heap.size w w3 from
        ⟨0, x, An, Ac, Au, cn, cc, cu, Nat.zero_le _, rfl, HX.out, HN3.out.more (fun k hk => ⟨Nat.lt_of_lt_of_le hk.1 HB.out.size, Nat.ne_of_lt hk.1⟩), HC3.out.more (fun k hk => ⟨Nat.lt_of_lt_of_le hk.1 HB.out.size, Nat.ne_of_lt hk.1⟩), HU3.out.more (fun k hk => ⟨Nat.lt_of_lt_of_le hk.1 HB.out.size, Nat.ne_of_lt hk.1⟩), ⟨HLs.out.1, by have := HLs.out.2.1; omega, HLs.out.2.2.1, HLs.out.2.2.2⟩, HB.out⟩)
      clear HX HN HC HU HN2 HC2 HU2 HN3 HC3 HU3 HB x0 x1 x2 HLs H9 H10
      go_wp2_with fail
      go_loopw [21] (fun vi wr => ∃ (k : Nat) (y : Ic) (Ay Acy Auy : Option Addr) (cny ccy cuy : Nat), k ≤ ts.length ∧ vi = .int .i64 (k : Int) ∧ Blk wr w.heap.size 25 #[.int .i64 y.id, .int .i64 y.urg, .string y.code, .slice Ay y.nodes.length cny, .int .i64 y.dist, .int .i64 y.since, .slice Acy y.calls.length ccy, .slice Auy y.units.length cuy, .int .i64 y.merged, .bool y.closed] ∧ RI wr (fun b => b < wr.heap.size ∧ b ≠ w.heap.size) Ay y.nodes ∧ RI wr (fun b => b < wr.heap.size ∧ b ≠ w.heap.size) Acy y.calls ∧ RI wr (fun b => b < wr.heap.size ∧ b ≠ w.heap.size) Auy y.units ∧ (y.nodes.length ≤ 60 ∧ y.calls.length ≤ 60 + k ∧ y.units.length ≤ 60 ∧ y.code.size ≤ 100) ∧ Below w.heap.size w wr) (fun vi _ => ts.length - (intOf vi).toNat)
      case atStart => exact HI.out
      case round =>
        obtain ⟨k, y, Ay, Acy, Auy, cny, ccy, cuy, hk, rfl, hX, hN, hC, hU, hls, hB⟩ := hrel
        have HX := Lib.hid hX
        have HN := Lib.hid hN
        have HC := Lib.hid hC
        have HU := Lib.hid hU
        have HLs := Lib.hid hls
        have HB := Lib.hid hB
        clear hX hN hC hU hls hB HI
        by_cases hlt : k < ts.length
        · have hlt' : (k : Int) < ts.length := by omega
          have hix := fun W => ix36 hp c k hlt W
          obtain ⟨t, htk⟩ : ∃ t, t = ts[k] := ⟨_, rfl⟩
          have hr : wr.rangeAt (bk A) (ofs A + k * 8) [.int .i64 t.c.call, .int .i64 t.c.inc, .int .i64 t.c.urg, .string t.c.code, .slice t.A t.c.nodes.length t.k, .int .i64 t.c.dist, .int .i64 t.c.since, .bool t.c.closed] := by
            have := ca_range (HR.out.below HB.out (fun k hk => hk)) hlt
            rw [← htk] at this
            exact this
          have HNt := Lib.hid (show RI w (· < w.heap.size) t.A t.c.nodes by rw [htk]; exact HTs.out _ (List.getElem_mem hlt))
          clear htk
          have H11 := Lib.hid fun (W : World) => smallTold11 t.c.call t.c.inc t.c.urg t.c.dist t.c.since t.c.code t.A t.c.nodes.length t.k t.c.closed W
          have hs0 := HX.out.lt
          have HXa := Lib.hid (HX.out.alloc (.cells #[.int .i64 t.c.call, .int .i64 t.c.inc, .int .i64 t.c.urg, .string t.c.code, .slice t.A t.c.nodes.length t.k, .int .i64 t.c.dist, .int .i64 t.c.since, .bool t.c.closed] 27))
          have HTa := Lib.hid (Blk.new wr 27 #[.int .i64 t.c.call, .int .i64 t.c.inc, .int .i64 t.c.urg, .string t.c.code, .slice t.A t.c.nodes.length t.k, .int .i64 t.c.dist, .int .i64 t.c.since, .bool t.c.closed])
          have HBa := Lib.hid (HB.out.alloc HB.out.size (.cells #[.int .i64 t.c.call, .int .i64 t.c.inc, .int .i64 t.c.urg, .string t.c.code, .slice t.A t.c.nodes.length t.k, .int .i64 t.c.dist, .int .i64 t.c.since, .bool t.c.closed] 27))
          cases hsm : (decide (t.c.nodes.length ≤ 60) && decide (t.c.code.size ≤ 100)) with
          | false =>
            rw [hsm] at H11
            clear hsm
            go_wp2_with (first | (refine wpList_load_mid rfl 27 _ rfl (bk A) (ofs A + k * 8) rfl [.int .i64 t.c.call, .int .i64 t.c.inc, .int .i64 t.c.urg, .string t.c.code, .slice t.A t.c.nodes.length t.k, .int .i64 t.c.dist, .int .i64 t.c.since, .bool t.c.closed] _ hr Tryd.underlying27 rfl size27 ?_) | (go_at_call 11; ((with_reducible refine (H11.out _).mono ?_); rintro e w4 ⟨rfl, hb4⟩)))
            go_ret
            exact ⟨rfl, HBa.out.trans (hb4.mono HBa.out.size)⟩
          | true =>
            rw [hsm] at H11
            simp only [Bool.and_eq_true, decide_eq_true_eq] at hsm
            have HSm := Lib.hid hsm
            clear hsm
            go_upto_region 10 with (first | (refine wpList_load_mid rfl 27 _ rfl (bk A) (ofs A + k * 8) rfl [.int .i64 t.c.call, .int .i64 t.c.inc, .int .i64 t.c.urg, .string t.c.code, .slice t.A t.c.nodes.length t.k, .int .i64 t.c.dist, .int .i64 t.c.since, .bool t.c.closed] _ hr Tryd.underlying27 rfl size27 ?_) | (go_at_call 11; ((with_reducible refine (H11.out _).mono ?_); rintro e w4 ⟨rfl, hb4⟩; have HX4 := Lib.hid (HXa.out.below hb4 HXa.out.lt); have HT4 := Lib.hid (HTa.out.below hb4 HTa.out.lt); have HB4 := Lib.hid (HBa.out.trans (hb4.mono HBa.out.size)); have hb5 := Lib.hid hb4; clear hb4)))
            have hs1 : w.heap.size < wr.heap.size := hs0
            have HN4 := Lib.hid ((((HN.out.more (B' := fun b => b < (wr.alloc (.cells #[.int .i64 t.c.call, .int .i64 t.c.inc, .int .i64 t.c.urg, .string t.c.code, .slice t.A t.c.nodes.length t.k, .int .i64 t.c.dist, .int .i64 t.c.since, .bool t.c.closed] 27)).heap.size ∧ b ≠ w.heap.size) (fun b hb => ⟨by have := hb.1; simp; omega, hb.2⟩)).alloc (.cells #[.int .i64 t.c.call, .int .i64 t.c.inc, .int .i64 t.c.urg, .string t.c.code, .slice t.A t.c.nodes.length t.k, .int .i64 t.c.dist, .int .i64 t.c.since, .bool t.c.closed] 27)).below hb5.out (fun b hb => hb.1)).more (B' := fun b => b < w4.heap.size ∧ b ≠ w.heap.size) (fun b hb => ⟨Nat.lt_of_lt_of_le hb.1 hb5.out.size, hb.2⟩))
            have HC4 := Lib.hid ((((HC.out.more (B' := fun b => b < (wr.alloc (.cells #[.int .i64 t.c.call, .int .i64 t.c.inc, .int .i64 t.c.urg, .string t.c.code, .slice t.A t.c.nodes.length t.k, .int .i64 t.c.dist, .int .i64 t.c.since, .bool t.c.closed] 27)).heap.size ∧ b ≠ w.heap.size) (fun b hb => ⟨by have := hb.1; simp; omega, hb.2⟩)).alloc (.cells #[.int .i64 t.c.call, .int .i64 t.c.inc, .int .i64 t.c.urg, .string t.c.code, .slice t.A t.c.nodes.length t.k, .int .i64 t.c.dist, .int .i64 t.c.since, .bool t.c.closed] 27)).below hb5.out (fun b hb => hb.1)).more (B' := fun b => b < w4.heap.size ∧ b ≠ w.heap.size) (fun b hb => ⟨Nat.lt_of_lt_of_le hb.1 hb5.out.size, hb.2⟩))
            have HU4 := Lib.hid ((((HU.out.more (B' := fun b => b < (wr.alloc (.cells #[.int .i64 t.c.call, .int .i64 t.c.inc, .int .i64 t.c.urg, .string t.c.code, .slice t.A t.c.nodes.length t.k, .int .i64 t.c.dist, .int .i64 t.c.since, .bool t.c.closed] 27)).heap.size ∧ b ≠ w.heap.size) (fun b hb => ⟨by have := hb.1; simp; omega, hb.2⟩)).alloc (.cells #[.int .i64 t.c.call, .int .i64 t.c.inc, .int .i64 t.c.urg, .string t.c.code, .slice t.A t.c.nodes.length t.k, .int .i64 t.c.dist, .int .i64 t.c.since, .bool t.c.closed] 27)).below hb5.out (fun b hb => hb.1)).more (B' := fun b => b < w4.heap.size ∧ b ≠ w.heap.size) (fun b hb => ⟨Nat.lt_of_lt_of_le hb.1 hb5.out.size, hb.2⟩))
            have HNt4 := Lib.hid (HNt.out.below HB4.out (fun b hb => hb))
            have H19 := Lib.hid (show Calls Tryd.prog 19 #[.agg #[.int .i64 y.id, .int .i64 y.urg, .string y.code, .slice Ay y.nodes.length cny, .int .i64 y.dist, .int .i64 y.since, .slice Acy y.calls.length ccy, .slice Auy y.units.length cuy, .int .i64 y.merged, .bool y.closed], .agg #[.int .i64 t.c.call, .int .i64 t.c.inc, .int .i64 t.c.urg, .string t.c.code, .slice t.A t.c.nodes.length t.k, .int .i64 t.c.dist, .int .i64 t.c.since, .bool t.c.closed]] w4 (IncPost (addI y t.c).1 (addI y t.c).2 w4) from add19 (fun _ => True) y.id y.urg y.dist y.since y.merged y.code y.nodes y.calls y.units Ay Acy Auy cny ccy cuy y.closed t.c.call t.c.inc t.c.urg t.c.dist t.c.since t.c.code t.c.nodes t.A t.k t.c.closed w4 (Tab.below HT.out HB4.out HT.out.lt) (HN4.out.more (fun _ _ => trivial)) (HC4.out.more (fun _ _ => trivial)) (HU4.out.more (fun _ _ => trivial)) (HNt4.out.more (fun _ _ => trivial)) (by have := HLs.out.2.2.2; omega) (by have := HSm.out.2; omega) (by have := HLs.out.1; omega) (by have := HLs.out.2.1; omega) (by have := HLs.out.2.2.1; omega) (by have := HSm.out.1; omega))
            have HNr := Lib.hid (fun (Y : Ic) (h : addI y t.c = (Y, 0)) => narrow h)
            have HCt := Lib.hid HSm.out.2
            clear HXa HTa HBa HX HN HC HU HNt HB H11 HSm hr
            obtain ⟨⟨Y, er⟩, hadd⟩ : ∃ r, addI y t.c = r := ⟨_, rfl⟩
            rw [hadd] at H19 HNr
            simp only at H19
            clear hadd
            obtain ⟨x0, x1, x2⟩ := HX4.out.facts
            obtain ⟨y0, y1, y2⟩ := HT4.out.facts
            go_upto_region 11 with (go_at_call 19; ((with_reducible refine H19.out.mono ?_); rintro e w5 ⟨An2, Ac2, Au2, cn2, cc2, cu2, rfl, hn2, hc2, hu2, hb2⟩; have RN := Lib.hid (ri_own hn2); have RC := Lib.hid (ri_own hc2); have RU := Lib.hid (ri_own hu2); have HX5 := Lib.hid (HX4.out.below hb2 HX4.out.lt); have HT5 := Lib.hid (HT4.out.below hb2 HT4.out.lt); have HB5 := Lib.hid (HB4.out.trans (hb2.mono HB4.out.size)); have hb6 := Lib.hid hb2; clear hn2 hc2 hu2 hb2 x0 x1 x2 y0 y1 y2))
            have HP5 := Lib.hid (Blk.new w5 25 #[.int .i64 Y.id, .int .i64 Y.urg, .string Y.code, .slice An2 Y.nodes.length cn2, .int .i64 Y.dist, .int .i64 Y.since, .slice Ac2 Y.calls.length cc2, .slice Au2 Y.units.length cu2, .int .i64 Y.merged, .bool Y.closed])
            have HX6 := Lib.hid (HX5.out.alloc (.cells #[.int .i64 Y.id, .int .i64 Y.urg, .string Y.code, .slice An2 Y.nodes.length cn2, .int .i64 Y.dist, .int .i64 Y.since, .slice Ac2 Y.calls.length cc2, .slice Au2 Y.units.length cu2, .int .i64 Y.merged, .bool Y.closed] 25))
            have HT6 := Lib.hid (HT5.out.alloc (.cells #[.int .i64 Y.id, .int .i64 Y.urg, .string Y.code, .slice An2 Y.nodes.length cn2, .int .i64 Y.dist, .int .i64 Y.since, .slice Ac2 Y.calls.length cc2, .slice Au2 Y.units.length cu2, .int .i64 Y.merged, .bool Y.closed] 25))
            have HB6 := Lib.hid (HB5.out.alloc HB5.out.size (.cells #[.int .i64 Y.id, .int .i64 Y.urg, .string Y.code, .slice An2 Y.nodes.length cn2, .int .i64 Y.dist, .int .i64 Y.since, .slice Ac2 Y.calls.length cc2, .slice Au2 Y.units.length cu2, .int .i64 Y.merged, .bool Y.closed] 25))
            have hsz4 := hb6.out.size
            have hsz6 : (w5.alloc (.cells #[.int .i64 Y.id, .int .i64 Y.urg, .string Y.code, .slice An2 Y.nodes.length cn2, .int .i64 Y.dist, .int .i64 Y.since, .slice Ac2 Y.calls.length cc2, .slice Au2 Y.units.length cu2, .int .i64 Y.merged, .bool Y.closed] 25)).heap.size = w5.heap.size + 1 := by simp
            have hl4 := HX4.out.lt
            have RN6 := Lib.hid ((RN.out.alloc (.cells #[.int .i64 Y.id, .int .i64 Y.urg, .string Y.code, .slice An2 Y.nodes.length cn2, .int .i64 Y.dist, .int .i64 Y.since, .slice Ac2 Y.calls.length cc2, .slice Au2 Y.units.length cu2, .int .i64 Y.merged, .bool Y.closed] 25)).old (by omega) |>.more (B' := fun b => b < (w5.alloc (.cells #[.int .i64 Y.id, .int .i64 Y.urg, .string Y.code, .slice An2 Y.nodes.length cn2, .int .i64 Y.dist, .int .i64 Y.since, .slice Ac2 Y.calls.length cc2, .slice Au2 Y.units.length cu2, .int .i64 Y.merged, .bool Y.closed] 25)).heap.size ∧ b ≠ w.heap.size) (fun b hb => ⟨hb.2, by have := hb.1; omega⟩))
            have RC6 := Lib.hid ((RC.out.alloc (.cells #[.int .i64 Y.id, .int .i64 Y.urg, .string Y.code, .slice An2 Y.nodes.length cn2, .int .i64 Y.dist, .int .i64 Y.since, .slice Ac2 Y.calls.length cc2, .slice Au2 Y.units.length cu2, .int .i64 Y.merged, .bool Y.closed] 25)).old (by omega) |>.more (B' := fun b => b < (w5.alloc (.cells #[.int .i64 Y.id, .int .i64 Y.urg, .string Y.code, .slice An2 Y.nodes.length cn2, .int .i64 Y.dist, .int .i64 Y.since, .slice Ac2 Y.calls.length cc2, .slice Au2 Y.units.length cu2, .int .i64 Y.merged, .bool Y.closed] 25)).heap.size ∧ b ≠ w.heap.size) (fun b hb => ⟨hb.2, by have := hb.1; omega⟩))
            have RU6 := Lib.hid ((RU.out.alloc (.cells #[.int .i64 Y.id, .int .i64 Y.urg, .string Y.code, .slice An2 Y.nodes.length cn2, .int .i64 Y.dist, .int .i64 Y.since, .slice Ac2 Y.calls.length cc2, .slice Au2 Y.units.length cu2, .int .i64 Y.merged, .bool Y.closed] 25)).old (by omega) |>.more (B' := fun b => b < (w5.alloc (.cells #[.int .i64 Y.id, .int .i64 Y.urg, .string Y.code, .slice An2 Y.nodes.length cn2, .int .i64 Y.dist, .int .i64 Y.since, .slice Ac2 Y.calls.length cc2, .slice Au2 Y.units.length cu2, .int .i64 Y.merged, .bool Y.closed] 25)).heap.size ∧ b ≠ w.heap.size) (fun b hb => ⟨hb.2, by have := hb.1; omega⟩))
            have HN6 := Lib.hid (((HN4.out.below hb6.out (fun b hb => hb.1)).alloc (.cells #[.int .i64 Y.id, .int .i64 Y.urg, .string Y.code, .slice An2 Y.nodes.length cn2, .int .i64 Y.dist, .int .i64 Y.since, .slice Ac2 Y.calls.length cc2, .slice Au2 Y.units.length cu2, .int .i64 Y.merged, .bool Y.closed] 25)).more (B' := fun b => b < (w5.alloc (.cells #[.int .i64 Y.id, .int .i64 Y.urg, .string Y.code, .slice An2 Y.nodes.length cn2, .int .i64 Y.dist, .int .i64 Y.since, .slice Ac2 Y.calls.length cc2, .slice Au2 Y.units.length cu2, .int .i64 Y.merged, .bool Y.closed] 25)).heap.size ∧ b ≠ w.heap.size) (fun b hb => ⟨by have := hb.1; omega, hb.2⟩))
            have HC6 := Lib.hid (((HC4.out.below hb6.out (fun b hb => hb.1)).alloc (.cells #[.int .i64 Y.id, .int .i64 Y.urg, .string Y.code, .slice An2 Y.nodes.length cn2, .int .i64 Y.dist, .int .i64 Y.since, .slice Ac2 Y.calls.length cc2, .slice Au2 Y.units.length cu2, .int .i64 Y.merged, .bool Y.closed] 25)).more (B' := fun b => b < (w5.alloc (.cells #[.int .i64 Y.id, .int .i64 Y.urg, .string Y.code, .slice An2 Y.nodes.length cn2, .int .i64 Y.dist, .int .i64 Y.since, .slice Ac2 Y.calls.length cc2, .slice Au2 Y.units.length cu2, .int .i64 Y.merged, .bool Y.closed] 25)).heap.size ∧ b ≠ w.heap.size) (fun b hb => ⟨by have := hb.1; omega, hb.2⟩))
            have HU6 := Lib.hid (((HU4.out.below hb6.out (fun b hb => hb.1)).alloc (.cells #[.int .i64 Y.id, .int .i64 Y.urg, .string Y.code, .slice An2 Y.nodes.length cn2, .int .i64 Y.dist, .int .i64 Y.since, .slice Ac2 Y.calls.length cc2, .slice Au2 Y.units.length cu2, .int .i64 Y.merged, .bool Y.closed] 25)).more (B' := fun b => b < (w5.alloc (.cells #[.int .i64 Y.id, .int .i64 Y.urg, .string Y.code, .slice An2 Y.nodes.length cn2, .int .i64 Y.dist, .int .i64 Y.since, .slice Ac2 Y.calls.length cc2, .slice Au2 Y.units.length cu2, .int .i64 Y.merged, .bool Y.closed] 25)).heap.size ∧ b ≠ w.heap.size) (fun b hb => ⟨by have := hb.1; omega, hb.2⟩))
            have hpx : w.heap.size < w5.heap.size := by omega
            clear RN RC RU HN4 HC4 HU4 HX4 HT4 HB4 HX5 HT5 HB5 hb5 hb6 HNt4 H19 hsz4 hsz6 hl4
            generalize w5.alloc _ = W6 at *
            generalize w5.heap.size = p7 at *
            by_cases her : er = 0
            · subst her
              obtain ⟨q1, q2, q3, q4, q5, q6, q7, q8, q9, q10, q11, q12⟩ := HNr.out Y rfl
              have H14 := Lib.hid fun (W : World) (hb : Below W6.heap.size W6 W) => (show Calls Tryd.prog 14 #[.agg #[.int .i64 y.id, .int .i64 Y.urg, .string Y.code, .slice An2 Y.nodes.length cn2, .int .i64 y.dist, .int .i64 Y.since, .slice Ac2 (y.calls.length + 1) cc2, .slice Au2 Y.units.length cu2, .int .i64 Y.merged, .bool Y.closed]] W (BoolB true W) from by
                have := valid14 (fun b => b < W6.heap.size ∧ b ≠ w.heap.size) Y.id Y.urg Y.dist Y.since Y.merged Y.code An2 Ac2 Au2 cn2 cc2 cu2 Y.nodes Y.calls Y.units Y.closed W (by have := HLs.out.2.2.2; have := HCt.out; rcases q12 with e | e <;> rw [e] <;> omega) (RN6.out.below hb (fun b hb => hb.1)) (RC6.out.below hb (fun b hb => hb.1)) (RU6.out.below hb (fun b hb => hb.1)) (by have := HLs.out.1; omega) (by have := HLs.out.2.1; omega) (by rw [q11]; have := HLs.out.2.2.1; omega)
                rw [show icB ⟨Y.id, Y.urg, Y.code, Y.nodes, Y.dist, Y.since, Y.calls, Y.units, Y.merged, Y.closed⟩ = true from q7, q8, q9, q6] at this
                exact this)
              have H20 := Lib.hid fun (W : World) (hb : Below W6.heap.size W6 W) => (show Calls Tryd.prog 20 #[.slice Ay y.nodes.length cny, .slice An2 Y.nodes.length cn2] W (fun e w' => ∃ A' c', e = .returned (.slice A' Y.nodes.length c') ∧ Below W.heap.size W w') from
                (both20 (fun b => b < W6.heap.size ∧ b ≠ w.heap.size) Ay An2 cny cn2 y.nodes Y.nodes W (HN6.out.below hb (fun b hb => hb.1)) (RN6.out.below hb (fun b hb => hb.1)) (by have := HLs.out.1; omega) (by have := HLs.out.1; omega)).mono (fun e w' ⟨A', c', h1, h2, h3⟩ => ⟨A', c', by rw [h1, q5], h3⟩))
              have HNY := Lib.hid (show Y.nodes.length ≤ 60 by have := HLs.out.1; omega)
              have HCY := Lib.hid (show Y.calls.length ≤ 60 + (k + 1) by have := HLs.out.2.1; omega)
              have HUY := Lib.hid (show Y.units.length ≤ 60 by rw [q11]; exact HLs.out.2.2.1)
              have HSY := Lib.hid (show Y.code.size ≤ 100 by have := HLs.out.2.2.2; have := HCt.out; rcases q12 with e | e <;> rw [e] <;> assumption)
              have HEq := Lib.hid (And.intro q8 (And.intro q9 q6))
              have f6 : IntKind.i64.wrap ((y.calls.length : Int) + 1) = (y.calls.length : Int) + 1 := IntWalk.i64_in _ (by have := HLs.out.2.1; omega)
              have f1 : decide (y.urg < Y.urg) = false := by simp; omega
              have f2 : decide (t.c.urg < Y.urg) = false := by simp; omega
              have f3 : decide (y.since < Y.since) = false := by simp; omega
              have f4 : ((Y.nodes.length : Int) == 0) = false := by simp; intro h; rw [h] at q4; simp at q4
              rw [q8, q9, q6] at HP5
              try rw [q8]
              try rw [q9]
              try rw [q6]
              have HK := Lib.hid fun (W' : World) (hb : Below W6.heap.size W6 W') => (show (W'.cell? ⟨w.heap.size, 0, none⟩ = some (.int .i64 y.id) ∧ W'.cell? ⟨w.heap.size, 1, none⟩ = some (.int .i64 y.urg) ∧ W'.cell? ⟨w.heap.size, 2, none⟩ = some (.string y.code) ∧ W'.cell? ⟨w.heap.size, 3, none⟩ = some (.slice Ay y.nodes.length cny) ∧ W'.cell? ⟨w.heap.size, 4, none⟩ = some (.int .i64 y.dist) ∧ W'.cell? ⟨w.heap.size, 5, none⟩ = some (.int .i64 y.since) ∧ W'.cell? ⟨w.heap.size, 6, none⟩ = some (.slice Acy y.calls.length ccy) ∧ W'.cell? ⟨w.heap.size, 7, none⟩ = some (.slice Auy y.units.length cuy) ∧ W'.cell? ⟨w.heap.size, 8, none⟩ = some (.int .i64 y.merged) ∧ W'.cell? ⟨w.heap.size, 9, none⟩ = some (.bool y.closed)) ∧ (W'.cell? ⟨p7, 0, none⟩ = some (.int .i64 y.id) ∧ W'.cell? ⟨p7, 1, none⟩ = some (.int .i64 Y.urg) ∧ W'.cell? ⟨p7, 2, none⟩ = some (.string Y.code) ∧ W'.cell? ⟨p7, 3, none⟩ = some (.slice An2 Y.nodes.length cn2) ∧ W'.cell? ⟨p7, 4, none⟩ = some (.int .i64 y.dist) ∧ W'.cell? ⟨p7, 5, none⟩ = some (.int .i64 Y.since) ∧ W'.cell? ⟨p7, 6, none⟩ = some (.slice Ac2 (y.calls.length + 1) cc2) ∧ W'.cell? ⟨p7, 7, none⟩ = some (.slice Au2 Y.units.length cu2) ∧ W'.cell? ⟨p7, 8, none⟩ = some (.int .i64 Y.merged) ∧ W'.cell? ⟨p7, 9, none⟩ = some (.bool Y.closed)) ∧ W'.cell? ⟨wr.heap.size, 2, none⟩ = some (.int .i64 t.c.urg) from ⟨reach_held (w := W6) (HX6.out.below hb HX6.out.lt), reach_held (w := W6) (HP5.out.below hb HP5.out.lt), by rw [Blk.cell (HT6.out.below hb HT6.out.lt)]; rfl⟩)
              have K0 := HK.out _ (Below.refl _ W6).drew
              clear q1 q2 q3 q4 q5 q6 q7 q8 q9 q10 q11 q12 HNr HT6 HN6 HC6 HU6 HLs HCt
              go_upto_region 12 with (fail)
              go_cut [101] (fun v wx => v = .bool false ∧ Below W6.heap.size W6 wx)
              case first =>
                dsimp only [List.append]
                go_region_held (fun w' => (w'.cell? ⟨w.heap.size, 0, none⟩ = some (.int .i64 y.id) ∧ w'.cell? ⟨w.heap.size, 1, none⟩ = some (.int .i64 y.urg) ∧ w'.cell? ⟨w.heap.size, 2, none⟩ = some (.string y.code) ∧ w'.cell? ⟨w.heap.size, 3, none⟩ = some (.slice Ay y.nodes.length cny) ∧ w'.cell? ⟨w.heap.size, 4, none⟩ = some (.int .i64 y.dist) ∧ w'.cell? ⟨w.heap.size, 5, none⟩ = some (.int .i64 y.since) ∧ w'.cell? ⟨w.heap.size, 6, none⟩ = some (.slice Acy y.calls.length ccy) ∧ w'.cell? ⟨w.heap.size, 7, none⟩ = some (.slice Auy y.units.length cuy) ∧ w'.cell? ⟨w.heap.size, 8, none⟩ = some (.int .i64 y.merged) ∧ w'.cell? ⟨w.heap.size, 9, none⟩ = some (.bool y.closed)) ∧ (w'.cell? ⟨p7, 0, none⟩ = some (.int .i64 y.id) ∧ w'.cell? ⟨p7, 1, none⟩ = some (.int .i64 Y.urg) ∧ w'.cell? ⟨p7, 2, none⟩ = some (.string Y.code) ∧ w'.cell? ⟨p7, 3, none⟩ = some (.slice An2 Y.nodes.length cn2) ∧ w'.cell? ⟨p7, 4, none⟩ = some (.int .i64 y.dist) ∧ w'.cell? ⟨p7, 5, none⟩ = some (.int .i64 Y.since) ∧ w'.cell? ⟨p7, 6, none⟩ = some (.slice Ac2 (y.calls.length + 1) cc2) ∧ w'.cell? ⟨p7, 7, none⟩ = some (.slice Au2 Y.units.length cu2) ∧ w'.cell? ⟨p7, 8, none⟩ = some (.int .i64 Y.merged) ∧ w'.cell? ⟨p7, 9, none⟩ = some (.bool Y.closed)) ∧ w'.cell? ⟨wr.heap.size, 2, none⟩ = some (.int .i64 t.c.urg)) (first | assumption | exact K0) (first
                  | (go_at_call 20; ((with_reducible refine (H20.out _ ((Below.refl _ _).drew)).mono ?_); rintro e v2 ⟨A9, c9, rfl, hb2⟩; have B2 := ((Below.refl W6.heap.size W6).drew).trans hb2; clear hb2; have KB2 := HK.out _ B2))
                  | (go_at_call 14; ((with_reducible refine (H14.out _ B2).mono ?_); rintro e v3 ⟨rfl, hb3⟩; have B3 := B2.trans (hb3.mono B2.size); clear hb3; have KB3 := HK.out _ B3)))
                all_goals
                  go_wp2_with fail
                  go_meet
                  case rel => exact ⟨by first | rfl | simp, B3⟩
              case rest =>
                obtain ⟨rfl, hb8⟩ := hcut
                have HX8 := Lib.hid (HX6.out.below hb8 HX6.out.lt)
                have HP8 := Lib.hid (HP5.out.below hb8 HP5.out.lt)
                have HB8 := Lib.hid (HB6.out.trans (hb8.mono HB6.out.size))
                have RN8 := Lib.hid (RN6.out.below hb8 (fun b hb => hb.1))
                have RC8 := Lib.hid (RC6.out.below hb8 (fun b hb => hb.1))
                have RU8 := Lib.hid (RU6.out.below hb8 (fun b hb => hb.1))
                have hs8 := hb8.size
                clear HX6 HP5 HB6 RN6 RC6 RU6 HK K0 H14 H20 hb8 f1 f2 f3 f4 f6
                obtain ⟨x0, x1, x2⟩ := HX8.out.facts
                obtain ⟨z0, z1, z2⟩ := HP8.out.facts
                go_wp2_with (refine wpList_storeBlk rfl (.tmp 2) (.tmp 102) 25 rfl w.heap.size 25 _ #[.int .i64 y.id, .int .i64 Y.urg, .string Y.code, .slice An2 Y.nodes.length cn2, .int .i64 y.dist, .int .i64 Y.since, .slice Ac2 (y.calls.length + 1) cc2, .slice Au2 Y.units.length cu2, .int .i64 Y.merged, .bool Y.closed] _ 10 136 info25 rfl rfl rfl HX8.out rfl (ten_one (by simp [Value.oneCell'])) ?_; intro w9 hb9 hf9 hs9)
                exact ⟨⟨k + 1, Y, An2, Ac2, Au2, cn2, cc2, cu2, by omega, by go_num, by simpa only [HEq.out.1, HEq.out.2.1, HEq.out.2.2] using hb9, (RN8.out.fr hf9 (fun b hb => hb.2)).more (fun b hb => ⟨by have := hb.1; omega, hb.2⟩), (RC8.out.fr hf9 (fun b hb => hb.2)).more (fun b hb => ⟨by have := hb.1; omega, hb.2⟩), (RU8.out.fr hf9 (fun b hb => hb.2)).more (fun b hb => ⟨by have := hb.1; omega, hb.2⟩), ⟨HNY.out, HCY.out, HUY.out, HSY.out⟩, HB8.out.trans (hf9.below HB8.out.size (fun k hk e => by omega))⟩, by simp [intOf]; omega⟩
            · have her' : (er == 0) = false := by simpa using her
              have hbn : (er != 0) = true := by simp [bne, her']
              clear her
              go_wp2_with fail
              exact ⟨⟨k + 1, y, Ay, Acy, Auy, cny, ccy, cuy, by omega, by go_num, HX6.out, HN6.out, HC6.out, HU6.out, ⟨HLs.out.1, by have := HLs.out.2.1; omega, HLs.out.2.2.1, HLs.out.2.2.2⟩, HB6.out⟩, by simp [intOf]; omega⟩
        · have hlt' : ¬ (k : Int) < ts.length := by omega
          go_wp2_with fail
          go_ret
          exact ⟨rfl, HB.out⟩
end Go.Proofs.YtipkicijfedfoaaDoor

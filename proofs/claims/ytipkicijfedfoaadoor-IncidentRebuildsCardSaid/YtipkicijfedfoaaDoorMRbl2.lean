import Derived.Test.YtipkicijfedfoaaDoorMRbl1
import Derived.Test.YtipkicijfedfoaaDoorMAnw8
import Derived.Test.YtipkicijfedfoaaDoorMAlv2
import Derived.Test.YtipkicijfedfoaaDoorMGG
import Derived.Deep.MidRow
namespace Go.Proofs.YtipkicijfedfoaaDoor
set_option linter.unusedVariables false
set_option linter.unusedSimpArgs false
open Go.RowKit Go.Own Go.Quo Go.Inc Go.Wire
set_option maxRecDepth 10000 in
set_option maxHeartbeats 16000000 in
theorem rebuilds7 (x : Ic) (An Ac Au : Option Addr) (cn cc cu : Nat) (ts : List Ca) (A : Option Addr) (c : Nat) (w : World) (ht : Tab w)
    (hn : RI w (· < w.heap.size) An x.nodes) (hc : RI w (· < w.heap.size) Ac x.calls) (hu : RI w (· < w.heap.size) Au x.units) (h : Reads w (· < w.heap.size) 8 A ts.length (ts.flatMap caL)) (hts : ∀ t ∈ ts, RI w (· < w.heap.size) t.A t.c.nodes) :
    Calls Tryd.prog 7 #[.agg #[.int .i64 x.id, .int .i64 x.urg, .string x.code, .slice An x.nodes.length cn, .int .i64 x.dist, .int .i64 x.since, .slice Ac x.calls.length cc, .slice Au x.units.length cu, .int .i64 x.merged, .bool x.closed], .slice A ts.length c] w (LawPost w) := by
  have hp := h.plain (by omega)
  have HR := Lib.hid h
  have HTs := Lib.hid hts
  have HT := Lib.hid ht
  have HN := Lib.hid hn
  have HC := Lib.hid hc
  have HU := Lib.hid hu
  have H9 := Lib.hid fun (W : World) (hb : Below w.heap.size w W) => alive9 W (Tab.below HT.out hb HT.out.lt)
  have H10 := Lib.hid fun (W : World) => small10 x.id x.urg x.dist x.since x.merged x.code An Ac Au x.nodes.length x.calls.length x.units.length cn cc cu x.closed W
  have HB := Lib.hid ((Below.refl w.heap.size w).alloc (Nat.le_refl _) (.cells #[.int .i64 x.id, .int .i64 x.urg, .string x.code, .slice An x.nodes.length cn, .int .i64 x.dist, .int .i64 x.since, .slice Ac x.calls.length cc, .slice Au x.units.length cu, .int .i64 x.merged, .bool x.closed] 25))
  have HX := Lib.hid (Blk.new w 25 #[.int .i64 x.id, .int .i64 x.urg, .string x.code, .slice An x.nodes.length cn, .int .i64 x.dist, .int .i64 x.since, .slice Ac x.calls.length cc, .slice Au x.units.length cu, .int .i64 x.merged, .bool x.closed])
  obtain ⟨x0, x1, x2⟩ := HX.out.facts
  clear hn hc hu h ht hts
  cases h0 : (decide (x.nodes.length ≤ 60) && decide (x.calls.length ≤ 60) && decide (x.units.length ≤ 60) && decide (x.code.size ≤ 100)) with
  | false =>
    rw [h0] at H10
    clear h0
    go_enter Tryd.func7, Tryd.ntmps7
    go_wp2_with (first | (go_at_call 9; ((with_reducible refine (H9.out _ HB.out).mono ?_); rintro e w2 ⟨rfl, hb⟩; have HX := Lib.hid (HX.out.below hb HX.out.lt); have HB := Lib.hid (HB.out.trans (hb.mono HB.out.size)); clear x0 x1 x2; obtain ⟨x0, x1, x2⟩ := HX.out.facts; clear hb)) | (go_at_call 10; ((with_reducible refine (H10.out _).mono ?_); rintro e w3 ⟨rfl, hb⟩; have HX := Lib.hid (HX.out.below hb HX.out.lt); have HB := Lib.hid (HB.out.trans (hb.mono HB.out.size)); clear x0 x1 x2; obtain ⟨x0, x1, x2⟩ := HX.out.facts; clear hb)))
    go_ret
    exact ⟨rfl, HB.out⟩
  | true =>
    rw [h0] at H10
    by_cases h1 : 12 < ts.length
    · have h1' : (12 : Int) < ts.length := by omega
      clear h0
      go_enter Tryd.func7, Tryd.ntmps7
      go_wp2_with (first | (go_at_call 9; ((with_reducible refine (H9.out _ HB.out).mono ?_); rintro e w2 ⟨rfl, hb⟩; have HX := Lib.hid (HX.out.below hb HX.out.lt); have HB := Lib.hid (HB.out.trans (hb.mono HB.out.size)); clear x0 x1 x2; obtain ⟨x0, x1, x2⟩ := HX.out.facts; clear hb)) | (go_at_call 10; ((with_reducible refine (H10.out _).mono ?_); rintro e w3 ⟨rfl, hb⟩; have HX := Lib.hid (HX.out.below hb HX.out.lt); have HB := Lib.hid (HB.out.trans (hb.mono HB.out.size)); clear x0 x1 x2; obtain ⟨x0, x1, x2⟩ := HX.out.facts; clear hb)))
      go_ret
      exact ⟨rfl, HB.out⟩
    · have h1' : ¬ (12 : Int) < ts.length := by omega
      simp only [Bool.and_eq_true, decide_eq_true_eq] at h0
      obtain ⟨⟨⟨ln, lc⟩, lu⟩, ls⟩ := h0
      have HLs := Lib.hid (And.intro ln (And.intro lc (And.intro lu ls)))
      clear ln lc lu ls
      go_enter Tryd.func7, Tryd.ntmps7
      go_upto_block 0 with (first | (go_at_call 9; ((with_reducible refine (H9.out _ HB.out).mono ?_); rintro e w2 ⟨rfl, hb⟩; have HX := Lib.hid (HX.out.below hb HX.out.lt); have HB := Lib.hid (HB.out.trans (hb.mono HB.out.size)); clear x0 x1 x2; obtain ⟨x0, x1, x2⟩ := HX.out.facts; clear hb)) | (go_at_call 10; ((with_reducible refine (H10.out _).mono ?_); rintro e w3 ⟨rfl, hb⟩; have HX := Lib.hid (HX.out.below hb HX.out.lt); have HB := Lib.hid (HB.out.trans (hb.mono HB.out.size)); clear x0 x1 x2; obtain ⟨x0, x1, x2⟩ := HX.out.facts; clear hb)))
      have HI := Lib.hid (show ∃ (k : Nat), k ≤ ts.length ∧ Value.int .i64 0 = .int .i64 (k : Int) ∧ (∀ (i : Nat) t, i < k → ts[i]? = some t → t.c.nodes.length ≤ 60 ∧ t.c.code.size ≤ 100) ∧ Blk w3 w.heap.size 25 #[.int .i64 x.id, .int .i64 x.urg, .string x.code, .slice An x.nodes.length cn, .int .i64 x.dist, .int .i64 x.since, .slice Ac x.calls.length cc, .slice Au x.units.length cu, .int .i64 x.merged, .bool x.closed] ∧ Below w.heap.size w w3 from ⟨0, Nat.zero_le _, rfl, fun i t hi => by omega, HX.out, HB.out⟩)
      clear HX HB x0 x1 x2 H9 H10
      go_wp2_with fail
      go_loopw [23] (fun vi wr => ∃ (k : Nat), k ≤ ts.length ∧ vi = .int .i64 (k : Int) ∧ (∀ (i : Nat) t, i < k → ts[i]? = some t → t.c.nodes.length ≤ 60 ∧ t.c.code.size ≤ 100) ∧ Blk wr w.heap.size 25 #[.int .i64 x.id, .int .i64 x.urg, .string x.code, .slice An x.nodes.length cn, .int .i64 x.dist, .int .i64 x.since, .slice Ac x.calls.length cc, .slice Au x.units.length cu, .int .i64 x.merged, .bool x.closed] ∧ Below w.heap.size w wr) (fun vi _ => ts.length - (intOf vi).toNat)
      case atStart => exact HI.out
      case round =>
        obtain ⟨k, hk, rfl, hv, hX, hB⟩ := hrel
        have HV := Lib.hid hv
        have HX := Lib.hid hX
        have HB := Lib.hid hB
        clear hv hX hB HI
        by_cases hlt : k < ts.length
        · have hlt' : (k : Int) < ts.length := by omega
          have hix := fun W => ix36r hp c k hlt W
          obtain ⟨t, htk⟩ : ∃ t, t = ts[k] := ⟨_, rfl⟩
          have hr : wr.rangeAt (bk A) (ofs A + k * 8) [.int .i64 t.c.call, .int .i64 t.c.inc, .int .i64 t.c.urg, .string t.c.code, .slice t.A t.c.nodes.length t.k, .int .i64 t.c.dist, .int .i64 t.c.since, .bool t.c.closed] := by
            have := ca_rangeR (HR.out.below HB.out (fun k hk => hk)) hlt
            rw [← htk] at this
            exact this
          have HG := Lib.hid (show ts[k]? = some t by rw [htk]; exact List.getElem?_eq_getElem hlt)
          clear htk
          have H11 := Lib.hid fun (W : World) => smallTold11 t.c.call t.c.inc t.c.urg t.c.dist t.c.since t.c.code t.A t.c.nodes.length t.k t.c.closed W
          have HXa := Lib.hid (HX.out.alloc (.cells #[.int .i64 t.c.call, .int .i64 t.c.inc, .int .i64 t.c.urg, .string t.c.code, .slice t.A t.c.nodes.length t.k, .int .i64 t.c.dist, .int .i64 t.c.since, .bool t.c.closed] 27))
          have HTa := Lib.hid (Blk.new wr 27 #[.int .i64 t.c.call, .int .i64 t.c.inc, .int .i64 t.c.urg, .string t.c.code, .slice t.A t.c.nodes.length t.k, .int .i64 t.c.dist, .int .i64 t.c.since, .bool t.c.closed])
          have HBa := Lib.hid (HB.out.alloc HB.out.size (.cells #[.int .i64 t.c.call, .int .i64 t.c.inc, .int .i64 t.c.urg, .string t.c.code, .slice t.A t.c.nodes.length t.k, .int .i64 t.c.dist, .int .i64 t.c.since, .bool t.c.closed] 27))
          cases hsm : (decide (t.c.nodes.length ≤ 60) && decide (t.c.code.size ≤ 100)) with
          | false =>
            rw [hsm] at H11
            clear hsm
            go_wp2_with (first | (refine wpList_load_mid rfl 27 _ rfl (bk A) (ofs A + k * 8) rfl [.int .i64 t.c.call, .int .i64 t.c.inc, .int .i64 t.c.urg, .string t.c.code, .slice t.A t.c.nodes.length t.k, .int .i64 t.c.dist, .int .i64 t.c.since, .bool t.c.closed] _ hr Tryd.underlying27 rfl rsz27 ?_) | (go_at_call 11; ((with_reducible refine (H11.out _).mono ?_); rintro e w4 ⟨rfl, hb4⟩)))
            go_ret
            exact ⟨rfl, HBa.out.trans (hb4.mono HBa.out.size)⟩
          | true =>
            rw [hsm] at H11
            simp only [Bool.and_eq_true, decide_eq_true_eq] at hsm
            have HV2 := Lib.hid (show ∀ (i : Nat) t, i < k + 1 → ts[i]? = some t → t.c.nodes.length ≤ 60 ∧ t.c.code.size ≤ 100 from fun i t' hi hg => by
              rcases (by omega : i < k ∨ i = k) with e | rfl
              · exact HV.out i t' e hg
              · rw [HG.out] at hg; injection hg with hg; rw [← hg]; exact hsm)
            clear hsm
            go_wp2_with (first | (refine wpList_load_mid rfl 27 _ rfl (bk A) (ofs A + k * 8) rfl [.int .i64 t.c.call, .int .i64 t.c.inc, .int .i64 t.c.urg, .string t.c.code, .slice t.A t.c.nodes.length t.k, .int .i64 t.c.dist, .int .i64 t.c.since, .bool t.c.closed] _ hr Tryd.underlying27 rfl rsz27 ?_) | (go_at_call 11; ((with_reducible refine (H11.out _).mono ?_); rintro e w4 ⟨rfl, hb4⟩; have hb5 := Lib.hid hb4; clear hb4)))
            exact ⟨⟨k + 1, by omega, by go_num, HV2.out, HXa.out.below hb5.out HXa.out.lt, HBa.out.trans (hb5.out.mono HBa.out.size)⟩, by simp [intOf]; omega⟩
        · have hlt' : ¬ (k : Int) < ts.length := by omega
          have hk3 : k = ts.length := by omega
          subst hk3
          have HAll := Lib.hid (show ∀ t ∈ ts, t.c.nodes.length ≤ 60 ∧ t.c.code.size ≤ 100 from fun t ht => by
            obtain ⟨i, hi, rfl⟩ := List.mem_iff_getElem.1 ht
            exact HV.out i _ hi (List.getElem?_eq_getElem hi))
          have HS := Lib.hid (show IcS (anwP x (ts.map (fun t : Ca => t.c))).1 from icS_anw (by have := HLs.out.2.2.1; omega) (fun t ht => by
            obtain ⟨u, hu, rfl⟩ := List.mem_map.1 ht
            have := (HAll.out u hu).1; omega) (by rw [List.length_map]; omega))
          have HRp := Lib.hid fun (W : World) (hb : Below w.heap.size w W) => (rebuild26 x An Ac Au cn cc cu ts A c W (Tab.below HT.out hb HT.out.lt) ((HN.out.below hb (fun b hb => hb)).more (fun b hb2 => Nat.lt_of_lt_of_le hb2 hb.size)) ((HC.out.below hb (fun b hb => hb)).more (fun b hb2 => Nat.lt_of_lt_of_le hb2 hb.size)) ((HU.out.below hb (fun b hb => hb)).more (fun b hb2 => Nat.lt_of_lt_of_le hb2 hb.size)) ((HR.out.below hb (fun b hb => hb)).more (fun b hb2 => Nat.lt_of_lt_of_le hb2 hb.size)) (fun t ht => ((HTs.out t ht).below hb (fun b hb => hb)).more (fun b hb2 => Nat.lt_of_lt_of_le hb2 hb.size)) (by have := HLs.out.2.2.2; omega) (by have := HLs.out.1; omega) (by have := HLs.out.2.1; omega) (by have := HLs.out.2.2.1; omega) (by omega) (fun t ht => ⟨by have := (HAll.out t ht).2; omega, by have := (HAll.out t ht).1; omega⟩)).mono (fun e w' ⟨ss, h1, h2, h3⟩ => (show IncPost (anwP x (ts.map (fun t : Ca => t.c))).1 (anwP x (ts.map (fun t : Ca => t.c))).2 W e w' by rw [reb_anw h1 h2] at h3; exact h3))
          have HAp := Lib.hid fun (W : World) (hb : Below w.heap.size w W) => (show Calls Tryd.prog 27 #[.agg #[.int .i64 x.id, .int .i64 x.urg, .string x.code, .slice An x.nodes.length cn, .int .i64 x.dist, .int .i64 x.since, .slice Ac x.calls.length cc, .slice Au x.units.length cu, .int .i64 x.merged, .bool x.closed], .slice A ts.length c] W (RdPost (anwP x (ts.map (fun t : Ca => t.c))).1 (anwP x (ts.map (fun t : Ca => t.c))).2 W) from anew27 x An Ac Au cn cc cu ts A c W ((HN.out.below hb (fun b hb => hb)).more (fun b hb2 => Nat.lt_of_lt_of_le hb2 hb.size)) ((HC.out.below hb (fun b hb => hb)).more (fun b hb2 => Nat.lt_of_lt_of_le hb2 hb.size)) ((HU.out.below hb (fun b hb => hb)).more (fun b hb2 => Nat.lt_of_lt_of_le hb2 hb.size)) ((HR.out.below hb (fun b hb => hb)).more (fun b hb2 => Nat.lt_of_lt_of_le hb2 hb.size)) (fun t ht => ((HTs.out t ht).below hb (fun b hb => hb)).more (fun b hb2 => Nat.lt_of_lt_of_le hb2 hb.size)) (by have := HLs.out.2.2.2; omega) (by have := HLs.out.1; omega) (by have := HLs.out.2.1; omega) (by have := HLs.out.2.2.1; omega) (by omega) (fun t ht => ⟨by have := (HAll.out t ht).2; omega, by have := (HAll.out t ht).1; omega⟩))
          clear HLs HAll HV HR HTs HN HC HU
          generalize anwP x (ts.map (fun t : Ca => t.c)) = R at *
          obtain ⟨Y, er⟩ := R
          simp only at HRp HAp HS
          have H18 := Lib.hid fun (W : World) (Any Acy Auy Anz Acz Auz : Option Addr) (cny ccy cuy cnz ccz cuz : Nat) (B' : Nat → Prop) (r1 : RI W B' Any Y.nodes) (r2 : RI W B' Acy Y.calls) (r3 : RI W B' Auy Y.units) (r4 : RI W B' Anz Y.nodes) (r5 : RI W B' Acz Y.calls) (r6 : RI W B' Auz Y.units) =>
            (show Calls Tryd.prog 18 #[.agg #[.int .i64 Y.id, .int .i64 Y.urg, .string Y.code, .slice Any Y.nodes.length cny, .int .i64 Y.dist, .int .i64 Y.since, .slice Acy Y.calls.length ccy, .slice Auy Y.units.length cuy, .int .i64 Y.merged, .bool Y.closed], .agg #[.int .i64 Y.id, .int .i64 Y.urg, .string Y.code, .slice Anz Y.nodes.length cnz, .int .i64 Y.dist, .int .i64 Y.since, .slice Acz Y.calls.length ccz, .slice Auz Y.units.length cuz, .int .i64 Y.merged, .bool Y.closed]] W (BoolB true W) from (same18 B' Y.id Y.urg Y.dist Y.since Y.merged Y.code Y.nodes Y.calls Y.units Any Acy Auy cny ccy cuy Y.closed Y.id Y.urg Y.dist Y.since Y.merged Y.code Y.nodes Y.calls Y.units Anz Acz Auz cnz ccz cuz Y.closed W r1 r2 r3 HS.out r4 r5 r6 HS.out).mono (fun e w' h => by rw [decide_eq_true rfl] at h; exact h))
          obtain ⟨x0, x1, x2⟩ := HX.out.facts
          go_upto_region 12 with (go_at_call 26; ((with_reducible refine (HRp.out _ HB.out).mono ?_); rintro e w5 ⟨Any, Acy, Auy, cny, ccy, cuy, rfl, hny, hcy, huy, hb⟩; have HNy := Lib.hid (((ri_own hny).old (by omega)).more (B' := fun b => b < w5.heap.size) (fun b hb => hb.2)); have HCy := Lib.hid (((ri_own hcy).old (by omega)).more (B' := fun b => b < w5.heap.size) (fun b hb => hb.2)); have HUy := Lib.hid (((ri_own huy).old (by omega)).more (B' := fun b => b < w5.heap.size) (fun b hb => hb.2)); have HX := Lib.hid (HX.out.below hb HX.out.lt); have HB := Lib.hid (HB.out.trans (hb.mono HB.out.size)); clear x0 x1 x2; obtain ⟨x0, x1, x2⟩ := HX.out.facts; clear hb hny hcy huy))
          have HPy := Lib.hid (Blk.new w5 25 #[.int .i64 Y.id, .int .i64 Y.urg, .string Y.code, .slice Any Y.nodes.length cny, .int .i64 Y.dist, .int .i64 Y.since, .slice Acy Y.calls.length ccy, .slice Auy Y.units.length cuy, .int .i64 Y.merged, .bool Y.closed])
          have hba := (Below.refl w5.heap.size w5).alloc (Nat.le_refl _) (.cells #[.int .i64 Y.id, .int .i64 Y.urg, .string Y.code, .slice Any Y.nodes.length cny, .int .i64 Y.dist, .int .i64 Y.since, .slice Acy Y.calls.length ccy, .slice Auy Y.units.length cuy, .int .i64 Y.merged, .bool Y.closed] 25)
          have hzs : (w5.alloc (.cells #[.int .i64 Y.id, .int .i64 Y.urg, .string Y.code, .slice Any Y.nodes.length cny, .int .i64 Y.dist, .int .i64 Y.since, .slice Acy Y.calls.length ccy, .slice Auy Y.units.length cuy, .int .i64 Y.merged, .bool Y.closed] 25)).heap.size = w5.heap.size + 1 := by simp
          have HX6 := Lib.hid (HX.out.alloc (.cells #[.int .i64 Y.id, .int .i64 Y.urg, .string Y.code, .slice Any Y.nodes.length cny, .int .i64 Y.dist, .int .i64 Y.since, .slice Acy Y.calls.length ccy, .slice Auy Y.units.length cuy, .int .i64 Y.merged, .bool Y.closed] 25))
          have HNy6 := Lib.hid ((HNy.out.alloc (.cells #[.int .i64 Y.id, .int .i64 Y.urg, .string Y.code, .slice Any Y.nodes.length cny, .int .i64 Y.dist, .int .i64 Y.since, .slice Acy Y.calls.length ccy, .slice Auy Y.units.length cuy, .int .i64 Y.merged, .bool Y.closed] 25)).more (B' := fun b => b < (w5.alloc (.cells #[.int .i64 Y.id, .int .i64 Y.urg, .string Y.code, .slice Any Y.nodes.length cny, .int .i64 Y.dist, .int .i64 Y.since, .slice Acy Y.calls.length ccy, .slice Auy Y.units.length cuy, .int .i64 Y.merged, .bool Y.closed] 25)).heap.size) (fun b hb => by have hb2 : b < w5.heap.size := hb; omega))
          have HCy6 := Lib.hid ((HCy.out.alloc (.cells #[.int .i64 Y.id, .int .i64 Y.urg, .string Y.code, .slice Any Y.nodes.length cny, .int .i64 Y.dist, .int .i64 Y.since, .slice Acy Y.calls.length ccy, .slice Auy Y.units.length cuy, .int .i64 Y.merged, .bool Y.closed] 25)).more (B' := fun b => b < (w5.alloc (.cells #[.int .i64 Y.id, .int .i64 Y.urg, .string Y.code, .slice Any Y.nodes.length cny, .int .i64 Y.dist, .int .i64 Y.since, .slice Acy Y.calls.length ccy, .slice Auy Y.units.length cuy, .int .i64 Y.merged, .bool Y.closed] 25)).heap.size) (fun b hb => by have hb2 : b < w5.heap.size := hb; omega))
          have HUy6 := Lib.hid ((HUy.out.alloc (.cells #[.int .i64 Y.id, .int .i64 Y.urg, .string Y.code, .slice Any Y.nodes.length cny, .int .i64 Y.dist, .int .i64 Y.since, .slice Acy Y.calls.length ccy, .slice Auy Y.units.length cuy, .int .i64 Y.merged, .bool Y.closed] 25)).more (B' := fun b => b < (w5.alloc (.cells #[.int .i64 Y.id, .int .i64 Y.urg, .string Y.code, .slice Any Y.nodes.length cny, .int .i64 Y.dist, .int .i64 Y.since, .slice Acy Y.calls.length ccy, .slice Auy Y.units.length cuy, .int .i64 Y.merged, .bool Y.closed] 25)).heap.size) (fun b hb => by have hb2 : b < w5.heap.size := hb; omega))
          have HB6 := Lib.hid (HB.out.alloc HB.out.size (.cells #[.int .i64 Y.id, .int .i64 Y.urg, .string Y.code, .slice Any Y.nodes.length cny, .int .i64 Y.dist, .int .i64 Y.since, .slice Acy Y.calls.length ccy, .slice Auy Y.units.length cuy, .int .i64 Y.merged, .bool Y.closed] 25))
          clear x0 x1 x2 HX HB HNy HCy HUy hba hzs HRp
          generalize w5.alloc _ = W6 at *
          generalize w5.heap.size = p1 at *
          obtain ⟨x0, x1, x2⟩ := HX6.out.facts
          go_upto_region 13 with (go_at_call 27; ((with_reducible refine (HAp.out _ HB6.out).mono ?_); rintro e w7 ⟨Anz, Acz, Auz, cnz, ccz, cuz, rfl, hnz, hcz, huz, hb⟩; have HNz := Lib.hid hnz; have HCz := Lib.hid hcz; have HUz := Lib.hid huz; have HPy7 := Lib.hid (HPy.out.below hb HPy.out.lt); have hsz := hb.size; have HNy7 := Lib.hid ((HNy6.out.below hb (fun b hb => hb)).more (B' := fun b => b < w7.heap.size) (fun b hb2 => Nat.lt_of_lt_of_le hb2 hsz)); have HCy7 := Lib.hid ((HCy6.out.below hb (fun b hb => hb)).more (B' := fun b => b < w7.heap.size) (fun b hb2 => Nat.lt_of_lt_of_le hb2 hsz)); have HUy7 := Lib.hid ((HUy6.out.below hb (fun b hb => hb)).more (B' := fun b => b < w7.heap.size) (fun b hb2 => Nat.lt_of_lt_of_le hb2 hsz)); have HB7 := Lib.hid (HB6.out.trans (hb.mono HB6.out.size)); clear hb hnz hcz huz hsz x0 x1 x2))
          have HPz := Lib.hid (Blk.new w7 25 #[.int .i64 Y.id, .int .i64 Y.urg, .string Y.code, .slice Anz Y.nodes.length cnz, .int .i64 Y.dist, .int .i64 Y.since, .slice Acz Y.calls.length ccz, .slice Auz Y.units.length cuz, .int .i64 Y.merged, .bool Y.closed])
          have HPy8 := Lib.hid (HPy7.out.alloc (.cells #[.int .i64 Y.id, .int .i64 Y.urg, .string Y.code, .slice Anz Y.nodes.length cnz, .int .i64 Y.dist, .int .i64 Y.since, .slice Acz Y.calls.length ccz, .slice Auz Y.units.length cuz, .int .i64 Y.merged, .bool Y.closed] 25))
          have HB8 := Lib.hid (HB7.out.alloc HB7.out.size (.cells #[.int .i64 Y.id, .int .i64 Y.urg, .string Y.code, .slice Anz Y.nodes.length cnz, .int .i64 Y.dist, .int .i64 Y.since, .slice Acz Y.calls.length ccz, .slice Auz Y.units.length cuz, .int .i64 Y.merged, .bool Y.closed] 25))
          have H18b := Lib.hid (H18.out (w7.alloc (.cells #[.int .i64 Y.id, .int .i64 Y.urg, .string Y.code, .slice Anz Y.nodes.length cnz, .int .i64 Y.dist, .int .i64 Y.since, .slice Acz Y.calls.length ccz, .slice Auz Y.units.length cuz, .int .i64 Y.merged, .bool Y.closed] 25)) Any Acy Auy Anz Acz Auz cny ccy cuy cnz ccz cuz (fun b => b < w7.heap.size) (HNy7.out.alloc _) (HCy7.out.alloc _) (HUy7.out.alloc _) (HNz.out.alloc _) (HCz.out.alloc _) (HUz.out.alloc _))
          have dee : (er == er) = true := by simp
          clear H18 HNy7 HCy7 HUy7 HNz HCz HUz HNy6 HCy6 HUy6 HX6 HB6 HPy HPy7 HB7 HAp
          generalize w7.alloc _ = W8 at *
          generalize w7.heap.size = p2 at *
          obtain ⟨y0, y1, y2⟩ := HPy8.out.facts
          obtain ⟨z0, z1, z2⟩ := HPz.out.facts
          go_wp2_with (go_at_call 18; ((with_reducible refine H18b.out.mono ?_); rintro e w9 ⟨rfl, hb9⟩))
          go_ret
          exact ⟨rfl, HB8.out.trans (hb9.mono HB8.out.size)⟩
end Go.Proofs.YtipkicijfedfoaaDoor

import Derived.Test.YtipkicijfedfoaaDoorMGJ
import Derived.Deep.MidRow
namespace Go.Proofs.YtipkicijfedfoaaDoor
set_option linter.unusedVariables false
set_option linter.unusedSimpArgs false
open Go.RowKit Go.Own Go.Quo Go.Inc
set_option maxRecDepth 10000 in
set_option maxHeartbeats 8000000 in
theorem anew27 (x : Ic) (An Ac Au : Option Addr) (cn cc cu : Nat) (ts : List Ca) (A : Option Addr) (c : Nat) (w : World) (hn : RI w (· < w.heap.size) An x.nodes) (hc : RI w (· < w.heap.size) Ac x.calls) (hu : RI w (· < w.heap.size) Au x.units) (h : Reads w (· < w.heap.size) 8 A ts.length (ts.flatMap caL)) (hts : ∀ t ∈ ts, RI w (· < w.heap.size) t.A t.c.nodes) (hs : x.code.size ≤ 100000) (ln : x.nodes.length ≤ 100000) (lc : x.calls.length ≤ 100000) (lu : x.units.length ≤ 100000) (lt : ts.length ≤ 1000) (ltl : ∀ t ∈ ts, t.c.code.size ≤ 100000 ∧ t.c.nodes.length ≤ 100000) : Calls Tryd.prog 27 #[.agg #[.int .i64 x.id, .int .i64 x.urg, .string x.code, .slice An x.nodes.length cn, .int .i64 x.dist, .int .i64 x.since, .slice Ac x.calls.length cc, .slice Au x.units.length cu, .int .i64 x.merged, .bool x.closed], .slice A ts.length c] w (AnwPost x (ts.map (·.c)) w) := by
  by_cases h0 : icB x = false ∨ ts = []
  · exact anw_early x An Ac Au cn cc cu ts A c w hn hc hu h hts hs ln lc lu lt ltl h0
  have hi : icB x = true := by cases hq : icB x with
    | true => rfl
    | false => exact absurd (.inl hq) h0
  have hpos : 0 < ts.length := by
    rcases Nat.eq_zero_or_pos ts.length with e | e
    · exact absurd (.inr (List.eq_nil_of_length_eq_zero e)) h0
    · exact e
  clear h0
  have hp := h.plain (by omega)
  have HR := Lib.hid h
  have HN := Lib.hid hn
  have HC := Lib.hid hc
  have HU := Lib.hid hu
  have HTs := Lib.hid hts
  have HL := Lib.hid ltl
  have H15 := Lib.hid fun (W : World) (hb : Below w.heap.size w W) => (show Calls Tryd.prog 15 #[.agg #[.int .i64 x.id, .int .i64 x.urg, .string x.code, .slice An x.nodes.length cn, .int .i64 x.dist, .int .i64 x.since, .slice Ac x.calls.length cc, .slice Au x.units.length cu, .int .i64 x.merged, .bool x.closed]] W (BoolB (icB x) W) from right15 _ x.id x.urg x.dist x.since x.merged x.code An Ac Au cn cc cu x.nodes x.calls x.units x.closed W hs (HN.out.below hb (fun k hk => hk)) (HC.out.below hb (fun k hk => hk)) (HU.out.below hb (fun k hk => hk)) ln lc lu)
  have HB := Lib.hid (((Below.refl w.heap.size w).alloc (Nat.le_refl _) (.cells #[.int .i64 x.id, .int .i64 x.urg, .string x.code, .slice An x.nodes.length cn, .int .i64 x.dist, .int .i64 x.since, .slice Ac x.calls.length cc, .slice Au x.units.length cu, .int .i64 x.merged, .bool x.closed] 25)).alloc (by simp) (.cells #[.int .i64 0, .int .i64 0, .string ⟨#[]⟩, .slice none 0 0, .int .i64 0, .int .i64 0, .slice none 0 0, .slice none 0 0, .int .i64 0, .bool false] 25))
  have HX := Lib.hid ((Blk.new w 25 #[.int .i64 x.id, .int .i64 x.urg, .string x.code, .slice An x.nodes.length cn, .int .i64 x.dist, .int .i64 x.since, .slice Ac x.calls.length cc, .slice Au x.units.length cu, .int .i64 x.merged, .bool x.closed]).alloc (.cells #[.int .i64 0, .int .i64 0, .string ⟨#[]⟩, .slice none 0 0, .int .i64 0, .int .i64 0, .slice none 0 0, .slice none 0 0, .int .i64 0, .bool false] 25))
  have HY := Lib.hid (show Blk ((w.alloc (.cells #[.int .i64 x.id, .int .i64 x.urg, .string x.code, .slice An x.nodes.length cn, .int .i64 x.dist, .int .i64 x.since, .slice Ac x.calls.length cc, .slice Au x.units.length cu, .int .i64 x.merged, .bool x.closed] 25)).alloc (.cells #[.int .i64 0, .int .i64 0, .string ⟨#[]⟩, .slice none 0 0, .int .i64 0, .int .i64 0, .slice none 0 0, .slice none 0 0, .int .i64 0, .bool false] 25)) (w.heap.size + 1) 25 #[.int .i64 0, .int .i64 0, .string ⟨#[]⟩, .slice none 0 0, .int .i64 0, .int .i64 0, .slice none 0 0, .slice none 0 0, .int .i64 0, .bool false] by
    have := Blk.new (w.alloc (.cells #[.int .i64 x.id, .int .i64 x.urg, .string x.code, .slice An x.nodes.length cn, .int .i64 x.dist, .int .i64 x.since, .slice Ac x.calls.length cc, .slice Au x.units.length cu, .int .i64 x.merged, .bool x.closed] 25)) 25 #[.int .i64 0, .int .i64 0, .string ⟨#[]⟩, .slice none 0 0, .int .i64 0, .int .i64 0, .slice none 0 0, .slice none 0 0, .int .i64 0, .bool false]
    simpa using this)
  obtain ⟨x0, x1, x2⟩ := HX.out.facts
  have H28 := Lib.hid fun (t : Ca) (hm : t ∈ ts) (W : World) (hb : Below w.heap.size w W) => (show Calls Tryd.prog 28 #[.agg #[.int .i64 t.c.call, .int .i64 t.c.inc, .int .i64 t.c.urg, .string t.c.code, .slice t.A t.c.nodes.length t.k, .int .i64 t.c.dist, .int .i64 t.c.since, .bool t.c.closed]] W (BoolB (crB t.c) W) from told28 _ t.c.call t.c.inc t.c.urg t.c.dist t.c.since t.c.code t.A t.k t.c.nodes t.c.closed W (HL.out t hm).1 ((HTs.out t hm).below hb (fun k hk => hk)) (HL.out t hm).2)
  clear hn hc hu h hts ltl
  have HIx := Lib.hid hi
  rw [hi] at H15
  clear hi
  have d0 : ((ts.length : Int) == 0) = false := by have : (ts.length : Int) ≠ 0 := by omega
                                                   rw [beq_eq_false_iff_ne]; exact this
  go_enter Tryd.func27, Tryd.ntmps27
  go_upto_block 0 with (first | (go_at_call 15; ((with_reducible refine (H15.out _ HB.out).mono ?_); rintro e w2 ⟨rfl, hb⟩; have HX := Lib.hid (HX.out.below hb HX.out.lt); have HY := Lib.hid (HY.out.below hb HY.out.lt); have HB := Lib.hid (HB.out.trans (hb.mono HB.out.size)); clear hb x0 x1 x2; obtain ⟨x0, x1, x2⟩ := HX.out.facts)))
  have HI := Lib.hid (show ∃ (k : Nat) (ss : List Ca) (A6 : Option Addr) (c6 : Nat), k ≤ ts.length ∧ Value.int .i64 0 = .int .i64 (k : Int) ∧ Value.slice none 0 0 = .slice A6 ss.length c6 ∧ ss.length = k ∧ ss.map (·.c) = sortC ((ts.take k).map (·.c)) ∧ (∀ y ∈ ss, y ∈ ts ∧ crB y.c = true) ∧ (∀ (i : Nat) t, i < k → ts[i]? = some t → crB t.c = true) ∧ w2.ownsRow (w.heap.size + 2) 27 8 (.slice A6 ss.length c6) ss.length (ss.flatMap caL) ∧ Blk w2 w.heap.size 25 #[.int .i64 x.id, .int .i64 x.urg, .string x.code, .slice An x.nodes.length cn, .int .i64 x.dist, .int .i64 x.since, .slice Ac x.calls.length cc, .slice Au x.units.length cu, .int .i64 x.merged, .bool x.closed] ∧ Blk w2 (w.heap.size + 1) 25 #[.int .i64 0, .int .i64 0, .string ⟨#[]⟩, .slice none 0 0, .int .i64 0, .int .i64 0, .slice none 0 0, .slice none 0 0, .int .i64 0, .bool false] ∧ Below w.heap.size w w2 from ⟨0, [], none, 0, Nat.zero_le _, rfl, rfl, rfl, rfl, fun y hy => by simp at hy, fun i t hi => by omega, World.ownsRow_nil _ _ _ _, HX.out, HY.out, HB.out⟩)
  clear HX HY HB x0 x1 x2 H15 d0
  go_wp2_with fail
  go_loopw [6, 27] (fun v6 vi wr => ∃ (k : Nat) (ss : List Ca) (A6 : Option Addr) (c6 : Nat), k ≤ ts.length ∧ vi = .int .i64 (k : Int) ∧ v6 = .slice A6 ss.length c6 ∧ ss.length = k ∧ ss.map (·.c) = sortC ((ts.take k).map (·.c)) ∧ (∀ y ∈ ss, y ∈ ts ∧ crB y.c = true) ∧ (∀ (i : Nat) t, i < k → ts[i]? = some t → crB t.c = true) ∧ wr.ownsRow (w.heap.size + 2) 27 8 (.slice A6 ss.length c6) ss.length (ss.flatMap caL) ∧ Blk wr w.heap.size 25 #[.int .i64 x.id, .int .i64 x.urg, .string x.code, .slice An x.nodes.length cn, .int .i64 x.dist, .int .i64 x.since, .slice Ac x.calls.length cc, .slice Au x.units.length cu, .int .i64 x.merged, .bool x.closed] ∧ Blk wr (w.heap.size + 1) 25 #[.int .i64 0, .int .i64 0, .string ⟨#[]⟩, .slice none 0 0, .int .i64 0, .int .i64 0, .slice none 0 0, .slice none 0 0, .int .i64 0, .bool false] ∧ Below w.heap.size w wr) (fun _ vi _ => ts.length - (intOf vi).toNat)
  case atStart => exact HI.out
  case round =>
    obtain ⟨k, ss, A6, c6, hk, rfl, rfl, hss, hm1, hm2, hv, hO, hX, hY, hB⟩ := hrel
    have HLin := Lib.hid (And.intro hss (And.intro hm1 hm2))
    have HV := Lib.hid hv
    have HO := Lib.hid hO
    have HX := Lib.hid hX
    have HY := Lib.hid hY
    have HB := Lib.hid hB
    have hss3 : ss.length ≤ 1000 := by omega
    clear hss hm1 hm2 hv hO hX hY hB HI
    by_cases hlt : k < ts.length
    · have hlt' : (k : Int) < ts.length := by omega
      have hix := fun W => ix36r hp c k hlt W
      obtain ⟨t, htk⟩ : ∃ t, t = ts[k] := ⟨_, rfl⟩
      have hr : wr.rangeAt (bk A) (ofs A + k * 8) [.int .i64 t.c.call, .int .i64 t.c.inc, .int .i64 t.c.urg, .string t.c.code, .slice t.A t.c.nodes.length t.k, .int .i64 t.c.dist, .int .i64 t.c.since, .bool t.c.closed] := by
        have := ca_rangeR (HR.out.below HB.out (fun k hk => hk)) hlt
        rw [← htk] at this
        exact this
      have htm : t ∈ ts := by rw [htk]; exact List.getElem_mem hlt
      have HG := Lib.hid (show ts[k]? = some t by rw [htk]; exact List.getElem?_eq_getElem hlt)
      have HTake := Lib.hid (show ts.take (k + 1) = ts.take k ++ [t] by rw [List.take_succ_eq_append_getElem hlt, ← htk])
      clear htk
      have HXa := Lib.hid (HX.out.alloc (.cells #[.int .i64 t.c.call, .int .i64 t.c.inc, .int .i64 t.c.urg, .string t.c.code, .slice t.A t.c.nodes.length t.k, .int .i64 t.c.dist, .int .i64 t.c.since, .bool t.c.closed] 27))
      have HYa := Lib.hid (HY.out.alloc (.cells #[.int .i64 t.c.call, .int .i64 t.c.inc, .int .i64 t.c.urg, .string t.c.code, .slice t.A t.c.nodes.length t.k, .int .i64 t.c.dist, .int .i64 t.c.since, .bool t.c.closed] 27))
      have HTa := Lib.hid (Blk.new wr 27 #[.int .i64 t.c.call, .int .i64 t.c.inc, .int .i64 t.c.urg, .string t.c.code, .slice t.A t.c.nodes.length t.k, .int .i64 t.c.dist, .int .i64 t.c.since, .bool t.c.closed])
      have HOa := Lib.hid (own_below HO.out ((Below.refl wr.heap.size wr).alloc (Nat.le_refl _) (.cells #[.int .i64 t.c.call, .int .i64 t.c.inc, .int .i64 t.c.urg, .string t.c.code, .slice t.A t.c.nodes.length t.k, .int .i64 t.c.dist, .int .i64 t.c.since, .bool t.c.closed] 27)) (fun g hg => (HO.out.lt g hg).2))
      have HBa := Lib.hid (HB.out.alloc HB.out.size (.cells #[.int .i64 t.c.call, .int .i64 t.c.inc, .int .i64 t.c.urg, .string t.c.code, .slice t.A t.c.nodes.length t.k, .int .i64 t.c.dist, .int .i64 t.c.since, .bool t.c.closed] 27))
      have H28t := Lib.hid (H28.out t htm _ HBa.out)
      obtain ⟨x0, x1, x2⟩ := HTa.out.facts
      clear HX HB
      cases hq : crB t.c with
      | false =>
        have HBad := Lib.hid (show ∃ y ∈ ts.map (·.c), crB y = false from ⟨t.c, List.mem_map_of_mem htm, hq⟩)
        rw [hq] at H28t
        clear hq HY
        go_wp2_with (first | (refine wpList_load_mid rfl 27 _ rfl (bk A) (ofs A + k * 8) rfl [.int .i64 t.c.call, .int .i64 t.c.inc, .int .i64 t.c.urg, .string t.c.code, .slice t.A t.c.nodes.length t.k, .int .i64 t.c.dist, .int .i64 t.c.since, .bool t.c.closed] _ hr Tryd.underlying27 rfl rsz27 ?_) | (go_at_call 28; ((with_reducible refine H28t.out.mono ?_); rintro e w4 ⟨rfl, hb4⟩; have HY := Lib.hid (HYa.out.below hb4 HYa.out.lt); have HB := Lib.hid (HBa.out.trans (hb4.mono HBa.out.size)); clear hb4)) | (refine wpList_storeBlk rfl (.tmp 4) (.tmp 34) 25 rfl (w.heap.size + 1) 25 _ #[.int .i64 0, .int .i64 0, .string ⟨#[]⟩, .slice none 0 0, .int .i64 0, .int .i64 0, .slice none 0 0, .slice none 0 0, .int .i64 0, .bool false] _ 10 136 info25 rfl rfl rfl HY.out rfl (ten_one (by simp [Value.oneCell'])) ?_; intro w8 hb8 hf8 hs8))
        refine bodyPost_ret (results_ct (p := 4) (u := 5) (ty := 25) Tryd.results27 _ _ (w.heap.size + 1) 25 #[.int .i64 0, .int .i64 0, .string ⟨#[]⟩, .slice none 0 0, .int .i64 0, .int .i64 0, .slice none 0 0, .slice none 0 0, .int .i64 0, .bool false] (0, 0) _ rfl hb8 Tryd.underlying25 rfl size25) rfl ?_
        unfold AnwPost; rw [anw_bad (.inr (.inr HBad.out))]
        exact rd_zero (HB.out.trans (hf8.below HB.out.size (fun k hk e => by omega)))
      | true =>
        have HV2 := Lib.hid (show ∀ (i : Nat) t, i < k + 1 → ts[i]? = some t → crB t.c = true from fun i t' hi hg => by
          rcases (by omega : i < k ∨ i = k) with e | rfl
          · exact HV.out i t' e hg
          · rw [HG.out] at hg; injection hg with hg; rw [← hg]; exact hq)
        have HTin := Lib.hid (And.intro htm hq)
        rw [hq] at H28t
        clear hq
        go_upto_region 9 with (first | (refine wpList_load_mid rfl 27 _ rfl (bk A) (ofs A + k * 8) rfl [.int .i64 t.c.call, .int .i64 t.c.inc, .int .i64 t.c.urg, .string t.c.code, .slice t.A t.c.nodes.length t.k, .int .i64 t.c.dist, .int .i64 t.c.since, .bool t.c.closed] _ hr Tryd.underlying27 rfl rsz27 ?_) | (go_at_call 28; ((with_reducible refine H28t.out.mono ?_); rintro e w4 ⟨rfl, hb4⟩; have hb5 := Lib.hid hb4; clear hb4)))
        have HX4 := Lib.hid (HXa.out.below hb5.out HXa.out.lt)
        have HY4 := Lib.hid (HYa.out.below hb5.out HYa.out.lt)
        have HT4 := Lib.hid (HTa.out.below hb5.out HTa.out.lt)
        have HO4 := Lib.hid (own_below HOa.out hb5.out (fun g hg => (HOa.out.lt g hg).2))
        have HB4 := Lib.hid (HBa.out.trans (hb5.out.mono HBa.out.size))
        have hs4 := HY4.out.lt
        clear HXa HYa HTa HOa HBa HO HY H28t hb5 x0 x1 x2 hr hix HR HV HG
        iterate 6 go_step
        rename_i KK hKK
        refine hKK _ _ ?_
        refine wp_of_eq (c' := subx [true, true, true, false, true, false, false, true, true, false, false, true, true, true] (Tryd.f27.body.getD .skip)) (by kernel_rfl) ?_
        refine anw_ins ss t A6 c6 _ _ w4 hss3 HO4 HT4 _ _ _ _ _ _ _ _ _ _ _ _ _ _ _ _ _ _ _ _ _ _ _ _ _ _ _ _ _ _ _ _ _ _ _ _ _ _ _ _ _ _ _ _ _ _ _ _ _ _ _ _ _ _ _ _ _ _ _ _ _ _ _ _ _ _ _ _ _ _ _ _ _ _ _ _ _ _ _ _ _ _ _ _ _ _ _ _ _ _ _ _ _ _ _ _ _ _ _ _ _ _ _ _ _ _ _ _ _ _ _ _ _ _ _ _ _ _ _ _ _ _ _ _ _ _ _ _ _ _ _ _ _ _ ?_
        intro j A9 c9 wx v9 v10 v35 v36 v37 v38 v39 v40 v41 v42 v43 v44 v45 v46 v47 v48 v49 v50 v51 v52 v53 v54 v55 v56 v57 v58 v59 v60 v61 v62 v63 v64 v65 v66 v67 v68 v69 v70 v71 v72 v73 v74 v75 v76 v77 v78 v79 v80 v81 v82 v83 v84 hj hK hO9 hb9
        have HO9 := Lib.hid hO9
        have HB9 := Lib.hid hb9
        have HK := Lib.hid hK
        have HJ := Lib.hid hj
        clear hO9 hb9 hK hj
        dsimp only [Exit.inBlock, Exit.then]
        go_wp2_with fail
        obtain ⟨l1, l2, l3⟩ := HLin.out
        refine ⟨⟨k + 1, insA ss j t, A9, c9, by omega, by go_num, rfl, by rw [insA_len t HJ.out]; omega, ?_, ?_, HV2.out, World.ownsRow.mono HO9.out (by omega), HX4.out.below HB9.out HX4.out.lt, HY4.out.below HB9.out HY4.out.lt, HB4.out.trans (HB9.out.mono HB4.out.size)⟩, by simp [intOf]; omega⟩
        · rw [HTake.out, List.map_append, List.map_cons, List.map_nil, sortC_snoc, ← l2, insA_map HK.out]
        · intro y hy
          rcases insA_mem hy with rfl | hy
          · exact HTin.out
          · exact l3 y hy
    · have hlt' : ¬ (k : Int) < ts.length := by omega
      have hk3 : k = ts.length := by omega
      subst hk3
      have HOs := HO.out
      have HCap := own_cap8 HOs
      have hRow := (Reads.of_own HOs).old (by omega) |>.more (B' := fun k => k < wr.heap.size) (fun k hk => hk.2)
      have HAll := Lib.hid (show ∀ t ∈ ts, crB t.c = true from fun t ht => by
        obtain ⟨i, hi, rfl⟩ := List.mem_iff_getElem.1 ht
        exact HV.out i _ hi (List.getElem?_eq_getElem hi))
      obtain ⟨l1, l2, l3⟩ := HLin.out
      rw [List.take_of_length_le (Nat.le_refl _)] at l2
      have HId := Lib.hid (show numB x.id 1 = true by
        have := HIx.out
        unfold icB at this
        simp only [Bool.and_eq_true] at this
        exact this.1.1.1.1.1)
      clear H28 HR HV HLin HO
      go_upto_region 5 with (fail)
      iterate 14 go_step
      refine wp_of_eq (c' := subx [true, true, true, true] (Tryd.f27.body.getD .skip)) (by kernel_rfl) ?_
      cases ss with
      | nil => exfalso; simp at l1; omega
      | cons t0 r =>
        have hAn : anwP x (ts.map (·.c)) = match anwS (fromI x.id t0.c) (r.map (·.c)) with | none => (zeroIc, 5) | some y => if x.merged ≠ 0 then (zeroIc, 8) else (⟨x.id, y.urg, y.code, y.nodes, x.dist, y.since, y.calls, x.units, x.merged, x.closed⟩, 0) := by
          unfold anwP
          rw [if_neg (by
            rintro (h | h)
            · rw [HIx.out] at h; cases h
            · have := congrArg List.length h; simp at this; rw [this] at hpos; simp at hpos), if_neg (by
            rw [Bool.not_eq_false, List.all_eq_true]
            intro c hc
            obtain ⟨t, ht, rfl⟩ := List.mem_map.1 hc
            exact HAll.out t ht), ← l2]
          rfl
        exact anw_mid x An Ac Au cn cc cu t0 r (ts.map (·.c)) A6 c6 (t0 :: r).length w wr hss3 HCap HU HX HY HB (Lib.hid rfl) (Lib.hid hRow) (Lib.hid (fun t ht => ⟨(l3 t ht).2, HTs.out t (l3 t ht).1, HL.out t (l3 t ht).1⟩)) HId (Lib.hid hAn) _ _ _ _ _ _ _ _ _ _ _ _ _ _ _ _ _ _ _ _ _ _ _ _ _ _ _ _ _ _ _ _ _ _ _ _ _ _ _ _ _ _ _ _ _ _ _ _ _ _ _ _ _ _ _ _ _ _ _ _ _ _ _ _ _ _ _ _ _ _ _ _ _ _ _ _ _ _ _ _ _ _ _ _ _ _ _ _ _ _ _ _ _ _ _ _ _ _ _ _ _ _ _ _ _ _ _ _ _ _ _ _ _ _ _ _ _ _ _ _ _ _ _ _ _ _ _ _ _ _ _ _ _
end Go.Proofs.YtipkicijfedfoaaDoor

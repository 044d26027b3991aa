import Derived.Test.YtipkicijfedfoaaDoorMKc3
import Derived.Deep.MidRow
namespace Go.Proofs.YtipkicijfedfoaaDoor
set_option linter.unusedVariables false
set_option linter.unusedSimpArgs false
open Go.RowKit Go.Own Go.Quo Go.Inc Go.Wire
set_option maxRecDepth 10000 in
set_option maxHeartbeats 8000000 in
theorem kcn_mid (m : Int) (t0 : Ca) (r : List Ca) (A6 : Option Addr) (c6 n : Nat) (w W : World) (ht : Tab w) (HNR : RowKit.Hid (n = (t0 :: r).length)) (lt : n ≤ 12)
    (HV : RowKit.Hid (∀ t ∈ t0 :: r, crB t.c = true ∧ m ∈ t.c.nodes ∧ t.c.code.size ≤ 1000 ∧ t.c.nodes.length ≤ 1000)) (HD : RowKit.Hid (((t0 :: r).map (fun t : Ca => t.c.call)).Nodup))
    (HRow : RowKit.Hid (Reads W (· < W.heap.size) 8 A6 (t0 :: r).length ((t0 :: r).flatMap caL))) (HNod : RowKit.Hid (∀ u ∈ t0 :: r, RI W (· < W.heap.size) u.A u.c.nodes)) (HB : RowKit.Hid (Below w.heap.size w W)) (s0 s1 s2 s3 s4 s7 s8 s9 s10 s11 s12 s13 s14 s15 s16 s17 s18 s19 s20 s21 s22 s23 s24 s25 s26 s27 s28 s29 s30 s31 s32 s33 s34 s35 s36 s37 s38 s39 s40 s41 s42 s43 s44 s45 s46 s47 s48 s49 s50 s51 s52 s53 s54 s55 s56 s57 s58 s59 s60 s61 s62 s63 s64 s65 s66 s67 s68 s69 s70 s71 s72 s73 s74 s75 s76 s77 s78 s79 s80 s81 s82 s83 s84 s85 s86 s87 s88 s89 s90 s91 s92 s93 s94 s95 s96 s97 s98 s99 s100 s101 s102 s103 s104 s105 s106 s107 s108 s109 s110 s111 s112 s113 s114 s115 s116 s117 s118 s119 s120 : Value) :
    (subx [true, true, true, true, true, true] (Tryd.f8.body.getD .skip)).wp Tryd.prog (bodyPost Tryd.prog Tryd.f8 (LawPost w)) ⟨#[s0, s1, s2, s3, s4, .int .i64 m, .slice A6 n c6, s7, s8, s9, s10, s11, s12, s13, s14, s15, s16, s17, s18, s19, s20, s21, s22, s23, s24, s25, s26, s27, s28, s29, s30, s31, s32, s33, s34, s35, s36, s37, s38, s39, s40, s41, s42, s43, s44, s45, s46, s47, s48, s49, s50, s51, s52, s53, s54, s55, s56, s57, s58, s59, s60, s61, s62, s63, s64, s65, s66, s67, s68, s69, s70, s71, s72, s73, s74, s75, s76, s77, s78, s79, s80, s81, s82, s83, s84, s85, s86, s87, s88, s89, s90, s91, s92, s93, s94, s95, s96, s97, s98, s99, s100, s101, s102, s103, s104, s105, s106, s107, s108, s109, s110, s111, s112, s113, s114, s115, s116, s117, s118, s119, s120], []⟩ W := by
  generalize hQ : bodyPost Tryd.prog Tryd.f8 (LawPost w) = Q
  dsimp only [subx, Tryd.f8, Option.getD]
  subst hQ
  have hp6 := HRow.out.plain (by omega)
  have hix0 : ∀ W : World, (Instr.indexAt 36 (.slice A6 n c6) (.int .i64 0)).run Tryd.prog W = .ok (.pointer (some ⟨bk A6, ofs A6, none⟩)) W := fun W => by simpa using ix36r (n := n) (by rw [HNR.out]; exact hp6) c6 0 (by rw [HNR.out]; simp) W
  have hr0 : W.rangeAt (bk A6) (ofs A6) [.int .i64 t0.c.call, .int .i64 t0.c.inc, .int .i64 t0.c.urg, .string t0.c.code, .slice t0.A t0.c.nodes.length t0.k, .int .i64 t0.c.dist, .int .i64 t0.c.since, .bool t0.c.closed] := by
    have := ca_rangeR HRow.out (k := 0) (by simp)
    rw [show ofs A6 + 0 * 8 = ofs A6 by omega] at this
    exact this
  obtain ⟨m1, m2, m3, m4⟩ := HV.out t0 (by simp)
  have H12 := Lib.hid (show Calls Tryd.prog 12 #[.int .i64 5, .agg #[.int .i64 t0.c.call, .int .i64 t0.c.inc, .int .i64 t0.c.urg, .string t0.c.code, .slice t0.A t0.c.nodes.length t0.k, .int .i64 t0.c.dist, .int .i64 t0.c.since, .bool t0.c.closed]] W (fun e w' => ∃ An Ac Au cn cc cu, e = .returned (.tuple #[.agg #[.int .i64 5, .int .i64 t0.c.urg, .string t0.c.code, .slice An t0.c.nodes.length cn, .int .i64 t0.c.dist, .int .i64 t0.c.since, .slice Ac 1 cc, .slice Au 0 cu, .int .i64 0, .bool false], .int .i64 0]) ∧ RI w' (· < w'.heap.size) An t0.c.nodes ∧ RI w' (· < w'.heap.size) Ac [t0.c.call] ∧ RI w' (· < w'.heap.size) Au [] ∧ Below W.heap.size W w') from by
    have := from12 _ 5 t0.c.call t0.c.inc t0.c.urg t0.c.dist t0.c.since t0.c.code t0.A t0.k t0.c.nodes t0.c.closed W (by omega) (HNod.out t0 (by simp)) (by omega)
    rw [if_pos (by rw [show crB ⟨t0.c.call, t0.c.inc, t0.c.urg, t0.c.code, t0.c.nodes, t0.c.dist, t0.c.since, t0.c.closed⟩ = true from m1]; decide)] at this
    exact this.mono (fun e w' ⟨An, Ac, Au, cn, cc, cu, g1, g2, g3, g4, g5⟩ => ⟨An, Ac, Au, cn, cc, cu, g1, ((ri_own g2).old (by omega)).more (fun b hb => hb.2), ((ri_own (l := [t0.c.call]) g3).old (by omega)).more (fun b hb => hb.2), ((ri_own (l := []) g4).old (by omega)).more (fun b hb => hb.2), g5⟩))
  obtain ⟨Y, hY, h1⟩ := anw_common (cs := (t0 :: r).map (fun t : Ca => t.c)) (c0 := t0.c) (id := 5) (m := m) (by decide) (by simp) (fun t ht => by
    obtain ⟨u, hu, rfl⟩ := List.mem_map.1 ht
    exact (HV.out u hu).1) (by rw [List.map_map]; exact HD.out) (fun t ht => by
    obtain ⟨u, hu, rfl⟩ := List.mem_map.1 ht
    exact (HV.out u hu).2.1)
  have hS : IcS Y := by
    have := icS_anw (x := fromI 5 t0.c) (cs := (t0 :: r).map (fun t : Ca => t.c)) (by show 0 ≤ 1000; omega) (fun t ht => by
      obtain ⟨u, hu, rfl⟩ := List.mem_map.1 ht
      exact (HV.out u hu).2.2.2) (by rw [List.length_map, ← HNR.out]; omega)
    rw [hY] at this
    exact this
  have HY := Lib.hid (And.intro hY (And.intro h1 hS))
  have HM := Lib.hid (And.intro m3 m4)
  clear m1 m2 m3 m4 hY h1 hS
  have hlt := lt
  go_upto_region 18 with (first
    | (refine wpList_load_mid rfl 27 _ rfl (bk A6) (ofs A6) rfl [.int .i64 t0.c.call, .int .i64 t0.c.inc, .int .i64 t0.c.urg, .string t0.c.code, .slice t0.A t0.c.nodes.length t0.k, .int .i64 t0.c.dist, .int .i64 t0.c.since, .bool t0.c.closed] _ hr0 Tryd.underlying27 rfl rsz27 ?_)
    | (go_at_call 12; ((with_reducible refine H12.out.mono ?_); rintro e w6 ⟨An, Ac, Au, cn, cc, cu, rfl, hn6, hc6, hu6, hb⟩; have HN6 := Lib.hid hn6; have HC6 := Lib.hid hc6; have HU6 := Lib.hid hu6; have HB6 := Lib.hid hb; clear hb hn6 hc6 hu6)))
  have hba := (Below.refl w6.heap.size w6).alloc (Nat.le_refl _) (.cells #[.int .i64 5, .int .i64 t0.c.urg, .string t0.c.code, .slice An t0.c.nodes.length cn, .int .i64 t0.c.dist, .int .i64 t0.c.since, .slice Ac 1 cc, .slice Au 0 cu, .int .i64 0, .bool false] 25)
  have HX7 := Lib.hid (Blk.new w6 25 #[.int .i64 5, .int .i64 t0.c.urg, .string t0.c.code, .slice An t0.c.nodes.length cn, .int .i64 t0.c.dist, .int .i64 t0.c.since, .slice Ac 1 cc, .slice Au 0 cu, .int .i64 0, .bool false])
  have HN7 := Lib.hid (lt_more hba.size (HN6.out.alloc (.cells #[.int .i64 5, .int .i64 t0.c.urg, .string t0.c.code, .slice An t0.c.nodes.length cn, .int .i64 t0.c.dist, .int .i64 t0.c.since, .slice Ac 1 cc, .slice Au 0 cu, .int .i64 0, .bool false] 25)))
  have HC7 := Lib.hid (lt_more hba.size (HC6.out.alloc (.cells #[.int .i64 5, .int .i64 t0.c.urg, .string t0.c.code, .slice An t0.c.nodes.length cn, .int .i64 t0.c.dist, .int .i64 t0.c.since, .slice Ac 1 cc, .slice Au 0 cu, .int .i64 0, .bool false] 25)))
  have HU7 := Lib.hid (lt_more hba.size (HU6.out.alloc (.cells #[.int .i64 5, .int .i64 t0.c.urg, .string t0.c.code, .slice An t0.c.nodes.length cn, .int .i64 t0.c.dist, .int .i64 t0.c.since, .slice Ac 1 cc, .slice Au 0 cu, .int .i64 0, .bool false] 25)))
  have HB7 := Lib.hid (HB6.out.alloc HB6.out.size (.cells #[.int .i64 5, .int .i64 t0.c.urg, .string t0.c.code, .slice An t0.c.nodes.length cn, .int .i64 t0.c.dist, .int .i64 t0.c.since, .slice Ac 1 cc, .slice Au 0 cu, .int .i64 0, .bool false] 25))
  clear HN6 HC6 HU6 HB6 hba H12 hr0 hix0
  generalize w6.alloc _ = W7 at *
  generalize w6.heap.size = p9 at *
  have HBw := Lib.hid (HB.out.trans (HB7.out.mono HB.out.size))
  have HRow7 := Lib.hid (lt_more HB7.out.size (HRow.out.below HB7.out (fun _ h => h)))
  have HNod7 := Lib.hid fun u (hu : u ∈ t0 :: r) => lt_more HB7.out.size ((HNod.out u hu).below HB7.out (fun _ h => h))
  have H26 := Lib.hid (show Calls Tryd.prog 26 #[.agg #[.int .i64 5, .int .i64 t0.c.urg, .string t0.c.code, .slice An t0.c.nodes.length cn, .int .i64 t0.c.dist, .int .i64 t0.c.since, .slice Ac 1 cc, .slice Au 0 cu, .int .i64 0, .bool false], .slice A6 n c6] W7 (IncPost Y 0 W7) from by rw [HNR.out]; exact reb_any t0.c ((t0 :: r).map (fun t : Ca => t.c)) Y HY.out.1 An Ac Au cn cc cu (t0 :: r) A6 c6 W7 (Tab.below ht HBw.out ht.lt) HN7.out HC7.out HU7.out HRow7.out HNod7.out (List.Perm.refl _) HM.out.1 HM.out.2 (by rw [← HNR.out]; omega) (fun t ht => (HV.out t ht).2.2))
  obtain ⟨x0, x1, x2⟩ := HX7.out.facts
  clear HRow HNod HB HB7
  go_upto_region 21 with (go_at_call 26; ((with_reducible refine H26.out.mono ?_); rintro e w8 ⟨Any, Acy, Auy, cny, ccy, cuy, rfl, hny, hcy, huy, hb⟩; have HNy := Lib.hid (((ri_own hny).old (by omega)).more (B' := fun b => b < w8.heap.size) (fun b hb => hb.2)); have HCy := Lib.hid (((ri_own hcy).old (by omega)).more (B' := fun b => b < w8.heap.size) (fun b hb => hb.2)); have HUy := Lib.hid (((ri_own huy).old (by omega)).more (B' := fun b => b < w8.heap.size) (fun b hb => hb.2)); have hb8 := Lib.hid hb; clear hb hny hcy huy x0 x1 x2))
  have hba := (Below.refl w8.heap.size w8).alloc (Nat.le_refl _) (.cells #[.int .i64 Y.id, .int .i64 Y.urg, .string Y.code, .slice Any Y.nodes.length cny, .int .i64 Y.dist, .int .i64 Y.since, .slice Acy Y.calls.length ccy, .slice Auy Y.units.length cuy, .int .i64 Y.merged, .bool Y.closed] 25)
  have HYb := Lib.hid (Blk.new w8 25 #[.int .i64 Y.id, .int .i64 Y.urg, .string Y.code, .slice Any Y.nodes.length cny, .int .i64 Y.dist, .int .i64 Y.since, .slice Acy Y.calls.length ccy, .slice Auy Y.units.length cuy, .int .i64 Y.merged, .bool Y.closed])
  have HK9 := Lib.hid (show KSt w (w8.alloc (.cells #[.int .i64 Y.id, .int .i64 Y.urg, .string Y.code, .slice Any Y.nodes.length cny, .int .i64 Y.dist, .int .i64 Y.since, .slice Acy Y.calls.length ccy, .slice Auy Y.units.length cuy, .int .i64 Y.merged, .bool Y.closed] 25)) (t0 :: r) A6 t0.c Y p9 w8.heap.size An Ac Au cn cc cu Any Acy Auy cny ccy cuy from
    ⟨lt_more hba.size (((lt_more hb8.out.size (HRow7.out.below hb8.out (fun _ h => h))).below hba (fun _ h => h))), fun u hu => lt_more hba.size ((lt_more hb8.out.size ((HNod7.out u hu).below hb8.out (fun _ h => h))).below hba (fun _ h => h)), (HX7.out.below hb8.out HX7.out.lt).alloc _, lt_more hba.size ((lt_more hb8.out.size (HN7.out.below hb8.out (fun _ h => h))).below hba (fun _ h => h)), lt_more hba.size ((lt_more hb8.out.size (HC7.out.below hb8.out (fun _ h => h))).below hba (fun _ h => h)), lt_more hba.size ((lt_more hb8.out.size (HU7.out.below hb8.out (fun _ h => h))).below hba (fun _ h => h)), HYb.out, lt_more hba.size (HNy.out.below hba (fun _ h => h)), lt_more hba.size (HCy.out.below hba (fun _ h => h)), lt_more hba.size (HUy.out.below hba (fun _ h => h)), (HBw.out.trans (hb8.out.mono HBw.out.size)).alloc (Nat.le_trans HBw.out.size hb8.out.size) _⟩)
  clear HX7 HN7 HC7 HU7 HBw HRow7 HNod7 H26 HYb HNy HCy HUy hb8 hba
  generalize w8.alloc _ = W9 at *
  generalize w8.heap.size = p11 at *
  obtain rfl := HNR.out
  iterate 6 go_step
  rename_i KK hKK
  refine hKK _ _ ?_
  refine wp_of_eq (c' := subx [true, true, true, true, true, true, true, true, true, true] (Tryd.f8.body.getD .skip)) (by kernel_rfl) ?_
  exact kcn_back m ((t0 :: r).map (fun t : Ca => t.c)) c6 w W9 (t0 :: r) A6 t0.c Y p9 p11 An Ac Au cn cc cu Any Acy Auy cny ccy cuy ht HY.out.1 HY.out.2.1 HY.out.2.2 (List.Perm.refl _) HM.out.1 HM.out.2 hlt (fun t ht => (HV.out t ht).2.2) HK9 _ _ _ _ _ _ _ _ _ _ _ _ _ _ _ _ _ _ _ _ _ _ _ _ _ _ _ _ _ _ _ _ _ _ _ _ _ _ _ _ _ _ _ _ _ _ _ _ _ _ _ _ _ _ _ _ _ _ _ _ _ _ _ _ _ _ _ _ _ _ _ _ _ _ _ _ _ _ _ _ _ _ _ _ _ _ _ _ _ _ _ _ _ _ _ _ _ _ _ _ _ _ _ _ _ _ _ _ _ _ _ _ _ _ _
end Go.Proofs.YtipkicijfedfoaaDoor

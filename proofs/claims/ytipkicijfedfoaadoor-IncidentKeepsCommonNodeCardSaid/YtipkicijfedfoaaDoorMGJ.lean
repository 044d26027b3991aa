import Derived.Test.YtipkicijfedfoaaDoorMAnw4
import Derived.Deep.MidRow
import Derived.Deep.RegionHeld
import Derived.Deep.RegionLaw
import Derived.Deep.DeepCutAuto
namespace Go.Proofs.YtipkicijfedfoaaDoor
set_option linter.unusedVariables false
set_option linter.unusedSimpArgs false
open Go.RowKit Go.Own Go.Quo Go.Inc
set_option maxRecDepth 10000 in
set_option maxHeartbeats 8000000 in
theorem anw_end (x y : Ic) (cs : List Cr) (An Ac Au Ay Acy Auy : Option Addr) (cn cc cu cny ccy cuy p : Nat) (w wr : World) (hpY : w.heap.size + 2 ≤ p) (HU : RowKit.Hid (RI w (· < w.heap.size) Au x.units))
    (HP : RowKit.Hid (Blk wr p 25 #[.int .i64 y.id, .int .i64 y.urg, .string y.code, .slice Ay y.nodes.length cny, .int .i64 y.dist, .int .i64 y.since, .slice Acy y.calls.length ccy, .slice Auy y.units.length cuy, .int .i64 y.merged, .bool y.closed])) (HN : RowKit.Hid (RI wr (fun b => b < wr.heap.size ∧ b ≠ p ∧ (b < w.heap.size ∨ w.heap.size + 2 ≤ b)) Ay y.nodes)) (HC : RowKit.Hid (RI wr (fun b => b < wr.heap.size ∧ b ≠ p ∧ (b < w.heap.size ∨ w.heap.size + 2 ≤ b)) Acy y.calls))
    (HX : RowKit.Hid (Blk wr w.heap.size 25 #[.int .i64 x.id, .int .i64 x.urg, .string x.code, .slice An x.nodes.length cn, .int .i64 x.dist, .int .i64 x.since, .slice Ac x.calls.length cc, .slice Au x.units.length cu, .int .i64 x.merged, .bool x.closed])) (HY : RowKit.Hid (Blk wr (w.heap.size + 1) 25 #[.int .i64 0, .int .i64 0, .string ⟨#[]⟩, .slice none 0 0, .int .i64 0, .int .i64 0, .slice none 0 0, .slice none 0 0, .int .i64 0, .bool false])) (HB : RowKit.Hid (Below w.heap.size w wr)) (HPz : RowKit.Hid (anwP x cs = if x.merged ≠ 0 then (zeroIc, 8) else (⟨x.id, y.urg, y.code, y.nodes, x.dist, y.since, y.calls, x.units, x.merged, x.closed⟩, 0))) (s0 s1 s3 s5 s6 s7 s8 s9 s10 s12 s13 s14 s15 s16 s17 s18 s19 s20 s21 s22 s23 s24 s25 s26 s27 s28 s29 s30 s31 s32 s33 s34 s35 s36 s37 s38 s39 s40 s41 s42 s43 s44 s45 s46 s47 s48 s49 s50 s51 s52 s53 s54 s55 s56 s57 s58 s59 s60 s61 s62 s63 s64 s65 s66 s67 s68 s69 s70 s71 s72 s73 s74 s75 s76 s77 s78 s79 s80 s81 s82 s83 s84 s85 s86 s87 s88 s89 s90 s91 s92 s93 s94 s95 s96 s97 s98 s99 s100 s101 s102 s103 s104 s105 s106 s107 s108 s109 s110 s111 s112 s113 s114 s115 s116 s117 s118 s119 s120 s121 s122 s123 s124 s125 s126 s127 s128 s129 s130 s131 s132 s133 s134 s135 : Value) :
    (subx [true, true, true, true, true, true, true] (Tryd.f27.body.getD .skip)).wp Tryd.prog (bodyPost Tryd.prog Tryd.f27 (AnwPost x cs w)) ⟨#[s0, s1, .pointer (some ⟨w.heap.size, 0, none⟩), s3, .pointer (some ⟨w.heap.size + 1, 0, none⟩), s5, s6, s7, s8, s9, s10, .pointer (some ⟨p, 0, none⟩), s12, s13, s14, s15, s16, s17, s18, s19, s20, s21, s22, s23, s24, s25, s26, s27, s28, s29, s30, s31, s32, s33, s34, s35, s36, s37, s38, s39, s40, s41, s42, s43, s44, s45, s46, s47, s48, s49, s50, s51, s52, s53, s54, s55, s56, s57, s58, s59, s60, s61, s62, s63, s64, s65, s66, s67, s68, s69, s70, s71, s72, s73, s74, s75, s76, s77, s78, s79, s80, s81, s82, s83, s84, s85, s86, s87, s88, s89, s90, s91, s92, s93, s94, s95, s96, s97, s98, s99, s100, s101, s102, s103, s104, s105, s106, s107, s108, s109, s110, s111, s112, s113, s114, s115, s116, s117, s118, s119, s120, s121, s122, s123, s124, s125, s126, s127, s128, s129, s130, s131, s132, s133, s134, s135], []⟩ wr := by
  generalize hQ : bodyPost Tryd.prog Tryd.f27 (AnwPost x cs w) = Q
  dsimp only [subx, Tryd.f27, Option.getD]
  subst hQ
  obtain ⟨x0, x1, x2⟩ := HX.out.facts
  obtain ⟨y0, y1, y2⟩ := HP.out.facts
  by_cases hm : x.merged = 0
  · have HPy := Lib.hid (show anwP x cs = (⟨x.id, y.urg, y.code, y.nodes, x.dist, y.since, y.calls, x.units, x.merged, x.closed⟩, 0) by rw [HPz.out, if_neg (fun h => h hm)])
    have dm : (x.merged != 0) = false := by rw [hm]; rfl
    have dm2 : ((x.merged : Int) == 0) = true := by rw [hm]; rfl
    clear hm HPz
    have HX9 := Lib.hid (show Blk (((((wr.setCell ⟨w.heap.size, 1, none⟩ (.int .i64 y.urg)).setCell ⟨w.heap.size, 2, none⟩ (.string y.code)).setCell ⟨w.heap.size, 3, none⟩ (.slice Ay y.nodes.length cny)).setCell ⟨w.heap.size, 5, none⟩ (.int .i64 y.since)).setCell ⟨w.heap.size, 6, none⟩ (.slice Acy y.calls.length ccy)) w.heap.size 25 #[.int .i64 x.id, .int .i64 y.urg, .string y.code, .slice Ay y.nodes.length cny, .int .i64 x.dist, .int .i64 y.since, .slice Acy y.calls.length ccy, .slice Au x.units.length cu, .int .i64 x.merged, .bool x.closed] by
      have := ((((HX.out.set_ 1 (.int .i64 y.urg)).set_ 2 (.string y.code)).set_ 3 (.slice Ay y.nodes.length cny)).set_ 5 (.int .i64 y.since)).set_ 6 (.slice Acy y.calls.length ccy)
      simpa using this)
    have HF9 := Lib.hid ((((((Fr.refl (fun k => k = w.heap.size) wr).setCell (p := ⟨w.heap.size, 1, none⟩) (.inl rfl) (.int .i64 y.urg)).setCell (p := ⟨w.heap.size, 2, none⟩) (.inl rfl) (.string y.code)).setCell (p := ⟨w.heap.size, 3, none⟩) (.inl rfl) (.slice Ay y.nodes.length cny)).setCell (p := ⟨w.heap.size, 5, none⟩) (.inl rfl) (.int .i64 y.since)).setCell (p := ⟨w.heap.size, 6, none⟩) (.inl rfl) (.slice Acy y.calls.length ccy))
    have HKc := Lib.hid fun (W' : World) (h : Fr (fun k => k = w.heap.size) wr W') => (show W'.cell? ⟨p, 1, none⟩ = some (.int .i64 y.urg) ∧ W'.cell? ⟨p, 2, none⟩ = some (.string y.code) ∧ W'.cell? ⟨p, 3, none⟩ = some (.slice Ay y.nodes.length cny) ∧ W'.cell? ⟨p, 5, none⟩ = some (.int .i64 y.since) ∧ W'.cell? ⟨p, 6, none⟩ = some (.slice Acy y.calls.length ccy) from by
      have h1 := HP.out.fr h (by omega)
      refine ⟨?_, ?_, ?_, ?_, ?_⟩ <;> (rw [Blk.cell h1]; rfl))
    have K0 := HKc.out _ (Fr.refl _ wr).drew
    have F1 := (Fr.refl (fun k => k = w.heap.size) wr).setCell (p := ⟨w.heap.size, 1, none⟩) (.inl rfl) (.int .i64 y.urg)
    have F2 := F1.setCell (p := ⟨w.heap.size, 2, none⟩) (.inl rfl) (.string y.code)
    have F3 := F2.setCell (p := ⟨w.heap.size, 3, none⟩) (.inl rfl) (.slice Ay y.nodes.length cny)
    have F4 := F3.setCell (p := ⟨w.heap.size, 5, none⟩) (.inl rfl) (.int .i64 y.since)
    have F5 := F4.setCell (p := ⟨w.heap.size, 6, none⟩) (.inl rfl) (.slice Acy y.calls.length ccy)
    have K1 := HKc.out _ F1.drew
    have K2 := HKc.out _ F2.drew
    have K3 := HKc.out _ F3.drew
    have K4 := HKc.out _ F4.drew
    have K5 := HKc.out _ F5.drew
    clear F1 F2 F3 F4 F5
    go_upto_region 29 with (fail)
    go_region_held (fun W' => W'.cell? ⟨p, 1, none⟩ = some (.int .i64 y.urg) ∧ W'.cell? ⟨p, 2, none⟩ = some (.string y.code) ∧ W'.cell? ⟨p, 3, none⟩ = some (.slice Ay y.nodes.length cny) ∧ W'.cell? ⟨p, 5, none⟩ = some (.int .i64 y.since) ∧ W'.cell? ⟨p, 6, none⟩ = some (.slice Acy y.calls.length ccy)) (with_reducible assumption) (fail)
    all_goals
      have HXd := Lib.hid HX9.out.drew
      have HFd := Lib.hid HF9.out.drew
      have HYd := Lib.hid (HY.out.fr HFd.out (by omega))
      clear K0 K1 K2 K3 K4 K5 HKc HX9 HF9 x0 x1 x2 y0 y1 y2
      generalize (World.setCell _ _ _).drew = W9 at *
      obtain ⟨x0, x1, x2⟩ := HXd.out.facts
      go_wp2_with (refine wpList_storeBlk rfl (.tmp 4) (.tmp 135) 25 rfl (w.heap.size + 1) 25 _ #[.int .i64 x.id, .int .i64 y.urg, .string y.code, .slice Ay y.nodes.length cny, .int .i64 x.dist, .int .i64 y.since, .slice Acy y.calls.length ccy, .slice Au x.units.length cu, .int .i64 x.merged, .bool x.closed] _ 10 136 info25 rfl rfl rfl HYd.out rfl (ten_one (by simp [Value.oneCell'])) ?_; intro w9 hb9 hf9 hs9)
      refine bodyPost_ret (results_ct (p := 4) (u := 5) (ty := 25) Tryd.results27 _ _ (w.heap.size + 1) 25 #[.int .i64 x.id, .int .i64 y.urg, .string y.code, .slice Ay y.nodes.length cny, .int .i64 x.dist, .int .i64 y.since, .slice Acy y.calls.length ccy, .slice Au x.units.length cu, .int .i64 x.merged, .bool x.closed] (0, 0) _ rfl hb9 Tryd.underlying25 rfl size25) rfl ?_
      unfold AnwPost; rw [HPy.out]
      have hs9' := HFd.out.size
      have hB9 := (HB.out.trans (HFd.out.below HB.out.size (fun k hk e => by omega)))
      refine ⟨Ay, Acy, Au, cny, ccy, cu, rfl, ?_, ?_, ?_, hB9.trans (hf9.below hB9.size (fun k hk e => by omega))⟩
      · exact (((HN.out.fr HFd.out (fun b hb => by have := hb.2.2; omega)).fr hf9 (fun b hb => by have := hb.2.2; omega)).old (by omega)).more (fun b hb => hb.2)
      · exact (((HC.out.fr HFd.out (fun b hb => by have := hb.2.2; omega)).fr hf9 (fun b hb => by have := hb.2.2; omega)).old (by omega)).more (fun b hb => hb.2)
      · exact (((HU.out.below hB9 (fun b hb => hb)).fr hf9 (fun b hb => by omega)).old (by omega)).more (fun b hb => hb.2)
  · have HPy := Lib.hid (show anwP x cs = (zeroIc, 8) by rw [HPz.out, if_pos hm])
    have dm : (x.merged != 0) = true := by simpa [bne] using hm
    have dm2 : ((x.merged : Int) == 0) = false := by simpa using hm
    clear hm HPz
    go_wp2_with (refine wpList_storeBlk rfl (.tmp 4) (.tmp 119) 25 rfl (w.heap.size + 1) 25 _ #[.int .i64 0, .int .i64 0, .string ⟨#[]⟩, .slice none 0 0, .int .i64 0, .int .i64 0, .slice none 0 0, .slice none 0 0, .int .i64 0, .bool false] _ 10 136 info25 rfl rfl rfl HY.out rfl (ten_one (by simp [Value.oneCell'])) ?_; intro w9 hb9 hf9 hs9)
    refine bodyPost_ret (results_ct (p := 4) (u := 5) (ty := 25) Tryd.results27 _ _ (w.heap.size + 1) 25 #[.int .i64 0, .int .i64 0, .string ⟨#[]⟩, .slice none 0 0, .int .i64 0, .int .i64 0, .slice none 0 0, .slice none 0 0, .int .i64 0, .bool false] (0, 0) _ rfl hb9 Tryd.underlying25 rfl size25) rfl ?_
    unfold AnwPost; rw [HPy.out]
    exact rd_zero (HB.out.trans (hf9.below HB.out.size (fun k hk e => by omega)))
end Go.Proofs.YtipkicijfedfoaaDoor

namespace Go.Proofs.YtipkicijfedfoaaDoor
set_option linter.unusedVariables false
set_option linter.unusedSimpArgs false
open Go.RowKit Go.Own Go.Quo Go.Inc
set_option maxRecDepth 10000 in
set_option maxHeartbeats 8000000 in
theorem anw_loop (x : Ic) (An Ac Au : Option Addr) (cn cc cu : Nat) (t0 : Ca) (r : List Ca) (cs : List Cr) (A2 : Option Addr) (c2 n : Nat) (w w5 w6 : World) (hn : n ≤ 1000) (hc2 : n ≤ c2) (p : Nat) (An6 Ac6 Au6 : Option Addr) (cn6 cc6 cu6 : Nat) (hp : w5.heap.size ≤ p)
    (HU : RowKit.Hid (RI w (· < w.heap.size) Au x.units)) (HX3 : RowKit.Hid (Blk w5 w.heap.size 25 #[.int .i64 x.id, .int .i64 x.urg, .string x.code, .slice An x.nodes.length cn, .int .i64 x.dist, .int .i64 x.since, .slice Ac x.calls.length cc, .slice Au x.units.length cu, .int .i64 x.merged, .bool x.closed])) (HY3 : RowKit.Hid (Blk w5 (w.heap.size + 1) 25 #[.int .i64 0, .int .i64 0, .string ⟨#[]⟩, .slice none 0 0, .int .i64 0, .int .i64 0, .slice none 0 0, .slice none 0 0, .int .i64 0, .bool false])) (HB3 : RowKit.Hid (Below w.heap.size w w5))
    (HNR : RowKit.Hid (n = r.length + 1)) (HRow : RowKit.Hid (Reads w5 (· < w5.heap.size) 8 A2 (t0 :: r).length ((t0 :: r).flatMap caL))) (HMem : RowKit.Hid (∀ t ∈ t0 :: r, crB t.c = true ∧ RI w (· < w.heap.size) t.A t.c.nodes ∧ t.c.code.size ≤ 100000 ∧ t.c.nodes.length ≤ 100000)) (HAnw : RowKit.Hid (anwP x cs = match anwS (fromI x.id t0.c) (r.map (·.c)) with | none => (zeroIc, 5) | some y => if x.merged ≠ 0 then (zeroIc, 8) else (⟨x.id, y.urg, y.code, y.nodes, x.dist, y.since, y.calls, x.units, x.merged, x.closed⟩, 0)))
    (HZ6 : RowKit.Hid (Blk w6 p 25 #[.int .i64 x.id, .int .i64 t0.c.urg, .string t0.c.code, .slice An6 t0.c.nodes.length cn6, .int .i64 t0.c.dist, .int .i64 t0.c.since, .slice Ac6 1 cc6, .slice Au6 0 cu6, .int .i64 0, .bool false])) (HN6 : RowKit.Hid (w6.ownsRow w5.heap.size 3 1 (.slice An6 t0.c.nodes.length cn6) t0.c.nodes.length (t0.c.nodes.map (Value.int .i64)))) (HC6 : RowKit.Hid (w6.ownsRow w5.heap.size 2 1 (.slice Ac6 1 cc6) 1 [.int .i64 t0.c.call])) (HF6 : RowKit.Hid (Fr (fun _ => False) w5 w6)) (s0 s1 s3 s5 s7 s8 s9 s10 s12 s13 s14 s15 s16 s17 s18 s19 s20 s21 s22 s23 s24 s25 s26 s27 s28 s29 s30 s31 s32 s33 s34 s35 s36 s37 s38 s39 s40 s41 s42 s43 s44 s45 s46 s47 s48 s49 s50 s51 s52 s53 s54 s55 s56 s57 s58 s59 s60 s61 s62 s63 s64 s65 s66 s67 s68 s69 s70 s71 s72 s73 s74 s75 s76 s77 s78 s79 s80 s81 s82 s83 s84 s85 s86 s87 s88 s89 s90 s91 s92 s93 s94 s95 s96 s97 s98 s99 s100 s101 s102 s103 s104 s105 s106 s107 s108 s109 s110 s111 s112 s113 s114 s115 s116 s117 s118 s119 s120 s121 s122 s123 s124 s125 s126 s127 s128 s129 s130 s131 s132 s133 s134 s135 : Value) :
    (subx [true, true, true, true, true, true] (Tryd.f27.body.getD .skip)).wp Tryd.prog (bodyPost Tryd.prog Tryd.f27 (AnwPost x cs w)) ⟨#[s0, s1, .pointer (some ⟨w.heap.size, 0, none⟩), s3, .pointer (some ⟨w.heap.size + 1, 0, none⟩), s5, .slice A2 n c2, s7, s8, s9, s10, .pointer (some ⟨p, 0, none⟩), s12, s13, s14, s15, s16, s17, s18, s19, s20, s21, s22, s23, s24, s25, s26, s27, s28, s29, s30, s31, s32, s33, s34, s35, s36, s37, s38, s39, s40, s41, s42, s43, s44, s45, s46, s47, s48, s49, s50, s51, s52, s53, s54, s55, s56, s57, s58, s59, s60, s61, s62, s63, s64, s65, s66, s67, s68, s69, s70, s71, s72, s73, s74, s75, s76, s77, s78, s79, s80, s81, s82, s83, s84, s85, s86, s87, s88, s89, s90, s91, s92, s93, s94, s95, s96, s97, s98, s99, s100, s101, s102, s103, s104, s105, s106, s107, s108, s109, s110, s111, s112, s113, s114, s115, s116, s117, s118, s119, s120, s121, s122, s123, s124, s125, s126, s127, s128, s129, s130, s131, s132, s133, s134, s135], []⟩ w6 := by
  have hpos : 0 < n := by have := HNR.out; omega
  have hr3 : Reads w5 (· < w5.heap.size) 8 A2 n ((t0 :: r).flatMap caL) := by have := HRow.out; rw [List.length_cons, ← HNR.out] at this; exact this
  have HTl := Lib.hid (tail_reads hr3 HNR.out hc2)
  have hpt := HTl.out.plain (by omega)
  have hcut : ∀ W : World, (Instr.slice 36 (.slice A2 n c2) (some (.int .i64 1)) none none).run Tryd.prog W = .ok (.slice (cut8 A2 c2) r.length (c2 - 1)) W := fun W => by
    have := run_tail36 (A := A2) (c := c2) (show 1 ≤ n from hpos) W
    rw [HNR.out, Nat.add_sub_cancel] at this; rw [HNR.out]; exact this
  have hcut2 : ∀ W : World, (Instr.sliceAt 36 (.slice A2 n c2) (some (.int .i64 1)) none none).run Tryd.prog W = .ok (.slice (cut8 A2 c2) r.length (c2 - 1)) W := fun W => by
    have := run_tail36b (A := A2) (c := c2) (show 1 ≤ n from hpos) W
    rw [HNR.out, Nat.add_sub_cancel] at this; rw [HNR.out]; exact this
  clear hr3
  have hS := HB3.out.size
  have HM4 := Lib.hid (HMem.out t0 (by simp)).2.2.2
  have hz := HZ6.out
  have hn2 := HN6.out
  have hc3 := HC6.out
  have hf := HF6.out
  clear HZ6 HN6 HC6 HF6
  generalize hQ : bodyPost Tryd.prog Tryd.f27 (AnwPost x cs w) = Q
  dsimp only [subx, Tryd.f27, Option.getD]
  subst hQ
  have hsY := HY3.out.lt
  have HBw := Lib.hid (hf.below (B := w5.heap.size) (Nat.le_refl _) (fun _ _ => id))
  have HI := Lib.hid (show ∃ (k : Nat) (y : Ic) (Ay Acy Auy : Option Addr) (cny ccy cuy : Nat), k ≤ r.length ∧ Value.int .i64 0 = .int .i64 (k : Int) ∧ anwS (fromI x.id t0.c) ((r.map (·.c)).take k) = some y ∧ Blk w6 p 25 #[.int .i64 y.id, .int .i64 y.urg, .string y.code, .slice Ay y.nodes.length cny, .int .i64 y.dist, .int .i64 y.since, .slice Acy y.calls.length ccy, .slice Auy y.units.length cuy, .int .i64 y.merged, .bool y.closed] ∧ RI w6 (fun b => b < w6.heap.size ∧ b ≠ p ∧ (b < w.heap.size ∨ w.heap.size + 2 ≤ b)) Ay y.nodes ∧ RI w6 (fun b => b < w6.heap.size ∧ b ≠ p ∧ (b < w.heap.size ∨ w.heap.size + 2 ≤ b)) Acy y.calls ∧ y.calls.length ≤ ccy ∧ y.nodes.length ≤ 100000 ∧ y.calls.length = k + 1 ∧ Blk w6 w.heap.size 25 #[.int .i64 x.id, .int .i64 x.urg, .string x.code, .slice An x.nodes.length cn, .int .i64 x.dist, .int .i64 x.since, .slice Ac x.calls.length cc, .slice Au x.units.length cu, .int .i64 x.merged, .bool x.closed] ∧ Blk w6 (w.heap.size + 1) 25 #[.int .i64 0, .int .i64 0, .string ⟨#[]⟩, .slice none 0 0, .int .i64 0, .int .i64 0, .slice none 0 0, .slice none 0 0, .int .i64 0, .bool false] ∧ Below w.heap.size w w6 ∧ Below w5.heap.size w5 w6 from ⟨0, fromI x.id t0.c, An6, Ac6, Au6, cn6, cc6, cu6, Nat.zero_le _, rfl, rfl, hz, ((Reads.of_own hn2).old (by omega)).more (fun k hk => ⟨hk.2, own_ne_blk hn2 hz (by decide) k hk.1, .inr (by have := (hn2.lt k hk.1).1; omega)⟩), ((Reads.of_own hc3).old (by omega)).more (fun k hk => ⟨hk.2, own_ne_blk hc3 hz (by decide) k hk.1, .inr (by have := (hc3.lt k hk.1).1; omega)⟩), own_cap hc3, HM4.out, rfl, HX3.out.fr hf id, HY3.out.fr hf id, HB3.out.trans (HBw.out.mono hS), HBw.out⟩)
  have hpY : w.heap.size + 2 ≤ p := by omega
  have hpw := hp
  clear hz hn2 hc3 hf HX3 HY3 HBw HM4
  go_wp2_with fail
  go_loopw [102] (fun vi wr => ∃ (k : Nat) (y : Ic) (Ay Acy Auy : Option Addr) (cny ccy cuy : Nat), k ≤ r.length ∧ vi = .int .i64 (k : Int) ∧ anwS (fromI x.id t0.c) ((r.map (·.c)).take k) = some y ∧ Blk wr p 25 #[.int .i64 y.id, .int .i64 y.urg, .string y.code, .slice Ay y.nodes.length cny, .int .i64 y.dist, .int .i64 y.since, .slice Acy y.calls.length ccy, .slice Auy y.units.length cuy, .int .i64 y.merged, .bool y.closed] ∧ RI wr (fun b => b < wr.heap.size ∧ b ≠ p ∧ (b < w.heap.size ∨ w.heap.size + 2 ≤ b)) Ay y.nodes ∧ RI wr (fun b => b < wr.heap.size ∧ b ≠ p ∧ (b < w.heap.size ∨ w.heap.size + 2 ≤ b)) Acy y.calls ∧ y.calls.length ≤ ccy ∧ y.nodes.length ≤ 100000 ∧ y.calls.length = k + 1 ∧ Blk wr w.heap.size 25 #[.int .i64 x.id, .int .i64 x.urg, .string x.code, .slice An x.nodes.length cn, .int .i64 x.dist, .int .i64 x.since, .slice Ac x.calls.length cc, .slice Au x.units.length cu, .int .i64 x.merged, .bool x.closed] ∧ Blk wr (w.heap.size + 1) 25 #[.int .i64 0, .int .i64 0, .string ⟨#[]⟩, .slice none 0 0, .int .i64 0, .int .i64 0, .slice none 0 0, .slice none 0 0, .int .i64 0, .bool false] ∧ Below w.heap.size w wr ∧ Below w5.heap.size w5 wr) (fun vi _ => r.length - (intOf vi).toNat)
  case atStart => exact HI.out
  case round =>
    obtain ⟨k, y, Ay, Acy, Auy, cny, ccy, cuy, hk, rfl, han, hP, hN, hC, hcap, hln, hlc, hX, hY, hB, hW⟩ := hrel
    have HAn := Lib.hid han
    have HP := Lib.hid hP
    have HN := Lib.hid hN
    have HC := Lib.hid hC
    have HX := Lib.hid hX
    have HY := Lib.hid hY
    have HB := Lib.hid hB
    have HW := Lib.hid hW
    have HLs := Lib.hid (And.intro hcap (And.intro hln hlc))
    clear han hP hN hC hX hY hB hW hcap hln hlc HI
    by_cases hlt : k < r.length
    · have hlt' : (k : Int) < r.length := by omega
      have hix := fun W => ix36r hpt (c2 - 1) k hlt W
      obtain ⟨t, htk⟩ : ∃ t, t = r[k] := ⟨_, rfl⟩
      have hr : wr.rangeAt (bk (cut8 A2 c2)) (ofs (cut8 A2 c2) + k * 8) [.int .i64 t.c.call, .int .i64 t.c.inc, .int .i64 t.c.urg, .string t.c.code, .slice t.A t.c.nodes.length t.k, .int .i64 t.c.dist, .int .i64 t.c.since, .bool t.c.closed] := by
        have := ca_rangeR (HTl.out.below HW.out (fun k hk => hk)) hlt
        rw [← htk] at this
        exact this
      obtain ⟨m1, m2, m3, m4⟩ := HMem.out t (by rw [htk]; exact List.mem_cons_of_mem _ (List.getElem_mem hlt))
      have HTake := Lib.hid (show ((r.map (·.c)).take (k + 1)) = ((r.map (·.c)).take k) ++ [t.c] by
        rw [List.take_succ_eq_append_getElem (by simpa using hlt), List.getElem_map, ← htk])
      have HSpl := Lib.hid (show r.map (·.c) = (r.map (·.c)).take k ++ t.c :: (r.map (·.c)).drop (k + 1) by
        have hl2 : k < (r.map (·.c)).length := by simpa using hlt
        have := List.take_append_drop k (r.map (·.c))
        rw [List.drop_eq_getElem_cons hl2, List.getElem_map, ← htk] at this
        exact this.symm)
      clear htk
      have hW1 := HW.out.size
      have hr1 := HNR.out
      have hkb : k < 1000 := by omega
      have HPa := Lib.hid (HP.out.alloc (.cells #[.int .i64 t.c.call, .int .i64 t.c.inc, .int .i64 t.c.urg, .string t.c.code, .slice t.A t.c.nodes.length t.k, .int .i64 t.c.dist, .int .i64 t.c.since, .bool t.c.closed] 27))
      have HNa := Lib.hid ((HN.out.alloc (.cells #[.int .i64 t.c.call, .int .i64 t.c.inc, .int .i64 t.c.urg, .string t.c.code, .slice t.A t.c.nodes.length t.k, .int .i64 t.c.dist, .int .i64 t.c.since, .bool t.c.closed] 27)).more (B' := fun b => b ≠ p ∧ (b < w.heap.size ∨ w.heap.size + 2 ≤ b)) (fun b hb => hb.2))
      have HCa := Lib.hid ((HC.out.alloc (.cells #[.int .i64 t.c.call, .int .i64 t.c.inc, .int .i64 t.c.urg, .string t.c.code, .slice t.A t.c.nodes.length t.k, .int .i64 t.c.dist, .int .i64 t.c.since, .bool t.c.closed] 27)).more (B' := fun b => b ≠ p ∧ (b < w.heap.size ∨ w.heap.size + 2 ≤ b)) (fun b hb => hb.2))
      have HXa := Lib.hid (HX.out.alloc (.cells #[.int .i64 t.c.call, .int .i64 t.c.inc, .int .i64 t.c.urg, .string t.c.code, .slice t.A t.c.nodes.length t.k, .int .i64 t.c.dist, .int .i64 t.c.since, .bool t.c.closed] 27))
      have HYa := Lib.hid (HY.out.alloc (.cells #[.int .i64 t.c.call, .int .i64 t.c.inc, .int .i64 t.c.urg, .string t.c.code, .slice t.A t.c.nodes.length t.k, .int .i64 t.c.dist, .int .i64 t.c.since, .bool t.c.closed] 27))
      have HTa := Lib.hid (Blk.new wr 27 #[.int .i64 t.c.call, .int .i64 t.c.inc, .int .i64 t.c.urg, .string t.c.code, .slice t.A t.c.nodes.length t.k, .int .i64 t.c.dist, .int .i64 t.c.since, .bool t.c.closed])
      have HBa := Lib.hid (HB.out.alloc HB.out.size (.cells #[.int .i64 t.c.call, .int .i64 t.c.inc, .int .i64 t.c.urg, .string t.c.code, .slice t.A t.c.nodes.length t.k, .int .i64 t.c.dist, .int .i64 t.c.since, .bool t.c.closed] 27))
      have HWa := Lib.hid (HW.out.alloc HW.out.size (.cells #[.int .i64 t.c.call, .int .i64 t.c.inc, .int .i64 t.c.urg, .string t.c.code, .slice t.A t.c.nodes.length t.k, .int .i64 t.c.dist, .int .i64 t.c.since, .bool t.c.closed] 27))
      have H67 := Lib.hid (more67 (fun b => b ≠ p ∧ (b < w.heap.size ∨ w.heap.size + 2 ≤ b)) y Ay Acy Auy cny ccy cuy t (wr.alloc (.cells #[.int .i64 t.c.call, .int .i64 t.c.inc, .int .i64 t.c.urg, .string t.c.code, .slice t.A t.c.nodes.length t.k, .int .i64 t.c.dist, .int .i64 t.c.since, .bool t.c.closed] 27)) HNa.out HCa.out ((m2.below HBa.out (fun k hk => hk)).more (fun b hb => ⟨by omega, .inl hb⟩)) HLs.out.1 HLs.out.2.1 (by have := HLs.out.2.2; omega) m4)
      have hpa := HPa.out.lt
      have HLs2 := Lib.hid (bothL_len y.nodes t.c.nodes)
      clear m1 m2 m3 m4 HP HN HC HX HY HB HW hr1
      obtain ⟨x0, x1, x2⟩ := HTa.out.facts
      obtain ⟨y0, y1, y2⟩ := HPa.out.facts
      by_cases hh : hitB y.calls t.c.call
      · have H := Lib.hid (show Calls Tryd.prog 67 #[.agg #[.int .i64 y.id, .int .i64 y.urg, .string y.code, .slice Ay y.nodes.length cny, .int .i64 y.dist, .int .i64 y.since, .slice Acy y.calls.length ccy, .slice Auy y.units.length cuy, .int .i64 y.merged, .bool y.closed], .agg #[.int .i64 t.c.call, .int .i64 t.c.inc, .int .i64 t.c.urg, .string t.c.code, .slice t.A t.c.nodes.length t.k, .int .i64 t.c.dist, .int .i64 t.c.since, .bool t.c.closed]] (wr.alloc (.cells #[.int .i64 t.c.call, .int .i64 t.c.inc, .int .i64 t.c.urg, .string t.c.code, .slice t.A t.c.nodes.length t.k, .int .i64 t.c.dist, .int .i64 t.c.since, .bool t.c.closed] 27)) (fun e w' => e = .returned (.tuple #[.agg #[.int .i64 y.id, .int .i64 y.urg, .string y.code, .slice Ay y.nodes.length cny, .int .i64 y.dist, .int .i64 y.since, .slice Acy y.calls.length ccy, .slice Auy y.units.length cuy, .int .i64 y.merged, .bool y.closed], .bool false]) ∧ Below (wr.alloc (.cells #[.int .i64 t.c.call, .int .i64 t.c.inc, .int .i64 t.c.urg, .string t.c.code, .slice t.A t.c.nodes.length t.k, .int .i64 t.c.dist, .int .i64 t.c.since, .bool t.c.closed] 27)).heap.size (wr.alloc (.cells #[.int .i64 t.c.call, .int .i64 t.c.inc, .int .i64 t.c.urg, .string t.c.code, .slice t.A t.c.nodes.length t.k, .int .i64 t.c.dist, .int .i64 t.c.since, .bool t.c.closed] 27)) w') from H67.out.mono (fun e w' h => by
          rcases h with ⟨_, h1, h2⟩ | ⟨h1, _⟩
          · exact ⟨h1, h2⟩
          · exact absurd hh h1))
        have HPz := Lib.hid (show anwP x cs = (zeroIc, 5) by
          rw [HAnw.out, HSpl.out, anwS_app, HAn.out]
          show (match (if hitB y.calls t.c.call then none else anwS (moreI y t.c) ((r.map (·.c)).drop (k + 1))) with | none => _ | some y => _) = _
          rw [if_pos hh])
        clear H67 hh HSpl HTake HAn HAnw
        go_wp2_with (first
          | (refine wpList_load_mid rfl 27 _ rfl (bk (cut8 A2 c2)) (ofs (cut8 A2 c2) + k * 8) rfl [.int .i64 t.c.call, .int .i64 t.c.inc, .int .i64 t.c.urg, .string t.c.code, .slice t.A t.c.nodes.length t.k, .int .i64 t.c.dist, .int .i64 t.c.since, .bool t.c.closed] _ hr Tryd.underlying27 rfl rsz27 ?_)
          | (go_at_call 67; ((with_reducible refine H.out.mono ?_); rintro e w7 ⟨rfl, hb7⟩; have HP7 := Lib.hid (HPa.out.below hb7 HPa.out.lt); have HY7 := Lib.hid (HYa.out.below hb7 HYa.out.lt); have HB7 := Lib.hid (HBa.out.trans (hb7.mono HBa.out.size)); clear hb7))
          | (refine wpList_storeBlk rfl (.tmp 11) (.tmp 110) 25 rfl p 25 _ #[.int .i64 y.id, .int .i64 y.urg, .string y.code, .slice Ay y.nodes.length cny, .int .i64 y.dist, .int .i64 y.since, .slice Acy y.calls.length ccy, .slice Auy y.units.length cuy, .int .i64 y.merged, .bool y.closed] _ 10 136 info25 rfl rfl rfl HP7.out rfl (ten_one (by simp [Value.oneCell'])) ?_; intro w8 hb8 hf8 hs8; have HY8 := Lib.hid (HY7.out.fr hf8 (by omega)); have HB8 := Lib.hid (HB7.out.trans (hf8.below HB7.out.size (fun k hk e => by omega))); clear hb8 hf8 hs8)
          | (refine wpList_storeBlk rfl (.tmp 4) (.tmp 114) 25 rfl (w.heap.size + 1) 25 _ #[.int .i64 0, .int .i64 0, .string ⟨#[]⟩, .slice none 0 0, .int .i64 0, .int .i64 0, .slice none 0 0, .slice none 0 0, .int .i64 0, .bool false] _ 10 136 info25 rfl rfl rfl HY8.out rfl (ten_one (by simp [Value.oneCell'])) ?_; intro w9 hb9 hf9 hs9))
        refine bodyPost_ret (results_ct (p := 4) (u := 5) (ty := 25) Tryd.results27 _ _ (w.heap.size + 1) 25 #[.int .i64 0, .int .i64 0, .string ⟨#[]⟩, .slice none 0 0, .int .i64 0, .int .i64 0, .slice none 0 0, .slice none 0 0, .int .i64 0, .bool false] (0, 0) _ rfl hb9 Tryd.underlying25 rfl size25) rfl ?_
        unfold AnwPost; rw [HPz.out]
        exact rd_zero (HB8.out.trans (hf9.below HB8.out.size (fun k hk e => by omega)))
      · have H := Lib.hid (show Calls Tryd.prog 67 #[.agg #[.int .i64 y.id, .int .i64 y.urg, .string y.code, .slice Ay y.nodes.length cny, .int .i64 y.dist, .int .i64 y.since, .slice Acy y.calls.length ccy, .slice Auy y.units.length cuy, .int .i64 y.merged, .bool y.closed], .agg #[.int .i64 t.c.call, .int .i64 t.c.inc, .int .i64 t.c.urg, .string t.c.code, .slice t.A t.c.nodes.length t.k, .int .i64 t.c.dist, .int .i64 t.c.since, .bool t.c.closed]] (wr.alloc (.cells #[.int .i64 t.c.call, .int .i64 t.c.inc, .int .i64 t.c.urg, .string t.c.code, .slice t.A t.c.nodes.length t.k, .int .i64 t.c.dist, .int .i64 t.c.since, .bool t.c.closed] 27)) (fun e w' => ∃ (y' : Ic) (An2 Ac2 : Option Addr) (cn2 cc2 : Nat), RowKit.Hid (y' = moreI y t.c) ∧ e = .returned (.tuple #[.agg #[.int .i64 y.id, .int .i64 y'.urg, .string y'.code, .slice An2 y'.nodes.length cn2, .int .i64 y.dist, .int .i64 y'.since, .slice Ac2 y'.calls.length cc2, .slice Auy y.units.length cuy, .int .i64 y.merged, .bool y.closed], .bool true]) ∧ RI w' (fun k => ((k ≠ p ∧ (k < w.heap.size ∨ w.heap.size + 2 ≤ k)) ∨ (wr.alloc (.cells #[.int .i64 t.c.call, .int .i64 t.c.inc, .int .i64 t.c.urg, .string t.c.code, .slice t.A t.c.nodes.length t.k, .int .i64 t.c.dist, .int .i64 t.c.since, .bool t.c.closed] 27)).heap.size ≤ k) ∧ k < w'.heap.size) An2 y'.nodes ∧ RI w' (fun k => ((k ≠ p ∧ (k < w.heap.size ∨ w.heap.size + 2 ≤ k)) ∨ (wr.alloc (.cells #[.int .i64 t.c.call, .int .i64 t.c.inc, .int .i64 t.c.urg, .string t.c.code, .slice t.A t.c.nodes.length t.k, .int .i64 t.c.dist, .int .i64 t.c.since, .bool t.c.closed] 27)).heap.size ≤ k) ∧ k < w'.heap.size) Ac2 y'.calls ∧ y'.calls.length ≤ cc2 ∧ Below (wr.alloc (.cells #[.int .i64 t.c.call, .int .i64 t.c.inc, .int .i64 t.c.urg, .string t.c.code, .slice t.A t.c.nodes.length t.k, .int .i64 t.c.dist, .int .i64 t.c.since, .bool t.c.closed] 27)).heap.size (wr.alloc (.cells #[.int .i64 t.c.call, .int .i64 t.c.inc, .int .i64 t.c.urg, .string t.c.code, .slice t.A t.c.nodes.length t.k, .int .i64 t.c.dist, .int .i64 t.c.since, .bool t.c.closed] 27)) w') from H67.out.mono (fun e w' h => by
          rcases h with ⟨h1, _⟩ | ⟨_, y', An2, Ac2, cn2, cc2, e1, e2, e3, e4, e5, e6⟩
          · exact absurd h1 hh
          · exact ⟨y', An2, Ac2, cn2, cc2, Lib.hid e1, e2, e3, e4, e5, e6⟩))
        have HAn2 := Lib.hid (show anwS (fromI x.id t0.c) ((r.map (·.c)).take (k + 1)) = some (moreI y t.c) by
          rw [HTake.out, anwS_app, HAn.out]
          show (if hitB y.calls t.c.call then none else some (moreI y t.c)) = _
          rw [if_neg hh])
        have HL2 := Lib.hid (show (moreI y t.c).nodes.length ≤ 100000 by
          have h1 := HLs2.out
          have h2 := HLs.out.2.1
          show (if 0 < (bothL y.nodes t.c.nodes).length then bothL y.nodes t.c.nodes else y.nodes).length ≤ 100000
          split <;> omega)
        have HL3 := Lib.hid (show (moreI y t.c).calls.length = k + 1 + 1 by
          show (putL y.calls t.c.call).length = _
          rw [putL_length, HLs.out.2.2])
        clear H67 hh HSpl HTake HAn HLs HLs2
        go_wp2_with (first
          | (refine wpList_load_mid rfl 27 _ rfl (bk (cut8 A2 c2)) (ofs (cut8 A2 c2) + k * 8) rfl [.int .i64 t.c.call, .int .i64 t.c.inc, .int .i64 t.c.urg, .string t.c.code, .slice t.A t.c.nodes.length t.k, .int .i64 t.c.dist, .int .i64 t.c.since, .bool t.c.closed] _ hr Tryd.underlying27 rfl rsz27 ?_)
          | (go_at_call 67; ((with_reducible refine H.out.mono ?_); rintro e w7 ⟨y', An2, Ac2, cn2, cc2, he7, rfl, hn7, hc7, hq7, hb7⟩; have HP7 := Lib.hid (HPa.out.below hb7 HPa.out.lt); have HX7 := Lib.hid (HXa.out.below hb7 HXa.out.lt); have HY7 := Lib.hid (HYa.out.below hb7 HYa.out.lt); have HB7 := Lib.hid (HBa.out.trans (hb7.mono HBa.out.size)); have HW7 := Lib.hid (HWa.out.trans (hb7.mono HWa.out.size)); have HN7 := Lib.hid hn7; have HC7 := Lib.hid hc7; have HQ7 := Lib.hid hq7; clear hb7 hn7 hc7 hq7))
          | (refine wpList_storeBlk rfl (.tmp 11) (.tmp 110) 25 rfl p 25 _ #[.int .i64 y.id, .int .i64 y'.urg, .string y'.code, .slice An2 y'.nodes.length cn2, .int .i64 y.dist, .int .i64 y'.since, .slice Ac2 y'.calls.length cc2, .slice Auy y.units.length cuy, .int .i64 y.merged, .bool y.closed] _ 10 136 info25 rfl rfl rfl HP7.out rfl (ten_one (by simp [Value.oneCell'])) ?_; intro w8 hb8 hf8 hs8; have HP8 := Lib.hid hb8; have HF8 := Lib.hid hf8; have HS8 := Lib.hid hs8; clear hb8 hf8 hs8))
        obtain rfl := he7.out
        exact ⟨⟨k + 1, moreI y t.c, An2, Ac2, Auy, cn2, cc2, cuy, by omega, by go_num, HAn2.out, HP8.out,
          (HN7.out.fr HF8.out (fun b hb => by have := hb.1; omega)).more (fun b hb => ⟨by have := hb.2; have := HS8.out; omega, by have := hb.1; omega, by have := hb.1; omega⟩),
          (HC7.out.fr HF8.out (fun b hb => by have := hb.1; omega)).more (fun b hb => ⟨by have := hb.2; have := HS8.out; omega, by have := hb.1; omega, by have := hb.1; omega⟩),
          HQ7.out, HL2.out, HL3.out, HX7.out.fr HF8.out (by omega), HY7.out.fr HF8.out (by omega), HB7.out.trans (HF8.out.below HB7.out.size (fun k hk e => by omega)), HW7.out.trans (HF8.out.below HW7.out.size (fun k hk e => by omega))⟩, by simp [intOf]; omega⟩
    · have hlt' : ¬ (k : Int) < r.length := by omega
      have hk3 : k = r.length := by omega
      subst hk3
      have HPz := Lib.hid (show anwP x cs = if x.merged ≠ 0 then (zeroIc, 8) else (⟨x.id, y.urg, y.code, y.nodes, x.dist, y.since, y.calls, x.units, x.merged, x.closed⟩, 0) by
        have h1 := HAn.out
        rw [List.take_of_length_le (by simp)] at h1
        rw [HAnw.out, h1])
      go_upto_region 20 with (fail)
      iterate 14 go_step
      refine wp_of_eq (c' := subx [true, true, true, true, true, true, true] (Tryd.f27.body.getD .skip)) (by kernel_rfl) ?_
      exact anw_end x y cs An Ac Au Ay Acy Auy cn cc cu cny ccy cuy p w wr hpY HU HP HN HC HX HY HB HPz _ _ _ _ _ _ _ _ _ _ _ _ _ _ _ _ _ _ _ _ _ _ _ _ _ _ _ _ _ _ _ _ _ _ _ _ _ _ _ _ _ _ _ _ _ _ _ _ _ _ _ _ _ _ _ _ _ _ _ _ _ _ _ _ _ _ _ _ _ _ _ _ _ _ _ _ _ _ _ _ _ _ _ _ _ _ _ _ _ _ _ _ _ _ _ _ _ _ _ _ _ _ _ _ _ _ _ _ _ _ _ _ _ _ _ _ _ _ _ _ _ _ _ _ _ _ _ _ _ _ _ _ _
end Go.Proofs.YtipkicijfedfoaaDoor

namespace Go.Proofs.YtipkicijfedfoaaDoor
set_option linter.unusedVariables false
set_option linter.unusedSimpArgs false
open Go.RowKit Go.Own Go.Quo Go.Inc
set_option maxRecDepth 10000 in
set_option maxHeartbeats 8000000 in
theorem anw_mid (x : Ic) (An Ac Au : Option Addr) (cn cc cu : Nat) (t0 : Ca) (r : List Ca) (cs : List Cr) (A2 : Option Addr) (c2 n : Nat) (w w5 : World) (hn : n ≤ 1000) (hc2 : n ≤ c2)
    (HU : RowKit.Hid (RI w (· < w.heap.size) Au x.units)) (HX3 : RowKit.Hid (Blk w5 w.heap.size 25 #[.int .i64 x.id, .int .i64 x.urg, .string x.code, .slice An x.nodes.length cn, .int .i64 x.dist, .int .i64 x.since, .slice Ac x.calls.length cc, .slice Au x.units.length cu, .int .i64 x.merged, .bool x.closed])) (HY3 : RowKit.Hid (Blk w5 (w.heap.size + 1) 25 #[.int .i64 0, .int .i64 0, .string ⟨#[]⟩, .slice none 0 0, .int .i64 0, .int .i64 0, .slice none 0 0, .slice none 0 0, .int .i64 0, .bool false])) (HB3 : RowKit.Hid (Below w.heap.size w w5))
    (HNR : RowKit.Hid (n = r.length + 1)) (HRow : RowKit.Hid (Reads w5 (· < w5.heap.size) 8 A2 (t0 :: r).length ((t0 :: r).flatMap caL))) (HMem : RowKit.Hid (∀ t ∈ t0 :: r, crB t.c = true ∧ RI w (· < w.heap.size) t.A t.c.nodes ∧ t.c.code.size ≤ 100000 ∧ t.c.nodes.length ≤ 100000)) (HId : RowKit.Hid (numB x.id 1 = true)) (HAnw : RowKit.Hid (anwP x cs = match anwS (fromI x.id t0.c) (r.map (·.c)) with | none => (zeroIc, 5) | some y => if x.merged ≠ 0 then (zeroIc, 8) else (⟨x.id, y.urg, y.code, y.nodes, x.dist, y.since, y.calls, x.units, x.merged, x.closed⟩, 0))) (s0 s1 s3 s5 s7 s8 s9 s10 s11 s12 s13 s14 s15 s16 s17 s18 s19 s20 s21 s22 s23 s24 s25 s26 s27 s28 s29 s30 s31 s32 s33 s34 s35 s36 s37 s38 s39 s40 s41 s42 s43 s44 s45 s46 s47 s48 s49 s50 s51 s52 s53 s54 s55 s56 s57 s58 s59 s60 s61 s62 s63 s64 s65 s66 s67 s68 s69 s70 s71 s72 s73 s74 s75 s76 s77 s78 s79 s80 s81 s82 s83 s84 s85 s86 s87 s88 s89 s90 s91 s92 s93 s94 s95 s96 s97 s98 s99 s100 s101 s102 s103 s104 s105 s106 s107 s108 s109 s110 s111 s112 s113 s114 s115 s116 s117 s118 s119 s120 s121 s122 s123 s124 s125 s126 s127 s128 s129 s130 s131 s132 s133 s134 s135 : Value) :
    (subx [true, true, true, true] (Tryd.f27.body.getD .skip)).wp Tryd.prog (bodyPost Tryd.prog Tryd.f27 (AnwPost x cs w)) ⟨#[s0, s1, .pointer (some ⟨w.heap.size, 0, none⟩), s3, .pointer (some ⟨w.heap.size + 1, 0, none⟩), s5, .slice A2 n c2, s7, s8, s9, s10, s11, s12, s13, s14, s15, s16, s17, s18, s19, s20, s21, s22, s23, s24, s25, s26, s27, s28, s29, s30, s31, s32, s33, s34, s35, s36, s37, s38, s39, s40, s41, s42, s43, s44, s45, s46, s47, s48, s49, s50, s51, s52, s53, s54, s55, s56, s57, s58, s59, s60, s61, s62, s63, s64, s65, s66, s67, s68, s69, s70, s71, s72, s73, s74, s75, s76, s77, s78, s79, s80, s81, s82, s83, s84, s85, s86, s87, s88, s89, s90, s91, s92, s93, s94, s95, s96, s97, s98, s99, s100, s101, s102, s103, s104, s105, s106, s107, s108, s109, s110, s111, s112, s113, s114, s115, s116, s117, s118, s119, s120, s121, s122, s123, s124, s125, s126, s127, s128, s129, s130, s131, s132, s133, s134, s135], []⟩ w5 := by
  have hpos : 0 < n := by have := HNR.out; omega
  have hr3 : Reads w5 (· < w5.heap.size) 8 A2 n ((t0 :: r).flatMap caL) := by have := HRow.out; rw [List.length_cons, ← HNR.out] at this; exact this
  have HTl := Lib.hid (tail_reads hr3 HNR.out hc2)
  have hp3 := hr3.plain (by omega)
  have hpt := HTl.out.plain (by omega)
  have hix0 : ∀ W : World, (Instr.indexAt 36 (.slice A2 n c2) (.int .i64 0)).run Tryd.prog W = .ok (.pointer (some ⟨bk A2, ofs A2, none⟩)) W := fun W => by simpa using ix36r hp3 c2 0 hpos W
  have hcut : ∀ W : World, (Instr.slice 36 (.slice A2 n c2) (some (.int .i64 1)) none none).run Tryd.prog W = .ok (.slice (cut8 A2 c2) r.length (c2 - 1)) W := fun W => by
    have := run_tail36 (A := A2) (c := c2) (show 1 ≤ n from hpos) W
    rw [HNR.out, Nat.add_sub_cancel] at this; rw [HNR.out]; exact this
  have hcut2 : ∀ W : World, (Instr.sliceAt 36 (.slice A2 n c2) (some (.int .i64 1)) none none).run Tryd.prog W = .ok (.slice (cut8 A2 c2) r.length (c2 - 1)) W := fun W => by
    have := run_tail36b (A := A2) (c := c2) (show 1 ≤ n from hpos) W
    rw [HNR.out, Nat.add_sub_cancel] at this; rw [HNR.out]; exact this
  clear hr3
  have d1 : decide ((1000 : Int) < (n : Int)) = false := decide_eq_false (by omega)
  have hS := HB3.out.size
  obtain ⟨m1, m2, m3, m4⟩ := HMem.out t0 (by simp)
  have HOf := Lib.hid fun (W : World) (hb : Fr (fun _ => False) w5 W) => (show Calls Tryd.prog 13 #[.int .i64 x.id, .agg #[.int .i64 t0.c.call, .int .i64 t0.c.inc, .int .i64 t0.c.urg, .string t0.c.code, .slice t0.A t0.c.nodes.length t0.k, .int .i64 t0.c.dist, .int .i64 t0.c.since, .bool t0.c.closed]] W (fun e w' => ∃ An6 Ac6 Au6 cn6 cc6 cu6, e = .returned (.tuple #[.agg #[.int .i64 x.id, .int .i64 t0.c.urg, .string t0.c.code, .slice An6 t0.c.nodes.length cn6, .int .i64 t0.c.dist, .int .i64 t0.c.since, .slice Ac6 1 cc6, .slice Au6 0 cu6, .int .i64 0, .bool false], .int .i64 0]) ∧ w'.ownsRow W.heap.size 3 1 (.slice An6 t0.c.nodes.length cn6) t0.c.nodes.length (t0.c.nodes.map (Value.int .i64)) ∧ w'.ownsRow W.heap.size 2 1 (.slice Ac6 1 cc6) 1 [.int .i64 t0.c.call] ∧ Below W.heap.size W w') from by
    have := of13 (fun k => k < w.heap.size) x.id t0.c.call t0.c.inc t0.c.urg t0.c.dist t0.c.since t0.c.code t0.A t0.k t0.c.nodes t0.c.closed W m3 ((m2.below HB3.out (fun k hk => hk)).fr hb (fun k hk => id)) m4
    rw [if_pos (by rw [HId.out]; exact m1)] at this
    exact this.mono (fun e w' ⟨An6, Ac6, Au6, cn6, cc6, cu6, h1, h2, h3, h4, h5⟩ => ⟨An6, Ac6, Au6, cn6, cc6, cu6, h1, h2, h3, h5⟩))
  have HCl := Lib.hid fun (W' : World) (hb : Fr (fun _ => False) w5 W') => (show W'.cell? ⟨w.heap.size, 0, none⟩ = some (.int .i64 x.id) ∧ W'.cell? ⟨bk A2, ofs A2, none⟩ = some (.int .i64 t0.c.call) ∧ W'.cell? ⟨bk A2, ofs A2 + 1, none⟩ = some (.int .i64 t0.c.inc) ∧ W'.cell? ⟨bk A2, ofs A2 + 2, none⟩ = some (.int .i64 t0.c.urg) ∧ W'.cell? ⟨bk A2, ofs A2 + 3, none⟩ = some (.string t0.c.code) ∧ W'.cell? ⟨bk A2, ofs A2 + 4, none⟩ = some (.slice t0.A t0.c.nodes.length t0.k) ∧ W'.cell? ⟨bk A2, ofs A2 + 5, none⟩ = some (.int .i64 t0.c.dist) ∧ W'.cell? ⟨bk A2, ofs A2 + 6, none⟩ = some (.int .i64 t0.c.since) ∧ W'.cell? ⟨bk A2, ofs A2 + 7, none⟩ = some (.bool t0.c.closed) from by
    have hr0 := ca_rangeR (HRow.out.fr hb (fun k hk => id)) (k := 0) (by simp)
    rw [show ofs A2 + 0 * 8 = ofs A2 by omega] at hr0
    exact ⟨by rw [Blk.cell (HX3.out.fr hb id)]; rfl, hr0 0 _ rfl, hr0 1 _ rfl, hr0 2 _ rfl, hr0 3 _ rfl, hr0 4 _ rfl, hr0 5 _ rfl, hr0 6 _ rfl, hr0 7 _ rfl⟩)
  have HM4 := Lib.hid m4
  clear m1 m2 m3 m4
  generalize hQ : bodyPost Tryd.prog Tryd.f27 (AnwPost x cs w) = Q
  dsimp only [subx, Tryd.f27, Option.getD]
  subst hQ
  go_upto_region 18 with (fail)
  go_cut [11] (fun v wx => ∃ p An6 Ac6 Au6 cn6 cc6 cu6, v = .pointer (some ⟨p, 0, none⟩) ∧ w5.heap.size ≤ p ∧ Blk wx p 25 #[.int .i64 x.id, .int .i64 t0.c.urg, .string t0.c.code, .slice An6 t0.c.nodes.length cn6, .int .i64 t0.c.dist, .int .i64 t0.c.since, .slice Ac6 1 cc6, .slice Au6 0 cu6, .int .i64 0, .bool false] ∧ wx.ownsRow w5.heap.size 3 1 (.slice An6 t0.c.nodes.length cn6) t0.c.nodes.length (t0.c.nodes.map (Value.int .i64)) ∧ wx.ownsRow w5.heap.size 2 1 (.slice Ac6 1 cc6) 1 [.int .i64 t0.c.call] ∧ Fr (fun _ => False) w5 wx)
  case first =>
    refine wp_region_last (S := fun w' => Fr (fun _ => False) w5 w') #[{ dst := some 91, op := Go.Op.fieldAddr 25 (Go.Operand.tmp 2) 0, type := 0, pos := "ref.go:162", after := #[], guard := none }, { dst := some 92, op := Go.Op.load 2 (Go.Operand.tmp 91), type := 2, pos := "ref.go:162", after := #[{ on := 0, ground := Go.Ground.data }], guard := none }, { dst := some 93, op := Go.Op.move (Go.Operand.tmp 6), type := 36, pos := "ref.go:162", after := #[], guard := none }, { dst := some 94, op := Go.Op.indexAddr 36 (Go.Operand.tmp 93) (Go.Operand.const (Go.Value.int Go.IntKind.i64 0)), type := 0, pos := "ref.go:162", after := #[{ on := 2, ground := Go.Ground.data }], guard := none }, { dst := some 95, op := Go.Op.load 27 (Go.Operand.tmp 94), type := 27, pos := "ref.go:162", after := #[{ on := 3, ground := Go.Ground.data }], guard := none }, { dst := some 96, op := Go.Op.call { callee := Go.Callee.value (Go.Operand.func 13), args := #[Go.Operand.tmp 92, Go.Operand.tmp 95], argTypes := #[2, 27] }, type := 32, pos := "ref.go:162", after := #[{ on := 1, ground := Go.Ground.data }, { on := 4, ground := Go.Ground.data }], guard := none }, { dst := some 90, op := Go.Op.move (Go.Operand.tmp 96), type := 32, pos := "ref.go:162", after := #[{ on := 5, ground := Go.Ground.data }], guard := none }, { dst := some 97, op := Go.Op.extract (Go.Operand.tmp 90) 0, type := 25, pos := "ref.go:162", after := #[{ on := 6, ground := Go.Ground.data }], guard := none }, { dst := some 98, op := Go.Op.extract (Go.Operand.tmp 90) 1, type := 31, pos := "ref.go:162", after := #[{ on := 6, ground := Go.Ground.data }, { on := 10, ground := Go.Ground.gcOnly Go.Departure.lateStores }], guard := none }, { dst := some 11, op := Go.Op.alloc 25, type := 0, pos := "ref.go:162", after := #[], guard := none }, { dst := none, op := Go.Op.store 25 (Go.Operand.tmp 11) (Go.Operand.tmp 97), type := 0, pos := "ref.go:162", after := #[{ on := 9, ground := Go.Ground.data }, { on := 7, ground := Go.Ground.data }, { on := 5, ground := Go.Ground.chain }, { on := 0, ground := Go.Ground.phase }, { on := 1, ground := Go.Ground.phase }, { on := 2, ground := Go.Ground.phase }, { on := 3, ground := Go.Ground.phase }, { on := 4, ground := Go.Ground.phase }, { on := 5, ground := Go.Ground.phase }, { on := 6, ground := Go.Ground.phase }, { on := 7, ground := Go.Ground.phase }, { on := 8, ground := Go.Ground.textOnly Go.Departure.lateStores }, { on := 9, ground := Go.Ground.phase }], guard := none }] { dst := some 12, op := Go.Op.assign (Go.Operand.tmp 98), type := 31, pos := "ref.go:162", after := #[{ on := 8, ground := Go.Ground.data }, { on := 10, ground := Go.Ground.chain }, { on := 0, ground := Go.Ground.phase }, { on := 1, ground := Go.Ground.phase }, { on := 2, ground := Go.Ground.phase }, { on := 3, ground := Go.Ground.phase }, { on := 4, ground := Go.Ground.phase }, { on := 5, ground := Go.Ground.phase }, { on := 6, ground := Go.Ground.phase }, { on := 7, ground := Go.Ground.phase }, { on := 8, ground := Go.Ground.phase }, { on := 9, ground := Go.Ground.phase }, { on := 10, ground := Go.Ground.phase }], guard := none } (by rfl) (by kernel_rfl) (by kernel_rfl) ?_ (fun hHeld => ?_)
    · exact (Fr.refl _ _).drew
    have HR := Lib.hid hHeld
    generalize w5.drew = wx at *
    refine wpAnyH_take (i := 0) (oi := { dst := some 91, op := Go.Op.fieldAddr 25 (Go.Operand.tmp 2) 0, type := 0, pos := "ref.go:162", after := #[], guard := none }) (v := ?v0) rfl (by kernel_rfl) (by kernel_rfl) (by kernel_rfl) (fun _ _ _ h => h) (Or.inl ⟨by rfl, ?hy0⟩) hHeld ?rest0
    case hy0 =>
      intro w0 hSw
      obtain ⟨e0, e1, e2, e3, e4, e5, e6, e7, e8⟩ := HCl.out w0 hSw
      go_simp
      try with_reducible rfl
    try simp only [Act.put, List.setIfInBounds_toArray, List.set_cons_zero, List.set_cons_succ]
    refine wpAnyH_take (i := 1) (oi := { dst := some 92, op := Go.Op.load 2 (Go.Operand.tmp 91), type := 2, pos := "ref.go:162", after := #[{ on := 0, ground := Go.Ground.data }], guard := none }) (v := ?v1) rfl (by kernel_rfl) (by kernel_rfl) (by kernel_rfl) (fun _ _ _ h => h) (Or.inl ⟨by rfl, ?hy1⟩) hHeld ?rest1
    case hy1 =>
      intro w0 hSw
      obtain ⟨e0, e1, e2, e3, e4, e5, e6, e7, e8⟩ := HCl.out w0 hSw
      go_simp
      try with_reducible rfl
    try simp only [Act.put, List.setIfInBounds_toArray, List.set_cons_zero, List.set_cons_succ]
    refine wpAnyH_take (i := 2) (oi := { dst := some 93, op := Go.Op.move (Go.Operand.tmp 6), type := 36, pos := "ref.go:162", after := #[], guard := none }) (v := ?v2) rfl (by kernel_rfl) (by kernel_rfl) (by kernel_rfl) (fun _ _ _ h => h) (Or.inl ⟨by rfl, ?hy2⟩) hHeld ?rest2
    case hy2 =>
      intro w0 hSw
      obtain ⟨e0, e1, e2, e3, e4, e5, e6, e7, e8⟩ := HCl.out w0 hSw
      go_simp
      try with_reducible rfl
    try simp only [Act.put, List.setIfInBounds_toArray, List.set_cons_zero, List.set_cons_succ]
    refine wpAnyH_take (i := 3) (oi := { dst := some 94, op := Go.Op.indexAddr 36 (Go.Operand.tmp 93) (Go.Operand.const (Go.Value.int Go.IntKind.i64 0)), type := 0, pos := "ref.go:162", after := #[{ on := 2, ground := Go.Ground.data }], guard := none }) (v := ?v3) rfl (by kernel_rfl) (by kernel_rfl) (by kernel_rfl) (fun _ _ _ h => h) (Or.inl ⟨by rfl, ?hy3⟩) hHeld ?rest3
    case hy3 =>
      intro w0 hSw
      obtain ⟨e0, e1, e2, e3, e4, e5, e6, e7, e8⟩ := HCl.out w0 hSw
      go_simp
      try with_reducible rfl
    try simp only [Act.put, List.setIfInBounds_toArray, List.set_cons_zero, List.set_cons_succ]
    refine wpAnyH_take (i := 4) (oi := { dst := some 95, op := Go.Op.load 27 (Go.Operand.tmp 94), type := 27, pos := "ref.go:162", after := #[{ on := 3, ground := Go.Ground.data }], guard := none }) (v := ?v4) rfl (by kernel_rfl) (by kernel_rfl) (by kernel_rfl) (fun _ _ _ h => h) (Or.inl ⟨by rfl, ?hy4⟩) hHeld ?rest4
    case hy4 =>
      intro w0 hSw
      obtain ⟨e0, e1, e2, e3, e4, e5, e6, e7, e8⟩ := HCl.out w0 hSw
      go_simp
      try with_reducible rfl
    try simp only [Act.put, List.setIfInBounds_toArray, List.set_cons_zero, List.set_cons_succ]
    refine wpAnyH_ready (rs := [5, 9]) (by kernel_rfl) (by simp) ?_
    refine AllReadyH.cons (o := { dst := some 96, op := Go.Op.call { callee := Go.Callee.value (Go.Operand.func 13), args := #[Go.Operand.tmp 92, Go.Operand.tmp 95], argTypes := #[2, 27] }, type := 32, pos := "ref.go:162", after := #[{ on := 1, ground := Go.Ground.data }, { on := 4, ground := Go.Ground.data }], guard := none }) rfl (fun K hK => ?_) ?_
    · skip
      go_simp
      go_wp2_with (go_at_call 13; ((with_reducible refine (HOf.out _ HR.out).mono ?_); rintro e wz ⟨An6, Ac6, Au6, cn6, cc6, cu6, rfl, hn6, hc6, hbz⟩))
      have HN2 := Lib.hid (World.ownsRow.mono hn6 (show w5.heap.size ≤ _ from HR.out.size))
      have HC2 := Lib.hid (World.ownsRow.mono hc6 (show w5.heap.size ≤ _ from HR.out.size))
      clear hn6 hc6
      replace HR := Lib.hid (HR.out.trans (Fr.of_below hbz (S := fun _ => False)))
      try replace HZ := Lib.hid (HZ.out.below hbz HZ.out.lt)
      clear hbz
      obtain ⟨wx, hwx⟩ : ∃ wx, wx = wz := ⟨_, rfl⟩
      rw [← hwx] at HR ⊢
      try rw [← hwx] at HZ
      try rw [← hwx] at HN2
      try rw [← hwx] at HC2
      clear hwx
      refine hK.out _ _ ?_ (fun hHeld => ?_)
      · exact HR.out
      clear hK K
      try simp only [Act.put, List.setIfInBounds_toArray, List.set_cons_zero, List.set_cons_succ]
      refine wpAnyH_take (i := 6) (oi := { dst := some 90, op := Go.Op.move (Go.Operand.tmp 96), type := 32, pos := "ref.go:162", after := #[{ on := 5, ground := Go.Ground.data }], guard := none }) (v := ?v5) rfl (by kernel_rfl) (by kernel_rfl) (by kernel_rfl) (fun _ _ _ h => h) (Or.inl ⟨by rfl, ?hy5⟩) hHeld ?rest5
      case hy5 =>
        intro w0 hSw
        obtain ⟨e0, e1, e2, e3, e4, e5, e6, e7, e8⟩ := HCl.out w0 hSw
        go_simp
        try with_reducible rfl
      try simp only [Act.put, List.setIfInBounds_toArray, List.set_cons_zero, List.set_cons_succ]
      refine wpAnyH_take (i := 7) (oi := { dst := some 97, op := Go.Op.extract (Go.Operand.tmp 90) 0, type := 25, pos := "ref.go:162", after := #[{ on := 6, ground := Go.Ground.data }], guard := none }) (v := ?v6) rfl (by kernel_rfl) (by kernel_rfl) (by kernel_rfl) (fun _ _ _ h => h) (Or.inl ⟨by rfl, ?hy6⟩) hHeld ?rest6
      case hy6 =>
        intro w0 hSw
        obtain ⟨e0, e1, e2, e3, e4, e5, e6, e7, e8⟩ := HCl.out w0 hSw
        go_simp
        try with_reducible rfl
      try simp only [Act.put, List.setIfInBounds_toArray, List.set_cons_zero, List.set_cons_succ]
      refine wpAnyH_take (i := 8) (oi := { dst := some 98, op := Go.Op.extract (Go.Operand.tmp 90) 1, type := 31, pos := "ref.go:162", after := #[{ on := 6, ground := Go.Ground.data }, { on := 10, ground := Go.Ground.gcOnly Go.Departure.lateStores }], guard := none }) (v := ?v7) rfl (by kernel_rfl) (by kernel_rfl) (by kernel_rfl) (fun _ _ _ h => h) (Or.inl ⟨by rfl, ?hy7⟩) hHeld ?rest7
      case hy7 =>
        intro w0 hSw
        obtain ⟨e0, e1, e2, e3, e4, e5, e6, e7, e8⟩ := HCl.out w0 hSw
        go_simp
        try with_reducible rfl
      try simp only [Act.put, List.setIfInBounds_toArray, List.set_cons_zero, List.set_cons_succ]
      refine wpAnyH_ready (rs := [9]) (by kernel_rfl) (by simp) ?_
      refine AllReadyH.cons (o := { dst := some 11, op := Go.Op.alloc 25, type := 0, pos := "ref.go:162", after := #[], guard := none }) rfl (fun K hK => ?_) ?_
      · skip
        go_simp
        have hbn := Blk.new wx 25 #[.int .i64 0, .int .i64 0, .string ⟨#[]⟩, .slice none 0 0, .int .i64 0, .int .i64 0, .slice none 0 0, .slice none 0 0, .int .i64 0, .bool false]
        have hge := HR.out.size
        have hrn := HR.out.alloc (.cells #[.int .i64 0, .int .i64 0, .string ⟨#[]⟩, .slice none 0 0, .int .i64 0, .int .i64 0, .slice none 0 0, .slice none 0 0, .int .i64 0, .bool false] 25)
        try replace HN2 := Lib.hid (HN2.out.alloc (.cells #[.int .i64 0, .int .i64 0, .string ⟨#[]⟩, .slice none 0 0, .int .i64 0, .int .i64 0, .slice none 0 0, .slice none 0 0, .int .i64 0, .bool false] 25))
        try replace HC2 := Lib.hid (HC2.out.alloc (.cells #[.int .i64 0, .int .i64 0, .string ⟨#[]⟩, .slice none 0 0, .int .i64 0, .int .i64 0, .slice none 0 0, .slice none 0 0, .int .i64 0, .bool false] 25))
        generalize wx.alloc _ = wz at *
        generalize wx.heap.size = gz at *
        have HZ := Lib.hid hbn
        have HG := Lib.hid hge
        replace HR := Lib.hid hrn
        clear hbn hge hrn
        obtain ⟨wx, hwx⟩ : ∃ wx, wx = wz := ⟨_, rfl⟩
        rw [← hwx] at HR ⊢
        try rw [← hwx] at HZ
        try rw [← hwx] at HN2
        try rw [← hwx] at HC2
        clear hwx
        refine hK.out _ _ ?_ (fun hHeld => ?_)
        · exact HR.out
        clear hK K
        try simp only [Act.put, List.setIfInBounds_toArray, List.set_cons_zero, List.set_cons_succ]
        refine wpAnyH_ready (rs := [10]) (by kernel_rfl) (by simp) ?_
        refine AllReadyH.cons (o := { dst := none, op := Go.Op.store 25 (Go.Operand.tmp 11) (Go.Operand.tmp 97), type := 0, pos := "ref.go:162", after := #[{ on := 9, ground := Go.Ground.data }, { on := 7, ground := Go.Ground.data }, { on := 5, ground := Go.Ground.chain }, { on := 0, ground := Go.Ground.phase }, { on := 1, ground := Go.Ground.phase }, { on := 2, ground := Go.Ground.phase }, { on := 3, ground := Go.Ground.phase }, { on := 4, ground := Go.Ground.phase }, { on := 5, ground := Go.Ground.phase }, { on := 6, ground := Go.Ground.phase }, { on := 7, ground := Go.Ground.phase }, { on := 8, ground := Go.Ground.textOnly Go.Departure.lateStores }, { on := 9, ground := Go.Ground.phase }], guard := none }) rfl (fun K hK => ?_) ?_
        · skip
          refine step_storeBlk _ (by rfl) (.tmp 11) (.tmp 97) 25 (by rfl) _ 25 _ #[.int .i64 x.id, .int .i64 t0.c.urg, .string t0.c.code, .slice An6 t0.c.nodes.length cn6, .int .i64 t0.c.dist, .int .i64 t0.c.since, .slice Ac6 1 cc6, .slice Au6 0 cu6, .int .i64 0, .bool false] _ 10 136 info25 (by rfl) (by rfl) (by rfl) HZ.out (by rfl) (ten_one (by simp [Value.oneCell'])) ?_
          intro wz hbz hfz hsz
          replace HN2 := Lib.hid (own_fr HN2.out hfz (own_ne_blk HN2.out HZ.out (by decide)))
          replace HC2 := Lib.hid (own_fr HC2.out hfz (own_ne_blk HC2.out HZ.out (by decide)))
          replace HR := Lib.hid (show Fr (fun _ => False) w5 wz from ⟨hfz.os.trans HR.out.os, hfz.tape.trans HR.out.tape, hfz.output.trans HR.out.output, Nat.le_trans HR.out.size hfz.size, fun k hk _ => (hfz.block k (Nat.lt_of_lt_of_le hk HR.out.size) (by have := HG.out; omega)).trans (HR.out.block k hk id)⟩)
          replace HZ := Lib.hid hbz
          clear hbz hfz hsz
          obtain ⟨wx, hwx⟩ : ∃ wx, wx = wz := ⟨_, rfl⟩
          rw [← hwx] at HR ⊢
          try rw [← hwx] at HZ
          try rw [← hwx] at HN2
          try rw [← hwx] at HC2
          clear hwx
          refine hK.out _ _ ?_ (fun hHeld => ?_)
          · exact HR.out
          clear hK K
          try simp only [Act.put, List.setIfInBounds_toArray, List.set_cons_zero, List.set_cons_succ]
          refine wpAnyH_done (by kernel_rfl) ?_ _
          refine last_do ({ dst := some 12, op := Go.Op.assign (Go.Operand.tmp 98), type := 31, pos := "ref.go:162", after := #[{ on := 8, ground := Go.Ground.data }, { on := 10, ground := Go.Ground.chain }, { on := 0, ground := Go.Ground.phase }, { on := 1, ground := Go.Ground.phase }, { on := 2, ground := Go.Ground.phase }, { on := 3, ground := Go.Ground.phase }, { on := 4, ground := Go.Ground.phase }, { on := 5, ground := Go.Ground.phase }, { on := 6, ground := Go.Ground.phase }, { on := 7, ground := Go.Ground.phase }, { on := 8, ground := Go.Ground.phase }, { on := 9, ground := Go.Ground.phase }, { on := 10, ground := Go.Ground.phase }], guard := none }) rfl (fun K hK => ?_)
          go_simp
          refine hK _ _ ?_
          go_wp2_with fail
          go_meet
          case rel => exact ⟨_, An6, Ac6, Au6, cn6, cc6, cu6, rfl, HG.out, HZ.out, HN2.out, HC2.out, HR.out⟩
        exact AllReadyH.nil
      exact AllReadyH.nil
    refine AllReadyH.cons (o := { dst := some 11, op := Go.Op.alloc 25, type := 0, pos := "ref.go:162", after := #[], guard := none }) rfl (fun K hK => ?_) ?_
    · skip
      go_simp
      have hbn := Blk.new wx 25 #[.int .i64 0, .int .i64 0, .string ⟨#[]⟩, .slice none 0 0, .int .i64 0, .int .i64 0, .slice none 0 0, .slice none 0 0, .int .i64 0, .bool false]
      have hge := HR.out.size
      have hrn := HR.out.alloc (.cells #[.int .i64 0, .int .i64 0, .string ⟨#[]⟩, .slice none 0 0, .int .i64 0, .int .i64 0, .slice none 0 0, .slice none 0 0, .int .i64 0, .bool false] 25)
      try replace HN2 := Lib.hid (HN2.out.alloc (.cells #[.int .i64 0, .int .i64 0, .string ⟨#[]⟩, .slice none 0 0, .int .i64 0, .int .i64 0, .slice none 0 0, .slice none 0 0, .int .i64 0, .bool false] 25))
      try replace HC2 := Lib.hid (HC2.out.alloc (.cells #[.int .i64 0, .int .i64 0, .string ⟨#[]⟩, .slice none 0 0, .int .i64 0, .int .i64 0, .slice none 0 0, .slice none 0 0, .int .i64 0, .bool false] 25))
      generalize wx.alloc _ = wz at *
      generalize wx.heap.size = gz at *
      have HZ := Lib.hid hbn
      have HG := Lib.hid hge
      replace HR := Lib.hid hrn
      clear hbn hge hrn
      obtain ⟨wx, hwx⟩ : ∃ wx, wx = wz := ⟨_, rfl⟩
      rw [← hwx] at HR ⊢
      try rw [← hwx] at HZ
      try rw [← hwx] at HN2
      try rw [← hwx] at HC2
      clear hwx
      refine hK.out _ _ ?_ (fun hHeld => ?_)
      · exact HR.out
      clear hK K
      try simp only [Act.put, List.setIfInBounds_toArray, List.set_cons_zero, List.set_cons_succ]
      refine wpAnyH_ready (rs := [5]) (by kernel_rfl) (by simp) ?_
      refine AllReadyH.cons (o := { dst := some 96, op := Go.Op.call { callee := Go.Callee.value (Go.Operand.func 13), args := #[Go.Operand.tmp 92, Go.Operand.tmp 95], argTypes := #[2, 27] }, type := 32, pos := "ref.go:162", after := #[{ on := 1, ground := Go.Ground.data }, { on := 4, ground := Go.Ground.data }], guard := none }) rfl (fun K hK => ?_) ?_
      · skip
        go_simp
        go_wp2_with (go_at_call 13; ((with_reducible refine (HOf.out _ HR.out).mono ?_); rintro e wz ⟨An6, Ac6, Au6, cn6, cc6, cu6, rfl, hn6, hc6, hbz⟩))
        have HN2 := Lib.hid (World.ownsRow.mono hn6 (show w5.heap.size ≤ _ from HR.out.size))
        have HC2 := Lib.hid (World.ownsRow.mono hc6 (show w5.heap.size ≤ _ from HR.out.size))
        clear hn6 hc6
        replace HR := Lib.hid (HR.out.trans (Fr.of_below hbz (S := fun _ => False)))
        try replace HZ := Lib.hid (HZ.out.below hbz HZ.out.lt)
        clear hbz
        obtain ⟨wx, hwx⟩ : ∃ wx, wx = wz := ⟨_, rfl⟩
        rw [← hwx] at HR ⊢
        try rw [← hwx] at HZ
        try rw [← hwx] at HN2
        try rw [← hwx] at HC2
        clear hwx
        refine hK.out _ _ ?_ (fun hHeld => ?_)
        · exact HR.out
        clear hK K
        try simp only [Act.put, List.setIfInBounds_toArray, List.set_cons_zero, List.set_cons_succ]
        refine wpAnyH_take (i := 6) (oi := { dst := some 90, op := Go.Op.move (Go.Operand.tmp 96), type := 32, pos := "ref.go:162", after := #[{ on := 5, ground := Go.Ground.data }], guard := none }) (v := ?v8) rfl (by kernel_rfl) (by kernel_rfl) (by kernel_rfl) (fun _ _ _ h => h) (Or.inl ⟨by rfl, ?hy8⟩) hHeld ?rest8
        case hy8 =>
          intro w0 hSw
          obtain ⟨e0, e1, e2, e3, e4, e5, e6, e7, e8⟩ := HCl.out w0 hSw
          go_simp
          try with_reducible rfl
        try simp only [Act.put, List.setIfInBounds_toArray, List.set_cons_zero, List.set_cons_succ]
        refine wpAnyH_take (i := 7) (oi := { dst := some 97, op := Go.Op.extract (Go.Operand.tmp 90) 0, type := 25, pos := "ref.go:162", after := #[{ on := 6, ground := Go.Ground.data }], guard := none }) (v := ?v9) rfl (by kernel_rfl) (by kernel_rfl) (by kernel_rfl) (fun _ _ _ h => h) (Or.inl ⟨by rfl, ?hy9⟩) hHeld ?rest9
        case hy9 =>
          intro w0 hSw
          obtain ⟨e0, e1, e2, e3, e4, e5, e6, e7, e8⟩ := HCl.out w0 hSw
          go_simp
          try with_reducible rfl
        try simp only [Act.put, List.setIfInBounds_toArray, List.set_cons_zero, List.set_cons_succ]
        refine wpAnyH_take (i := 8) (oi := { dst := some 98, op := Go.Op.extract (Go.Operand.tmp 90) 1, type := 31, pos := "ref.go:162", after := #[{ on := 6, ground := Go.Ground.data }, { on := 10, ground := Go.Ground.gcOnly Go.Departure.lateStores }], guard := none }) (v := ?v10) rfl (by kernel_rfl) (by kernel_rfl) (by kernel_rfl) (fun _ _ _ h => h) (Or.inl ⟨by rfl, ?hy10⟩) hHeld ?rest10
        case hy10 =>
          intro w0 hSw
          obtain ⟨e0, e1, e2, e3, e4, e5, e6, e7, e8⟩ := HCl.out w0 hSw
          go_simp
          try with_reducible rfl
        try simp only [Act.put, List.setIfInBounds_toArray, List.set_cons_zero, List.set_cons_succ]
        refine wpAnyH_ready (rs := [10]) (by kernel_rfl) (by simp) ?_
        refine AllReadyH.cons (o := { dst := none, op := Go.Op.store 25 (Go.Operand.tmp 11) (Go.Operand.tmp 97), type := 0, pos := "ref.go:162", after := #[{ on := 9, ground := Go.Ground.data }, { on := 7, ground := Go.Ground.data }, { on := 5, ground := Go.Ground.chain }, { on := 0, ground := Go.Ground.phase }, { on := 1, ground := Go.Ground.phase }, { on := 2, ground := Go.Ground.phase }, { on := 3, ground := Go.Ground.phase }, { on := 4, ground := Go.Ground.phase }, { on := 5, ground := Go.Ground.phase }, { on := 6, ground := Go.Ground.phase }, { on := 7, ground := Go.Ground.phase }, { on := 8, ground := Go.Ground.textOnly Go.Departure.lateStores }, { on := 9, ground := Go.Ground.phase }], guard := none }) rfl (fun K hK => ?_) ?_
        · skip
          refine step_storeBlk _ (by rfl) (.tmp 11) (.tmp 97) 25 (by rfl) _ 25 _ #[.int .i64 x.id, .int .i64 t0.c.urg, .string t0.c.code, .slice An6 t0.c.nodes.length cn6, .int .i64 t0.c.dist, .int .i64 t0.c.since, .slice Ac6 1 cc6, .slice Au6 0 cu6, .int .i64 0, .bool false] _ 10 136 info25 (by rfl) (by rfl) (by rfl) HZ.out (by rfl) (ten_one (by simp [Value.oneCell'])) ?_
          intro wz hbz hfz hsz
          replace HN2 := Lib.hid (own_fr HN2.out hfz (own_ne_blk HN2.out HZ.out (by decide)))
          replace HC2 := Lib.hid (own_fr HC2.out hfz (own_ne_blk HC2.out HZ.out (by decide)))
          replace HR := Lib.hid (show Fr (fun _ => False) w5 wz from ⟨hfz.os.trans HR.out.os, hfz.tape.trans HR.out.tape, hfz.output.trans HR.out.output, Nat.le_trans HR.out.size hfz.size, fun k hk _ => (hfz.block k (Nat.lt_of_lt_of_le hk HR.out.size) (by have := HG.out; omega)).trans (HR.out.block k hk id)⟩)
          replace HZ := Lib.hid hbz
          clear hbz hfz hsz
          obtain ⟨wx, hwx⟩ : ∃ wx, wx = wz := ⟨_, rfl⟩
          rw [← hwx] at HR ⊢
          try rw [← hwx] at HZ
          try rw [← hwx] at HN2
          try rw [← hwx] at HC2
          clear hwx
          refine hK.out _ _ ?_ (fun hHeld => ?_)
          · exact HR.out
          clear hK K
          try simp only [Act.put, List.setIfInBounds_toArray, List.set_cons_zero, List.set_cons_succ]
          refine wpAnyH_done (by kernel_rfl) ?_ _
          refine last_do ({ dst := some 12, op := Go.Op.assign (Go.Operand.tmp 98), type := 31, pos := "ref.go:162", after := #[{ on := 8, ground := Go.Ground.data }, { on := 10, ground := Go.Ground.chain }, { on := 0, ground := Go.Ground.phase }, { on := 1, ground := Go.Ground.phase }, { on := 2, ground := Go.Ground.phase }, { on := 3, ground := Go.Ground.phase }, { on := 4, ground := Go.Ground.phase }, { on := 5, ground := Go.Ground.phase }, { on := 6, ground := Go.Ground.phase }, { on := 7, ground := Go.Ground.phase }, { on := 8, ground := Go.Ground.phase }, { on := 9, ground := Go.Ground.phase }, { on := 10, ground := Go.Ground.phase }], guard := none }) rfl (fun K hK => ?_)
          go_simp
          refine hK _ _ ?_
          go_wp2_with fail
          go_meet
          case rel => exact ⟨_, An6, Ac6, Au6, cn6, cc6, cu6, rfl, HG.out, HZ.out, HN2.out, HC2.out, HR.out⟩
        exact AllReadyH.nil
      exact AllReadyH.nil
    exact AllReadyH.nil
  case rest =>
    obtain ⟨p, An6, Ac6, Au6, cn6, cc6, cu6, rfl, hp, hz, hn2, hc3, hf⟩ := hcut
    have HZ6 := Lib.hid hz
    have HN6 := Lib.hid hn2
    have HC6 := Lib.hid hc3
    have HF6 := Lib.hid hf
    clear hz hn2 hc3 hf HOf HCl d1 hix0
    rename_i KK hKK
    refine hKK _ _ ?_
    clear hKK
    refine wp_of_eq (c' := subx [true, true, true, true, true, true] (Tryd.f27.body.getD .skip)) (by kernel_rfl) ?_
    exact anw_loop x An Ac Au cn cc cu t0 r cs A2 c2 n w w5 wc hn hc2 p An6 Ac6 Au6 cn6 cc6 cu6 hp HU HX3 HY3 HB3 HNR HRow HMem HAnw HZ6 HN6 HC6 HF6 _ _ _ _ _ _ _ _ _ _ _ _ _ _ _ _ _ _ _ _ _ _ _ _ _ _ _ _ _ _ _ _ _ _ _ _ _ _ _ _ _ _ _ _ _ _ _ _ _ _ _ _ _ _ _ _ _ _ _ _ _ _ _ _ _ _ _ _ _ _ _ _ _ _ _ _ _ _ _ _ _ _ _ _ _ _ _ _ _ _ _ _ _ _ _ _ _ _ _ _ _ _ _ _ _ _ _ _ _ _ _ _ _ _ _ _ _ _ _ _ _ _ _ _ _ _ _ _ _ _ _ _
end Go.Proofs.YtipkicijfedfoaaDoor

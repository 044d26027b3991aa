import Derived.Test.YtipkicijfedfoaaDoorMAnw3
import Derived.Deep.MidRow
import Derived.Deep.QuietTactic
import Derived.BigQuiet
namespace Go.Proofs.YtipkicijfedfoaaDoor
set_option linter.unusedVariables false
set_option linter.unusedSimpArgs false
open Go.RowKit Go.Own Go.Quo Go.Inc
theorem below_drewN (B : Nat) (w : World) (n : Nat) : Below B w (w.drewN n) := ⟨rfl, rfl, rfl, Nat.le_refl _, fun _ _ => rfl⟩
theorem caL_one1 (t : Ca) : ∀ u ∈ caL t, u.oneCell' = true := by
  have := caL_one [t]; rwa [List.flatMap_cons, List.flatMap_nil, List.append_nil] at this
def subx : List Bool → Code → Code
  | [], c => c
  | true :: p, .seq _ y => subx p y
  | false :: p, .seq x _ => subx p x
  | _ :: p, .loop x => subx p x
  | _ :: p, .block _ x => subx p x
  | false :: p, .cond _ x _ => subx p x
  | true :: p, .cond _ _ y => subx p y
  | _, c => c
/-- the way out is the common one -/
def onlyN (K : Act → World → Prop) : Exit → Act → World → Prop
  | .normal, a, w => K a w
  | _, _, _ => False
set_option maxRecDepth 10000 in
set_option maxHeartbeats 8000000 in
theorem anw_ins0 (ss : List Ca) (t : Ca) (A6 : Option Addr) (c6 g base : Nat) (W : World) (hl : ss.length ≤ 1000) (HO : RowKit.Hid (W.ownsRow base 27 8 (.slice A6 ss.length c6) ss.length (ss.flatMap caL))) (HT : RowKit.Hid (Blk W g 27 #[.int .i64 t.c.call, .int .i64 t.c.inc, .int .i64 t.c.urg, .string t.c.code, .slice t.A t.c.nodes.length t.k, .int .i64 t.c.dist, .int .i64 t.c.since, .bool t.c.closed]))
    (K0 : Act → World → Prop) (s0 s1 s2 s3 s4 s5 s7 s10 s11 s12 s13 s14 s15 s16 s17 s18 s19 s20 s21 s22 s23 s24 s25 s26 s27 s28 s29 s30 s31 s32 s33 s34 s35 s36 s37 s38 s39 s40 s41 s42 s43 s44 s45 s46 s47 s48 s49 s50 s51 s52 s53 s54 s55 s56 s57 s58 s59 s60 s61 s62 s63 s64 s65 s66 s67 s68 s69 s70 s71 s72 s73 s74 s75 s76 s77 s78 s79 s80 s81 s82 s83 s84 s85 s86 s87 s88 s89 s90 s91 s92 s93 s94 s95 s96 s97 s98 s99 s100 s101 s102 s103 s104 s105 s106 s107 s108 s109 s110 s111 s112 s113 s114 s115 s116 s117 s118 s119 s120 s121 s122 s123 s124 s125 s126 s127 s128 s129 s130 s131 s132 s133 s134 s135 : Value)
    (HKx : RowKit.Hid (∀ (j : Nat) (A9 : Option Addr) (c9 : Nat) (wx : World) (v9 v10 v35 v36 v37 v38 v39 v40 v41 v42 v43 v44 v45 v46 v47 v48 v49 v50 v51 v52 v53 v54 v55 v56 v57 v58 v59 v60 v61 v62 v63 v64 v65 v66 v67 v68 v69 v70 v71 v72 v73 v74 v75 v76 v77 v78 v79 v80 v81 v82 v83 v84 : Value), j ≤ ss.length → insK (ss.map (·.c)) t.c = j → wx.ownsRow W.heap.size 27 8 (.slice A9 (insA ss j t).length c9) (insA ss j t).length ((insA ss j t).flatMap caL) → Below W.heap.size W wx → K0 ⟨#[s0, s1, s2, s3, s4, s5, .slice A9 (insA ss j t).length c9, s7, .pointer (some ⟨g, 0, none⟩), v9, v10, s11, s12, s13, s14, s15, s16, s17, s18, s19, s20, s21, s22, s23, s24, s25, s26, s27, s28, s29, s30, s31, s32, s33, s34, v35, v36, v37, v38, v39, v40, v41, v42, v43, v44, v45, v46, v47, v48, v49, v50, v51, v52, v53, v54, v55, v56, v57, v58, v59, v60, v61, v62, v63, v64, v65, v66, v67, v68, v69, v70, v71, v72, v73, v74, v75, v76, v77, v78, v79, v80, v81, v82, v83, v84, s85, s86, s87, s88, s89, s90, s91, s92, s93, s94, s95, s96, s97, s98, s99, s100, s101, s102, s103, s104, s105, s106, s107, s108, s109, s110, s111, s112, s113, s114, s115, s116, s117, s118, s119, s120, s121, s122, s123, s124, s125, s126, s127, s128, s129, s130, s131, s132, s133, s134, s135], []⟩ wx)) :
    (subx [true, true, true, false, true, false, false, true, true, false, false, true, true, true] (Tryd.f27.body.getD .skip)).wp Tryd.prog (onlyN K0) ⟨#[s0, s1, s2, s3, s4, s5, .slice A6 ss.length c6, s7, .pointer (some ⟨g, 0, none⟩), .int .i64 0, s10, s11, s12, s13, s14, s15, s16, s17, s18, s19, s20, s21, s22, s23, s24, s25, s26, s27, s28, s29, s30, s31, s32, s33, s34, s35, s36, s37, s38, s39, s40, s41, s42, s43, s44, s45, s46, s47, s48, s49, s50, s51, s52, s53, s54, s55, s56, s57, s58, s59, s60, s61, s62, s63, s64, s65, s66, s67, s68, s69, s70, s71, s72, s73, s74, s75, s76, s77, s78, s79, s80, s81, s82, s83, s84, s85, s86, s87, s88, s89, s90, s91, s92, s93, s94, s95, s96, s97, s98, s99, s100, s101, s102, s103, s104, s105, s106, s107, s108, s109, s110, s111, s112, s113, s114, s115, s116, s117, s118, s119, s120, s121, s122, s123, s124, s125, s126, s127, s128, s129, s130, s131, s132, s133, s134, s135], []⟩ W := by
  generalize hQ : onlyN K0 = Q'
  dsimp only [subx, Tryd.f27, Option.getD]
  subst hQ
  go_wp2_with fail
  go_loopw [9] (fun vi wr => ∃ (j : Nat), j ≤ ss.length ∧ vi = .int .i64 (j : Int) ∧ (∀ i, i < j → ∀ (h : i < ss.length), ltC ss[i].c t.c) ∧ Below W.heap.size W wr) (fun vi _ => ss.length - (intOf vi).toNat)
  case atStart => exact ⟨0, Nat.zero_le _, rfl, fun i hi => by omega, Below.refl _ _⟩
  case round =>
    obtain ⟨j, hj, rfl, hlt5, hb5⟩ := hrel
    have HLt := Lib.hid hlt5
    have HT5 := Lib.hid (HT.out.below hb5 HT.out.lt)
    have HO5 := Lib.hid (own_below HO.out hb5 (fun g hg => (HO.out.lt g hg).2))
    have HK5 := Lib.hid hb5
    clear hlt5 hb5
    have HR5 := Lib.hid ((Reads.of_own HO5.out).old (by omega) |>.more (B' := fun k => k < wr.heap.size) (fun k hk => hk.2))
    have HCap := Lib.hid (own_cap8 HO5.out)
    obtain ⟨x0, x1, x2⟩ := HT5.out.facts
    obtain ⟨q, HQ⟩ : ∃ q : Bool, RowKit.Hid (q = decide (∃ h : j < ss.length, ltC ss[j].c t.c)) := ⟨_, Lib.hid rfl⟩
    go_upto_region 10 with (fail)
    go_cut [68] from 35 to 67 (fun v wx => v = .bool q ∧ Below wr.heap.size wr wx)
    case first =>
      by_cases hl : j < ss.length
      · have hl' : (j : Int) < ss.length := by omega
        have dl : decide ((j : Int) < ss.length) = true := by simpa using hl'
        have hp6 := HR5.out.plain (by omega)
        have hix := fun W => ix36r hp6 c6 j hl W
        have hq0 : wr.cell? ⟨bk A6, ofs A6 + j * 8, none⟩ = some (.int .i64 ss[j].c.call) := ca_rangeR HR5.out hl 0 _ rfl
        have hq6 : wr.cell? ⟨bk A6, ofs A6 + j * 8 + 6, none⟩ = some (.int .i64 ss[j].c.since) := ca_rangeR HR5.out hl 6 _ rfl
        have HE := Lib.hid (show q = decide (ltC ss[j].c t.c) by rw [HQ.out]; exact decide_eq_decide.2 ⟨fun ⟨_, h⟩ => h, fun h => ⟨hl, h⟩⟩)
        generalize hyy : ss[j] = y at *
        clear hyy
        by_cases h1 : y.c.since < t.c.since
        · have d1 : decide (y.c.since < t.c.since) = true := by simpa using h1
          have HD := Lib.hid (show q = true from by rw [HE.out]; exact decide_eq_true (.inl h1))
          clear h1
          go_quiet (fail)
          go_wp2_with fail
          go_meet
          case rel => exact ⟨by rw [HD.out], below_drewN _ _ _⟩
        · have d1 : decide (y.c.since < t.c.since) = false := by simpa using h1
          by_cases h2 : y.c.since = t.c.since
          · have d2 : (y.c.since == t.c.since) = true := by simpa using h2
            by_cases h3 : y.c.call < t.c.call
            · have d3 : decide (y.c.call < t.c.call) = true := by simpa using h3
              have HD := Lib.hid (show q = true from by rw [HE.out]; exact decide_eq_true (.inr ⟨h2, h3⟩))
              clear h1 h2 h3
              go_quiet (fail)
              go_wp2_with fail
              go_meet
              case rel => exact ⟨by rw [HD.out], below_drewN _ _ _⟩
            · have d3 : decide (y.c.call < t.c.call) = false := by simpa using h3
              have HD := Lib.hid (show q = false from by rw [HE.out]; exact decide_eq_false (fun h => by unfold ltC at h; omega))
              clear h1 h2 h3
              go_quiet (fail)
              go_wp2_with fail
              go_meet
              case rel => exact ⟨by rw [HD.out], below_drewN _ _ _⟩
          · have d2 : (y.c.since == t.c.since) = false := by simpa using h2
            have HD := Lib.hid (show q = false from by rw [HE.out]; exact decide_eq_false (fun h => by unfold ltC at h; omega))
            clear h1 h2
            go_quiet (fail)
            go_wp2_with fail
            go_meet
            case rel => exact ⟨by rw [HD.out], below_drewN _ _ _⟩
      · have hl' : ¬ (j : Int) < ss.length := by omega
        have dl : decide ((j : Int) < ss.length) = false := by simpa using hl'
        have HD := Lib.hid (show q = false from by rw [HQ.out]; exact decide_eq_false (fun ⟨h, _⟩ => hl h))
        clear hl
        go_quiet (fail)
        go_wp2_with fail
        go_meet
        case rel => exact ⟨by rw [HD.out], below_drewN _ _ _⟩
    case rest =>
      obtain ⟨rfl, hb6⟩ := hcut
      have HT6 := Lib.hid (HT5.out.below hb6 HT5.out.lt)
      have HO6 := Lib.hid (own_below HO5.out hb6 (fun g hg => (HO5.out.lt g hg).2))
      have HK6 := Lib.hid (HK5.out.trans (hb6.mono HK5.out.size))
      have HR6 := Lib.hid ((Reads.of_own HO6.out).old (by omega) |>.more (B' := fun k => k < wc.heap.size) (fun k hk => hk.2))
      clear HT5 HO5 HK5 HR5 hb6 x0 x1 x2
      obtain ⟨x0, x1, x2⟩ := HT6.out.facts
      cases q with
      | true =>
        obtain ⟨hl, hlt6⟩ := of_decide_eq_true HQ.out.symm
        have HLt2 := Lib.hid (show ∀ i, i < j + 1 → ∀ (h : i < ss.length), ltC ss[i].c t.c from fun i hi h => by
          rcases (by omega : i < j ∨ i = j) with e | rfl
          · exact HLt.out i e h
          · exact hlt6)
        clear HQ hlt6
        go_wp2_with fail
        exact ⟨⟨j + 1, by omega, by go_num, HLt2.out, HK6.out⟩, by simp [intOf]; omega⟩
      | false =>
        have HK := Lib.hid (insK_eq (l := ss) (t := t.c) hj HLt.out (fun h hlt6 => absurd HQ.out.symm (by rw [decide_eq_true (⟨h, hlt6⟩ : ∃ h : j < ss.length, ltC ss[j].c t.c)]; simp)))
        clear HQ HLt
        have ho := World.ownsRow_made (base := wc.heap.size) (e := 27) (size := 8) wc #[] 0 (Nat.le_refl _) (by simp) (by simp)
        have HO0 := Lib.hid ho
        have HB1 := Lib.hid ((Below.refl wc.heap.size wc).alloc (Nat.le_refl _) (.cells #[] 27))
        have HRf := Lib.hid (front8 (HR6.out.alloc (.cells #[] 27)) hj)
        have hh1 := fun W => run_hi36 (A := A6) (n := ss.length) (k := j) (c := c6) (by have := HCap.out; omega) W
        have hh2 := fun W => run_hi36b (A := A6) (n := ss.length) (k := j) (c := c6) (by have := HCap.out; omega) W
        have hl1 := fun W => run_lo36 (A := A6) (n := ss.length) (k := j) (c := c6) hj W
        have hl2 := fun W => run_lo36b (A := A6) (n := ss.length) (k := j) (c := c6) hj W
        clear ho
        go_upto_region 13 with (at_builtin; refine wpList_append_any _ rfl _ _ _ rfl wc.heap.size 27 _ 8 88 Tryd.underlying36 ri27 rfl (by omega) (.slice (some ⟨wc.heap.size, 0, none⟩) 0 0) (0) ([]) rfl HO0.out _ A6 (j) (c6) ((ss.take j).flatMap caL) rfl HRf.out (caL_one _) (by simp only [maxLen]; omega) (by omega) (by simp) ?_; intro A7 c7 w7 hown hgr hat; rw [Nat.zero_add] at hown ⊢; rw [List.nil_append] at hown; have HB7 := Lib.hid (Below.grown HB1.out hgr (by simp) (fun j hj => by simp [Value.ownBlock] at hj; omega)); have HR7 := Lib.hid (HR6.out.below HB7.out (fun j hj => hj)); have HT7 := Lib.hid (HT6.out.below HB7.out HT6.out.lt); have HB8 := Lib.hid (HB7.out.alloc HB7.out.size (.cells #[.int .i64 t.c.call, .int .i64 t.c.inc, .int .i64 t.c.urg, .string t.c.code, .slice t.A t.c.nodes.length t.k, .int .i64 t.c.dist, .int .i64 t.c.since, .bool t.c.closed] 27)); have HO8 := Lib.hid (own_below hown ((Below.refl w7.heap.size w7).alloc (Nat.le_refl _) (.cells #[.int .i64 t.c.call, .int .i64 t.c.inc, .int .i64 t.c.urg, .string t.c.code, .slice t.A t.c.nodes.length t.k, .int .i64 t.c.dist, .int .i64 t.c.since, .bool t.c.closed] 27)) (fun g hg => (hown.lt g hg).2)); have HN8 := Lib.hid (show Reads (w7.alloc (.cells #[.int .i64 t.c.call, .int .i64 t.c.inc, .int .i64 t.c.urg, .string t.c.code, .slice t.A t.c.nodes.length t.k, .int .i64 t.c.dist, .int .i64 t.c.since, .bool t.c.closed] 27)) (· = w7.heap.size) 8 (some ⟨w7.heap.size, 0, none⟩) 1 [.int .i64 t.c.call, .int .i64 t.c.inc, .int .i64 t.c.urg, .string t.c.code, .slice t.A t.c.nodes.length t.k, .int .i64 t.c.dist, .int .i64 t.c.since, .bool t.c.closed] from Reads.newS w7 (caL t) 27 (0, 0) 1 8 rfl _ rfl); have hz8 := HB8.out.size; clear hown hgr hat HO0 HRf x0 x1 x2; obtain ⟨x0, x1, x2⟩ := HT7.out.facts)
        go_upto_region 14 with (at_builtin; refine wpList_append_any _ rfl _ _ _ rfl wc.heap.size 27 _ 8 88 Tryd.underlying36 ri27 rfl (by omega) (.slice A7 j c7) (j) ((ss.take j).flatMap caL) rfl HO8.out _ (some ⟨w7.heap.size, 0, none⟩) (1) (1) ([.int .i64 t.c.call, .int .i64 t.c.inc, .int .i64 t.c.urg, .string t.c.code, .slice t.A t.c.nodes.length t.k, .int .i64 t.c.dist, .int .i64 t.c.since, .bool t.c.closed]) rfl HN8.out (caL_one1 t) (by simp only [maxLen]; omega) (by omega) hz8 ?_; intro A8 c8 w8 hown hgr hat; have HB9 := Lib.hid (Below.grown HB8.out hgr HB8.out.size (fun j hj => (HO8.out.lt j hj).1)); have HO9 := Lib.hid hown; have HC9 := Lib.hid ((HR7.out.alloc (.cells #[.int .i64 t.c.call, .int .i64 t.c.inc, .int .i64 t.c.urg, .string t.c.code, .slice t.A t.c.nodes.length t.k, .int .i64 t.c.dist, .int .i64 t.c.since, .bool t.c.closed] 27)).below (w' := w8) (Below.grown (Below.refl wc.heap.size _) hgr hz8 (fun j hj => (HO8.out.lt j hj).1)) (fun j hj => hj) |>.cut (k := j) (cap := c6) hj HCap.out); have hz9 := HB9.out.size; clear hown hgr hat)
        go_wp2_with (at_builtin; refine wpList_append_any _ rfl _ _ _ rfl wc.heap.size 27 _ 8 88 Tryd.underlying36 ri27 rfl (by omega) (.slice A8 (j + 1) c8) (j + 1) (_) rfl HO9.out _ (cutK8 A6 c6 j) (ss.length - j) (c6 - j) ((ss.flatMap caL).drop (j * 8)) rfl HC9.out (fun u hu => caL_one ss u (List.mem_of_mem_drop hu)) (by simp only [maxLen]; omega) (by omega) hz9 ?_; intro A9 c9 w9 hown hgr hat; have HBz := Lib.hid (Below.grown HB9.out hgr HB9.out.size (fun j hj => (HO9.out.lt j hj).1)); have HOz := Lib.hid hown; clear hown hgr hat)
        have hlen : j + 1 + (ss.length - j) = (insA ss j t).length := by rw [insA_len t hj]; omega
        have HOz2 : w9.ownsRow wc.heap.size 27 8 (.slice A9 (j + 1 + (ss.length - j)) c9) (j + 1 + (ss.length - j)) ((ss.take j).flatMap caL ++ caL t ++ (ss.flatMap caL).drop (j * 8)) := HOz.out
        rw [hlen, ← insA_flat] at HOz2
        rw [hlen]
        exact HKx.out j A9 c9 w9 _ _ _ _ _ _ _ _ _ _ _ _ _ _ _ _ _ _ _ _ _ _ _ _ _ _ _ _ _ _ _ _ _ _ _ _ _ _ _ _ _ _ _ _ _ _ _ _ _ _ _ _ hj HK.out (World.ownsRow.mono HOz2 HK6.out.size) (HK6.out.trans (HBz.out.mono HK6.out.size))
theorem anw_ins (ss : List Ca) (t : Ca) (A6 : Option Addr) (c6 g base : Nat) (W : World) (hl : ss.length ≤ 1000) (HO : RowKit.Hid (W.ownsRow base 27 8 (.slice A6 ss.length c6) ss.length (ss.flatMap caL))) (HT : RowKit.Hid (Blk W g 27 #[.int .i64 t.c.call, .int .i64 t.c.inc, .int .i64 t.c.urg, .string t.c.code, .slice t.A t.c.nodes.length t.k, .int .i64 t.c.dist, .int .i64 t.c.since, .bool t.c.closed]))
    (Q : Exit → Act → World → Prop) (s0 s1 s2 s3 s4 s5 s7 s10 s11 s12 s13 s14 s15 s16 s17 s18 s19 s20 s21 s22 s23 s24 s25 s26 s27 s28 s29 s30 s31 s32 s33 s34 s35 s36 s37 s38 s39 s40 s41 s42 s43 s44 s45 s46 s47 s48 s49 s50 s51 s52 s53 s54 s55 s56 s57 s58 s59 s60 s61 s62 s63 s64 s65 s66 s67 s68 s69 s70 s71 s72 s73 s74 s75 s76 s77 s78 s79 s80 s81 s82 s83 s84 s85 s86 s87 s88 s89 s90 s91 s92 s93 s94 s95 s96 s97 s98 s99 s100 s101 s102 s103 s104 s105 s106 s107 s108 s109 s110 s111 s112 s113 s114 s115 s116 s117 s118 s119 s120 s121 s122 s123 s124 s125 s126 s127 s128 s129 s130 s131 s132 s133 s134 s135 : Value)
    (HKx : ∀ (j : Nat) (A9 : Option Addr) (c9 : Nat) (wx : World) (v9 v10 v35 v36 v37 v38 v39 v40 v41 v42 v43 v44 v45 v46 v47 v48 v49 v50 v51 v52 v53 v54 v55 v56 v57 v58 v59 v60 v61 v62 v63 v64 v65 v66 v67 v68 v69 v70 v71 v72 v73 v74 v75 v76 v77 v78 v79 v80 v81 v82 v83 v84 : Value), j ≤ ss.length → insK (ss.map (·.c)) t.c = j → wx.ownsRow W.heap.size 27 8 (.slice A9 (insA ss j t).length c9) (insA ss j t).length ((insA ss j t).flatMap caL) → Below W.heap.size W wx → Q .normal ⟨#[s0, s1, s2, s3, s4, s5, .slice A9 (insA ss j t).length c9, s7, .pointer (some ⟨g, 0, none⟩), v9, v10, s11, s12, s13, s14, s15, s16, s17, s18, s19, s20, s21, s22, s23, s24, s25, s26, s27, s28, s29, s30, s31, s32, s33, s34, v35, v36, v37, v38, v39, v40, v41, v42, v43, v44, v45, v46, v47, v48, v49, v50, v51, v52, v53, v54, v55, v56, v57, v58, v59, v60, v61, v62, v63, v64, v65, v66, v67, v68, v69, v70, v71, v72, v73, v74, v75, v76, v77, v78, v79, v80, v81, v82, v83, v84, s85, s86, s87, s88, s89, s90, s91, s92, s93, s94, s95, s96, s97, s98, s99, s100, s101, s102, s103, s104, s105, s106, s107, s108, s109, s110, s111, s112, s113, s114, s115, s116, s117, s118, s119, s120, s121, s122, s123, s124, s125, s126, s127, s128, s129, s130, s131, s132, s133, s134, s135], []⟩ wx) :
    (subx [true, true, true, false, true, false, false, true, true, false, false, true, true, true] (Tryd.f27.body.getD .skip)).wp Tryd.prog Q ⟨#[s0, s1, s2, s3, s4, s5, .slice A6 ss.length c6, s7, .pointer (some ⟨g, 0, none⟩), .int .i64 0, s10, s11, s12, s13, s14, s15, s16, s17, s18, s19, s20, s21, s22, s23, s24, s25, s26, s27, s28, s29, s30, s31, s32, s33, s34, s35, s36, s37, s38, s39, s40, s41, s42, s43, s44, s45, s46, s47, s48, s49, s50, s51, s52, s53, s54, s55, s56, s57, s58, s59, s60, s61, s62, s63, s64, s65, s66, s67, s68, s69, s70, s71, s72, s73, s74, s75, s76, s77, s78, s79, s80, s81, s82, s83, s84, s85, s86, s87, s88, s89, s90, s91, s92, s93, s94, s95, s96, s97, s98, s99, s100, s101, s102, s103, s104, s105, s106, s107, s108, s109, s110, s111, s112, s113, s114, s115, s116, s117, s118, s119, s120, s121, s122, s123, s124, s125, s126, s127, s128, s129, s130, s131, s132, s133, s134, s135], []⟩ W :=
  wp_mono (anw_ins0 ss t A6 c6 g base W hl HO HT (Q .normal) s0 s1 s2 s3 s4 s5 s7 s10 s11 s12 s13 s14 s15 s16 s17 s18 s19 s20 s21 s22 s23 s24 s25 s26 s27 s28 s29 s30 s31 s32 s33 s34 s35 s36 s37 s38 s39 s40 s41 s42 s43 s44 s45 s46 s47 s48 s49 s50 s51 s52 s53 s54 s55 s56 s57 s58 s59 s60 s61 s62 s63 s64 s65 s66 s67 s68 s69 s70 s71 s72 s73 s74 s75 s76 s77 s78 s79 s80 s81 s82 s83 s84 s85 s86 s87 s88 s89 s90 s91 s92 s93 s94 s95 s96 s97 s98 s99 s100 s101 s102 s103 s104 s105 s106 s107 s108 s109 s110 s111 s112 s113 s114 s115 s116 s117 s118 s119 s120 s121 s122 s123 s124 s125 s126 s127 s128 s129 s130 s131 s132 s133 s134 s135 (Lib.hid HKx)) (fun e a w h => by cases e <;> first | exact h | exact h.elim)
end Go.Proofs.YtipkicijfedfoaaDoor

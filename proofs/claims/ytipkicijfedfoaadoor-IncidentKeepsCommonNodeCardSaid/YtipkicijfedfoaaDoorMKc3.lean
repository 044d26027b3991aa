import Derived.Test.YtipkicijfedfoaaDoorMKc2
import Derived.Deep.MidRow
namespace Go.Proofs.YtipkicijfedfoaaDoor
set_option linter.unusedVariables false
set_option linter.unusedSimpArgs false
open Go.RowKit Go.Own Go.Quo Go.Inc Go.Wire
theorem rev_take (us : List Ca) {k : Nat} (hk : k < us.length) : us.reverse.take (k + 1) = us.reverse.take k ++ [us[us.length - 1 - k]] := by
  rw [List.take_succ_eq_append_getElem (by rw [List.length_reverse]; exact hk), List.getElem_reverse]
set_option maxRecDepth 10000 in
set_option maxHeartbeats 8000000 in
theorem kcn_back (m : Int) (cs : List Cr) (c6 : Nat) (w W : World) (us : List Ca) (A6 : Option Addr) (u0 : Cr) (Y : Ic) (p9 p11 : Nat) (An Ac Au : Option Addr) (cn cc cu : Nat) (Any Acy Auy : Option Addr) (cny ccy cuy : Nat) (ht : Tab w) (hY : anwP (fromI 5 u0) cs = (Y, 0)) (h1 : (bothL Y.nodes [m]).length = 1) (hS : IcS Y) (hp : (us.map (fun t : Ca => t.c)).Perm cs) (hs : u0.code.size ≤ 1000) (ln : u0.nodes.length ≤ 1000) (lt : us.length ≤ 12) (ltl : ∀ t ∈ us, t.c.code.size ≤ 1000 ∧ t.c.nodes.length ≤ 1000)
    (HK : RowKit.Hid (KSt w W us A6 u0 Y p9 p11 An Ac Au cn cc cu Any Acy Auy cny ccy cuy)) (s0 s1 s2 s3 s4 s7 s8 s10 s14 s15 s16 s17 s18 s19 s20 s21 s22 s23 s24 s25 s26 s27 s28 s29 s30 s31 s32 s33 s34 s35 s36 s37 s38 s39 s40 s41 s42 s43 s44 s45 s46 s47 s48 s49 s50 s51 s52 s53 s54 s55 s56 s57 s58 s59 s60 s61 s62 s63 s64 s65 s66 s67 s68 s69 s70 s71 s72 s73 s74 s75 s76 s77 s78 s79 s80 s81 s82 s83 s84 s85 s86 s87 s88 s89 s90 s91 s92 s93 s94 s95 s96 s97 s98 s99 s100 s101 s102 s103 s104 s105 s106 s107 s108 s109 s110 s111 s112 s113 s114 s115 s116 s117 s118 s119 s120 : Value) :
    (subx [true, true, true, true, true, true, true, true, true, true] (Tryd.f8.body.getD .skip)).wp Tryd.prog (bodyPost Tryd.prog Tryd.f8 (LawPost w)) ⟨#[s0, s1, s2, s3, s4, .int .i64 m, .slice A6 us.length c6, s7, s8, .pointer (some ⟨p9, 0, none⟩), s10, .pointer (some ⟨p11, 0, none⟩), .int .i64 0, .slice none 0 0, s14, s15, s16, s17, s18, s19, s20, s21, s22, s23, s24, s25, s26, s27, s28, s29, s30, s31, s32, s33, s34, s35, s36, s37, s38, s39, s40, s41, s42, s43, s44, s45, s46, s47, s48, s49, s50, s51, s52, s53, s54, s55, s56, s57, s58, s59, s60, s61, s62, s63, s64, s65, s66, s67, s68, s69, s70, s71, s72, s73, s74, s75, s76, s77, s78, s79, s80, s81, s82, s83, s84, s85, s86, s87, s88, s89, s90, s91, s92, s93, s94, s95, s96, s97, s98, s99, s100, s101, s102, s103, s104, s105, s106, s107, s108, s109, s110, s111, s112, s113, s114, s115, s116, s117, s118, s119, s120], []⟩ W := by
  generalize hQ : bodyPost Tryd.prog Tryd.f8 (LawPost w) = Q
  dsimp only [subx, Tryd.f8, Option.getD]
  subst hQ
  have hHL := Lib.hid (And.intro hY (And.intro h1 (And.intro hS (And.intro hp (And.intro hs (And.intro ln ltl))))))
  clear hY h1 hS hp hs ln ltl
  have hp6 := HK.out.row.plain (by omega)
  go_wp2_with fail
  go_loopw [13, 80] (fun v13 vi wr => ∃ (k : Nat) (A13 : Option Addr) (c13 : Nat), k ≤ us.length ∧ vi = .int .i64 (k : Int) ∧ v13 = .slice A13 k c13 ∧ wr.ownsRow W.heap.size 27 8 (.slice A13 k c13) k ((us.reverse.take k).flatMap caL) ∧ Below W.heap.size W wr) (fun _ vi _ => us.length - (intOf vi).toNat)
  case atStart => exact ⟨0, none, 0, Nat.zero_le _, rfl, rfl, World.ownsRow_nil _ _ _ _, Below.refl _ _⟩
  case round =>
    obtain ⟨k, A13, c13, hk, rfl, rfl, hO, hB⟩ := hrel
    have HO := Lib.hid hO
    have HB := Lib.hid hB
    clear hO hB
    by_cases hlt : k < us.length
    · have hlt' : (k : Int) < us.length := by omega
      have e1 : IntKind.i64.wrap ((us.length : Int) - 1) = (us.length : Int) - 1 := IntWalk.i64_in _ (by omega)
      have e2 : IntKind.i64.wrap ((us.length : Int) - 1 - (k : Int)) = ((us.length - 1 - k : Nat) : Int) := by
        rw [IntWalk.i64_in _ (by omega)]; omega
      have hidx : us.length - 1 - k < us.length := by omega
      have hix := fun W => ix36r hp6 c6 (us.length - 1 - k) hidx W
      obtain ⟨t, htk⟩ : ∃ t, t = us[us.length - 1 - k] := ⟨_, rfl⟩
      have hr : wr.rangeAt (bk A6) (ofs A6 + (us.length - 1 - k) * 8) [.int .i64 t.c.call, .int .i64 t.c.inc, .int .i64 t.c.urg, .string t.c.code, .slice t.A t.c.nodes.length t.k, .int .i64 t.c.dist, .int .i64 t.c.since, .bool t.c.closed] := by
        have := ca_rangeR (HK.out.row.below HB.out (fun _ h => h)) hidx
        rw [← htk] at this
        exact this
      have HTk := Lib.hid (show us.reverse.take (k + 1) = us.reverse.take k ++ [t] by rw [rev_take us hlt, htk])
      clear htk
      generalize us.length - 1 - k = ix at *
      have hz := HB.out.size
      have HOa := Lib.hid (own_below HO.out ((Below.refl wr.heap.size wr).alloc (Nat.le_refl _) (.cells #[.int .i64 t.c.call, .int .i64 t.c.inc, .int .i64 t.c.urg, .string t.c.code, .slice t.A t.c.nodes.length t.k, .int .i64 t.c.dist, .int .i64 t.c.since, .bool t.c.closed] 27)) (fun g hg => (HO.out.lt g hg).2))
      have HNa := Lib.hid (show Reads (wr.alloc (.cells #[.int .i64 t.c.call, .int .i64 t.c.inc, .int .i64 t.c.urg, .string t.c.code, .slice t.A t.c.nodes.length t.k, .int .i64 t.c.dist, .int .i64 t.c.since, .bool t.c.closed] 27)) (· = wr.heap.size) 8 (some ⟨wr.heap.size, 0, none⟩) 1 [.int .i64 t.c.call, .int .i64 t.c.inc, .int .i64 t.c.urg, .string t.c.code, .slice t.A t.c.nodes.length t.k, .int .i64 t.c.dist, .int .i64 t.c.since, .bool t.c.closed] from Reads.newS wr (caL t) 27 (0, 0) 1 8 rfl _ rfl)
      have HBa := Lib.hid (HB.out.alloc HB.out.size (.cells #[.int .i64 t.c.call, .int .i64 t.c.inc, .int .i64 t.c.urg, .string t.c.code, .slice t.A t.c.nodes.length t.k, .int .i64 t.c.dist, .int .i64 t.c.since, .bool t.c.closed] 27))
      have hzs := HBa.out.size
      go_wp2_with (first
        | (refine wpList_load_mid rfl 27 _ rfl (bk A6) (ofs A6 + ix * 8) rfl [.int .i64 t.c.call, .int .i64 t.c.inc, .int .i64 t.c.urg, .string t.c.code, .slice t.A t.c.nodes.length t.k, .int .i64 t.c.dist, .int .i64 t.c.since, .bool t.c.closed] _ hr Tryd.underlying27 rfl rsz27 ?_)
        | (at_builtin; refine wpList_append_any _ rfl _ _ _ rfl W.heap.size 27 _ 8 88 Tryd.underlying36 ri27 rfl (by omega) (.slice A13 k c13) k ((us.reverse.take k).flatMap caL) rfl HOa.out _ (some ⟨wr.heap.size, 0, none⟩) 1 1 [.int .i64 t.c.call, .int .i64 t.c.inc, .int .i64 t.c.urg, .string t.c.code, .slice t.A t.c.nodes.length t.k, .int .i64 t.c.dist, .int .i64 t.c.since, .bool t.c.closed] rfl HNa.out (caL_one1 t) (by simp only [maxLen]; omega) (by omega) hzs ?_; intro A14 c14 w14 hown hgr hat; have HO14 := Lib.hid hown; have HB14 := Lib.hid (Below.grown HBa.out hgr hzs (fun j hj => (HOa.out.lt j hj).1)); clear hown hgr hat))
      refine ⟨⟨k + 1, A14, c14, by omega, by go_num, rfl, ?_, HB14.out⟩, by simp [intOf]; omega⟩
      rw [HTk.out, List.flatMap_append, List.flatMap_cons, List.flatMap_nil, List.append_nil]
      exact HO14.out
    · have hlt' : ¬ (k : Int) < us.length := by omega
      have hk3 : k = us.length := by omega
      subst hk3
      obtain ⟨hY, h1, hS, hp, hs, ln, ltl⟩ := hHL.out
      have hrow := (Reads.of_own HO.out).old (by omega) |>.more (B' := fun b => b < wr.heap.size) (fun b hb => hb.2)
      rw [List.take_of_length_le (by simp)] at hrow
      go_upto_region 23 with (fail)
      iterate 14 go_step
      refine wp_of_eq (c' := subx [true, true, true, true, true, true, true, true, true, true, true] (Tryd.f8.body.getD .skip)) (by kernel_rfl) ?_
      exact kcn_end m cs A13 c13 w wr us A6 u0 Y p9 p11 An Ac Au cn cc cu Any Acy Auy cny ccy cuy ht hY h1 hS hp hs ln lt ltl (Lib.hid (HK.out.below HB.out)) (Lib.hid hrow) _ _ _ _ _ _ _ _ _ _ _ _ _ _ _ _ _ _ _ _ _ _ _ _ _ _ _ _ _ _ _ _ _ _ _ _ _ _ _ _ _ _ _ _ _ _ _ _ _ _ _ _ _ _ _ _ _ _ _ _ _ _ _ _ _ _ _ _ _ _ _ _ _ _ _ _ _ _ _ _ _ _ _ _ _ _ _ _ _ _ _ _ _ _ _ _ _ _ _ _ _ _ _ _ _ _ _ _ _ _ _ _ _ _ _ _
end Go.Proofs.YtipkicijfedfoaaDoor

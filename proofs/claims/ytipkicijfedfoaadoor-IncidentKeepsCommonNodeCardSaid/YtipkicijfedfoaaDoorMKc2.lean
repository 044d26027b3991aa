import Derived.Test.YtipkicijfedfoaaDoorMKc1
import Derived.Test.YtipkicijfedfoaaDoorMAnw8
import Derived.Test.YtipkicijfedfoaaDoorMAlv2
import Derived.Test.YtipkicijfedfoaaDoorMGG
import Derived.Deep.MidRow
namespace Go.Proofs.YtipkicijfedfoaaDoor
set_option linter.unusedVariables false
set_option linter.unusedSimpArgs false
open Go.RowKit Go.Own Go.Quo Go.Inc Go.Wire
/-- what is held behind the first rebuilding -/
structure KSt (w W : World) (us : List Ca) (A6 : Option Addr) (u0 : Cr) (Y : Ic) (p9 p11 : Nat) (An Ac Au : Option Addr) (cn cc cu : Nat) (Any Acy Auy : Option Addr) (cny ccy cuy : Nat) : Prop where
  row : Reads W (· < W.heap.size) 8 A6 us.length (us.flatMap caL)
  nod : ∀ u ∈ us, RI W (· < W.heap.size) u.A u.c.nodes
  xb : Blk W p9 25 #[.int .i64 5, .int .i64 u0.urg, .string u0.code, .slice An u0.nodes.length cn, .int .i64 u0.dist, .int .i64 u0.since, .slice Ac 1 cc, .slice Au 0 cu, .int .i64 0, .bool false]
  xn : RI W (· < W.heap.size) An u0.nodes
  xc : RI W (· < W.heap.size) Ac [u0.call]
  xu : RI W (· < W.heap.size) Au []
  yb : Blk W p11 25 #[.int .i64 Y.id, .int .i64 Y.urg, .string Y.code, .slice Any Y.nodes.length cny, .int .i64 Y.dist, .int .i64 Y.since, .slice Acy Y.calls.length ccy, .slice Auy Y.units.length cuy, .int .i64 Y.merged, .bool Y.closed]
  yn : RI W (· < W.heap.size) Any Y.nodes
  yc : RI W (· < W.heap.size) Acy Y.calls
  yu : RI W (· < W.heap.size) Auy Y.units
  bel : Below w.heap.size w W
theorem lt_more {W W' : World} (h : W.heap.size ≤ W'.heap.size) {A : Option Addr} {n s : Nat} {xs : List Value} (hr : Reads W' (· < W.heap.size) s A n xs) : Reads W' (· < W'.heap.size) s A n xs := hr.more (fun b hb => Nat.lt_of_lt_of_le hb h)
theorem KSt.below {w W W' : World} {us : List Ca} {A6 : Option Addr} {u0 : Cr} {Y : Ic} {p9 p11 : Nat} {An Ac Au : Option Addr} {cn cc cu : Nat} {Any Acy Auy : Option Addr} {cny ccy cuy : Nat} (h : KSt w W us A6 u0 Y p9 p11 An Ac Au cn cc cu Any Acy Auy cny ccy cuy) (hb : Below W.heap.size W W') : KSt w W' us A6 u0 Y p9 p11 An Ac Au cn cc cu Any Acy Auy cny ccy cuy :=
  ⟨lt_more hb.size (h.row.below hb (fun _ h => h)), fun u hu => lt_more hb.size ((h.nod u hu).below hb (fun _ h => h)), h.xb.below hb h.xb.lt, lt_more hb.size (h.xn.below hb (fun _ h => h)), lt_more hb.size (h.xc.below hb (fun _ h => h)), lt_more hb.size (h.xu.below hb (fun _ h => h)), h.yb.below hb h.yb.lt, lt_more hb.size (h.yn.below hb (fun _ h => h)), lt_more hb.size (h.yc.below hb (fun _ h => h)), lt_more hb.size (h.yu.below hb (fun _ h => h)), h.bel.trans (hb.mono h.bel.size)⟩
/-- Rebuild of calls that are those of 'cs' in some order -/
theorem reb_any (u0 : Cr) (cs : List Cr) (Y : Ic) (hY : anwP (fromI 5 u0) cs = (Y, 0)) (An Ac Au : Option Addr) (cn cc cu : Nat) (ts : List Ca) (A : Option Addr) (c : Nat) (W : World) (ht : Tab W) (hn : RI W (· < W.heap.size) An u0.nodes) (hc : RI W (· < W.heap.size) Ac [u0.call]) (hu : RI W (· < W.heap.size) Au []) (h : Reads W (· < W.heap.size) 8 A ts.length (ts.flatMap caL)) (hts : ∀ t ∈ ts, RI W (· < W.heap.size) t.A t.c.nodes) (hp : (ts.map (fun t : Ca => t.c)).Perm cs) (hs : u0.code.size ≤ 1000) (ln : u0.nodes.length ≤ 1000) (lt : ts.length ≤ 1000) (ltl : ∀ t ∈ ts, t.c.code.size ≤ 1000 ∧ t.c.nodes.length ≤ 1000) :
    Calls Tryd.prog 26 #[.agg #[.int .i64 5, .int .i64 u0.urg, .string u0.code, .slice An u0.nodes.length cn, .int .i64 u0.dist, .int .i64 u0.since, .slice Ac 1 cc, .slice Au 0 cu, .int .i64 0, .bool false], .slice A ts.length c] W (IncPost Y 0 W) :=
  (show Calls Tryd.prog 26 #[.agg #[.int .i64 5, .int .i64 u0.urg, .string u0.code, .slice An u0.nodes.length cn, .int .i64 u0.dist, .int .i64 u0.since, .slice Ac 1 cc, .slice Au 0 cu, .int .i64 0, .bool false], .slice A ts.length c] W (RebPost (fromI 5 u0) (ts.map (fun t : Ca => t.c)) W) from rebuild26 (fromI 5 u0) An Ac Au cn cc cu ts A c W ht hn hc hu h hts (by show u0.code.size ≤ _; omega) (by show u0.nodes.length ≤ _; omega) (by show 1 ≤ _; omega) (by show 0 ≤ _; omega) lt (fun t ht => by have := ltl t ht; omega)).mono (fun e w' ⟨ss, h1, h2, h3⟩ => by
    rw [reb_anw (h1.trans hp) h2, hY] at h3
    exact h3)
set_option maxRecDepth 10000 in
set_option maxHeartbeats 8000000 in
theorem kcn_end (m : Int) (cs : List Cr) (A13 : Option Addr) (c13 : Nat) (w W : World) (us : List Ca) (A6 : Option Addr) (u0 : Cr) (Y : Ic) (p9 p11 : Nat) (An Ac Au : Option Addr) (cn cc cu : Nat) (Any Acy Auy : Option Addr) (cny ccy cuy : Nat) (ht : Tab w) (hY : anwP (fromI 5 u0) cs = (Y, 0)) (h1 : (bothL Y.nodes [m]).length = 1) (hS : IcS Y) (hp : (us.map (fun t : Ca => t.c)).Perm cs) (hs : u0.code.size ≤ 1000) (ln : u0.nodes.length ≤ 1000) (lt : us.length ≤ 12) (ltl : ∀ t ∈ us, t.c.code.size ≤ 1000 ∧ t.c.nodes.length ≤ 1000)
    (HK : RowKit.Hid (KSt w W us A6 u0 Y p9 p11 An Ac Au cn cc cu Any Acy Auy cny ccy cuy)) (HRow : RowKit.Hid (Reads W (· < W.heap.size) 8 A13 us.length (us.reverse.flatMap caL))) (s0 s1 s2 s3 s4 s6 s7 s8 s10 s14 s15 s16 s17 s18 s19 s20 s21 s22 s23 s24 s25 s26 s27 s28 s29 s30 s31 s32 s33 s34 s35 s36 s37 s38 s39 s40 s41 s42 s43 s44 s45 s46 s47 s48 s49 s50 s51 s52 s53 s54 s55 s56 s57 s58 s59 s60 s61 s62 s63 s64 s65 s66 s67 s68 s69 s70 s71 s72 s73 s74 s75 s76 s77 s78 s79 s80 s81 s82 s83 s84 s85 s86 s87 s88 s89 s90 s91 s92 s93 s94 s95 s96 s97 s98 s99 s100 s101 s102 s103 s104 s105 s106 s107 s108 s109 s110 s111 s112 s113 s114 s115 s116 s117 s118 s119 s120 : Value) :
    (subx [true, true, true, true, true, true, true, true, true, true, true] (Tryd.f8.body.getD .skip)).wp Tryd.prog (bodyPost Tryd.prog Tryd.f8 (LawPost w)) ⟨#[s0, s1, s2, s3, s4, .int .i64 m, s6, s7, s8, .pointer (some ⟨p9, 0, none⟩), s10, .pointer (some ⟨p11, 0, none⟩), .int .i64 0, .slice A13 us.length c13, s14, s15, s16, s17, s18, s19, s20, s21, s22, s23, s24, s25, s26, s27, s28, s29, s30, s31, s32, s33, s34, s35, s36, s37, s38, s39, s40, s41, s42, s43, s44, s45, s46, s47, s48, s49, s50, s51, s52, s53, s54, s55, s56, s57, s58, s59, s60, s61, s62, s63, s64, s65, s66, s67, s68, s69, s70, s71, s72, s73, s74, s75, s76, s77, s78, s79, s80, s81, s82, s83, s84, s85, s86, s87, s88, s89, s90, s91, s92, s93, s94, s95, s96, s97, s98, s99, s100, s101, s102, s103, s104, s105, s106, s107, s108, s109, s110, s111, s112, s113, s114, s115, s116, s117, s118, s119, s120], []⟩ W := by
  have H26 := Lib.hid (show Calls Tryd.prog 26 #[.agg #[.int .i64 5, .int .i64 u0.urg, .string u0.code, .slice An u0.nodes.length cn, .int .i64 u0.dist, .int .i64 u0.since, .slice Ac 1 cc, .slice Au 0 cu, .int .i64 0, .bool false], .slice A13 us.length c13] W (IncPost Y 0 W) from by
    have := reb_any u0 cs Y hY An Ac Au cn cc cu us.reverse A13 c13 W (Tab.below ht HK.out.bel ht.lt) HK.out.xn HK.out.xc HK.out.xu (by rw [List.length_reverse]; exact HRow.out) (fun t ht => HK.out.nod t (List.mem_reverse.1 ht)) (by rw [List.map_reverse]; exact (List.reverse_perm _).trans hp) hs ln (by rw [List.length_reverse]; omega) (fun t ht => ltl t (List.mem_reverse.1 ht))
    rw [List.length_reverse] at this
    exact this)
  have HSx := Lib.hid hS
  have HL1 := Lib.hid h1
  have hln := hS.nodesL
  clear hY hp hs ln lt ltl HRow h1 hS
  generalize hQ : bodyPost Tryd.prog Tryd.f8 (LawPost w) = Q
  dsimp only [subx, Tryd.f8, Option.getD]
  subst hQ
  obtain ⟨x0, x1, x2⟩ := HK.out.xb.facts
  go_upto_region 28 with (go_at_call 26; ((with_reducible refine H26.out.mono ?_); rintro e w7 ⟨Anz, Acz, Auz, cnz, ccz, cuz, rfl, hnz, hcz, huz, hb⟩; have HK7 := Lib.hid (HK.out.below hb); have HNz := Lib.hid (((ri_own hnz).old (by omega)).more (B' := fun b => b < w7.heap.size) (fun b hb => hb.2)); have HCz := Lib.hid (((ri_own hcz).old (by omega)).more (B' := fun b => b < w7.heap.size) (fun b hb => hb.2)); have HUz := Lib.hid (((ri_own huz).old (by omega)).more (B' := fun b => b < w7.heap.size) (fun b hb => hb.2)); clear hb hnz hcz huz x0 x1 x2))
  have hba := (Below.refl w7.heap.size w7).alloc (Nat.le_refl _) (.cells #[.int .i64 Y.id, .int .i64 Y.urg, .string Y.code, .slice Anz Y.nodes.length cnz, .int .i64 Y.dist, .int .i64 Y.since, .slice Acz Y.calls.length ccz, .slice Auz Y.units.length cuz, .int .i64 Y.merged, .bool Y.closed] 25)
  have HK8 := Lib.hid (HK7.out.below hba)
  have HPz := Lib.hid (Blk.new w7 25 #[.int .i64 Y.id, .int .i64 Y.urg, .string Y.code, .slice Anz Y.nodes.length cnz, .int .i64 Y.dist, .int .i64 Y.since, .slice Acz Y.calls.length ccz, .slice Auz Y.units.length cuz, .int .i64 Y.merged, .bool Y.closed])
  have HNz8 := Lib.hid (lt_more hba.size (HNz.out.alloc (.cells #[.int .i64 Y.id, .int .i64 Y.urg, .string Y.code, .slice Anz Y.nodes.length cnz, .int .i64 Y.dist, .int .i64 Y.since, .slice Acz Y.calls.length ccz, .slice Auz Y.units.length cuz, .int .i64 Y.merged, .bool Y.closed] 25)))
  have HCz8 := Lib.hid (lt_more hba.size (HCz.out.alloc (.cells #[.int .i64 Y.id, .int .i64 Y.urg, .string Y.code, .slice Anz Y.nodes.length cnz, .int .i64 Y.dist, .int .i64 Y.since, .slice Acz Y.calls.length ccz, .slice Auz Y.units.length cuz, .int .i64 Y.merged, .bool Y.closed] 25)))
  have HUz8 := Lib.hid (lt_more hba.size (HUz.out.alloc (.cells #[.int .i64 Y.id, .int .i64 Y.urg, .string Y.code, .slice Anz Y.nodes.length cnz, .int .i64 Y.dist, .int .i64 Y.since, .slice Acz Y.calls.length ccz, .slice Auz Y.units.length cuz, .int .i64 Y.merged, .bool Y.closed] 25)))
  clear HK HK7 HNz HCz HUz hba
  generalize w7.alloc _ = W8 at *
  generalize w7.heap.size = p15 at *
  have hbm := (Below.refl W8.heap.size W8).alloc (Nat.le_refl _) (.cells #[.int .i64 m] 3)
  have HK9 := Lib.hid (HK8.out.below hbm)
  have HPz9 := Lib.hid (HPz.out.alloc (.cells #[.int .i64 m] 3))
  have HNz9 := Lib.hid (lt_more hbm.size (HNz8.out.alloc (.cells #[.int .i64 m] 3)))
  have HCz9 := Lib.hid (lt_more hbm.size (HCz8.out.alloc (.cells #[.int .i64 m] 3)))
  have HUz9 := Lib.hid (lt_more hbm.size (HUz8.out.alloc (.cells #[.int .i64 m] 3)))
  have hm1 := (Reads.newS W8 [.int .i64 m] 3 (0, 0) 1 1 rfl _ rfl).more (B' := fun b => b < (W8.alloc (.cells #[.int .i64 m] 3)).heap.size) (fun b hb => by have hb2 : b = W8.heap.size := hb; simp; omega)
  have HBo := Lib.hid (show Calls Tryd.prog 20 #[.slice Any Y.nodes.length cny, .slice (some ⟨W8.heap.size, 0, none⟩) 1 1] (W8.alloc (.cells #[.int .i64 m] 3)) (fun e w' => ∃ A' c', e = .returned (.slice A' 1 c') ∧ Below (W8.alloc (.cells #[.int .i64 m] 3)).heap.size (W8.alloc (.cells #[.int .i64 m] 3)) w') from
    (both20 _ Any (some ⟨W8.heap.size, 0, none⟩) cny 1 Y.nodes [m] _ HK9.out.yn hm1 (by omega) (by show 1 ≤ _; omega)).mono (fun e w' ⟨A', c', e1, e2, e3⟩ => ⟨A', c', by rw [e1, HL1.out], e3⟩))
  clear hbm hm1 HNz8 HCz8 HUz8
  obtain ⟨y0, y1, y2⟩ := HK8.out.yb.facts
  have H18 := Lib.hid fun (W' : World) (hb : Below (W8.alloc (.cells #[.int .i64 m] 3)).heap.size (W8.alloc (.cells #[.int .i64 m] 3)) W') =>
    (show Calls Tryd.prog 18 #[.agg #[.int .i64 Y.id, .int .i64 Y.urg, .string Y.code, .slice Any Y.nodes.length cny, .int .i64 Y.dist, .int .i64 Y.since, .slice Acy Y.calls.length ccy, .slice Auy Y.units.length cuy, .int .i64 Y.merged, .bool Y.closed], .agg #[.int .i64 Y.id, .int .i64 Y.urg, .string Y.code, .slice Anz Y.nodes.length cnz, .int .i64 Y.dist, .int .i64 Y.since, .slice Acz Y.calls.length ccz, .slice Auz Y.units.length cuz, .int .i64 Y.merged, .bool Y.closed]] W' (BoolB true W') from (same18 (fun b => b < (W8.alloc (.cells #[.int .i64 m] 3)).heap.size) Y.id Y.urg Y.dist Y.since Y.merged Y.code Y.nodes Y.calls Y.units Any Acy Auy cny ccy cuy Y.closed Y.id Y.urg Y.dist Y.since Y.merged Y.code Y.nodes Y.calls Y.units Anz Acz Auz cnz ccz cuz Y.closed W' (HK9.out.yn.below hb (fun _ h => h)) (HK9.out.yc.below hb (fun _ h => h)) (HK9.out.yu.below hb (fun _ h => h)) HSx.out (HNz9.out.below hb (fun _ h => h)) (HCz9.out.below hb (fun _ h => h)) (HUz9.out.below hb (fun _ h => h)) HSx.out).mono (fun e w' h => by rw [decide_eq_true rfl] at h; exact h))
  go_wp2_with (first
    | (go_at_call 20; ((with_reducible refine HBo.out.mono ?_); rintro e w10 ⟨A10, c10, rfl, hb10⟩; have HYb := Lib.hid (HK9.out.yb.below hb10 HK9.out.yb.lt); have HZb := Lib.hid (HPz9.out.below hb10 HPz9.out.lt); have HB10 := Lib.hid (HK9.out.bel.trans (hb10.mono HK9.out.bel.size)); have H18b := Lib.hid (H18.out _ hb10); clear hb10 y0 y1 y2; obtain ⟨y0, y1, y2⟩ := HYb.out.facts; obtain ⟨z0, z1, z2⟩ := HZb.out.facts))
    | (go_at_call 18; ((with_reducible refine H18b.out.mono ?_); rintro e w11 ⟨rfl, hb11⟩)))
  go_ret
  exact ⟨rfl, HB10.out.trans (hb11.mono HB10.out.size)⟩
end Go.Proofs.YtipkicijfedfoaaDoor

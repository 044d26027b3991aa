import Derived.Test.YtipkicijfedfoaaDoorMRb4
import Derived.Test.YtipkicijfedfoaaDoorMAdd
import Derived.Test.YtipkicijfedfoaaDoorMGG
import Derived.Deep.MidRow
namespace Go.Proofs.YtipkicijfedfoaaDoor
set_option linter.unusedVariables false
set_option linter.unusedSimpArgs false
open Go.RowKit Go.Own Go.Quo Go.Inc
def sub : List Bool → Code → Code
  | [], c => c
  | true :: p, .seq _ y => sub p y
  | false :: p, .seq x _ => sub p x
  | _, c => c
theorem wp_of_eq {P : Program} {c c' : Code} {Q : Exit → Act → World → Prop} {a : Act} {w : World} (h : c' = c) (H : c'.wp P Q a w) : c.wp P Q a w := h ▸ H
def rebS (x : Ic) : List Cr → Ic
  | [] => x
  | t :: r => r.foldl furP (firP x t)
def rebP (x : Ic) (ss : List Cr) : Ic × Int :=
  if icB x = false ∨ ss = [] then (zeroIc, 1) else if ss.all crB = false then (zeroIc, 1) else
  if incB (srt (rebS x ss).calls) 1 1099511627776 = false then (zeroIc, 5) else if (rebS x ss).merged ≠ 0 then (zeroIc, 8) else ({ rebS x ss with calls := srt (rebS x ss).calls }, 0)
def RebPost (x : Ic) (cs : List Cr) (w : World) (e : Ending) (w' : World) : Prop := ∃ ss, ss.Perm cs ∧ ss.Pairwise leC ∧ IncPost (rebP x ss).1 (rebP x ss).2 w e w'
theorem reb_bad {x : Ic} {cs : List Cr} (h : icB x = false ∨ cs = [] ∨ ∃ t ∈ cs, crB t = false) {w : World} {e : Ending} {w' : World} (hp : IncPost zeroIc 1 w e w') : RebPost x cs w e w' := by
  refine ⟨sortC cs, sortC_perm cs, sortC_sorted cs, ?_⟩
  have : rebP x (sortC cs) = (zeroIc, 1) := by
    unfold rebP
    rcases h with h | rfl | ⟨t, ht, h⟩
    · rw [if_pos (.inl h)]
    · rw [if_pos (.inr (List.Perm.eq_nil (sortC_perm [])))]
    · by_cases h2 : icB x = false ∨ sortC cs = []
      · rw [if_pos h2]
      · rw [if_neg h2, if_pos]
        rw [List.all_eq_false]
        exact ⟨t, (sortC_perm cs).mem_iff.2 ht, by simp [h]⟩
  rw [this]
  exact hp
theorem rsz27 : (Tryd.prog.info? 27).map (·.size) = some 8 := by kernel_rfl
theorem ix36r {A : Option Addr} {n : Nat} (hA : Plain A n) (c k : Nat) (hk : k < n) (w : World) : (Instr.indexAt 36 (.slice A n c) (.int .i64 (k : Int))).run Tryd.prog w = .ok (.pointer (some ⟨bk A, ofs A + k * 8, none⟩)) w := by
  obtain ⟨i, h1, h2, h3, _⟩ := info_parts ri27
  exact run_indexAt2 (P := Tryd.prog) Tryd.underlying36 h1 h3 hA c k hk w
theorem ca_rangeR {w : World} {B : Nat → Prop} {A : Option Addr} {ts : List Ca} (h : Reads w B 8 A ts.length (ts.flatMap caL)) {k : Nat} (hk : k < ts.length) : w.rangeAt (bk A) (ofs A + k * 8) (caL ts[k]) := by
  intro j v hv
  have hj : j < 8 := by have := (List.getElem?_eq_some_iff.1 hv).1; simpa [caL] using this
  have hlt : k * 8 + j < ts.length * 8 := by omega
  have := h.cell2 (k * 8 + j) hlt (by omega)
  rw [flat_get caL 8 (fun _ => rfl) ts k j _ (List.getElem?_eq_getElem hk) hj] at this
  rw [Nat.add_assoc, this]; exact hv
def cut8 (A : Option Addr) (c : Nat) : Option Addr := if c = 1 then A else A.map (·.add (1 * 8))
theorem run_tail36 {A : Option Addr} {n c : Nat} (hn : 1 ≤ n) (W : World) : (Instr.slice 36 (.slice A n c) (some (.int .i64 1)) none none).run Tryd.prog W = .ok (.slice (cut8 A c) (n - 1) (c - 1)) W := by
  have hu : Tryd.prog.underlying 36 = some (.slice (Tryd.prog.elem 36)) := by kernel_rfl
  have he : Tryd.prog.elem 36 = 27 := by kernel_rfl
  rw [run_slice_l W 36 A n c hu .i64 1 (by omega) (by omega), he, Tryd.sizeOf27]
  simp [sliced, cut8, Result.andThen]
theorem run_tail36b {A : Option Addr} {n c : Nat} (hn : 1 ≤ n) (W : World) : (Instr.sliceAt 36 (.slice A n c) (some (.int .i64 1)) none none).run Tryd.prog W = .ok (.slice (cut8 A c) (n - 1) (c - 1)) W := by
  have hu : Tryd.prog.underlying 36 = some (.slice (Tryd.prog.elem 36)) := by kernel_rfl
  rw [run_sliceAt_slice W 36 _ _ _ _ hu]
  exact run_tail36 hn W
theorem tail_reads {w : World} {B : Nat → Prop} {A : Option Addr} {n c : Nat} {t : Ca} {r : List Ca} (h : Reads w B 8 A n ((t :: r).flatMap caL)) (hn : n = r.length + 1) (hc : n ≤ c) : Reads w B 8 (cut8 A c) r.length (r.flatMap caL) := by
  have := h.cut (k := 1) (by omega) hc
  subst hn
  unfold cut8
  rw [List.flatMap_cons, Nat.add_sub_cancel] at this
  have e : (caL t ++ r.flatMap caL).drop (1 * 8) = r.flatMap caL := rfl
  rw [e] at this
  exact this
theorem sorted_facts {w : World} {base : Nat} {A : Option Addr} {n c : Nat} {xs : List Value} (h : w.ownsRow base 27 8 (.slice A n c) n xs) (hn : 0 < n) : n ≤ c ∧ Reads w (· < w.heap.size) 8 A n xs := by
  refine ⟨?_, (Reads.of_own h).old (by omega) |>.more (fun k hk => hk.2)⟩
  rcases h.2 with ⟨_, hv⟩ | ⟨g, cap, cur, hv, hb, hg, hnc, _⟩
  · omega
  · injection hv with _ _ h3; omega
theorem incB_len {l : List Int} (h : incB l 0 4095 = true) : l.length ≤ 4096 := by
  obtain ⟨h1, h2⟩ := incB_pw.1 h
  rw [List.pairwise_iff_getElem] at h1
  have h3 : ∀ i (hi : i < l.length), (i : Int) ≤ l[i] := by
    intro i
    induction i with
    | zero => intro hi; have := (h2 _ (List.getElem_mem hi)).1; simpa using this
    | succ i ih =>
      intro hi
      have a := ih (by omega)
      have b := h1 i (i + 1) (by omega) hi (by omega)
      omega
  rcases Nat.eq_zero_or_pos l.length with h0 | h0
  · omega
  · have a := h3 (l.length - 1) (by omega)
    have b := (h2 _ (List.getElem_mem (show l.length - 1 < l.length by omega))).2
    omega
theorem fur_nodes {x : Ic} {c : Cr} (h : incB x.nodes 0 4095 = true) (h0 : 0 < x.nodes.length) : incB (furP x c).nodes 0 4095 = true ∧ 0 < (furP x c).nodes.length := by
  unfold furP
  simp only
  by_cases hb : 0 < (bothL x.nodes c.nodes).length
  · rw [if_pos hb]; exact ⟨incB_sub h (bothL_sub _ _), hb⟩
  · rw [if_neg hb]; exact ⟨h, h0⟩
set_option maxRecDepth 10000 in
set_option maxHeartbeats 8000000 in
theorem reb_early (x : Ic) (An Ac Au : Option Addr) (cn cc cu : Nat) (ts : List Ca) (A : Option Addr) (c : Nat) (w : World) (ht : Tab w) (hn : RI w (· < w.heap.size) An x.nodes) (hc : RI w (· < w.heap.size) Ac x.calls) (hu : RI w (· < w.heap.size) Au x.units) (h : Reads w (· < w.heap.size) 8 A ts.length (ts.flatMap caL)) (hts : ∀ t ∈ ts, RI w (· < w.heap.size) t.A t.c.nodes) (hs : x.code.size ≤ 100000) (ln : x.nodes.length ≤ 100000) (lc : x.calls.length ≤ 100000) (lu : x.units.length ≤ 100000) (lt : ts.length ≤ 1000) (ltl : ∀ t ∈ ts, t.c.code.size ≤ 100000 ∧ t.c.nodes.length ≤ 100000) (h0 : icB x = false ∨ ts = []) : Calls Tryd.prog 26 #[.agg #[.int .i64 x.id, .int .i64 x.urg, .string x.code, .slice An x.nodes.length cn, .int .i64 x.dist, .int .i64 x.since, .slice Ac x.calls.length cc, .slice Au x.units.length cu, .int .i64 x.merged, .bool x.closed], .slice A ts.length c] w (RebPost x (ts.map (·.c)) w) := by
  refine Calls.mono ?_ (fun e w' hp => reb_bad (h0.imp (fun h => h) (fun h => .inl (by rw [h]; rfl))) hp)
  have hp := h.plain (by omega)
  have HR := Lib.hid h
  have HN := Lib.hid hn
  have HC := Lib.hid hc
  have HU := Lib.hid hu
  have HTs := Lib.hid hts
  have HT := Lib.hid ht
  have HL := Lib.hid ltl
  have H14 := Lib.hid fun (W : World) (hb : Below w.heap.size w W) => (show Calls Tryd.prog 14 #[.agg #[.int .i64 x.id, .int .i64 x.urg, .string x.code, .slice An x.nodes.length cn, .int .i64 x.dist, .int .i64 x.since, .slice Ac x.calls.length cc, .slice Au x.units.length cu, .int .i64 x.merged, .bool x.closed]] W (BoolB (icB x) W) from valid14 _ x.id x.urg x.dist x.since x.merged x.code An Ac Au cn cc cu x.nodes x.calls x.units x.closed W hs (HN.out.below hb (fun k hk => hk)) (HC.out.below hb (fun k hk => hk)) (HU.out.below hb (fun k hk => hk)) ln lc lu)
  have HB := Lib.hid (((Below.refl w.heap.size w).alloc (Nat.le_refl _) (.cells #[.int .i64 x.id, .int .i64 x.urg, .string x.code, .slice An x.nodes.length cn, .int .i64 x.dist, .int .i64 x.since, .slice Ac x.calls.length cc, .slice Au x.units.length cu, .int .i64 x.merged, .bool x.closed] 25)).alloc (by simp) (.cells #[.int .i64 0, .int .i64 0, .string ⟨#[]⟩, .slice none 0 0, .int .i64 0, .int .i64 0, .slice none 0 0, .slice none 0 0, .int .i64 0, .bool false] 25))
  have HX := Lib.hid ((Blk.new w 25 #[.int .i64 x.id, .int .i64 x.urg, .string x.code, .slice An x.nodes.length cn, .int .i64 x.dist, .int .i64 x.since, .slice Ac x.calls.length cc, .slice Au x.units.length cu, .int .i64 x.merged, .bool x.closed]).alloc (.cells #[.int .i64 0, .int .i64 0, .string ⟨#[]⟩, .slice none 0 0, .int .i64 0, .int .i64 0, .slice none 0 0, .slice none 0 0, .int .i64 0, .bool false] 25))
  have HY := Lib.hid (show Blk ((w.alloc (.cells #[.int .i64 x.id, .int .i64 x.urg, .string x.code, .slice An x.nodes.length cn, .int .i64 x.dist, .int .i64 x.since, .slice Ac x.calls.length cc, .slice Au x.units.length cu, .int .i64 x.merged, .bool x.closed] 25)).alloc (.cells #[.int .i64 0, .int .i64 0, .string ⟨#[]⟩, .slice none 0 0, .int .i64 0, .int .i64 0, .slice none 0 0, .slice none 0 0, .int .i64 0, .bool false] 25)) (w.heap.size + 1) 25 #[.int .i64 0, .int .i64 0, .string ⟨#[]⟩, .slice none 0 0, .int .i64 0, .int .i64 0, .slice none 0 0, .slice none 0 0, .int .i64 0, .bool false] by
    have := Blk.new (w.alloc (.cells #[.int .i64 x.id, .int .i64 x.urg, .string x.code, .slice An x.nodes.length cn, .int .i64 x.dist, .int .i64 x.since, .slice Ac x.calls.length cc, .slice Au x.units.length cu, .int .i64 x.merged, .bool x.closed] 25)) 25 #[.int .i64 0, .int .i64 0, .string ⟨#[]⟩, .slice none 0 0, .int .i64 0, .int .i64 0, .slice none 0 0, .slice none 0 0, .int .i64 0, .bool false]
    simpa using this)
  obtain ⟨x0, x1, x2⟩ := HX.out.facts
  clear hn hc hu h hts ht ltl
  cases hi : icB x with
  | false =>
    clear h0
    rw [hi] at H14
    go_enter Tryd.func26, Tryd.ntmps26
    go_wp2_with (first | (go_at_call 14; ((with_reducible refine (H14.out _ HB.out).mono ?_); rintro e w2 ⟨rfl, hb⟩; have HX := Lib.hid (HX.out.below hb HX.out.lt); have HY := Lib.hid (HY.out.below hb HY.out.lt); have HB := Lib.hid (HB.out.trans (hb.mono HB.out.size)); clear hb x0 x1 x2; obtain ⟨x0, x1, x2⟩ := HX.out.facts)) | (refine wpList_storeBlk rfl (.tmp 4) (.tmp 20) 25 rfl (w.heap.size + 1) 25 _ #[.int .i64 0, .int .i64 0, .string ⟨#[]⟩, .slice none 0 0, .int .i64 0, .int .i64 0, .slice none 0 0, .slice none 0 0, .int .i64 0, .bool false] _ 10 136 info25 rfl rfl rfl HY.out rfl (ten_one (by simp [Value.oneCell'])) ?_; intro w8 hb8 hf8 hs8))
    refine bodyPost_ret (results_ct (p := 4) (u := 5) (ty := 25) Tryd.results26 _ _ (w.heap.size + 1) 25 #[.int .i64 0, .int .i64 0, .string ⟨#[]⟩, .slice none 0 0, .int .i64 0, .int .i64 0, .slice none 0 0, .slice none 0 0, .int .i64 0, .bool false] (0, 0) _ rfl hb8 Tryd.underlying25 rfl size25) rfl ?_
    exact ⟨none, none, none, 0, 0, 0, rfl, World.ownsRow_nil _ _ _ _, World.ownsRow_nil _ _ _ _, World.ownsRow_nil _ _ _ _, HB.out.trans (hf8.below HB.out.size (fun k hk e => by omega))⟩
  | true =>
    have h1 : ts = [] := by rcases h0 with e | e; · rw [hi] at e; cases e
                            · exact e
    subst h1
    clear h0
    rw [hi] at H14
    go_enter Tryd.func26, Tryd.ntmps26
    go_wp2_with (first | (go_at_call 14; ((with_reducible refine (H14.out _ HB.out).mono ?_); rintro e w2 ⟨rfl, hb⟩; have HX := Lib.hid (HX.out.below hb HX.out.lt); have HY := Lib.hid (HY.out.below hb HY.out.lt); have HB := Lib.hid (HB.out.trans (hb.mono HB.out.size)); clear hb x0 x1 x2; obtain ⟨x0, x1, x2⟩ := HX.out.facts)) | (refine wpList_storeBlk rfl (.tmp 4) (.tmp 20) 25 rfl (w.heap.size + 1) 25 _ #[.int .i64 0, .int .i64 0, .string ⟨#[]⟩, .slice none 0 0, .int .i64 0, .int .i64 0, .slice none 0 0, .slice none 0 0, .int .i64 0, .bool false] _ 10 136 info25 rfl rfl rfl HY.out rfl (ten_one (by simp [Value.oneCell'])) ?_; intro w8 hb8 hf8 hs8))
    refine bodyPost_ret (results_ct (p := 4) (u := 5) (ty := 25) Tryd.results26 _ _ (w.heap.size + 1) 25 #[.int .i64 0, .int .i64 0, .string ⟨#[]⟩, .slice none 0 0, .int .i64 0, .int .i64 0, .slice none 0 0, .slice none 0 0, .int .i64 0, .bool false] (0, 0) _ rfl hb8 Tryd.underlying25 rfl size25) rfl ?_
    exact ⟨none, none, none, 0, 0, 0, rfl, World.ownsRow_nil _ _ _ _, World.ownsRow_nil _ _ _ _, World.ownsRow_nil _ _ _ _, HB.out.trans (hf8.below HB.out.size (fun k hk e => by omega))⟩
set_option maxRecDepth 10000 in
set_option maxHeartbeats 8000000 in
theorem reb_end (x : Ic) (ss cs : List Cr) (urg since : Int) (code : ByteArray) (nodes calls : List Int) (An2 Ac2 Au1 : Option Addr) (cn2 cc2 cu1 : Nat) (p : Nat) (w w5 wr : World) (hSY : w.heap.size + 1 < w5.heap.size) (hSp : w5.heap.size ≤ p) (hclen : calls.length ≤ 1000)
    (HP : RowKit.Hid (Blk wr p 25 #[.int .i64 x.id, .int .i64 urg, .string code, .slice An2 nodes.length cn2, .int .i64 x.dist, .int .i64 since, .slice Ac2 calls.length cc2, .slice Au1 x.units.length cu1, .int .i64 x.merged, .bool x.closed])) (HNn : RowKit.Hid (wr.ownsRow w5.heap.size 3 1 (.slice An2 nodes.length cn2) nodes.length (nodes.map (Value.int .i64)))) (HCc : RowKit.Hid (wr.ownsRow w5.heap.size 2 1 (.slice Ac2 calls.length cc2) calls.length (calls.map (Value.int .i64)))) (HUu : RowKit.Hid (wr.ownsRow w5.heap.size 3 1 (.slice Au1 x.units.length cu1) x.units.length (x.units.map (Value.int .i64))))
    (HY : RowKit.Hid (Blk wr (w.heap.size + 1) 25 #[.int .i64 0, .int .i64 0, .string ⟨#[]⟩, .slice none 0 0, .int .i64 0, .int .i64 0, .slice none 0 0, .slice none 0 0, .int .i64 0, .bool false])) (HB : RowKit.Hid (Below w.heap.size w wr))
    (HReb : RowKit.Hid (rebP x ss = if incB (srt calls) 1 1099511627776 = false then (zeroIc, 5) else if x.merged ≠ 0 then (zeroIc, 8) else (⟨x.id, urg, code, nodes, x.dist, since, srt calls, x.units, x.merged, x.closed⟩, 0))) (HPerm : RowKit.Hid (ss.Perm cs)) (HPair : RowKit.Hid (ss.Pairwise leC)) (s0 s1 s2 s3 s5 s6 s7 s8 s10 s11 s12 s13 s14 s15 s16 s17 s18 s19 s20 s21 s22 s23 s24 s25 s26 s27 s28 s29 s30 s31 s32 s33 s34 s35 s36 s37 s38 s39 s40 s41 s42 s43 s44 s45 s46 s47 s48 s49 s50 s51 s52 s53 s54 s55 s56 s57 s58 s59 s60 s61 s62 s63 s64 s65 s66 s67 s68 : Value) :
    (sub [true, true, true, true, true, true, true, true, true] (Tryd.f26.body.getD .skip)).wp Tryd.prog (bodyPost Tryd.prog Tryd.f26 (RebPost x cs w)) ⟨#[s0, s1, s2, s3, .pointer (some ⟨w.heap.size + 1, 0, none⟩), s5, s6, s7, s8, .pointer (some ⟨p, 0, none⟩), s10, s11, s12, s13, s14, s15, s16, s17, s18, s19, s20, s21, s22, s23, s24, s25, s26, s27, s28, s29, s30, s31, s32, s33, s34, s35, s36, s37, s38, s39, s40, s41, s42, s43, s44, s45, s46, s47, s48, s49, s50, s51, s52, s53, s54, s55, s56, s57, s58, s59, s60, s61, s62, s63, s64, s65, s66, s67, s68], []⟩ wr := by
  generalize hQ : bodyPost Tryd.prog Tryd.f26 (RebPost x cs w) = Q
  dsimp only [sub, Tryd.f26, Option.getD]
  subst hQ
  have H44 := Lib.hid (sort_own w5.heap.size Ac2 calls.length cc2 calls wr HCc.out (by omega))
  have HNq := Lib.hid (own_ne_own HNn.out HCc.out (by decide))
  have HUq := Lib.hid (own_ne_own HUu.out HCc.out (by decide))
  have HPq := Lib.hid (own_ne_blk HCc.out HP.out (by decide))
  have HCl := Lib.hid (fun g hg => (HCc.out.lt g hg).1)
  obtain ⟨z0, z1, z2⟩ := HP.out.facts
  go_upto_region 21 with (go_at_call 44; ((with_reducible refine H44.out.mono ?_); rintro e w10 ⟨rfl, hk10, hg10⟩; have HK10 := Lib.hid hk10; have HG10 := Lib.hid hg10; clear hk10 hg10 z0 z1 z2))
  have HPb := Lib.hid (HP.out.grown HG10.out (by intro e; exact HPq.out p e.symm rfl))
  have HNb := Lib.hid (World.ownsRow.kept HNn.out HG10.out (own_or HNq.out))
  have HUb := Lib.hid (World.ownsRow.kept HUu.out HG10.out (own_or HUq.out))
  have HYb := Lib.hid (HY.out.grown HG10.out (by intro e; have := HCl.out _ e.symm; omega))
  have HBb := Lib.hid (HB.out.grown HG10.out HB.out.size (fun k hk => by have := HCl.out _ hk; omega))
  have HKs := Lib.hid (show w10.ownsRow w5.heap.size 2 1 (.slice Ac2 (srt calls).length cc2) (srt calls).length ((srt calls).map (Value.int .i64)) by rw [srt_length]; exact HK10.out)
  have H35 := Lib.hid (show Calls Tryd.prog 35 #[.slice Ac2 calls.length cc2, .int .i64 1, .int .i64 1099511627776] w10 (BoolIs (incB (srt calls) 1 1099511627776) w10) by
    have := incr35 _ Ac2 cc2 (srt calls) 1 1099511627776 w10 (ri_own HKs.out) (by rw [srt_length]; omega)
    rw [srt_length] at this
    exact this)
  obtain ⟨z0, z1, z2⟩ := HPb.out.facts
  clear HP HNn HUu HY HB HCc HG10 HNq HUq HPq HCl H44
  cases hq : incB (srt calls) 1 1099511627776 with
  | false =>
    have HReb2 := Lib.hid (show rebP x ss = (zeroIc, 5) by rw [HReb.out, if_pos hq])
    rw [hq] at H35
    clear hq HReb
    go_wp2_with (first | (go_at_call 35; ((with_reducible refine H35.out.mono ?_); rintro e w11 ⟨rfl, rfl⟩)) | (refine wpList_storeBlk rfl (.tmp 4) (.tmp 63) 25 rfl (w.heap.size + 1) 25 _ #[.int .i64 0, .int .i64 0, .string ⟨#[]⟩, .slice none 0 0, .int .i64 0, .int .i64 0, .slice none 0 0, .slice none 0 0, .int .i64 0, .bool false] _ 10 136 info25 rfl rfl rfl HYb.out rfl (ten_one (by simp [Value.oneCell'])) ?_; intro w8 hb8 hf8 hs8))
    refine bodyPost_ret (results_ct (p := 4) (u := 5) (ty := 25) Tryd.results26 _ _ (w.heap.size + 1) 25 #[.int .i64 0, .int .i64 0, .string ⟨#[]⟩, .slice none 0 0, .int .i64 0, .int .i64 0, .slice none 0 0, .slice none 0 0, .int .i64 0, .bool false] (0, 0) _ rfl hb8 Tryd.underlying25 rfl size25) rfl ?_
    refine ⟨_, HPerm.out, HPair.out, ?_⟩
    rw [HReb2.out]
    exact ⟨none, none, none, 0, 0, 0, rfl, World.ownsRow_nil _ _ _ _, World.ownsRow_nil _ _ _ _, World.ownsRow_nil _ _ _ _, HBb.out.trans (hf8.below HBb.out.size (fun k hk e => by omega))⟩
  | true =>
    rw [hq] at H35 HReb
    clear hq
    by_cases hm : x.merged = 0
    · have HReb2 := Lib.hid (show rebP x ss = (⟨x.id, urg, code, nodes, x.dist, since, srt calls, x.units, x.merged, x.closed⟩, 0) by
        rw [HReb.out, if_neg (by simp), if_neg (fun h => h hm)])
      have dm : (x.merged != 0) = false := by rw [hm]; rfl
      have dm2 : ((x.merged : Int) == 0) = true := by rw [hm]; rfl
      clear hm HReb
      go_wp2_with (first | (go_at_call 35; ((with_reducible refine H35.out.mono ?_); rintro e w11 ⟨rfl, rfl⟩)) | (refine wpList_storeBlk rfl (.tmp 4) (.tmp 68) 25 rfl (w.heap.size + 1) 25 _ #[.int .i64 x.id, .int .i64 urg, .string code, .slice An2 nodes.length cn2, .int .i64 x.dist, .int .i64 since, .slice Ac2 calls.length cc2, .slice Au1 x.units.length cu1, .int .i64 x.merged, .bool x.closed] _ 10 136 info25 rfl rfl rfl HYb.out rfl (ten_one (by simp [Value.oneCell'])) ?_; intro w8 hb8 hf8 hs8))
      refine bodyPost_ret (results_ct (p := 4) (u := 5) (ty := 25) Tryd.results26 _ _ (w.heap.size + 1) 25 #[.int .i64 x.id, .int .i64 urg, .string code, .slice An2 nodes.length cn2, .int .i64 x.dist, .int .i64 since, .slice Ac2 calls.length cc2, .slice Au1 x.units.length cu1, .int .i64 x.merged, .bool x.closed] (0, 0) _ rfl hb8 Tryd.underlying25 rfl size25) rfl ?_
      refine ⟨_, HPerm.out, HPair.out, ?_⟩
      rw [HReb2.out]
      have e11 : icV ⟨x.id, urg, code, nodes, x.dist, since, srt calls, x.units, x.merged, x.closed⟩ An2 Ac2 Au1 cn2 cc2 cu1 = .agg #[.int .i64 x.id, .int .i64 urg, .string code, .slice An2 nodes.length cn2, .int .i64 x.dist, .int .i64 since, .slice Ac2 calls.length cc2, .slice Au1 x.units.length cu1, .int .i64 x.merged, .bool x.closed] := by
        show Value.agg #[.int .i64 x.id, .int .i64 urg, .string code, .slice An2 nodes.length cn2, .int .i64 x.dist, .int .i64 since, .slice Ac2 (srt calls).length cc2, .slice Au1 x.units.length cu1, .int .i64 x.merged, .bool x.closed] = _
        rw [srt_length]
      refine ⟨An2, Ac2, Au1, cn2, cc2, cu1, by rw [e11]; rfl, ?_, ?_, ?_, ?_⟩
      · exact World.ownsRow.mono (own_fr HNb.out hf8 (fun g hg e => by have := (HNb.out.lt g hg).1; omega)) (by omega)
      · exact World.ownsRow.mono (own_fr HKs.out hf8 (fun g hg e => by have := (HKs.out.lt g hg).1; omega)) (by omega)
      · exact World.ownsRow.mono (own_fr HUb.out hf8 (fun g hg e => by have := (HUb.out.lt g hg).1; omega)) (by omega)
      · exact HBb.out.trans (hf8.below HBb.out.size (fun k hk e => by omega))
    · have HReb2 := Lib.hid (show rebP x ss = (zeroIc, 8) by
        rw [HReb.out, if_neg (by simp), if_pos hm])
      have dm : (x.merged != 0) = true := by simpa [bne] using hm
      have dm2 : ((x.merged : Int) == 0) = false := by simpa using hm
      clear hm HReb
      go_wp2_with (first | (go_at_call 35; ((with_reducible refine H35.out.mono ?_); rintro e w11 ⟨rfl, rfl⟩)) | (refine wpList_storeBlk rfl (.tmp 4) (.tmp 67) 25 rfl (w.heap.size + 1) 25 _ #[.int .i64 0, .int .i64 0, .string ⟨#[]⟩, .slice none 0 0, .int .i64 0, .int .i64 0, .slice none 0 0, .slice none 0 0, .int .i64 0, .bool false] _ 10 136 info25 rfl rfl rfl HYb.out rfl (ten_one (by simp [Value.oneCell'])) ?_; intro w8 hb8 hf8 hs8))
      refine bodyPost_ret (results_ct (p := 4) (u := 5) (ty := 25) Tryd.results26 _ _ (w.heap.size + 1) 25 #[.int .i64 0, .int .i64 0, .string ⟨#[]⟩, .slice none 0 0, .int .i64 0, .int .i64 0, .slice none 0 0, .slice none 0 0, .int .i64 0, .bool false] (0, 0) _ rfl hb8 Tryd.underlying25 rfl size25) rfl ?_
      refine ⟨_, HPerm.out, HPair.out, ?_⟩
      rw [HReb2.out]
      exact ⟨none, none, none, 0, 0, 0, rfl, World.ownsRow_nil _ _ _ _, World.ownsRow_nil _ _ _ _, World.ownsRow_nil _ _ _ _, HBb.out.trans (hf8.below HBb.out.size (fun k hk e => by omega))⟩
end Go.Proofs.YtipkicijfedfoaaDoor

namespace Go.Proofs.YtipkicijfedfoaaDoor
set_option linter.unusedVariables false
set_option linter.unusedSimpArgs false
open Go.RowKit Go.Own Go.Quo Go.Inc
set_option maxRecDepth 10000 in
set_option maxHeartbeats 8000000 in
theorem reb_mid (x : Ic) (An Ac Au : Option Addr) (cn cc cu : Nat) (t0 : Ca) (r : List Ca) (cs : List Cr) (A2 : Option Addr) (c2 n : Nat) (w w5 : World) (ln : x.nodes.length ≤ 100000) (lc : x.calls.length ≤ 100000) (lu : x.units.length ≤ 100000) (hn : n ≤ 1000) (hc2 : n ≤ c2)
    (HT : RowKit.Hid (Tab w)) (HN : RowKit.Hid (RI w (· < w.heap.size) An x.nodes)) (HC : RowKit.Hid (RI w (· < w.heap.size) Ac x.calls)) (HU : RowKit.Hid (RI w (· < w.heap.size) Au x.units)) (HX3 : RowKit.Hid (Blk w5 w.heap.size 25 #[.int .i64 x.id, .int .i64 x.urg, .string x.code, .slice An x.nodes.length cn, .int .i64 x.dist, .int .i64 x.since, .slice Ac x.calls.length cc, .slice Au x.units.length cu, .int .i64 x.merged, .bool x.closed])) (HY3 : RowKit.Hid (Blk w5 (w.heap.size + 1) 25 #[.int .i64 0, .int .i64 0, .string ⟨#[]⟩, .slice none 0 0, .int .i64 0, .int .i64 0, .slice none 0 0, .slice none 0 0, .int .i64 0, .bool false])) (HB3 : RowKit.Hid (Below w.heap.size w w5))
    (HNR : RowKit.Hid (n = r.length + 1)) (HRow : RowKit.Hid (Reads w5 (· < w5.heap.size) 8 A2 (t0 :: r).length ((t0 :: r).flatMap caL))) (HMem : RowKit.Hid (∀ t ∈ t0 :: r, crB t.c = true ∧ RI w (· < w.heap.size) t.A t.c.nodes ∧ t.c.code.size ≤ 100000 ∧ t.c.nodes.length ≤ 100000)) (HIx : RowKit.Hid (icB x = true)) (HPerm : RowKit.Hid (((t0 :: r).map (·.c)).Perm cs)) (HPair : RowKit.Hid (((t0 :: r).map (·.c)).Pairwise leC)) (s0 s1 s3 s5 s6 s7 s9 s10 s11 s12 s13 s14 s15 s16 s17 s18 s19 s20 s21 s22 s23 s24 s25 s26 s27 s28 s29 s30 s31 s32 s33 s34 s35 s36 s37 s38 s39 s40 s41 s42 s43 s44 s45 s46 s47 s48 s49 s50 s51 s52 s53 s54 s55 s56 s57 s58 s59 s60 s61 s62 s63 s64 s65 s66 s67 s68 : Value) :
    (sub [true, true, true, true, true, true] (Tryd.f26.body.getD .skip)).wp Tryd.prog (bodyPost Tryd.prog Tryd.f26 (RebPost x cs w)) ⟨#[s0, s1, .pointer (some ⟨w.heap.size, 0, none⟩), s3, .pointer (some ⟨w.heap.size + 1, 0, none⟩), s5, s6, s7, .slice A2 n c2, s9, s10, s11, s12, s13, s14, s15, s16, s17, s18, s19, s20, s21, s22, s23, s24, s25, s26, s27, s28, s29, s30, s31, s32, s33, s34, s35, s36, s37, s38, s39, s40, s41, s42, s43, s44, s45, s46, s47, s48, s49, s50, s51, s52, s53, s54, s55, s56, s57, s58, s59, s60, s61, s62, s63, s64, s65, s66, s67, s68], []⟩ w5 := by
  have hpos : 0 < n := by have := HNR.out; omega
  have hr3 : Reads w5 (· < w5.heap.size) 8 A2 n ((t0 :: r).flatMap caL) := by have := HRow.out; rw [List.length_cons, ← HNR.out] at this; exact this
  have HTl := Lib.hid (tail_reads hr3 HNR.out hc2)
  have hp3 := hr3.plain (by omega)
  have hpt := HTl.out.plain (by omega)
  have hix0 : ∀ W : World, (Instr.indexAt 36 (.slice A2 n c2) (.int .i64 0)).run Tryd.prog W = .ok (.pointer (some ⟨bk A2, ofs A2, none⟩)) W := fun W => by simpa using ix36r hp3 c2 0 hpos W
  have hcut : ∀ W : World, (Instr.slice 36 (.slice A2 n c2) (some (.int .i64 1)) none none).run Tryd.prog W = .ok (.slice (cut8 A2 c2) r.length (c2 - 1)) W := fun W => by
    have := run_tail36 (A := A2) (c := c2) (show 1 ≤ n from hpos) W
    rw [HNR.out, Nat.add_sub_cancel] at this; rw [HNR.out]; exact this
  have hcut2 : ∀ W : World, (Instr.sliceAt 36 (.slice A2 n c2) (some (.int .i64 1)) none none).run Tryd.prog W = .ok (.slice (cut8 A2 c2) r.length (c2 - 1)) W := fun W => by
    have := run_tail36b (A := A2) (c := c2) (show 1 ≤ n from hpos) W
    rw [HNR.out, Nat.add_sub_cancel] at this; rw [HNR.out]; exact this
  clear hr3
  generalize hQ : bodyPost Tryd.prog Tryd.f26 (RebPost x cs w) = Q
  dsimp only [sub, Tryd.f26, Option.getD]
  subst hQ
  have hS := HB3.out.size
  have H42 := Lib.hid (copy42 _ x.id x.urg x.dist x.since x.merged x.code x.nodes x.calls x.units An Ac Au cn cc cu x.closed w5 (HN.out.below HB3.out (fun k hk => hk)) (HC.out.below HB3.out (fun k hk => hk)) (HU.out.below HB3.out (fun k hk => hk)) ln lc lu)
  obtain ⟨x0, x1, x2⟩ := HX3.out.facts
  go_upto_region 14 with (go_at_call 42; ((with_reducible refine H42.out.mono ?_); rintro e w6 ⟨An1, Ac1, Au1, cn1, cc1, cu1, rfl, hn6, hc6, hu6, hb6⟩; have HU6 := Lib.hid hu6; have HY6 := Lib.hid (HY3.out.below hb6 HY3.out.lt); have HS6 := Lib.hid hb6; have HB6 := Lib.hid (HB3.out.trans (hb6.mono hS)); clear hn6 hc6 hu6 hb6 x0 x1 x2))
  have HP7 := Lib.hid (Blk.new w6 25 #[.int .i64 x.id, .int .i64 x.urg, .string x.code, .slice An1 x.nodes.length cn1, .int .i64 x.dist, .int .i64 x.since, .slice Ac1 x.calls.length cc1, .slice Au1 x.units.length cu1, .int .i64 x.merged, .bool x.closed])
  have HY7 := Lib.hid (HY6.out.alloc (.cells #[.int .i64 x.id, .int .i64 x.urg, .string x.code, .slice An1 x.nodes.length cn1, .int .i64 x.dist, .int .i64 x.since, .slice Ac1 x.calls.length cc1, .slice Au1 x.units.length cu1, .int .i64 x.merged, .bool x.closed] 25))
  have HB7 := Lib.hid (HB6.out.alloc HB6.out.size (.cells #[.int .i64 x.id, .int .i64 x.urg, .string x.code, .slice An1 x.nodes.length cn1, .int .i64 x.dist, .int .i64 x.since, .slice Ac1 x.calls.length cc1, .slice Au1 x.units.length cu1, .int .i64 x.merged, .bool x.closed] 25))
  have HS7 := Lib.hid (HS6.out.alloc HS6.out.size (.cells #[.int .i64 x.id, .int .i64 x.urg, .string x.code, .slice An1 x.nodes.length cn1, .int .i64 x.dist, .int .i64 x.since, .slice Ac1 x.calls.length cc1, .slice Au1 x.units.length cu1, .int .i64 x.merged, .bool x.closed] 25))
  have HU7 := Lib.hid (own_below HU6.out ((Below.refl w6.heap.size w6).alloc (Nat.le_refl _) (.cells #[.int .i64 x.id, .int .i64 x.urg, .string x.code, .slice An1 x.nodes.length cn1, .int .i64 x.dist, .int .i64 x.since, .slice Ac1 x.calls.length cc1, .slice Au1 x.units.length cu1, .int .i64 x.merged, .bool x.closed] 25)) (fun g hg => (HU6.out.lt g hg).2))
  have hSY : w.heap.size + 1 < w5.heap.size := HY3.out.lt
  have hSp : w5.heap.size ≤ w6.heap.size := HS6.out.size
  have hp7 : w6.heap.size < (w6.alloc (.cells #[.int .i64 x.id, .int .i64 x.urg, .string x.code, .slice An1 x.nodes.length cn1, .int .i64 x.dist, .int .i64 x.since, .slice Ac1 x.calls.length cc1, .slice Au1 x.units.length cu1, .int .i64 x.merged, .bool x.closed] 25)).heap.size := HP7.out.lt
  clear HY6 HB6 HS6 HU6 HX3 HY3
  obtain ⟨p, hpe⟩ : ∃ p, p = w6.heap.size := ⟨_, rfl⟩
  rw [← hpe] at HP7 hSp hp7 ⊢
  clear hpe
  generalize w6.alloc _ = W7 at *
  have hr0 : W7.rangeAt (bk A2) (ofs A2) [.int .i64 t0.c.call, .int .i64 t0.c.inc, .int .i64 t0.c.urg, .string t0.c.code, .slice t0.A t0.c.nodes.length t0.k, .int .i64 t0.c.dist, .int .i64 t0.c.since, .bool t0.c.closed] := by
    have := ca_rangeR (HRow.out.below HS7.out (fun k hk => hk)) (k := 0) (by simp)
    rw [show ofs A2 + 0 * 8 = ofs A2 by omega] at this
    exact this
  obtain ⟨m1, m2, m3, m4⟩ := HMem.out t0 (by simp)
  have H32 := Lib.hid (show Calls Tryd.prog 32 #[.pointer (some ⟨p, 0, none⟩), .agg #[.int .i64 t0.c.call, .int .i64 t0.c.inc, .int .i64 t0.c.urg, .string t0.c.code, .slice t0.A t0.c.nodes.length t0.k, .int .i64 t0.c.dist, .int .i64 t0.c.since, .bool t0.c.closed]] W7 (FirstPost p (.int .i64 x.id) (.int .i64 x.dist) (.slice Au1 x.units.length cu1) (.int .i64 x.merged) (.bool x.closed) t0.c W7) from first32 (fun k => k < w.heap.size) p (.int .i64 x.id) (.int .i64 x.urg) (.string x.code) (.slice An1 x.nodes.length cn1) (.int .i64 x.dist) (.int .i64 x.since) (.slice Ac1 x.calls.length cc1) (.slice Au1 x.units.length cu1) (.int .i64 x.merged) (.bool x.closed) t0.c.call t0.c.inc t0.c.urg t0.c.dist t0.c.since t0.c.code t0.A t0.k t0.c.nodes t0.c.closed W7 HP7.out (m2.below HB7.out (fun k hk => hk)) (fun k hk => by omega) m4)
  have HN0 := Lib.hid (cr_nodes m1)
  clear m1 m2 m3 m4
  go_upto_block 2 with (first
    | (refine wpList_load_mid rfl 27 _ rfl (bk A2) (ofs A2) rfl [.int .i64 t0.c.call, .int .i64 t0.c.inc, .int .i64 t0.c.urg, .string t0.c.code, .slice t0.A t0.c.nodes.length t0.k, .int .i64 t0.c.dist, .int .i64 t0.c.since, .bool t0.c.closed] _ hr0 Tryd.underlying27 rfl rsz27 ?_)
    | (go_at_call 32; ((with_reducible refine H32.out.mono ?_); rintro e w8 ⟨A3, c3, A4, rfl, hp8, hn8, hc8, hf8⟩; have HP8 := Lib.hid hp8; have HN8 := Lib.hid hn8; have HC8 := Lib.hid hc8; have HF8 := Lib.hid hf8; clear hp8 hn8 hc8 hf8)))
  have hS7 : w5.heap.size ≤ W7.heap.size := HS7.out.size
  have HU8 := Lib.hid (own_fr HU7.out HF8.out (own_ne_blk HU7.out HP7.out (by decide)))
  have HY8 := Lib.hid (HY7.out.fr HF8.out (by omega))
  have HB8 := Lib.hid (HB7.out.trans (HF8.out.below HB7.out.size (fun k hk e => by omega)))
  have HS8 := Lib.hid (HS7.out.trans (HF8.out.below HS7.out.size (fun k hk e => by omega)))
  have HI := Lib.hid (show ∃ (k : Nat) (urg since : Int) (code : ByteArray) (nodes calls : List Int) (An2 : Option Addr) (cn2 : Nat) (Ac2 : Option Addr) (cc2 : Nat), k ≤ r.length ∧ Value.int .i64 0 = .int .i64 (k : Int) ∧ (⟨x.id, urg, code, nodes, x.dist, since, calls, x.units, x.merged, x.closed⟩ : Ic) = ((r.map (·.c)).take k).foldl furP (firP x t0.c) ∧ Blk w8 p 25 #[.int .i64 x.id, .int .i64 urg, .string code, .slice An2 nodes.length cn2, .int .i64 x.dist, .int .i64 since, .slice Ac2 calls.length cc2, .slice Au1 x.units.length cu1, .int .i64 x.merged, .bool x.closed] ∧ w8.ownsRow w5.heap.size 3 1 (.slice An2 nodes.length cn2) nodes.length (nodes.map (Value.int .i64)) ∧ w8.ownsRow w5.heap.size 2 1 (.slice Ac2 calls.length cc2) calls.length (calls.map (Value.int .i64)) ∧ w8.ownsRow w5.heap.size 3 1 (.slice Au1 x.units.length cu1) x.units.length (x.units.map (Value.int .i64)) ∧ Blk w8 (w.heap.size + 1) 25 #[.int .i64 0, .int .i64 0, .string ⟨#[]⟩, .slice none 0 0, .int .i64 0, .int .i64 0, .slice none 0 0, .slice none 0 0, .int .i64 0, .bool false] ∧ Below w.heap.size w w8 ∧ Below w5.heap.size w5 w8 ∧ (incB nodes 0 4095 = true ∧ 0 < nodes.length ∧ calls.length = k + 1) from ⟨0, t0.c.urg, t0.c.since, t0.c.code, t0.c.nodes, [t0.c.call], A3, c3, A4, 1, Nat.zero_le _, rfl, rfl, HP8.out, World.ownsRow.mono HN8.out hS7, World.ownsRow.mono HC8.out hS7, HU8.out, HY8.out, HB8.out, HS8.out, HN0.out.1, HN0.out.2, rfl⟩)
  clear HP7 HY7 HB7 HS7 HU7 HP8 HN8 HC8 HF8 HU8 HY8 HB8 HS8 H32 HN0 H42 hr0 hS7 hp7
  go_wp2_with fail
  go_loopw [49] (fun vi wr => ∃ (k : Nat) (urg since : Int) (code : ByteArray) (nodes calls : List Int) (An2 : Option Addr) (cn2 : Nat) (Ac2 : Option Addr) (cc2 : Nat), k ≤ r.length ∧ vi = .int .i64 (k : Int) ∧ (⟨x.id, urg, code, nodes, x.dist, since, calls, x.units, x.merged, x.closed⟩ : Ic) = ((r.map (·.c)).take k).foldl furP (firP x t0.c) ∧ Blk wr p 25 #[.int .i64 x.id, .int .i64 urg, .string code, .slice An2 nodes.length cn2, .int .i64 x.dist, .int .i64 since, .slice Ac2 calls.length cc2, .slice Au1 x.units.length cu1, .int .i64 x.merged, .bool x.closed] ∧ wr.ownsRow w5.heap.size 3 1 (.slice An2 nodes.length cn2) nodes.length (nodes.map (Value.int .i64)) ∧ wr.ownsRow w5.heap.size 2 1 (.slice Ac2 calls.length cc2) calls.length (calls.map (Value.int .i64)) ∧ wr.ownsRow w5.heap.size 3 1 (.slice Au1 x.units.length cu1) x.units.length (x.units.map (Value.int .i64)) ∧ Blk wr (w.heap.size + 1) 25 #[.int .i64 0, .int .i64 0, .string ⟨#[]⟩, .slice none 0 0, .int .i64 0, .int .i64 0, .slice none 0 0, .slice none 0 0, .int .i64 0, .bool false] ∧ Below w.heap.size w wr ∧ Below w5.heap.size w5 wr ∧ (incB nodes 0 4095 = true ∧ 0 < nodes.length ∧ calls.length = k + 1)) (fun vi _ => r.length - (intOf vi).toNat)
  case atStart => exact HI.out
  case round =>
    obtain ⟨k, urg, since, code, nodes, calls, An2, cn2, Ac2, cc2, hk2, rfl, hy, hp8, hn8, hc8, hu8, hy8, hb8, hs8, hv8⟩ := hrel
    have HE := Lib.hid hy
    have HP := Lib.hid hp8
    have HNn := Lib.hid hn8
    have HCc := Lib.hid hc8
    have HUu := Lib.hid hu8
    have HY := Lib.hid hy8
    have HB := Lib.hid hb8
    have HS := Lib.hid hs8
    have HV := Lib.hid hv8
    clear hy hp8 hn8 hc8 hu8 hy8 hb8 hs8 hv8 HI
    by_cases hlt : k < r.length
    · have hlt' : (k : Int) < r.length := by omega
      have hix := fun W => ix36r hpt (c2 - 1) k hlt W
      obtain ⟨t, htk⟩ : ∃ t, t = r[k] := ⟨_, rfl⟩
      have hr : wr.rangeAt (bk (cut8 A2 c2)) (ofs (cut8 A2 c2) + k * 8) [.int .i64 t.c.call, .int .i64 t.c.inc, .int .i64 t.c.urg, .string t.c.code, .slice t.A t.c.nodes.length t.k, .int .i64 t.c.dist, .int .i64 t.c.since, .bool t.c.closed] := by
        have := ca_rangeR (HTl.out.below HS.out (fun k hk => hk)) hlt
        rw [← htk] at this
        exact this
      obtain ⟨m1, m2, m3, m4⟩ := HMem.out t (by rw [htk]; exact List.mem_cons_of_mem _ (List.getElem_mem hlt))
      have HTake := Lib.hid (show ((r.map (·.c)).take (k + 1)) = ((r.map (·.c)).take k) ++ [t.c] by
        rw [List.take_succ_eq_append_getElem (by simpa using hlt), List.getElem_map, ← htk])
      clear htk
      have hc43 := cr_nodes m1
      have hS1 := HS.out.size
      have hTa := Below.refl wr.heap.size wr |>.alloc (Nat.le_refl _) (.cells #[.int .i64 t.c.call, .int .i64 t.c.inc, .int .i64 t.c.urg, .string t.c.code, .slice t.A t.c.nodes.length t.k, .int .i64 t.c.dist, .int .i64 t.c.since, .bool t.c.closed] 27)
      have HPa := Lib.hid (HP.out.alloc (.cells #[.int .i64 t.c.call, .int .i64 t.c.inc, .int .i64 t.c.urg, .string t.c.code, .slice t.A t.c.nodes.length t.k, .int .i64 t.c.dist, .int .i64 t.c.since, .bool t.c.closed] 27))
      have HNa := Lib.hid (own_below HNn.out hTa (fun g hg => (HNn.out.lt g hg).2))
      have HCa := Lib.hid (own_below HCc.out hTa (fun g hg => (HCc.out.lt g hg).2))
      have HUa := Lib.hid (own_below HUu.out hTa (fun g hg => (HUu.out.lt g hg).2))
      have HYa := Lib.hid (HY.out.alloc (.cells #[.int .i64 t.c.call, .int .i64 t.c.inc, .int .i64 t.c.urg, .string t.c.code, .slice t.A t.c.nodes.length t.k, .int .i64 t.c.dist, .int .i64 t.c.since, .bool t.c.closed] 27))
      have HBa := Lib.hid (HB.out.alloc HB.out.size (.cells #[.int .i64 t.c.call, .int .i64 t.c.inc, .int .i64 t.c.urg, .string t.c.code, .slice t.A t.c.nodes.length t.k, .int .i64 t.c.dist, .int .i64 t.c.since, .bool t.c.closed] 27))
      have HSa := Lib.hid (HS.out.alloc HS.out.size (.cells #[.int .i64 t.c.call, .int .i64 t.c.inc, .int .i64 t.c.urg, .string t.c.code, .slice t.A t.c.nodes.length t.k, .int .i64 t.c.dist, .int .i64 t.c.since, .bool t.c.closed] 27))
      have HTb := Lib.hid (Blk.new wr 27 #[.int .i64 t.c.call, .int .i64 t.c.inc, .int .i64 t.c.urg, .string t.c.code, .slice t.A t.c.nodes.length t.k, .int .i64 t.c.dist, .int .i64 t.c.since, .bool t.c.closed])
      obtain ⟨v1, v2, v3⟩ := HV.out
      have hlen := incB_len v1
      have hr1 := HNR.out
      have hkb : k < 1000 := by omega
      have H43 := Lib.hid (further43 (fun b => b < w.heap.size) p w5.heap.size x.id urg x.dist since code nodes calls An2 Ac2 cn2 cc2 (.slice Au1 x.units.length cu1) (.int .i64 x.merged) (.bool x.closed) t.c.call t.c.inc t.c.urg t.c.dist t.c.since t.c.code t.c.nodes t.A t.k t.c.closed x.merged x.units x.closed _ (Tab.below HT.out HBa.out HT.out.lt) HPa.out HNa.out HCa.out (m2.below HBa.out (fun k hk => hk)) (fun k hk => by omega) (by omega) HSa.out.size v1 hc43.1 v2 hc43.2 (by omega) m4 (by omega))
      have HV2 := Lib.hid (fur_nodes (x := ⟨x.id, urg, code, nodes, x.dist, since, calls, x.units, x.merged, x.closed⟩) (c := t.c) v1 v2)
      have HL2 := Lib.hid (show (furP ⟨x.id, urg, code, nodes, x.dist, since, calls, x.units, x.merged, x.closed⟩ t.c).calls.length = k + 1 + 1 by simp [furP, v3])
      clear hr1 hlen v1 v2 v3 hc43 m1 m2 m3 m4 hTa hS1 HP HNn HCc HUu HY HB HS HV
      obtain ⟨x0, x1, x2⟩ := HTb.out.facts
      go_wp2_with (first
        | (refine wpList_load_mid rfl 27 _ rfl (bk (cut8 A2 c2)) (ofs (cut8 A2 c2) + k * 8) rfl [.int .i64 t.c.call, .int .i64 t.c.inc, .int .i64 t.c.urg, .string t.c.code, .slice t.A t.c.nodes.length t.k, .int .i64 t.c.dist, .int .i64 t.c.since, .bool t.c.closed] _ hr Tryd.underlying27 rfl rsz27 ?_)
        | (go_at_call 43; ((with_reducible refine H43.out.mono ?_); rintro e w9 ⟨An9, cn9, Ac9, cc9, rfl, hp9, hn9, hc9, hf9⟩; have HP9 := Lib.hid hp9; have HN9 := Lib.hid hn9; have HC9 := Lib.hid hc9; have HF9 := Lib.hid hf9; clear hp9 hn9 hc9 hf9)))
      have hcl := fun g hg => (HCa.out.lt g hg).1
      exact ⟨⟨k + 1, (furP ⟨x.id, urg, code, nodes, x.dist, since, calls, x.units, x.merged, x.closed⟩ t.c).urg, (furP ⟨x.id, urg, code, nodes, x.dist, since, calls, x.units, x.merged, x.closed⟩ t.c).since, (furP ⟨x.id, urg, code, nodes, x.dist, since, calls, x.units, x.merged, x.closed⟩ t.c).code, (furP ⟨x.id, urg, code, nodes, x.dist, since, calls, x.units, x.merged, x.closed⟩ t.c).nodes, (furP ⟨x.id, urg, code, nodes, x.dist, since, calls, x.units, x.merged, x.closed⟩ t.c).calls, An9, cn9, Ac9, cc9, by omega, by go_num,
        by rw [HTake.out, List.foldl_append, ← HE.out]; rfl, HP9.out, HN9.out, HC9.out,
        own_fr HUa.out HF9.out (fun g hg e => by
          rcases e with e | e
          · exact own_ne_blk HUa.out HPa.out (by decide) g hg e
          · exact own_ne_own HUa.out HCa.out (by decide) g hg e.symm),
        HYa.out.fr HF9.out (by rintro (e | e); · omega
                               · have := hcl _ e; omega),
        HBa.out.trans (HF9.out.below HBa.out.size (fun j hj e => by
          rcases e with e | e
          · omega
          · have := hcl _ e; omega)),
        HSa.out.trans (HF9.out.below HSa.out.size (fun j hj e => by
          rcases e with e | e
          · omega
          · have := hcl _ e; omega)),
        HV2.out.1, HV2.out.2, HL2.out⟩, by simp [intOf]; omega⟩
    · have hlt' : ¬ (k : Int) < r.length := by omega
      have hk3 : k = r.length := by omega
      subst hk3
      have HE2 := Lib.hid (show rebS x ((t0 :: r).map (·.c)) = ⟨x.id, urg, code, nodes, x.dist, since, calls, x.units, x.merged, x.closed⟩ by
        rw [HE.out, List.take_of_length_le (by simp)]; rfl)
      have HReb := Lib.hid (show rebP x ((t0 :: r).map (·.c)) = if incB (srt calls) 1 1099511627776 = false then (zeroIc, 5) else if x.merged ≠ 0 then (zeroIc, 8) else (⟨x.id, urg, code, nodes, x.dist, since, srt calls, x.units, x.merged, x.closed⟩, 0) by
        unfold rebP
        rw [HE2.out, if_neg (by rw [HIx.out]; simp), if_neg (by
          rw [Bool.not_eq_false, List.all_eq_true]
          intro c hc
          obtain ⟨t, ht, rfl⟩ := List.mem_map.1 hc
          exact (HMem.out t ht).1)])
      have hclen : calls.length ≤ 1000 := by have := HV.out.2.2; have := HNR.out; omega
      have HX4 := Lib.hid (show True from trivial)
      go_upto_region 16 with (fail)
      iterate 14 go_step
      refine wp_of_eq (c' := sub [true, true, true, true, true, true, true, true, true] (Tryd.f26.body.getD .skip)) (by kernel_rfl) ?_
      exact reb_end x _ cs urg since code nodes calls An2 Ac2 Au1 cn2 cc2 cu1 p w w5 wr hSY hSp hclen HP HNn HCc HUu HY HB HReb HPerm HPair _ _ _ _ _ _ _ _ _ _ _ _ _ _ _ _ _ _ _ _ _ _ _ _ _ _ _ _ _ _ _ _ _ _ _ _ _ _ _ _ _ _ _ _ _ _ _ _ _ _ _ _ _ _ _ _ _ _ _ _ _ _ _ _ _ _ _
end Go.Proofs.YtipkicijfedfoaaDoor

namespace Go.Proofs.YtipkicijfedfoaaDoor
set_option linter.unusedVariables false
set_option linter.unusedSimpArgs false
open Go.RowKit Go.Own Go.Quo Go.Inc
set_option maxRecDepth 10000 in
set_option maxHeartbeats 16000000 in
theorem rebuild26 (x : Ic) (An Ac Au : Option Addr) (cn cc cu : Nat) (ts : List Ca) (A : Option Addr) (c : Nat) (w : World) (ht : Tab w) (hn : RI w (· < w.heap.size) An x.nodes) (hc : RI w (· < w.heap.size) Ac x.calls) (hu : RI w (· < w.heap.size) Au x.units) (h : Reads w (· < w.heap.size) 8 A ts.length (ts.flatMap caL)) (hts : ∀ t ∈ ts, RI w (· < w.heap.size) t.A t.c.nodes) (hs : x.code.size ≤ 100000) (ln : x.nodes.length ≤ 100000) (lc : x.calls.length ≤ 100000) (lu : x.units.length ≤ 100000) (lt : ts.length ≤ 1000) (ltl : ∀ t ∈ ts, t.c.code.size ≤ 100000 ∧ t.c.nodes.length ≤ 100000) : Calls Tryd.prog 26 #[.agg #[.int .i64 x.id, .int .i64 x.urg, .string x.code, .slice An x.nodes.length cn, .int .i64 x.dist, .int .i64 x.since, .slice Ac x.calls.length cc, .slice Au x.units.length cu, .int .i64 x.merged, .bool x.closed], .slice A ts.length c] w (RebPost x (ts.map (·.c)) w) := by
  by_cases h0 : icB x = false ∨ ts = []
  · exact reb_early x An Ac Au cn cc cu ts A c w ht hn hc hu h hts hs ln lc lu lt ltl h0
  have hi : icB x = true := by cases hq : icB x with
    | true => rfl
    | false => exact absurd (.inl hq) h0
  have hpos : 0 < ts.length := by
    rcases Nat.eq_zero_or_pos ts.length with e | e
    · exact absurd (.inr (List.eq_nil_of_length_eq_zero e)) h0
    · exact e
  clear h0
  have hp := h.plain (by omega)
  have HR := Lib.hid h
  have HN := Lib.hid hn
  have HC := Lib.hid hc
  have HU := Lib.hid hu
  have HTs := Lib.hid hts
  have HT := Lib.hid ht
  have HL := Lib.hid ltl
  have H14 := Lib.hid fun (W : World) (hb : Below w.heap.size w W) => (show Calls Tryd.prog 14 #[.agg #[.int .i64 x.id, .int .i64 x.urg, .string x.code, .slice An x.nodes.length cn, .int .i64 x.dist, .int .i64 x.since, .slice Ac x.calls.length cc, .slice Au x.units.length cu, .int .i64 x.merged, .bool x.closed]] W (BoolB (icB x) W) from valid14 _ x.id x.urg x.dist x.since x.merged x.code An Ac Au cn cc cu x.nodes x.calls x.units x.closed W hs (HN.out.below hb (fun k hk => hk)) (HC.out.below hb (fun k hk => hk)) (HU.out.below hb (fun k hk => hk)) ln lc lu)
  have HB := Lib.hid (((Below.refl w.heap.size w).alloc (Nat.le_refl _) (.cells #[.int .i64 x.id, .int .i64 x.urg, .string x.code, .slice An x.nodes.length cn, .int .i64 x.dist, .int .i64 x.since, .slice Ac x.calls.length cc, .slice Au x.units.length cu, .int .i64 x.merged, .bool x.closed] 25)).alloc (by simp) (.cells #[.int .i64 0, .int .i64 0, .string ⟨#[]⟩, .slice none 0 0, .int .i64 0, .int .i64 0, .slice none 0 0, .slice none 0 0, .int .i64 0, .bool false] 25))
  have HX := Lib.hid ((Blk.new w 25 #[.int .i64 x.id, .int .i64 x.urg, .string x.code, .slice An x.nodes.length cn, .int .i64 x.dist, .int .i64 x.since, .slice Ac x.calls.length cc, .slice Au x.units.length cu, .int .i64 x.merged, .bool x.closed]).alloc (.cells #[.int .i64 0, .int .i64 0, .string ⟨#[]⟩, .slice none 0 0, .int .i64 0, .int .i64 0, .slice none 0 0, .slice none 0 0, .int .i64 0, .bool false] 25))
  have HY := Lib.hid (show Blk ((w.alloc (.cells #[.int .i64 x.id, .int .i64 x.urg, .string x.code, .slice An x.nodes.length cn, .int .i64 x.dist, .int .i64 x.since, .slice Ac x.calls.length cc, .slice Au x.units.length cu, .int .i64 x.merged, .bool x.closed] 25)).alloc (.cells #[.int .i64 0, .int .i64 0, .string ⟨#[]⟩, .slice none 0 0, .int .i64 0, .int .i64 0, .slice none 0 0, .slice none 0 0, .int .i64 0, .bool false] 25)) (w.heap.size + 1) 25 #[.int .i64 0, .int .i64 0, .string ⟨#[]⟩, .slice none 0 0, .int .i64 0, .int .i64 0, .slice none 0 0, .slice none 0 0, .int .i64 0, .bool false] by
    have := Blk.new (w.alloc (.cells #[.int .i64 x.id, .int .i64 x.urg, .string x.code, .slice An x.nodes.length cn, .int .i64 x.dist, .int .i64 x.since, .slice Ac x.calls.length cc, .slice Au x.units.length cu, .int .i64 x.merged, .bool x.closed] 25)) 25 #[.int .i64 0, .int .i64 0, .string ⟨#[]⟩, .slice none 0 0, .int .i64 0, .int .i64 0, .slice none 0 0, .slice none 0 0, .int .i64 0, .bool false]
    simpa using this)
  obtain ⟨x0, x1, x2⟩ := HX.out.facts
  have H31 := Lib.hid fun (t : Ca) (hm : t ∈ ts) (W : World) (hb : Below w.heap.size w W) => (show Calls Tryd.prog 31 #[.agg #[.int .i64 t.c.call, .int .i64 t.c.inc, .int .i64 t.c.urg, .string t.c.code, .slice t.A t.c.nodes.length t.k, .int .i64 t.c.dist, .int .i64 t.c.since, .bool t.c.closed]] W (BoolB (crB t.c) W) from validCall31 _ t.c.call t.c.inc t.c.urg t.c.dist t.c.since t.c.code t.A t.k t.c.nodes t.c.closed W (HL.out t hm).1 ((HTs.out t hm).below hb (fun k hk => hk)) (HL.out t hm).2)
  clear hn hc hu h hts ht ltl
  have HIx := Lib.hid hi
  rw [hi] at H14
  clear hi
  have d0 : ((ts.length : Int) == 0) = false := by have : (ts.length : Int) ≠ 0 := by omega
                                                   rw [beq_eq_false_iff_ne]; exact this
  go_enter Tryd.func26, Tryd.ntmps26
  go_upto_block 0 with (first | (go_at_call 14; ((with_reducible refine (H14.out _ HB.out).mono ?_); rintro e w2 ⟨rfl, hb⟩; have HX := Lib.hid (HX.out.below hb HX.out.lt); have HY := Lib.hid (HY.out.below hb HY.out.lt); have HB := Lib.hid (HB.out.trans (hb.mono HB.out.size)); clear hb x0 x1 x2; obtain ⟨x0, x1, x2⟩ := HX.out.facts)))
  have HI := Lib.hid (show ∃ (k : Nat), k ≤ ts.length ∧ Value.int .i64 0 = .int .i64 (k : Int) ∧ (∀ (i : Nat) t, i < k → ts[i]? = some t → crB t.c = true) ∧ Blk w2 w.heap.size 25 #[.int .i64 x.id, .int .i64 x.urg, .string x.code, .slice An x.nodes.length cn, .int .i64 x.dist, .int .i64 x.since, .slice Ac x.calls.length cc, .slice Au x.units.length cu, .int .i64 x.merged, .bool x.closed] ∧ Blk w2 (w.heap.size + 1) 25 #[.int .i64 0, .int .i64 0, .string ⟨#[]⟩, .slice none 0 0, .int .i64 0, .int .i64 0, .slice none 0 0, .slice none 0 0, .int .i64 0, .bool false] ∧ Below w.heap.size w w2 from ⟨0, Nat.zero_le _, rfl, fun i t hi => by omega, HX.out, HY.out, HB.out⟩)
  clear HX HY HB x0 x1 x2 H14 d0
  go_wp2_with fail
  go_loopw [23] (fun vi wr => ∃ (k : Nat), k ≤ ts.length ∧ vi = .int .i64 (k : Int) ∧ (∀ (i : Nat) t, i < k → ts[i]? = some t → crB t.c = true) ∧ Blk wr w.heap.size 25 #[.int .i64 x.id, .int .i64 x.urg, .string x.code, .slice An x.nodes.length cn, .int .i64 x.dist, .int .i64 x.since, .slice Ac x.calls.length cc, .slice Au x.units.length cu, .int .i64 x.merged, .bool x.closed] ∧ Blk wr (w.heap.size + 1) 25 #[.int .i64 0, .int .i64 0, .string ⟨#[]⟩, .slice none 0 0, .int .i64 0, .int .i64 0, .slice none 0 0, .slice none 0 0, .int .i64 0, .bool false] ∧ Below w.heap.size w wr) (fun vi _ => ts.length - (intOf vi).toNat)
  case atStart => exact HI.out
  case round =>
    obtain ⟨k, hk, rfl, hv, hX, hY, hB⟩ := hrel
    have HV := Lib.hid hv
    have HX := Lib.hid hX
    have HY := Lib.hid hY
    have HB := Lib.hid hB
    clear hv hX hY hB HI
    by_cases hlt : k < ts.length
    · have hlt' : (k : Int) < ts.length := by omega
      have hix := fun W => ix36r hp c k hlt W
      obtain ⟨t, htk⟩ : ∃ t, t = ts[k] := ⟨_, rfl⟩
      have hr : wr.rangeAt (bk A) (ofs A + k * 8) [.int .i64 t.c.call, .int .i64 t.c.inc, .int .i64 t.c.urg, .string t.c.code, .slice t.A t.c.nodes.length t.k, .int .i64 t.c.dist, .int .i64 t.c.since, .bool t.c.closed] := by
        have := ca_rangeR (HR.out.below HB.out (fun k hk => hk)) hlt
        rw [← htk] at this
        exact this
      have htm : t ∈ ts := by rw [htk]; exact List.getElem_mem hlt
      have HG := Lib.hid (show ts[k]? = some t by rw [htk]; exact List.getElem?_eq_getElem hlt)
      clear htk
      have HXa := Lib.hid (HX.out.alloc (.cells #[.int .i64 t.c.call, .int .i64 t.c.inc, .int .i64 t.c.urg, .string t.c.code, .slice t.A t.c.nodes.length t.k, .int .i64 t.c.dist, .int .i64 t.c.since, .bool t.c.closed] 27))
      have HYa := Lib.hid (HY.out.alloc (.cells #[.int .i64 t.c.call, .int .i64 t.c.inc, .int .i64 t.c.urg, .string t.c.code, .slice t.A t.c.nodes.length t.k, .int .i64 t.c.dist, .int .i64 t.c.since, .bool t.c.closed] 27))
      have HTa := Lib.hid (Blk.new wr 27 #[.int .i64 t.c.call, .int .i64 t.c.inc, .int .i64 t.c.urg, .string t.c.code, .slice t.A t.c.nodes.length t.k, .int .i64 t.c.dist, .int .i64 t.c.since, .bool t.c.closed])
      have HBa := Lib.hid (HB.out.alloc HB.out.size (.cells #[.int .i64 t.c.call, .int .i64 t.c.inc, .int .i64 t.c.urg, .string t.c.code, .slice t.A t.c.nodes.length t.k, .int .i64 t.c.dist, .int .i64 t.c.since, .bool t.c.closed] 27))
      have H31t := Lib.hid (H31.out t htm _ HBa.out)
      obtain ⟨x0, x1, x2⟩ := HTa.out.facts
      clear HX HB
      cases hq : crB t.c with
      | false =>
        have HBad := Lib.hid (show ∃ y ∈ ts.map (·.c), crB y = false from ⟨t.c, List.mem_map_of_mem htm, hq⟩)
        rw [hq] at H31t
        clear hq HY
        go_wp2_with (first | (refine wpList_load_mid rfl 27 _ rfl (bk A) (ofs A + k * 8) rfl [.int .i64 t.c.call, .int .i64 t.c.inc, .int .i64 t.c.urg, .string t.c.code, .slice t.A t.c.nodes.length t.k, .int .i64 t.c.dist, .int .i64 t.c.since, .bool t.c.closed] _ hr Tryd.underlying27 rfl rsz27 ?_) | (go_at_call 31; ((with_reducible refine H31t.out.mono ?_); rintro e w4 ⟨rfl, hb4⟩; have HY := Lib.hid (HYa.out.below hb4 HYa.out.lt); have HB := Lib.hid (HBa.out.trans (hb4.mono HBa.out.size)); clear hb4)) | (refine wpList_storeBlk rfl (.tmp 4) (.tmp 30) 25 rfl (w.heap.size + 1) 25 _ #[.int .i64 0, .int .i64 0, .string ⟨#[]⟩, .slice none 0 0, .int .i64 0, .int .i64 0, .slice none 0 0, .slice none 0 0, .int .i64 0, .bool false] _ 10 136 info25 rfl rfl rfl HY.out rfl (ten_one (by simp [Value.oneCell'])) ?_; intro w8 hb8 hf8 hs8))
        refine bodyPost_ret (results_ct (p := 4) (u := 5) (ty := 25) Tryd.results26 _ _ (w.heap.size + 1) 25 #[.int .i64 0, .int .i64 0, .string ⟨#[]⟩, .slice none 0 0, .int .i64 0, .int .i64 0, .slice none 0 0, .slice none 0 0, .int .i64 0, .bool false] (0, 0) _ rfl hb8 Tryd.underlying25 rfl size25) rfl ?_
        exact reb_bad (.inr (.inr HBad.out)) ⟨none, none, none, 0, 0, 0, rfl, World.ownsRow_nil _ _ _ _, World.ownsRow_nil _ _ _ _, World.ownsRow_nil _ _ _ _, HB.out.trans (hf8.below HB.out.size (fun k hk e => by omega))⟩
      | true =>
        have HV2 := Lib.hid (show ∀ (i : Nat) t, i < k + 1 → ts[i]? = some t → crB t.c = true from fun i t' hi hg => by
          rcases (by omega : i < k ∨ i = k) with e | rfl
          · exact HV.out i t' e hg
          · rw [HG.out] at hg; injection hg with hg; rw [← hg]; exact hq)
        rw [hq] at H31t
        clear hq
        go_wp2_with (first | (refine wpList_load_mid rfl 27 _ rfl (bk A) (ofs A + k * 8) rfl [.int .i64 t.c.call, .int .i64 t.c.inc, .int .i64 t.c.urg, .string t.c.code, .slice t.A t.c.nodes.length t.k, .int .i64 t.c.dist, .int .i64 t.c.since, .bool t.c.closed] _ hr Tryd.underlying27 rfl rsz27 ?_) | (go_at_call 31; ((with_reducible refine H31t.out.mono ?_); rintro e w4 ⟨rfl, hb4⟩; have hb5 := Lib.hid hb4; clear hb4)))
        exact ⟨⟨k + 1, by omega, by go_num, HV2.out, HXa.out.below hb5.out HXa.out.lt, HYa.out.below hb5.out HYa.out.lt, HBa.out.trans (hb5.out.mono HBa.out.size)⟩, by simp [intOf]; omega⟩
    · have hlt' : ¬ (k : Int) < ts.length := by omega
      have hk' : k = ts.length := by omega
      subst hk'
      have d1 : ¬ (1000 : Int) < ts.length := by omega
      have H62 := Lib.hid (clone62 _ A c ts wr (HR.out.below HB.out (fun k hk => hk)) (by omega))
      clear hlt hlt' d1
      have HAll := Lib.hid (show ∀ t ∈ ts, crB t.c = true from fun t ht => by
        obtain ⟨i, hi, rfl⟩ := List.mem_iff_getElem.1 ht
        exact HV.out i _ hi (List.getElem?_eq_getElem hi))
      clear HV H31 HR
      go_upto_region 12 with (go_at_call 62; ((with_reducible refine H62.out.mono ?_); rintro e w4 ⟨A2, c2, rfl, ho2, hb2⟩; have HO2 := Lib.hid ho2; have HX2 := Lib.hid (HX.out.below hb2 HX.out.lt); have HY2 := Lib.hid (HY.out.below hb2 HY.out.lt); have HB2 := Lib.hid (HB.out.trans (hb2.mono HB.out.size)); have HS2 := Lib.hid hb2.size; have H63 := Lib.hid (sort63 _ A2 _ c2 ts w4 ho2 rfl hpos (by omega)); clear ho2 hb2))
      iterate 6 go_step
      (go_at_call 63; ((with_reducible refine H63.out.mono ?_); rintro e w5 ⟨rfl, ss, hpm, hpw, ho3, hg3⟩; have HPm := Lib.hid hpm; have HPw := Lib.hid hpw; have HO3 := Lib.hid ho3; have HG3 := Lib.hid hg3; clear hpm hpw ho3 hg3))
      dsimp only
      iterate 4 go_step
      refine wp_of_eq (c' := sub [true, true, true, true, true, true] (Tryd.f26.body.getD .skip)) (by kernel_rfl) ?_
      have hne : ∀ k, (Value.slice A2 ts.length c2).ownBlock = some k → wr.heap.size ≤ k := fun k hk => (HO2.out.lt k hk).1
      have HX3 := Lib.hid (HX2.out.grown HG3.out (by intro e; have := hne _ e.symm; have := HX.out.lt; omega))
      have HY3 := Lib.hid (HY2.out.grown HG3.out (by intro e; have := hne _ e.symm; have := HY.out.lt; omega))
      have HB3 := Lib.hid (HB2.out.grown HG3.out HB2.out.size (fun k hk => by have := hne _ hk; have := HB.out.size; omega))
      clear HX2 HY2 HB2 HO2 HG3 H62 H63 HX HY HB hne HS2
      obtain ⟨hc2, hr3⟩ := sorted_facts HO3.out hpos
      have hp3 := hr3.plain (by omega)
      have hln : ss.length = ts.length := HPm.out.length_eq
      match ss, hln, HPm, HPw, hr3 with
      | [], hln, _, _, _ => exfalso; simp at hln; omega
      | t0 :: r, hln, HPm, HPw, hr3 =>
      have hnr : ts.length = r.length + 1 := by rw [← hln]; rfl
      have HNR := Lib.hid hnr
      have HRow := Lib.hid (show Reads w5 (· < w5.heap.size) 8 A2 (t0 :: r).length ((t0 :: r).flatMap caL) by rw [hln]; exact hr3)
      have HMem := Lib.hid (show ∀ t ∈ t0 :: r, crB t.c = true ∧ RI w (· < w.heap.size) t.A t.c.nodes ∧ t.c.code.size ≤ 100000 ∧ t.c.nodes.length ≤ 100000 from fun t ht => by
        have hm := HPm.out.mem_iff.1 ht
        exact ⟨HAll.out t hm, HTs.out t hm, HL.out t hm⟩)
      have HPerm := Lib.hid (show ((t0 :: r).map (·.c)).Perm (ts.map (·.c)) from HPm.out.map _)
      have HPair := Lib.hid (show ((t0 :: r).map (·.c)).Pairwise leC by rw [List.pairwise_map]; exact HPw.out)
      clear hr3 HAll HTs HL HO3 hln hnr
      exact reb_mid x An Ac Au cn cc cu t0 r (ts.map (·.c)) A2 c2 ts.length w w5 ln lc lu lt hc2 HT HN HC HU HX3 HY3 HB3 HNR HRow HMem HIx HPerm HPair _ _ _ _ _ _ _ _ _ _ _ _ _ _ _ _ _ _ _ _ _ _ _ _ _ _ _ _ _ _ _ _ _ _ _ _ _ _ _ _ _ _ _ _ _ _ _ _ _ _ _ _ _ _ _ _ _ _ _ _ _ _ _ _ _ _
end Go.Proofs.YtipkicijfedfoaaDoor

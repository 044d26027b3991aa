import Derived.Test.YtipkicijfedfoaaDoorMKc4
import Derived.Deep.MidRow
namespace Go.Proofs.YtipkicijfedfoaaDoor
set_option linter.unusedVariables false
set_option linter.unusedSimpArgs false
open Go.RowKit Go.Own Go.Quo Go.Inc Go.Wire
theorem u8_in {n : Int} (h : (Lit.int .u8 n).wf = true) : 0 ≤ n ∧ n < 256 := by
  unfold Lit.wf at h
  rw [Bool.and_eq_true, decide_eq_true_eq, decide_eq_true_eq] at h
  have e1 : IntKind.u8.min = 0 := by decide
  have e2 : IntKind.u8.max = 255 := by decide
  rw [e1, e2] at h
  omega
theorem kc_app (us : List Ca) (u : Ca) : (us ++ [u]).flatMap caL = us.flatMap caL ++ caL u := by
  rw [List.flatMap_append, List.flatMap_cons, List.flatMap_nil, List.append_nil]
set_option maxRecDepth 10000 in
set_option maxHeartbeats 8000000 in
theorem keeps8 (ts : List Ca) (A : Option Addr) (c : Nat) (nd : Int) (hnd : 0 ≤ nd ∧ nd < 256) (w : World) (ht : Tab w) (h : Reads w (· < w.heap.size) 8 A ts.length (ts.flatMap caL)) (hts : ∀ t ∈ ts, RI w (· < w.heap.size) t.A t.c.nodes) :
    Calls Tryd.prog 8 #[.slice A ts.length c, .int .u8 nd] w (LawPost w) := by
  have hp := h.plain (by omega)
  have HR := Lib.hid h
  have HTs := Lib.hid hts
  have H9 := Lib.hid fun (W : World) (hb : Below w.heap.size w W) => alive9 W (Tab.below ht hb ht.lt)
  have HB := Lib.hid (Below.refl w.heap.size w)
  clear h hts
  by_cases h0 : ts.length = 0
  · have d0 : ((ts.length : Int) == 0) = true := by rw [h0]; rfl
    go_enter Tryd.func8, Tryd.ntmps8
    go_wp2_with (first | (go_at_call 9; ((with_reducible refine (H9.out _ HB.out).mono ?_); rintro e w2 ⟨rfl, hb⟩; have HB := Lib.hid (HB.out.trans (hb.mono HB.out.size)); clear hb)))
    go_ret
    exact ⟨rfl, HB.out⟩
  · have d0 : ((ts.length : Int) == 0) = false := by rw [beq_eq_false_iff_ne]; omega
    by_cases h1 : 12 < ts.length
    · have h1' : decide ((12 : Int) < ts.length) = true := decide_eq_true (by omega)
      go_enter Tryd.func8, Tryd.ntmps8
      go_wp2_with (first | (go_at_call 9; ((with_reducible refine (H9.out _ HB.out).mono ?_); rintro e w2 ⟨rfl, hb⟩; have HB := Lib.hid (HB.out.trans (hb.mono HB.out.size)); clear hb)))
      go_ret
      exact ⟨rfl, HB.out⟩
    · have h1' : decide ((12 : Int) < ts.length) = false := decide_eq_false (by omega)
      go_enter Tryd.func8, Tryd.ntmps8
      go_upto_region 6 with (first | (go_at_call 9; ((with_reducible refine (H9.out _ HB.out).mono ?_); rintro e w2 ⟨rfl, hb⟩; have HB := Lib.hid (HB.out.trans (hb.mono HB.out.size)); clear hb)))
      have hm0 : 0 ≤ nd % 20 ∧ nd % 20 ≤ 19 := by omega
      generalize nd % 20 = m at *
      have HI := Lib.hid (show ∃ (k : Nat) (us : List Ca) (A6 : Option Addr) (c6 : Nat), k ≤ ts.length ∧ Value.int .i64 0 = .int .i64 (k : Int) ∧ Value.slice none 0 0 = .slice A6 us.length c6 ∧ us.length = k ∧ (∀ (i : Nat) u, us[i]? = some u → crB u.c = true ∧ u.c.call = (i : Int) + 1 ∧ m ∈ u.c.nodes ∧ u.c.code.size ≤ 1000 ∧ u.c.nodes.length ≤ 1000) ∧ (∀ u ∈ us, RI w2 (fun b => b < w2.heap.size ∧ some b ≠ (Value.slice A6 us.length c6).ownBlock) u.A u.c.nodes) ∧ w2.ownsRow w.heap.size 27 8 (.slice A6 us.length c6) us.length (us.flatMap caL) ∧ Below w.heap.size w w2 from ⟨0, [], none, 0, Nat.zero_le _, rfl, rfl, rfl, (fun i u hu => by simp at hu), (fun u hu => by simp at hu), World.ownsRow_nil _ _ _ _, HB.out⟩)
      have h0p : 0 < ts.length := by omega
      clear HB d0 h1' h0
      go_wp2_with fail
      go_loopw [6, 32] (fun v6 vi wr => ∃ (k : Nat) (us : List Ca) (A6 : Option Addr) (c6 : Nat), k ≤ ts.length ∧ vi = .int .i64 (k : Int) ∧ v6 = .slice A6 us.length c6 ∧ us.length = k ∧ (∀ (i : Nat) u, us[i]? = some u → crB u.c = true ∧ u.c.call = (i : Int) + 1 ∧ m ∈ u.c.nodes ∧ u.c.code.size ≤ 1000 ∧ u.c.nodes.length ≤ 1000) ∧ (∀ u ∈ us, RI wr (fun b => b < wr.heap.size ∧ some b ≠ (Value.slice A6 us.length c6).ownBlock) u.A u.c.nodes) ∧ wr.ownsRow w.heap.size 27 8 (.slice A6 us.length c6) us.length (us.flatMap caL) ∧ Below w.heap.size w wr) (fun _ vi _ => ts.length - (intOf vi).toNat)
      case atStart => exact HI.out
      case round =>
        obtain ⟨k, us, A6, c6, hk, rfl, rfl, hul, hv, hu, hO, hB⟩ := hrel
        have HV := Lib.hid hv
        have HUs := Lib.hid hu
        have HO := Lib.hid hO
        have HB := Lib.hid hB
        have HUl := Lib.hid hul
        clear hv hu hO hB HI hul
        by_cases hlt : k < ts.length
        · have hlt' : (k : Int) < ts.length := by omega
          have hix := fun W => ix36r hp c k hlt W
          obtain ⟨t, htk⟩ : ∃ t, t = ts[k] := ⟨_, rfl⟩
          have hr : wr.rangeAt (bk A) (ofs A + k * 8) [.int .i64 t.c.call, .int .i64 t.c.inc, .int .i64 t.c.urg, .string t.c.code, .slice t.A t.c.nodes.length t.k, .int .i64 t.c.dist, .int .i64 t.c.since, .bool t.c.closed] := by
            have := ca_rangeR (HR.out.below HB.out (fun k hk => hk)) hlt
            rw [← htk] at this
            exact this
          have htm : t ∈ ts := by rw [htk]; exact List.getElem_mem hlt
          clear htk
          have HNt := Lib.hid (HTs.out t htm)
          have H11 := Lib.hid fun (W : World) => smallTold11 t.c.call t.c.inc t.c.urg t.c.dist t.c.since t.c.code t.A t.c.nodes.length t.k t.c.closed W
          have HTa := Lib.hid (Blk.new wr 27 #[.int .i64 t.c.call, .int .i64 t.c.inc, .int .i64 t.c.urg, .string t.c.code, .slice t.A t.c.nodes.length t.k, .int .i64 t.c.dist, .int .i64 t.c.since, .bool t.c.closed])
          have HOa := Lib.hid (own_below HO.out ((Below.refl wr.heap.size wr).alloc (Nat.le_refl _) (.cells #[.int .i64 t.c.call, .int .i64 t.c.inc, .int .i64 t.c.urg, .string t.c.code, .slice t.A t.c.nodes.length t.k, .int .i64 t.c.dist, .int .i64 t.c.since, .bool t.c.closed] 27)) (fun g hg => (HO.out.lt g hg).2))
          have HBa := Lib.hid (HB.out.alloc HB.out.size (.cells #[.int .i64 t.c.call, .int .i64 t.c.inc, .int .i64 t.c.urg, .string t.c.code, .slice t.A t.c.nodes.length t.k, .int .i64 t.c.dist, .int .i64 t.c.since, .bool t.c.closed] 27))
          have HUa := Lib.hid fun (u : Ca) (hu : u ∈ us) => (HUs.out u hu).alloc (.cells #[.int .i64 t.c.call, .int .i64 t.c.inc, .int .i64 t.c.urg, .string t.c.code, .slice t.A t.c.nodes.length t.k, .int .i64 t.c.dist, .int .i64 t.c.since, .bool t.c.closed] 27)
          have HLt := Lib.hid (show ∀ b, (Value.slice A6 us.length c6).ownBlock = some b → w.heap.size ≤ b ∧ b < wr.heap.size from fun b hb => HO.out.lt b hb)
          have hws := HB.out.size
          obtain ⟨x0, x1, x2⟩ := HTa.out.facts
          clear HO HUs
          cases hsm : (decide (t.c.nodes.length ≤ 60) && decide (t.c.code.size ≤ 100)) with
          | false =>
            rw [hsm] at H11
            clear hsm
            go_wp2_with (first | (refine wpList_load_mid rfl 27 _ rfl (bk A) (ofs A + k * 8) rfl [.int .i64 t.c.call, .int .i64 t.c.inc, .int .i64 t.c.urg, .string t.c.code, .slice t.A t.c.nodes.length t.k, .int .i64 t.c.dist, .int .i64 t.c.since, .bool t.c.closed] _ hr Tryd.underlying27 rfl rsz27 ?_) | (go_at_call 11; ((with_reducible refine (H11.out _).mono ?_); rintro e w4 ⟨rfl, hb4⟩)))
            go_ret
            exact ⟨rfl, HBa.out.trans (hb4.mono HBa.out.size)⟩
          | true =>
            rw [hsm] at H11
            simp only [Bool.and_eq_true, decide_eq_true_eq] at hsm
            have HSm := Lib.hid hsm
            have H28 := Lib.hid fun (W : World) (hb : Below w.heap.size w W) => (show Calls Tryd.prog 28 #[.agg #[.int .i64 t.c.call, .int .i64 t.c.inc, .int .i64 t.c.urg, .string t.c.code, .slice t.A t.c.nodes.length t.k, .int .i64 t.c.dist, .int .i64 t.c.since, .bool t.c.closed]] W (BoolB (crB t.c) W) from told28 _ t.c.call t.c.inc t.c.urg t.c.dist t.c.since t.c.code t.A t.k t.c.nodes t.c.closed W (by omega) (HNt.out.below hb (fun k hk => hk)) (by omega))
            clear hsm
            cases hq : crB t.c with
            | false =>
              rw [hq] at H28
              clear hq
              go_wp2_with (first | (refine wpList_load_mid rfl 27 _ rfl (bk A) (ofs A + k * 8) rfl [.int .i64 t.c.call, .int .i64 t.c.inc, .int .i64 t.c.urg, .string t.c.code, .slice t.A t.c.nodes.length t.k, .int .i64 t.c.dist, .int .i64 t.c.since, .bool t.c.closed] _ hr Tryd.underlying27 rfl rsz27 ?_) | (go_at_call 11; ((with_reducible refine (H11.out _).mono ?_); rintro e w4 ⟨rfl, hb4⟩; have HT4 := Lib.hid (HTa.out.below hb4 HTa.out.lt); have HB4 := Lib.hid (HBa.out.trans (hb4.mono HBa.out.size)); clear hb4 x0 x1 x2; obtain ⟨x0, x1, x2⟩ := HT4.out.facts)) | (go_at_call 28; ((with_reducible refine (H28.out _ HB4.out).mono ?_); rintro e w5 ⟨rfl, hb5⟩)))
              go_ret
              exact ⟨rfl, HB4.out.trans (hb5.mono HB4.out.size)⟩
            | true =>
              rw [hq] at H28
              have HCr := Lib.hid hq
              clear hq
              have hN60 := HSm.out.1
              have hms : ∀ W : World, W.heap.size < (W.alloc (.cells #[.int .i64 m] 3)).heap.size := fun W => by simp
              have HBo := Lib.hid fun (W : World) (hb : Below w.heap.size w W) => (show Calls Tryd.prog 20 #[.slice t.A t.c.nodes.length t.k, .slice (some ⟨W.heap.size, 0, none⟩) 1 1] (W.alloc (.cells #[.int .i64 m] 3)) (RowPost (bothL t.c.nodes [m]) 3 (W.alloc (.cells #[.int .i64 m] 3))) from
                both20 (fun b => b < (W.alloc (.cells #[.int .i64 m] 3)).heap.size) t.A (some ⟨W.heap.size, 0, none⟩) t.k 1 t.c.nodes [m] _ (((HNt.out.below hb (fun _ h => h)).alloc _).more (fun b hb2 => Nat.lt_of_lt_of_le (Nat.lt_of_lt_of_le hb2 hb.size) (Nat.le_of_lt (hms W)))) ((Reads.newS W [.int .i64 m] 3 (0, 0) 1 1 rfl _ rfl).more (fun b hb2 => by have h2 : b = W.heap.size := hb2; rw [h2]; exact hms W)) (by omega) (by show 1 ≤ _; omega))
              have HFm := Lib.hid (show (bothL t.c.nodes [m]).length ≠ 0 → m ∈ t.c.nodes from fun hne => by
                obtain ⟨y, hy⟩ := List.exists_mem_of_length_pos (Nat.pos_of_ne_zero hne)
                have := mem_bothL.1 hy
                have e : y = m := by simpa using this.2
                exact e ▸ this.1)
              go_upto_if 51 with (first | (refine wpList_load_mid rfl 27 _ rfl (bk A) (ofs A + k * 8) rfl [.int .i64 t.c.call, .int .i64 t.c.inc, .int .i64 t.c.urg, .string t.c.code, .slice t.A t.c.nodes.length t.k, .int .i64 t.c.dist, .int .i64 t.c.since, .bool t.c.closed] _ hr Tryd.underlying27 rfl rsz27 ?_) | (go_at_call 11; ((with_reducible refine (H11.out _).mono ?_); rintro e w4 ⟨rfl, hb4⟩; have HT4 := Lib.hid (HTa.out.below hb4 HTa.out.lt); have HB4 := Lib.hid (HBa.out.trans (hb4.mono HBa.out.size)); have HK4 := Lib.hid hb4; clear hb4 x0 x1 x2; obtain ⟨x0, x1, x2⟩ := HT4.out.facts)) | (go_at_call 28; ((with_reducible refine (H28.out _ HB4.out).mono ?_); rintro e w5 ⟨rfl, hb5⟩; have HT5 := Lib.hid (HT4.out.below hb5 HT4.out.lt); have HB5 := Lib.hid (HB4.out.trans (hb5.mono HB4.out.size)); have HK5 := Lib.hid (HK4.out.trans (hb5.mono HK4.out.size)); clear hb5 x0 x1 x2; obtain ⟨x0, x1, x2⟩ := HT5.out.facts)) | (go_at_call 20; ((with_reducible refine (HBo.out _ HB5.out).mono ?_); rintro e w6 ⟨A20, c20, rfl, -, hb6⟩; have hb6a := ((Below.refl w5.heap.size w5).alloc (Nat.le_refl _) (.cells #[.int .i64 m] 3)).trans (hb6.mono (Nat.le_of_lt (hms w5))); have HT6 := Lib.hid (HT5.out.below hb6a HT5.out.lt); have HB6 := Lib.hid (HB5.out.trans (hb6a.mono HB5.out.size)); have HK6 := Lib.hid (HK5.out.trans (hb6a.mono HK5.out.size)); clear hb6 hb6a x0 x1 x2; obtain ⟨x0, x1, x2⟩ := HT6.out.facts)))
              obtain ⟨g, hg⟩ : ∃ g, g = wr.heap.size := ⟨_, rfl⟩
              have hga : (wr.alloc (.cells #[.int .i64 t.c.call, .int .i64 t.c.inc, .int .i64 t.c.urg, .string t.c.code, .slice t.A t.c.nodes.length t.k, .int .i64 t.c.dist, .int .i64 t.c.since, .bool t.c.closed] 27)).heap.size = g + 1 := by rw [hg]; simp
              have HUb := Lib.hid fun (u : Ca) (hu : u ∈ us) => (HUa.out u hu).below (HK6.out) (fun b hb => by have := hb.1; omega)
              have HOb := Lib.hid (own_below HOa.out HK6.out (fun b hb => by have := (HLt.out b hb).2; omega))
              have hk6 := HK6.out.size
              rw [← hg] at HT6 HUb HLt hws
              rw [hga] at hk6
              have HNt6 := Lib.hid (HNt.out.below HB6.out (fun _ h => h))
              rw [← hg]
              clear HK6 HT4 HT5 HB4 HB5 HK4 HK5 HTa HOa HBa HUa HBo H28 H11 hr hix hga hg x0 x1 x2 HNt HB
              obtain ⟨x0, x1, x2⟩ := HT6.out.facts
              go_cut [] (fun wx => ∃ (f : Bool) (A7 : Option Addr) (k7 : Nat), Blk wx g 27 #[.int .i64 t.c.call, .int .i64 t.c.inc, .int .i64 t.c.urg, .string t.c.code, .slice A7 (if f = true then [m] else t.c.nodes).length k7, .int .i64 t.c.dist, .int .i64 t.c.since, .bool t.c.closed] ∧ RI wx (fun b => b < wx.heap.size ∧ (b < w.heap.size ∨ g < b)) A7 (if f = true then [m] else t.c.nodes) ∧ (m ∈ (if f = true then [m] else t.c.nodes)) ∧ Fr (fun b => b = g) w6 wx)
              case first =>
                by_cases hz : (bothL t.c.nodes [m]).length = 0
                · have dz : (((bothL t.c.nodes [m]).length : Int) == 0) = true := by rw [hz]; rfl
                  have E1 := Lib.hid (show Blk ((w6.setCell ⟨g, 4, none⟩ (.slice (some ⟨w6.heap.size, 0, none⟩) 1 1)).alloc (.cells #[.int .i64 m] 3)) g 27 #[.int .i64 t.c.call, .int .i64 t.c.inc, .int .i64 t.c.urg, .string t.c.code, .slice (some ⟨w6.heap.size, 0, none⟩) 1 1, .int .i64 t.c.dist, .int .i64 t.c.since, .bool t.c.closed] by
                    have := (HT6.out.set_ 4 (.slice (some ⟨w6.heap.size, 0, none⟩) 1 1)).alloc (.cells #[.int .i64 m] 3)
                    simpa using this)
                  have E2 := Lib.hid (((Fr.refl (fun b => b = g) w6).setCell (p := ⟨g, 4, none⟩) (.inl rfl) (.slice (some ⟨w6.heap.size, 0, none⟩) 1 1)).alloc (.cells #[.int .i64 m] 3))
                  have E3 := Lib.hid (show RI ((w6.setCell ⟨g, 4, none⟩ (.slice (some ⟨w6.heap.size, 0, none⟩) 1 1)).alloc (.cells #[.int .i64 m] 3)) (fun b => b < ((w6.setCell ⟨g, 4, none⟩ (.slice (some ⟨w6.heap.size, 0, none⟩) 1 1)).alloc (.cells #[.int .i64 m] 3)).heap.size ∧ (b < w.heap.size ∨ g < b)) (some ⟨w6.heap.size, 0, none⟩) [m] from
                    (Reads.newS (w6.setCell ⟨g, 4, none⟩ (.slice (some ⟨w6.heap.size, 0, none⟩) 1 1)) [.int .i64 m] 3 (0, 0) 1 1 rfl w6.heap.size (by simp)).more (fun b hb2 => by have h2 : b = (w6.setCell ⟨g, 4, none⟩ (.slice (some ⟨w6.heap.size, 0, none⟩) 1 1)).heap.size := hb2; simp at h2 ⊢; omega))
                  clear hz HFm
                  go_wp2_with fail
                  go_meet
                  case rel => exact ⟨true, some ⟨w6.heap.size, 0, none⟩, 1, E1.out, E3.out, by simp, E2.out⟩
                · have dz : (((bothL t.c.nodes [m]).length : Int) == 0) = false := by rw [beq_eq_false_iff_ne]; omega
                  have HM := Lib.hid (HFm.out hz)
                  clear hz HFm
                  go_wp2_with fail
                  go_meet
                  case rel => exact ⟨false, t.A, t.k, HT6.out, HNt6.out.more (fun b hb => ⟨Nat.lt_of_lt_of_le hb HB6.out.size, .inl hb⟩), by simpa using HM.out, Fr.refl _ _⟩
              case rest =>
                obtain ⟨f, A7, k7, ht7, hn7, hm7, hf7⟩ := hcut
                have HNL := Lib.hid (show (if f = true then [m] else t.c.nodes).length ≤ 1000 by
                  cases f with
                  | true => show 1 ≤ 1000; omega
                  | false => show t.c.nodes.length ≤ 1000; omega)
                have HC7 := Lib.hid (show crB ⟨(k : Int) + 1, t.c.inc, t.c.urg, t.c.code, if f = true then [m] else t.c.nodes, t.c.dist, t.c.since, t.c.closed⟩ = true from cr_set HCr.out (n := (k : Int) + 1) (at_ := m) (by omega) (by omega) f)
                generalize (if f = true then [m] else t.c.nodes) = nn at *
                have HT7 := Lib.hid ht7
                have HN7 := Lib.hid hn7
                have HM7 := Lib.hid hm7
                have HU7 := Lib.hid fun (u : Ca) (hu : u ∈ us) => (HUb.out u hu).fr hf7 (fun b hb e => by have := hb.1; omega)
                have HO7 := Lib.hid (own_fr HOb.out hf7 (fun b hb e => by have := (HLt.out b hb).2; omega))
                have HB7 := Lib.hid (HB6.out.trans (hf7.below (B := w.heap.size) HB6.out.size (fun b hb e => by omega)))
                have hs7 := hf7.size
                clear ht7 hn7 hm7 hf7 HT6 HUb HOb HB6 HNt6 x0 x1 x2
                obtain ⟨x0, x1, x2⟩ := HT7.out.facts
                have e1 : IntKind.i64.wrap ((k : Int) + 1) = (k : Int) + 1 := IntWalk.i64_in _ (by omega)
                have HT8 := Lib.hid (show Blk (wc.setCell ⟨g, 0, none⟩ (.int .i64 ((k : Int) + 1))) g 27 #[.int .i64 ((k : Int) + 1), .int .i64 t.c.inc, .int .i64 t.c.urg, .string t.c.code, .slice A7 nn.length k7, .int .i64 t.c.dist, .int .i64 t.c.since, .bool t.c.closed] by
                  have := HT7.out.set_ 0 (.int .i64 ((k : Int) + 1)); simpa using this)
                have E0 := (Fr.refl (fun b => b = g) wc).setCell (p := ⟨g, 0, none⟩) (.inl rfl) (.int .i64 ((k : Int) + 1))
                have HN8 := Lib.hid (HN7.out.fr E0 (fun b hb e => by have := hb.2; omega))
                have HU8 := Lib.hid fun (u : Ca) (hu : u ∈ us) => (HU7.out u hu).fr E0 (fun b hb e => by have := hb.1; omega)
                have HO8 := Lib.hid (own_fr HO7.out E0 (fun b hb e => by have := (HLt.out b hb).2; omega))
                have HB8 := Lib.hid (HB7.out.trans (E0.below (B := w.heap.size) HB7.out.size (fun b hb e => by omega)))
                have hs8 := E0.size
                go_upto_region 15 with (fail)
                clear HT7 HN7 HU7 HO7 HB7 E0 x0 x1 x2
                generalize wc.setCell _ _ = W8 at *
                obtain ⟨x0, x1, x2⟩ := HT8.out.facts
                obtain ⟨u, hu⟩ : ∃ u : Ca, u = ⟨⟨(k : Int) + 1, t.c.inc, t.c.urg, t.c.code, nn, t.c.dist, t.c.since, t.c.closed⟩, A7, k7⟩ := ⟨_, rfl⟩
                have HUu := Lib.hid hu
                have HC8 := Lib.hid (show crB u.c = true by rw [hu]; exact HC7.out)
                clear HC7 hu
                have HOa := Lib.hid (own_below HO8.out ((Below.refl W8.heap.size W8).alloc (Nat.le_refl _) (.cells #[.int .i64 ((k : Int) + 1), .int .i64 t.c.inc, .int .i64 t.c.urg, .string t.c.code, .slice A7 nn.length k7, .int .i64 t.c.dist, .int .i64 t.c.since, .bool t.c.closed] 27)) (fun b hb => (HO8.out.lt b hb).2))
                have HNa := Lib.hid (show Reads (W8.alloc (.cells #[.int .i64 ((k : Int) + 1), .int .i64 t.c.inc, .int .i64 t.c.urg, .string t.c.code, .slice A7 nn.length k7, .int .i64 t.c.dist, .int .i64 t.c.since, .bool t.c.closed] 27)) (· = W8.heap.size) 8 (some ⟨W8.heap.size, 0, none⟩) 1 [.int .i64 ((k : Int) + 1), .int .i64 t.c.inc, .int .i64 t.c.urg, .string t.c.code, .slice A7 nn.length k7, .int .i64 t.c.dist, .int .i64 t.c.since, .bool t.c.closed] from Reads.newS W8 [.int .i64 ((k : Int) + 1), .int .i64 t.c.inc, .int .i64 t.c.urg, .string t.c.code, .slice A7 nn.length k7, .int .i64 t.c.dist, .int .i64 t.c.since, .bool t.c.closed] 27 (0, 0) 1 8 rfl _ rfl)
                have HBa := Lib.hid (HB8.out.alloc HB8.out.size (.cells #[.int .i64 ((k : Int) + 1), .int .i64 t.c.inc, .int .i64 t.c.urg, .string t.c.code, .slice A7 nn.length k7, .int .i64 t.c.dist, .int .i64 t.c.since, .bool t.c.closed] 27))
                have hzs : w.heap.size ≤ (W8.alloc (.cells #[.int .i64 ((k : Int) + 1), .int .i64 t.c.inc, .int .i64 t.c.urg, .string t.c.code, .slice A7 nn.length k7, .int .i64 t.c.dist, .int .i64 t.c.since, .bool t.c.closed] 27)).heap.size := HBa.out.size
                have hss : us.length ≤ 1000 := by have := HUl.out; omega
                have hone : ∀ v ∈ ([.int .i64 ((k : Int) + 1), .int .i64 t.c.inc, .int .i64 t.c.urg, .string t.c.code, .slice A7 nn.length k7, .int .i64 t.c.dist, .int .i64 t.c.since, .bool t.c.closed] : List Value), v.oneCell' = true := by have := caL_one1 u; rw [HUu.out] at this; exact this
                go_wp2_with (at_builtin; refine wpList_append_any _ rfl _ _ _ rfl w.heap.size 27 _ 8 88 Tryd.underlying36 ri27 rfl (by omega) (.slice A6 us.length c6) us.length (us.flatMap caL) rfl HOa.out _ (some ⟨W8.heap.size, 0, none⟩) 1 1 [.int .i64 ((k : Int) + 1), .int .i64 t.c.inc, .int .i64 t.c.urg, .string t.c.code, .slice A7 nn.length k7, .int .i64 t.c.dist, .int .i64 t.c.since, .bool t.c.closed] rfl HNa.out hone (by simp only [maxLen]; omega) (by omega) hzs ?_; intro A14 c14 w14 hown hgr hat; have HO14 := Lib.hid hown; have HG14 := Lib.hid hgr; have HAt := Lib.hid hat; clear hown hgr hat)
                have hal : (W8.alloc (.cells #[.int .i64 ((k : Int) + 1), .int .i64 t.c.inc, .int .i64 t.c.urg, .string t.c.code, .slice A7 nn.length k7, .int .i64 t.c.dist, .int .i64 t.c.since, .bool t.c.closed] 27)).heap.size = W8.heap.size + 1 := by simp
                have hlen : (us ++ [u]).length = us.length + 1 := by simp
                have hbe : Below w.heap.size (W8.alloc (.cells #[.int .i64 ((k : Int) + 1), .int .i64 t.c.inc, .int .i64 t.c.urg, .string t.c.code, .slice A7 nn.length k7, .int .i64 t.c.dist, .int .i64 t.c.since, .bool t.c.closed] 27)) w14 := Below.grown (Below.refl _ _) HG14.out (by omega) (fun b hb => (HLt.out b hb).1)
                have hgs := HG14.out.size
                have hne : ∀ b, b < (W8.alloc (.cells #[.int .i64 ((k : Int) + 1), .int .i64 t.c.inc, .int .i64 t.c.urg, .string t.c.code, .slice A7 nn.length k7, .int .i64 t.c.dist, .int .i64 t.c.since, .bool t.c.closed] 27)).heap.size → some b ≠ (Value.slice A6 us.length c6).ownBlock → some b ≠ (Value.slice A14 (us.length + 1) c14).ownBlock := fun b hb h1 h2 => by
                  rcases HAt.out with e | e
                  · rw [e] at h2; exact h1 h2
                  · rw [e] at h2; injection h2 with h2; omega
                refine ⟨⟨k + 1, us ++ [u], A14, c14, by omega, by go_num, by rw [hlen], by rw [hlen]; have := HUl.out; omega, ?_, ?_, ?_, HBa.out.trans hbe⟩, by simp [intOf]; omega⟩
                · intro i v hv
                  rcases Nat.lt_or_ge i us.length with hi | hi
                  · rw [List.getElem?_append_left hi] at hv
                    exact HV.out i v hv
                  · rw [List.getElem?_append_right hi] at hv
                    have hi0 : i - us.length = 0 := by
                      have := (List.getElem?_eq_some_iff.1 hv).1
                      simp at this; omega
                    rw [hi0] at hv
                    have hvu : v = u := by simpa using hv.symm
                    rw [hvu]
                    have hik : i = k := by have := HUl.out; omega
                    refine ⟨HC8.out, by rw [HUu.out, hik], by rw [HUu.out]; exact HM7.out, by rw [HUu.out]; show t.c.code.size ≤ 1000; have := HSm.out.2; omega, by rw [HUu.out]; exact HNL.out⟩
                · intro v hv
                  rw [hlen]
                  rcases List.mem_append.1 hv with hv | hv
                  · have h1 := (HU8.out v hv).alloc (.cells #[.int .i64 ((k : Int) + 1), .int .i64 t.c.inc, .int .i64 t.c.urg, .string t.c.code, .slice A7 nn.length k7, .int .i64 t.c.dist, .int .i64 t.c.since, .bool t.c.closed] 27)
                    have h2 := h1.grown HG14.out (fun b hb => hb.2)
                    exact h2.more (fun b hb => ⟨by have := hb.1; omega, hne b (by have := hb.1; omega) hb.2⟩)
                  · have hvu : v = u := by simpa using hv
                    rw [hvu, HUu.out]
                    have hdis : ∀ b, (b < w.heap.size ∨ g < b) → some b ≠ (Value.slice A6 us.length c6).ownBlock := fun b hb e => by
                      have := HLt.out b e.symm; omega
                    have h1 := HN8.out.alloc (.cells #[.int .i64 ((k : Int) + 1), .int .i64 t.c.inc, .int .i64 t.c.urg, .string t.c.code, .slice A7 nn.length k7, .int .i64 t.c.dist, .int .i64 t.c.since, .bool t.c.closed] 27)
                    have h2 := h1.grown HG14.out (fun b hb => hdis b hb.2)
                    exact h2.more (fun b hb => ⟨by have := hb.1; omega, hne b (by have := hb.1; omega) (hdis b hb.2)⟩)
                · rw [hlen, kc_app, HUu.out]
                  exact HO14.out
        · have hlt' : ¬ (k : Int) < ts.length := by omega
          have hk3 : k = ts.length := by omega
          subst hk3
          have hn12 : us.length ≤ 12 := by have := HUl.out; omega
          have hpos : 0 < us.length := by have := HUl.out; omega
          have hrow := (Reads.of_own HO.out).old (by omega) |>.more (B' := fun b => b < wr.heap.size) (fun b hb => hb.2)
          have hnod := fun (u : Ca) (hu : u ∈ us) => (HUs.out u hu).more (B' := fun b => b < wr.heap.size) (fun b hb => hb.1)
          have hall : ∀ u ∈ us, crB u.c = true ∧ m ∈ u.c.nodes ∧ u.c.code.size ≤ 1000 ∧ u.c.nodes.length ≤ 1000 := fun u hu => by
            obtain ⟨i, hi, rfl⟩ := List.mem_iff_getElem.1 hu
            obtain ⟨g1, -, g3, g4, g5⟩ := HV.out i _ (List.getElem?_eq_getElem hi)
            exact ⟨g1, g3, g4, g5⟩
          have hnd2 : (us.map (fun t : Ca => t.c.call)).Nodup := nodup_of_idx (fun i u hu => (HV.out i u hu).2.1)
          clear HV HUs HO HR HTs H9
          go_upto_region 8 with (fail)
          iterate 14 go_step
          refine wp_of_eq (c' := subx [true, true, true, true, true, true] (Tryd.f8.body.getD .skip)) (by kernel_rfl) ?_
          cases us with
          | nil => exfalso; simp at hpos
          | cons t0 r => exact kcn_mid m t0 r A6 c6 (t0 :: r).length w wr ht (Lib.hid rfl) hn12 (Lib.hid hall) (Lib.hid hnd2) (Lib.hid hrow) (Lib.hid hnod) HB _ _ _ _ _ _ _ _ _ _ _ _ _ _ _ _ _ _ _ _ _ _ _ _ _ _ _ _ _ _ _ _ _ _ _ _ _ _ _ _ _ _ _ _ _ _ _ _ _ _ _ _ _ _ _ _ _ _ _ _ _ _ _ _ _ _ _ _ _ _ _ _ _ _ _ _ _ _ _ _ _ _ _ _ _ _ _ _ _ _ _ _ _ _ _ _ _ _ _ _ _ _ _ _ _ _ _ _ _ _ _ _ _ _ _ _ _ _ _
end Go.Proofs.YtipkicijfedfoaaDoor

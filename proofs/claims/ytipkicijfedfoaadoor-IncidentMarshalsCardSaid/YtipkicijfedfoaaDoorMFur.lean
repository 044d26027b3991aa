import Derived.Test.YtipkicijfedfoaaDoorMGL
import Derived.Test.YtipkicijfedfoaaDoorMNod10
import Derived.Test.YtipkicijfedfoaaDoorMGF
import Derived.Deep.RegionHeld
import Derived.Deep.RegionLaw
namespace Go.Proofs.YtipkicijfedfoaaDoor
set_option linter.unusedVariables false
open Go.RowKit Go.Own Go.Quo Go.Inc
theorem listW_zero {ws : List Nat} (hl : ws.length = 64) (h : zeroW ws = true) : listW ws = [] := by
  have h1 := tailW_zero h 64 (Nat.le_refl _)
  have h2 := tailW_all hl
  rw [Nat.sub_self] at h1
  rw [h1] at h2
  exact List.map_eq_nil_iff.1 h2.symm
theorem zero_of {l : List Int} (h : incB l 0 4095 = true) (h0 : 0 < l.length) : zeroW (ofW (nodesOf l)) = false := by
  cases hz : zeroW (ofW (nodesOf l)) with
  | false => rfl
  | true =>
    have h1 := listW_zero (ofW_len nodesOf_lt) hz
    have h2 := incB_le h h0
    have hm : (gd l 0).toNat ∈ nodesOf l := by
      rw [mem_nodesOf h, gd_get h0, Int.toNat_of_nonneg (by rw [gd_get h0] at h2; exact h2.1)]
      exact List.getElem_mem h0
    have h3 : (gd l 0).toNat ∈ listW (ofW (nodesOf l)) := by
      rw [mem_listW, ofW_len nodesOf_lt, hasW_of nodesOf_lt]
      have := nodesOf_lt _ hm
      exact ⟨by omega, by simpa using hm⟩
    rw [h1] at h3; simp at h3
def SetN (ws : List Nat) (w : World) (e : Ending) (w' : World) : Prop := ∃ g, e = .returned (.agg #[.pointer (some ⟨g, 0, none⟩)]) ∧ WB w' g ws ∧ Below w.heap.size w w'
theorem of75n (B : Nat → Prop) (A : Option Addr) (c : Nat) (l : List Int) (w : World) (h : RI w B A l) (hl : l.length ≤ 100000) (hv : incB l 0 4095 = true) (h0 : 0 < l.length) : Calls Tryd.prog 75 #[.slice A l.length c] w (SetN (ofW (nodesOf l)) w) :=
  (of75 B A c l w h hl).mono (fun e w' ⟨g, h1, h2, h3, h4⟩ => ⟨g, by rw [h2, zero_of hv h0]; rfl, h3, h4⟩)
def FurPost (p : Nat) (b : Nat) (v7 v8 v9 : Value) (id dist : Int) (x : Ic) (old : Value) (w : World) (e : Ending) (w' : World) : Prop := ∃ An cn Ac cc, e = .returned (.tuple #[]) ∧
  Blk w' p 25 #[.int .i64 id, .int .i64 x.urg, .string x.code, .slice An x.nodes.length cn, .int .i64 dist, .int .i64 x.since, .slice Ac x.calls.length cc, v7, v8, v9] ∧
  w'.ownsRow b 3 1 (.slice An x.nodes.length cn) x.nodes.length (x.nodes.map (Value.int .i64)) ∧ w'.ownsRow b 2 1 (.slice Ac x.calls.length cc) x.calls.length (x.calls.map (Value.int .i64)) ∧
  Fr (fun k => k = p ∨ old.ownBlock = some k) w w'
theorem and_word {a b : List Nat} (h : a.length = b.length) (ha : ∀ i, gw a i < 2 ^ 64) : ∀ i, gw (andW a b) i < 2 ^ 64 := fun i => by
  rw [gw_and h]; exact Nat.lt_of_le_of_lt Nat.and_le_left (ha i)
set_option maxRecDepth 10000 in
set_option maxHeartbeats 8000000 in
theorem further43 (B : Nat → Prop) (p b : Nat) (id urg dist since : Int) (code : ByteArray) (nodes calls : List Int) (An Ac : Option Addr) (cn cc : Nat) (v7 v8 v9 : Value)
    (call inc urgc distc sincec : Int) (codec : ByteArray) (cnodes : List Int) (A : Option Addr) (c : Nat) (closedc : Bool) (merged : Int) (units : List Int) (closed : Bool) (w : World)
    (ht : Tab w) (hp : Blk w p 25 #[.int .i64 id, .int .i64 urg, .string code, .slice An nodes.length cn, .int .i64 dist, .int .i64 since, .slice Ac calls.length cc, v7, v8, v9]) (hn : w.ownsRow b 3 1 (.slice An nodes.length cn) nodes.length (nodes.map (Value.int .i64))) (hc : w.ownsRow b 2 1 (.slice Ac calls.length cc) calls.length (calls.map (Value.int .i64)))
    (h : RI w B A cnodes) (hB : ∀ k, B k → k ≠ p) (hp0 : p ≠ 0) (hb : b ≤ w.heap.size) (hv1 : incB nodes 0 4095 = true) (hv2 : incB cnodes 0 4095 = true) (hn0 : 0 < nodes.length) (hc0 : 0 < cnodes.length)
    (hl1 : nodes.length ≤ 100000) (hl2 : cnodes.length ≤ 100000) (hl3 : calls.length ≤ 100000) :
    Calls Tryd.prog 43 #[.pointer (some ⟨p, 0, none⟩), .agg #[.int .i64 call, .int .i64 inc, .int .i64 urgc, .string codec, .slice A cnodes.length c, .int .i64 distc, .int .i64 sincec, .bool closedc]] w (FurPost p b v7 v8 v9 id dist (furP ⟨id, urg, code, nodes, dist, since, calls, units, merged, closed⟩ ⟨call, inc, urgc, codec, cnodes, distc, sincec, closedc⟩) (.slice Ac calls.length cc) w) := by
  have hpl := hp.lt
  rw [show furP ⟨id, urg, code, nodes, dist, since, calls, units, merged, closed⟩ ⟨call, inc, urgc, codec, cnodes, distc, sincec, closedc⟩ = ⟨id, if urgc < urg then urgc else urg, if urgc < urg then codec else code, if 0 < (bothL nodes cnodes).length then bothL nodes cnodes else nodes, dist, min since sincec, calls ++ [call], units, merged, closed⟩ from rfl]
  have hpn : p ≠ w.heap.size := by omega
  have HP := Lib.hid (hp.alloc (.cells #[.int .i64 call, .int .i64 inc, .int .i64 urgc, .string codec, .slice A cnodes.length c, .int .i64 distc, .int .i64 sincec, .bool closedc] 27))
  have HX := Lib.hid (Blk.new w 27 #[.int .i64 call, .int .i64 inc, .int .i64 urgc, .string codec, .slice A cnodes.length c, .int .i64 distc, .int .i64 sincec, .bool closedc])
  have HN := Lib.hid (hn.alloc (.cells #[.int .i64 call, .int .i64 inc, .int .i64 urgc, .string codec, .slice A cnodes.length c, .int .i64 distc, .int .i64 sincec, .bool closedc] 27))
  have HC := Lib.hid (hc.alloc (.cells #[.int .i64 call, .int .i64 inc, .int .i64 urgc, .string codec, .slice A cnodes.length c, .int .i64 distc, .int .i64 sincec, .bool closedc] 27))
  have HR := Lib.hid (((h.old (by omega)).more (B' := fun k => k ≠ p ∧ k < w.heap.size) (fun k hk => ⟨hB k hk.1, hk.2⟩)).alloc (.cells #[.int .i64 call, .int .i64 inc, .int .i64 urgc, .string codec, .slice A cnodes.length c, .int .i64 distc, .int .i64 sincec, .bool closedc] 27))
  have HF := Lib.hid ((Fr.refl (fun k => k = p) w).alloc (.cells #[.int .i64 call, .int .i64 inc, .int .i64 urgc, .string codec, .slice A cnodes.length c, .int .i64 distc, .int .i64 sincec, .bool closedc] 27))
  have HT := Lib.hid (show Tab (w.alloc (.cells #[.int .i64 call, .int .i64 inc, .int .i64 urgc, .string codec, .slice A cnodes.length c, .int .i64 distc, .int .i64 sincec, .bool closedc] 27)) from Tab.alloc ht _)
  have HTp := Lib.hid hp0
  have HNp := Lib.hid (own_ne_blk hn hp (by decide))
  have HCp := Lib.hid (own_ne_blk hc hp (by decide))
  have HNC := Lib.hid (own_ne_own hn hc (by decide))
  have HSz := Lib.hid (show w.heap.size < (w.alloc (.cells #[.int .i64 call, .int .i64 inc, .int .i64 urgc, .string codec, .slice A cnodes.length c, .int .i64 distc, .int .i64 sincec, .bool closedc] 27)).heap.size by simp)
  clear ht hp hn hc h hp0
  go_enter Tryd.func43, Tryd.ntmps43
  go_upto_region 1 with (fail)
  generalize w.alloc _ = W at *
  obtain ⟨x0, x1, x2⟩ := HP.out.facts
  obtain ⟨y0, y1, y2⟩ := HX.out.facts
  go_cut [11] (fun v wx => v = .bool (decide (urgc < urg)) ∧ wx = W.drew)
  case first =>
    go_region_law (fail)
    all_goals
      go_wp2_with fail
      go_meet
      case rel => exact ⟨rfl, rfl⟩
  case rest =>
    obtain ⟨rfl, rfl⟩ := hcut
    go_upto_if 11 with (fail)
    go_cut [] (fun wx => Blk wx p 25 #[.int .i64 id, .int .i64 (if urgc < urg then urgc else urg), .string (if urgc < urg then codec else code), .slice An nodes.length cn, .int .i64 dist, .int .i64 since, .slice Ac calls.length cc, v7, v8, v9] ∧ Blk wx w.heap.size 27 #[.int .i64 call, .int .i64 inc, .int .i64 urgc, .string codec, .slice A cnodes.length c, .int .i64 distc, .int .i64 sincec, .bool closedc] ∧ Fr (fun k => k = p) W wx)
    case first =>
      by_cases hu : urgc < urg
      · rw [decide_eq_true hu]
        have HU := Lib.hid hu
        have H1 := Lib.hid (show Blk ((W.setCell ⟨p, 1, none⟩ (.int .i64 urgc)).setCell ⟨p, 2, none⟩ (.string codec)) p 25 #[.int .i64 id, .int .i64 urgc, .string codec, .slice An nodes.length cn, .int .i64 dist, .int .i64 since, .slice Ac calls.length cc, v7, v8, v9] by have := (HP.out.set_ 1 (.int .i64 urgc)).set_ 2 (.string codec); simpa using this)
        have H2 := Lib.hid ((HX.out.far (p := ⟨p, 1, none⟩) (by simp; omega) (.int .i64 urgc)).far (p := ⟨p, 2, none⟩) (by simp; omega) (.string codec))
        have H3 := Lib.hid (((Fr.refl (fun k => k = p) W).setCell (p := ⟨p, 1, none⟩) (.inl rfl) (.int .i64 urgc)).setCell (p := ⟨p, 2, none⟩) (.inl rfl) (.string codec))
        clear hu
        go_wp2_with fail
        go_meet
        case rel => exact ⟨by rw [if_pos HU.out, if_pos HU.out]; exact H1.out, H2.out, H3.out.drew⟩
      · rw [decide_eq_false hu]
        have HU := Lib.hid hu
        clear hu
        go_wp2_with fail
        go_meet
        case rel => exact ⟨by rw [if_neg (by have := HU.out; omega), if_neg (by have := HU.out; omega)]; exact HP.out, HX.out, (Fr.refl _ _).drew⟩
    case rest =>
      obtain ⟨hp1, hx1, hf1⟩ := hcut
      generalize huu : (if urgc < urg then urgc else urg) = uu at *
      generalize hss : (if urgc < urg then codec else code) = ss at *
      clear huu hss
      have HP1 := Lib.hid hp1
      have HX1 := Lib.hid hx1
      have HF1 := Lib.hid hf1
      have HT1 := Lib.hid (show Tab wc from Tab.fr HT.out hf1 (fun e => HTp.out e.symm))
      have HN1 := Lib.hid (own_fr HN.out hf1 HNp.out)
      have HC1 := Lib.hid (own_fr HC.out hf1 HCp.out)
      have HR1 := Lib.hid (HR.out.fr hf1 (fun k hk e => hk.1 e))
      have HSw := Lib.hid (show b ≤ wc.heap.size from Nat.le_trans hb (Nat.le_trans (Nat.le_of_lt HSz.out) hf1.size))
      clear hp1 hx1 hf1 HP HX HN HC HR HT x0 x1 x2 y0 y1 y2
      have HO1 := Lib.hid fun (W' : World) (hb : Below wc.heap.size wc W') => of75n _ An cn nodes W' (ri_own (own_below HN1.out hb (fun g hg => (HN1.out.lt g hg).2))) hl1 hv1 hn0
      have HO2 := Lib.hid fun (W' : World) (hb : Below wc.heap.size wc W') => of75n _ A c cnodes W' ((HR1.out.old (by omega)).below hb (fun k hk => hk.2)) hl2 hv2 hc0
      have HI := Lib.hid fun (g1 g2 : Nat) (W' : World) (h1 : WB W' g1 (ofW (nodesOf nodes))) (h2 : WB W' g2 (ofW (nodesOf cnodes))) => inter76 g1 g2 _ _ W' h1 h2 (ofW_len nodesOf_lt) (ofW_len nodesOf_lt) (ofW_word nodesOf_lt) (ofW_word nodesOf_lt)
      have hal := andW_len (ofW_len (nodesOf_lt (l := nodes))) (ofW_len (nodesOf_lt (l := cnodes)))
      have hcm : tailW (andW (ofW (nodesOf nodes)) (ofW (nodesOf cnodes))) 0 = bothL nodes cnodes := by rw [tailW_all hal, ← commonN_eq hv1 hv2]; rfl
      have HL := Lib.hid fun (g : Nat) (W' : World) (h : WB W' g (andW (ofW (nodesOf nodes)) (ofW (nodesOf cnodes)))) (hb : Below wc.heap.size wc W') => hcm ▸ list77 g _ W' h (Tab.below HT1.out hb HT1.out.lt) hal (and_word (by rw [ofW_len nodesOf_lt, ofW_len nodesOf_lt]) (ofW_word nodesOf_lt))
      clear hal hcm
      generalize ofW (nodesOf nodes) = ws1 at *
      generalize ofW (nodesOf cnodes) = ws2 at *
      have HK := Lib.hid fun (W' : World) (hb : Below wc.heap.size wc W') => (show W'.cell? ⟨p, 3, none⟩ = some (.slice An nodes.length cn) ∧ W'.cell? ⟨w.heap.size, 4, none⟩ = some (.slice A cnodes.length c) from ⟨by rw [Blk.cell (HP1.out.below hb HP1.out.lt)]; rfl, by rw [Blk.cell (HX1.out.below hb HX1.out.lt)]; rfl⟩)
      have K0 := HK.out _ (Below.refl _ wc).drew
      have HLL := Lib.hid (bothL_len nodes cnodes)
      go_upto_region 4 with (fail)
      go_cut [4] (fun v wx => ∃ A' c', v = .slice A' (bothL nodes cnodes).length c' ∧ wx.ownsRow b 3 1 (.slice A' (bothL nodes cnodes).length c') (bothL nodes cnodes).length ((bothL nodes cnodes).map (Value.int .i64)) ∧ Below wc.heap.size wc wx)
      case first =>
        go_region_held (fun w' => w'.cell? ⟨p, 3, none⟩ = some (.slice An nodes.length cn) ∧ w'.cell? ⟨w.heap.size, 4, none⟩ = some (.slice A cnodes.length c)) (first | assumption | exact K0) (first
          | (go_at_call 75; ((with_reducible refine (HO1.out _ ((Below.refl _ _).drew)).mono ?_); rintro e w2 ⟨g1, rfl, hz1, hb2⟩; have B2 := ((Below.refl wc.heap.size wc).drew).trans hb2; clear hb2; have KB2 := HK.out _ B2))
          | (go_at_call 75; ((with_reducible refine (HO2.out _ B2).mono ?_); rintro e w3 ⟨g2, rfl, hz2, hb3⟩; have B3 := B2.trans (hb3.mono B2.size); have hz3 := (show WB w3 g1 ws1 from Blk.below hz1 hb3 (Blk.lt hz1)); clear hb3 hz1; have KB3 := HK.out _ B3))
          | (go_at_call 76; ((with_reducible refine (HI.out _ _ _ hz3 hz2).mono ?_); rintro e w4 ⟨g3, hg3, rfl, hz4, hb4⟩; have B4 := B3.trans (hb4.mono B3.size); clear hb4 hz3 hz2; have KB4 := HK.out _ B4; have HLx := Lib.hid (HL.out g3 w4 hz4 B4); clear hz4; generalize (if zeroW (andW ws1 ws2) = true then none else some (⟨g3, 0, none⟩ : Addr)) = pp at *))
          | (go_at_call 77; ((with_reducible refine HLx.out.mono ?_); rintro e w5 ⟨A5, c5, rfl, hr5, hb5⟩; have B5 := B4.trans (hb5.mono B4.size); have hr6 := World.ownsRow.mono hr5 (Nat.le_trans HSw.out B4.size); clear hb5 hr5; have KB5 := HK.out _ B5)))
        all_goals
          go_wp2_with fail
          go_meet
          case rel => exact ⟨_, _, rfl, hr6, B5⟩
      case rest =>
        obtain ⟨A5, c5, rfl, ho5, hb5⟩ := hcut
        have HOL := Lib.hid ho5
        have HP2 := Lib.hid (HP1.out.below hb5 HP1.out.lt)
        have HX2 := Lib.hid (HX1.out.below hb5 HX1.out.lt)
        have HN2 := Lib.hid (own_below HN1.out hb5 (fun g hg => (HN1.out.lt g hg).2))
        have HC2 := Lib.hid (own_below HC1.out hb5 (fun g hg => (HC1.out.lt g hg).2))
        have HF2 := Lib.hid (HF1.out.trans (Fr.of_below hb5 (S := fun k => k = p)))
        clear ho5 hb5 HP1 HX1 HN1 HC1 HF1 HK K0 HO1 HO2 HI HL HT1 HR1
        generalize bothL nodes cnodes = L at *
        go_upto_if 34 with (fail)
        go_cut [] (fun wx => ∃ A6 c6, Blk wx p 25 #[.int .i64 id, .int .i64 uu, .string ss, .slice A6 (if 0 < L.length then L else nodes).length c6, .int .i64 dist, .int .i64 since, .slice Ac calls.length cc, v7, v8, v9] ∧ wx.ownsRow b 3 1 (.slice A6 (if 0 < L.length then L else nodes).length c6) (if 0 < L.length then L else nodes).length ((if 0 < L.length then L else nodes).map (Value.int .i64)) ∧ Blk wx w.heap.size 27 #[.int .i64 call, .int .i64 inc, .int .i64 urgc, .string codec, .slice A cnodes.length c, .int .i64 distc, .int .i64 sincec, .bool closedc] ∧ wx.ownsRow b 2 1 (.slice Ac calls.length cc) calls.length (calls.map (Value.int .i64)) ∧ Fr (fun k => k = p) W wx)
        case first =>
          have hpl5 := HP2.out.lt
          obtain ⟨x0, x1, x2⟩ := HP2.out.facts
          by_cases h0 : 0 < L.length
          · have h0' : (0 : Int) < L.length := by omega
            have HLne := Lib.hid (own_ne_blk HOL.out HP2.out (by decide))
            have HCne := Lib.hid (own_ne_blk HC2.out HP2.out (by decide))
            have E1 := Lib.hid (show Blk (wc.setCell ⟨p, 3, none⟩ (.slice A5 L.length c5)) p 25 #[.int .i64 id, .int .i64 uu, .string ss, .slice A5 L.length c5, .int .i64 dist, .int .i64 since, .slice Ac calls.length cc, v7, v8, v9] by have := HP2.out.set_ 3 (.slice A5 L.length c5); simpa using this)
            have E2 := Lib.hid (HX2.out.far (p := ⟨p, 3, none⟩) (by simp; omega) (.slice A5 L.length c5))
            have E0 := Lib.hid ((Fr.refl (fun k => k = p) wc).setCell (p := ⟨p, 3, none⟩) (.inl rfl) (.slice A5 L.length c5))
            have E3 := Lib.hid (own_fr HOL.out E0.out HLne.out)
            have E4 := Lib.hid (own_fr HC2.out E0.out HCne.out)
            have E5 := Lib.hid (HF2.out.trans E0.out)
            go_wp2_with fail
            go_meet
            case rel => exact ⟨A5, c5, by rw [if_pos (by omega)]; exact E1.out, by rw [if_pos (by omega)]; exact E3.out, E2.out, E4.out, E5.out⟩
          · have h0' : ¬ (0 : Int) < L.length := by omega
            go_wp2_with fail
            go_meet
            case rel => exact ⟨An, cn, by rw [if_neg (by omega)]; exact HP2.out, by rw [if_neg (by omega)]; exact HN2.out, HX2.out, HC2.out, HF2.out⟩
        case rest =>
          obtain ⟨A6, c6, g1, g2, g3, g4, g5⟩ := hcut
          generalize (if 0 < L.length then L else nodes) = NN at *
          have G1 := Lib.hid g1
          have G2 := Lib.hid g2
          have G3 := Lib.hid g3
          have G4 := Lib.hid g4
          have G5 := Lib.hid g5
          clear g1 g2 g3 g4 g5 HP2 HX2 HN2 HC2 HF2 HOL
          have hpl6 := G1.out.lt
          obtain ⟨x0, x1, x2⟩ := G1.out.facts
          obtain ⟨y0, y1, y2⟩ := G3.out.facts
          go_upto_region 7 with (fail)
          go_cut [] (fun wx => wx = (wc.setCell ⟨p, 5, none⟩ (.int .i64 (min since sincec))).drew)
          case first =>
            go_region_law (fail)
            all_goals
              go_wp2_with fail
            all_goals
              go_meet
              case rel => first | (rw [show min since sincec = sincec by omega]; done) | (rw [show min since sincec = since by omega]; done)
          case rest =>
            subst hcut
            have HP6 := Lib.hid (show Blk (wc.setCell ⟨p, 5, none⟩ (.int .i64 (min since sincec))).drew p 25 #[.int .i64 id, .int .i64 uu, .string ss, .slice A6 NN.length c6, .int .i64 dist, .int .i64 (min since sincec), .slice Ac calls.length cc, v7, v8, v9] by have := G1.out.set_ 5 (.int .i64 (min since sincec)); exact (by simpa using this : Blk (wc.setCell ⟨p, 5, none⟩ (.int .i64 (min since sincec))) p 25 #[.int .i64 id, .int .i64 uu, .string ss, .slice A6 NN.length c6, .int .i64 dist, .int .i64 (min since sincec), .slice Ac calls.length cc, v7, v8, v9]))
            have HX6 := Lib.hid (show Blk (wc.setCell ⟨p, 5, none⟩ (.int .i64 (min since sincec))).drew w.heap.size 27 #[.int .i64 call, .int .i64 inc, .int .i64 urgc, .string codec, .slice A cnodes.length c, .int .i64 distc, .int .i64 sincec, .bool closedc] from G3.out.far (p := ⟨p, 5, none⟩) (by simp; omega) (.int .i64 (min since sincec)))
            have E0 := Lib.hid (show Fr (fun k => k = p) wc (wc.setCell ⟨p, 5, none⟩ (.int .i64 (min since sincec))).drew from ((Fr.refl (fun k => k = p) wc).setCell (p := ⟨p, 5, none⟩) (.inl rfl) (.int .i64 (min since sincec))).drew)
            have HN6 := Lib.hid (own_fr G2.out E0.out (own_ne_blk G2.out G1.out (by decide)))
            have HC6 := Lib.hid (own_fr G4.out E0.out (own_ne_blk G4.out G1.out (by decide)))
            have HF6 := Lib.hid (HF.out.trans (G5.out.trans E0.out))
            have HSw6 := Lib.hid (show b ≤ (wc.setCell ⟨p, 5, none⟩ (.int .i64 (min since sincec))).drew.heap.size from Nat.le_trans hb HF6.out.size)
            clear G1 G2 G3 G4 G5 E0 hpl6 x0 x1 x2 y0 y1 y2
            generalize (wc.setCell _ _).drew = W6 at *
            have hpl6 := HP6.out.lt
            obtain ⟨x0, x1, x2⟩ := HP6.out.facts
            obtain ⟨y0, y1, y2⟩ := HX6.out.facts
            have hb6 := HSw6.out
            have HCp6 := own_ne_blk HC6.out HP6.out (by decide)
            go_wp2_with fail
            go_region_law (first
              | (refine step_append_any _ (by rfl) (.tmp 53) (.tmp 56) _ (by rfl) b 2 (.int .i64 0) 1 8 Tryd.underlying23 info2 rfl (by omega) (.slice Ac calls.length cc) calls.length (calls.map (Value.int .i64)) (by rfl) (HC6.out.alloc _).drew (fun k => k = W6.heap.size) (some ⟨W6.heap.size, 0, none⟩) 1 1 [.int .i64 call] (by rfl) (Reads.newS W6 [.int .i64 call] 2 (0, 0) 1 1 rfl _ rfl).drew (by simp [Value.oneCell']) (by simp only [maxLen]; omega) (by omega) (by simp; omega) ?_
                 intro A7 c7 w7 hown7 hgr7 hat7
                 have HP7 := Lib.hid ((HP6.out.alloc (.cells #[.int .i64 call] 2)).drew.grown hgr7 (by intro e; exact HCp6 p e.symm rfl))
                 obtain ⟨z0, z1, z2⟩ := HP7.out.facts))
            all_goals
              go_wp2_with fail
              go_end0
              have hne := own_ne_own HN6.out HC6.out (by decide)
              have hN7 := World.ownsRow.kept ((HN6.out.alloc (.cells #[.int .i64 call] 2)).drew) hgr7 (by
                cases hq : (Value.slice A6 NN.length c6).ownBlock with
                | none => exact .inl rfl
                | some g => exact .inr (hne g hq))
              have hfp := (Fr.refl (fun k => k = p) w7).setCell (p := ⟨p, 6, none⟩) (.inl rfl) (.slice A7 (calls.length + 1) c7)
              have hP8 : Blk (w7.setCell ⟨p, 6, none⟩ (.slice A7 (calls.length + 1) c7)) p 25 #[.int .i64 id, .int .i64 uu, .string ss, .slice A6 NN.length c6, .int .i64 dist, .int .i64 (min since sincec), .slice A7 (calls.length + 1) c7, v7, v8, v9] := by
                have := HP7.out.set_ 6 (.slice A7 (calls.length + 1) c7)
                simpa using this
              have hN8 := own_fr hN7 hfp (own_ne_blk hN7 HP7.out (by decide))
              have hC8 := own_fr hown7 hfp (own_ne_blk hown7 HP7.out (by decide))
              have hF8 := ((((HF6.out.mono (T := fun k => k = p ∨ (Value.slice Ac calls.length cc).ownBlock = some k) (fun k _ e => .inl e)).alloc (.cells #[.int .i64 call] 2)).drew).grown hgr7 (fun k e => .inl (.inr e))).setCell (p := ⟨p, 6, none⟩) (.inl (.inl rfl)) (.slice A7 (calls.length + 1) c7)
              exact ⟨A6, c6, A7, c7, rfl, by simpa using hP8, hN8, by simpa using hC8, hF8⟩
end Go.Proofs.YtipkicijfedfoaaDoor

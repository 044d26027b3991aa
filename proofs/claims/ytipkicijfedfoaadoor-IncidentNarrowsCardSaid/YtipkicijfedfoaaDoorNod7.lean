import Derived.Test.YtipkicijfedfoaaDoorNod6
namespace Go.Proofs.YtipkicijfedfoaaDoor
set_option linter.unusedVariables false
open Go.RowKit Go.Own Go.Quo Go.Inc
def SetPost (ws : List Nat) (w : World) (e : Ending) (w' : World) : Prop := ∃ g, w.heap.size ≤ g ∧ e = .returned (.agg #[.pointer (if zeroW ws = true then none else some ⟨g, 0, none⟩)]) ∧ WB w' g ws ∧ Below w.heap.size w w'
set_option maxRecDepth 10000 in
set_option maxHeartbeats 4000000 in
theorem of75 (B : Nat → Prop) (A : Option Addr) (c : Nat) (l : List Int) (w : World) (h : RI w B A l) (hl : l.length ≤ 100000) : Calls Tryd.prog 75 #[.slice A l.length c] w (SetPost (ofW (nodesOf l)) w) := by
  have hp := h.plain (by omega)
  have HR := Lib.hid ((h.old (by omega)).more (B' := fun k => k < w.heap.size) (fun k hk => hk.2))
  have HZ := Lib.hid (show WB ((w.alloc (.cells #[.pointer none] 96)).alloc (.cells (List.replicate 64 (Value.int .u64 0)).toArray 115)) (w.heap.size + 1) (ofW (nodesOf (l.take 0))) from by
    have := Blk.new (w.alloc (.cells #[.pointer none] 96)) 115 (List.replicate 64 (Value.int .u64 0)).toArray
    unfold WB wordsV
    simpa [nodesOf, ofW, List.map_replicate] using this)
  have HX := Lib.hid (show Blk ((w.alloc (.cells #[.pointer none] 96)).alloc (.cells (List.replicate 64 (Value.int .u64 0)).toArray 115)) w.heap.size 96 #[.pointer none] from (Blk.new w 96 _).alloc _)
  have HB := Lib.hid (((Below.refl w.heap.size w).alloc (Nat.le_refl _) (.cells #[.pointer none] 96)).alloc (by simp) (.cells (List.replicate 64 (Value.int .u64 0)).toArray 115))
  have HAd := Lib.hid (fun (k : Nat) (n : Nat) (hn : n < 4096) (W : World) (hW : WB W (w.heap.size + 1) (ofW (nodesOf (l.take k)))) => add89 (w.heap.size + 1) _ n hn W hW (ofW_len nodesOf_lt) (ofW_word nodesOf_lt))
  simp only [List.replicate_succ, List.replicate_zero] at HZ HX HB
  clear h
  go_enter Tryd.func75, Tryd.ntmps75
  go_wp2_with fail
  generalize (w.alloc (.cells #[.pointer none] 96)).alloc _ = W2 at *
  have HS := Lib.hid (fun (W : World) (hW : WB W (w.heap.size + 1) (ofW (nodesOf l))) => setOf90 (w.heap.size + 1) _ W hW (ofW_len nodesOf_lt))
  go_loopw [8] (fun vi wr => ∃ (k : Nat), k ≤ l.length ∧ vi = .int .i64 k ∧ WB wr (w.heap.size + 1) (ofW (nodesOf (l.take k))) ∧ Blk wr w.heap.size 96 #[.pointer none] ∧ Below w.heap.size w wr) (fun vi _ => l.length - (intOf vi).toNat)
  case atStart => exact ⟨0, Nat.zero_le _, rfl, HZ.out, HX.out, HB.out⟩
  case round =>
    obtain ⟨k, hk, rfl, hz, hx, hbel⟩ := hrel
    have HZr := Lib.hid hz
    have HXr := Lib.hid hx
    have HBr := Lib.hid hbel
    clear hz hx hbel
    by_cases hlt : k < l.length
    · have hlt' : (k : Int) < l.length := by omega
      have hix := fun W => ix22 hp c k hlt W
      have hc := ri_cell (HR.out.below HBr.out (fun _ h => h)) hlt
      have HTk := Lib.hid (show nodesOf (l.take (k + 1)) = if 0 ≤ gd l k ∧ gd l k < 4096 then nodesOf (l.take k) ++ [(gd l k).toNat] else nodesOf (l.take k) by
        rw [List.take_add_one, List.getElem?_eq_getElem hlt, ← nodesOf_snoc, gd_get hlt]; rfl)
      by_cases h0 : 0 ≤ gd l k ∧ gd l k < 4096
      · obtain ⟨n, hn⟩ : ∃ n : Nat, gd l k = n := ⟨(gd l k).toNat, by omega⟩
        rw [hn] at hc h0
        have HT2 := Lib.hid (show ofW (nodesOf (l.take (k + 1))) = addW (ofW (nodesOf (l.take k))) n by
          rw [HTk.out, hn, if_pos h0, ofW_snoc]; rfl)
        have HA := Lib.hid (HAd.out k n (by omega) wr HZr.out)
        have d2 : decide ((n : Int) < 4096) = true := by simp; omega
        have d2n : n < 4096 := by omega
        clear h0 hn HTk
        go_wp2_with (go_at_call 89; ((with_reducible refine HA.out.mono ?_); rintro e w3 ⟨rfl, hz3, hf3⟩))
        refine ⟨⟨k + 1, by omega, by go_num, by rw [HT2.out]; exact hz3, HXr.out.fr hf3 (by omega), HBr.out.trans (hf3.below HBr.out.size (fun k hk e => by omega))⟩, by simp [intOf]; omega⟩
      · have HT2 := Lib.hid (show ofW (nodesOf (l.take (k + 1))) = ofW (nodesOf (l.take k)) by rw [HTk.out, if_neg h0])
        by_cases h1 : 0 ≤ gd l k
        · have d2 : decide (gd l k < 4096) = false := by simp; omega
          have d1 : decide (0 ≤ gd l k) = true := by simpa using h1
          clear h0 h1 HTk
          generalize gd l k = v at *
          go_wp2_with fail
          exact ⟨⟨k + 1, by omega, by go_num, by rw [HT2.out]; exact HZr.out, HXr.out, HBr.out⟩, by simp [intOf]; omega⟩
        · have d1 : decide (0 ≤ gd l k) = false := by simpa using h1
          clear h0 h1 HTk
          generalize gd l k = v at *
          go_wp2_with fail
          exact ⟨⟨k + 1, by omega, by go_num, by rw [HT2.out]; exact HZr.out, HXr.out, HBr.out⟩, by simp [intOf]; omega⟩
    · have hlt' : ¬ (k : Int) < l.length := by omega
      have he : k = l.length := by omega
      subst he
      have HZl := Lib.hid (show WB wr (w.heap.size + 1) (ofW (nodesOf l)) by have := HZr.out; rwa [List.take_length] at this)
      have hsr := HBr.out.size
      have hgl := HZl.out.lt
      have hxl := HXr.out.lt
      cases hzz : zeroW (ofW (nodesOf l)) with
      | false =>
        rw [hzz] at HS
        go_wp2_with (go_at_call 90; ((with_reducible refine (HS.out _ HZl.out).mono ?_); rintro e w3 ⟨rfl, hb3⟩; have HX3 := Lib.hid (HXr.out.below hb3 hxl); have HZ3 := Lib.hid (show WB w3 _ _ from Blk.below HZl.out hb3 hgl); have HB3 := Lib.hid (HBr.out.trans (hb3.mono hsr)); obtain ⟨x0, x1, x2⟩ := HX3.out.facts))
        have HF := Lib.hid (fun (u : Value) => (((Fr.of_below HB3.out (S := fun _ => False)).setCell (p := ⟨w.heap.size, 0, none⟩) (.inr (Nat.le_refl _)) u).below (B := w.heap.size) (Nat.le_refl _) (fun _ _ => id)))
        have HW := Lib.hid (fun (u : Value) => Blk.far (p := ⟨w.heap.size, 0, none⟩) HZ3.out (by simp) u)
        have hc3 : (w3.cell? ⟨w.heap.size, 0, none⟩).isSome = true := by rw [x1]; rfl
        refine bodyPost_ret (v := .agg #[.pointer (some ⟨w.heap.size + 1, 0, none⟩)]) (by simp [results, Tryd.results75, go_sem, hc3]) rfl ⟨w.heap.size + 1, by omega, by simp [hzz], HW.out _, HF.out _⟩
      | true =>
        rw [hzz] at HS
        go_wp2_with (go_at_call 90; ((with_reducible refine (HS.out _ HZl.out).mono ?_); rintro e w3 ⟨rfl, hb3⟩; have HX3 := Lib.hid (HXr.out.below hb3 hxl); have HZ3 := Lib.hid (show WB w3 _ _ from Blk.below HZl.out hb3 hgl); have HB3 := Lib.hid (HBr.out.trans (hb3.mono hsr)); obtain ⟨x0, x1, x2⟩ := HX3.out.facts))
        have HF := Lib.hid (fun (u : Value) => (((Fr.of_below HB3.out (S := fun _ => False)).setCell (p := ⟨w.heap.size, 0, none⟩) (.inr (Nat.le_refl _)) u).below (B := w.heap.size) (Nat.le_refl _) (fun _ _ => id)))
        have HW := Lib.hid (fun (u : Value) => Blk.far (p := ⟨w.heap.size, 0, none⟩) HZ3.out (by simp) u)
        have hc3 : (w3.cell? ⟨w.heap.size, 0, none⟩).isSome = true := by rw [x1]; rfl
        refine bodyPost_ret (v := .agg #[.pointer none]) (by simp [results, Tryd.results75, go_sem, hc3]) rfl ⟨w.heap.size + 1, by omega, by simp [hzz], HW.out _, HF.out _⟩
end Go.Proofs.YtipkicijfedfoaaDoor

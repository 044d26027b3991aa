import Derived.Test.YtipkicijfedfoaaDoorMGE
import Derived.Deep.RegionLaw
import Derived.Deep.MidRow
import Derived.Laws.Rows
import Derived.Laws.StructEq
import Derived.ChangeKeysEq
import Derived.Test.YtipkicijfedfoaaDoorMGB
namespace Go.Proofs.YtipkicijfedfoaaDoor
set_option linter.unusedVariables false
open Go.RowKit Go.Own Go.Quo Go.Inc
set_option maxRecDepth 10000 in
set_option maxHeartbeats 2000000 in
theorem add89 (g : Nat) (ws : List Nat) (n : Nat) (hn : n < 4096) (w : World) (h : WB w g ws) (hl : ws.length = 64) (hv : ∀ i, gw ws i < 2 ^ 64) : Calls Tryd.prog 89 #[.pointer (some ⟨g, 0, none⟩), .int .i64 (n : Int)] w (fun e w' => e = .returned (.tuple #[]) ∧ WB w' g (addW ws n) ∧ Fr (fun k => k = g) w w') := by
  have H1 := Lib.hid h
  have hc := h.at_ (i := n / 64) (by omega)
  have hf := Blk.frozen h
  have hgl := h.lt
  have e1 : Int.tdiv (n : Int) 64 = ((n / 64 : Nat) : Int) := by rw [Int.tdiv_eq_ediv_of_nonneg (by omega)]; omega
  have e2 : Int.tmod (n : Int) 64 = ((n % 64 : Nat) : Int) := by rw [Int.tmod_eq_emod_of_nonneg (by omega)]; omega
  have hlt : n / 64 < 64 := by omega
  have hor : bits .or .u64 ((gw ws (n / 64) : Nat) : Int) ((2 : Int) ^ (n % 64)) = ((gw ws (n / 64) ||| 2 ^ (n % 64) : Nat) : Int) := by
    have h1 : gw ws (n / 64) < 18446744073709551616 := hv _
    have h2 : 2 ^ (n % 64) < 18446744073709551616 := Nat.pow_lt_pow_right (n := 64) (by omega) (by omega)
    have := bits_or_u64_nat _ _ h1 h2
    rw [← this]; simp
  have hw1 : IntKind.i64.wrap ((n / 64 : Nat) : Int) = ((n / 64 : Nat) : Int) := IntWalk.i64_in _ (by omega)
  have hw2 : IntKind.u64.wrap ((2 : Int) ^ (n % 64)) = (2 : Int) ^ (n % 64) := by
    have h2 : 2 ^ (n % 64) < 18446744073709551616 := Nat.pow_lt_pow_right (n := 64) (by omega) (by omega)
    have e : ((2 : Int) ^ (n % 64)) = ((2 ^ (n % 64) : Nat) : Int) := by simp
    rw [e, wrap_u64, Nat.mod_eq_of_lt h2]
  have hlt1 : ((n / 64 : Nat) : Int) < 64 := by omega
  have HS := Lib.hid (fun (u : Value) => Blk.set_ (w := w.drew) H1.out (n / 64) u)
  have HF := Lib.hid (fun (u : Value) => ((Fr.refl (fun k => k = g) w).drew).setCell (p := ⟨g, n / 64, none⟩) (.inl rfl) u)
  have HA := Lib.hid (show addW ws n = ws.set (n / 64) (gw ws (n / 64) ||| 2 ^ (n % 64)) from rfl)
  generalize hq : n / 64 = q at *
  generalize hr : n % 64 = r at *
  generalize gw ws q = v at *
  clear h
  go_enter Tryd.func89, Tryd.ntmps89
  go_region_law (fail)
  all_goals
    go_end0
    refine ⟨rfl, ?_, HF.out _⟩
    have := HS.out (.int .u64 ((v ||| 2 ^ r : Nat) : Int))
    unfold WB
    rw [HA.out]
    have e : wordsV (ws.set q (v ||| 2 ^ r)) = (wordsV ws).setIfInBounds q (.int .u64 ((v ||| 2 ^ r : Nat) : Int)) := by
      unfold wordsV; rw [List.map_set]; simp
    rw [e]
    exact this
end Go.Proofs.YtipkicijfedfoaaDoor

namespace Go.Proofs.YtipkicijfedfoaaDoor
set_option linter.unusedVariables false
open Go.RowKit Go.Own Go.Quo Go.Inc
def wordsL (ws : List Nat) : List Value := ws.map (fun n : Nat => Value.int .u64 (n : Int))
theorem info115 : (Tryd.prog.info? 115).map (fun i => (i.size, i.bytes)) = some (64, 512) := by kernel_rfl
theorem size115 {ws : List Nat} (hl : ws.length = 64) : (Tryd.prog.info? 115).map (·.size) = some (wordsL ws).length := by
  have h := info115
  unfold wordsL
  rw [List.length_map, hl]
  cases hq : Tryd.prog.info? 115 with
  | none => rw [hq] at h; cases h
  | some i => rw [hq] at h; simp at h; simp [h.1]
theorem WB.range {w : World} {g : Nat} {ws : List Nat} (h : WB w g ws) : w.rangeAt g 0 (wordsL ws) := fun j v hv => by
  rw [Nat.zero_add, Blk.cell h]
  unfold wordsV
  unfold wordsL at hv
  simpa using hv
/-- a load of a whole bitmap -/
theorem run_load115 {w : World} {g : Nat} {ws : List Nat} (h : WB w g ws) (hl : ws.length = 64) : (loadVar 115 ⟨g, 0, none⟩).run Tryd.prog w = .ok (.agg (wordsV ws)) w :=
  run_loadVar_mid w g 0 115 (wordsL ws) _ h.range Tryd.underlying115 rfl (size115 hl)
theorem info115z : (Tryd.prog.info? 115).map (fun i => (i.zero, i.size, i.bytes)) = some (some (.agg (List.replicate 64 (Value.int .u64 0)).toArray), 64, 512) := by kernel_rfl
theorem words_one (ws : List Nat) : ∀ u ∈ (wordsL ws).toArray.toList, u.oneCell' = true := by
  intro u hu
  unfold wordsL at hu
  simp at hu
  obtain ⟨x, -, rfl⟩ := hu
  rfl
set_option maxRecDepth 10000 in
set_option maxHeartbeats 2000000 in
theorem bitmap91 (g : Nat) (ws : List Nat) (w : World) (h : WB w g ws) (hl : ws.length = 64) : Calls Tryd.prog 91 #[.agg #[.pointer (some ⟨g, 0, none⟩)]] w (fun e w' => e = .returned (.agg (wordsV ws)) ∧ Below w.heap.size w w') := by
  have HR := Lib.hid (fun (W : World) (hb : Below w.heap.size w W) => WB.range (show WB W g ws from Blk.below h hb h.lt))
  have hr := fun (o : Obj) (o' : Obj) => HR.out ((w.alloc o).alloc o') (((Below.refl _ w).alloc (Nat.le_refl _) _).alloc (by simp) _)
  have hsz := size115 hl
  have HX := Lib.hid (Blk.new w 96 #[.pointer (some ⟨g, 0, none⟩)])
  have hBn := fun (o : Obj) (cs : Array Value) => (show Blk ((w.alloc o).alloc (.cells cs 115)) (w.heap.size + 1) 115 cs from by have := Blk.new (w.alloc o) 115 cs; simpa using this)
  have h1 := words_one ws
  have hwl : (wordsL ws).toArray.size = 64 := by unfold wordsL; simp [hl]
  have HB := Lib.hid (fun (o o' : Obj) => (((Below.refl w.heap.size w).alloc (Nat.le_refl _) o).alloc (by simp) o'))
  clear h
  go_enter Tryd.func91, Tryd.ntmps91
  obtain ⟨x0, x1, x2⟩ := HX.out.facts
  go_wp2_with (first | (refine wpList_load_mid rfl 115 _ rfl g 0 rfl (wordsL ws) _ (hr _ _) Tryd.underlying115 rfl hsz ?_) | (refine wpList_storeBlk rfl (.tmp 2) (.tmp 10) 115 rfl (w.heap.size + 1) 115 _ (wordsL ws).toArray _ 64 512 info115z rfl rfl hwl.symm (hBn _ _) (by rw [hwl]; rfl) h1 ?_; intro w5 hb5 hf5 hs5))
  have hsz' : (Tryd.prog.info? 115).map (·.size) = some (wordsV ws).size := by rw [hsz]; simp [wordsV, wordsL]
  refine bodyPost_ret (results_cell_row (p := 2) (ty := 115) Tryd.results91 _ w5 (w.heap.size + 1) 115 (wordsV ws) (0, 0) _ rfl hb5 Tryd.underlying115 rfl hsz') rfl ⟨rfl, ?_⟩
  exact (HB.out _ _).trans (hf5.below (by simp; omega) (fun k hk e => by omega))
end Go.Proofs.YtipkicijfedfoaaDoor

namespace Go.Proofs.YtipkicijfedfoaaDoor
set_option linter.unusedVariables false
open Go.RowKit Go.Own Go.Quo Go.Inc
theorem info104 : (Tryd.prog.info? 104).map (fun i => (i.zero, i.size, i.bytes)) = some (some (.int .u64 0), 1, 8) := by kernel_rfl
theorem cells104 : Tryd.prog.cellsOf 104 = 1 := by kernel_rfl
theorem eqItems_words (ws : List Nat) (hl : ws.length = 64) (zs : List Value) (hzs : ∀ i, i < 64 → zs[i]? = some (.int .u64 0)) (W : World) : ∀ is : List Nat, (∀ i ∈ is, i < 64) → (Op.eqItems 9999 104 (Tryd.prog.cellsOf 104) (wordsL ws).toArray zs.toArray is).run Tryd.prog W = .ok (is.all fun i => gw ws i == 0) W
  | [], _ => by simp [Op.eqItems]
  | j :: is, h => by
    have hj := h j (by simp)
    have ih := eqItems_words ws hl zs hzs W is (fun i hi => h i (by simp [hi]))
    have p1 : (part 104 (wordsL ws).toArray (j * Tryd.prog.cellsOf 104)).run Tryd.prog W = .ok (.int .u64 (gw ws j : Nat)) W := by
      have hg : (wordsL ws)[j]? = some (.int .u64 (gw ws j : Nat)) := by
        unfold wordsL gw
        rw [List.getElem?_map, List.getD_eq_getElem?_getD, List.getElem?_eq_getElem (by omega)]
        rfl
      rw [cells104, Nat.mul_one]
      simp [part, Tryd.isAgg104, hg]
    have p2 : (part 104 zs.toArray (j * Tryd.prog.cellsOf 104)).run Tryd.prog W = .ok (.int .u64 0) W := by
      have hg := hzs j hj
      rw [cells104, Nat.mul_one]
      simp [part, Tryd.isAgg104, hg]
    simp only [Op.eqItems, Sem.run_bind, p1, p2, Result.andThen_ok, run_equalIn_int _ _ _ _ _ _ _ Tryd.underlying104]
    by_cases hz : gw ws j = 0
    · simp [hz, ih]
    · have : ((gw ws j : Int) == 0) = false := by simpa using hz
      simp [hz]
theorem eq_words (ws : List Nat) (hl : ws.length = 64) (zs : List Value) (hzs : ∀ i, i < 64 → zs[i]? = some (.int .u64 0)) (W : World) : (Op.equalIn 10000 115 (.agg (wordsL ws).toArray) (.agg zs.toArray)).run Tryd.prog W = .ok ((List.range 64).all fun i => gw ws i == 0) W := by
  obtain ⟨i, hi, -⟩ := info_parts info104
  rw [run_equalIn_array W 9999 _ _ Tryd.underlying115 hi]
  exact eqItems_words ws hl zs hzs W _ (fun i hi => List.mem_range.1 hi)
def zeroW (ws : List Nat) : Bool := (List.range 64).all fun i => gw ws i == 0
set_option maxRecDepth 10000 in
set_option maxHeartbeats 2000000 in
theorem setOf90 (g : Nat) (ws : List Nat) (w : World) (h : WB w g ws) (hl : ws.length = 64) :
    Calls Tryd.prog 90 #[.pointer (some ⟨g, 0, none⟩)] w (fun e w' => e = .returned (.agg #[.pointer (if zeroW ws = true then none else some ⟨g, 0, none⟩)]) ∧ Below w.heap.size w w') := by
  have HR := Lib.hid (fun (W : World) (hb : Below w.heap.size w W) => WB.range (show WB W g ws from Blk.below h hb h.lt))
  have hr := fun (o : Obj) => HR.out (w.alloc o) ((Below.refl _ w).alloc (Nat.le_refl _) _)
  have hsz := size115 hl
  have heq := fun W => eq_words ws hl (List.replicate 64 (Value.int .u64 0)) (fun i hi => by rw [List.getElem?_replicate, if_pos hi]) W
  simp only [List.replicate_succ, List.replicate_zero] at heq
  have hng : Tryd.prog.eqGuardType Tryd.prog.depth 115 = false := by kernel_rfl
  have HB := Lib.hid (fun (u : Value) => (((Fr.refl (fun _ => False) w).alloc (.cells #[.pointer none] 96)).setCell (p := ⟨w.heap.size, 0, none⟩) (.inr (Nat.le_refl _)) u).below (B := w.heap.size) (Nat.le_refl _) (fun _ _ => id))
  have HB0 := Lib.hid ((Below.refl w.heap.size w).alloc (Nat.le_refl _))
  change ∀ W, Sem.run _ _ _ = .ok (zeroW ws) W at heq
  clear h
  cases hq : zeroW ws with
  | false =>
    rw [hq] at heq
    go_enter Tryd.func90, Tryd.ntmps90
    go_wp2_with (refine wpList_load_mid rfl 115 _ rfl g 0 rfl (wordsL ws) _ (hr _) Tryd.underlying115 rfl hsz ?_)
    refine bodyPost_ret (v := .agg #[.pointer (some ⟨g, 0, none⟩)]) (by simp [results, Tryd.results90, go_sem]) rfl ⟨by simp, ?_⟩
    first | exact HB.out _ | exact HB0.out _
  | true =>
    rw [hq] at heq
    go_enter Tryd.func90, Tryd.ntmps90
    go_wp2_with (refine wpList_load_mid rfl 115 _ rfl g 0 rfl (wordsL ws) _ (hr _) Tryd.underlying115 rfl hsz ?_)
    refine bodyPost_ret (v := .agg #[.pointer none]) (by simp [results, Tryd.results90, go_sem]) rfl ⟨by simp, ?_⟩
    first | exact HB.out _ | exact HB0.out _
end Go.Proofs.YtipkicijfedfoaaDoor

namespace Go.Inc
/-- the nodes among the numbers of a list -/
def nodesOf (l : List Int) : List Nat := (l.filter (fun n => decide (0 ≤ n) && decide (n < 4096))).map Int.toNat
theorem nodesOf_snoc (l : List Int) (n : Int) : nodesOf (l ++ [n]) = if 0 ≤ n ∧ n < 4096 then nodesOf l ++ [n.toNat] else nodesOf l := by
  unfold nodesOf
  rw [List.filter_append, List.map_append]
  by_cases h : 0 ≤ n ∧ n < 4096
  · rw [if_pos h]; simp [h.1, h.2]
  · rw [if_neg h]
    have : (decide (0 ≤ n) && decide (n < 4096)) = false := by simp; omega
    simp [this]
theorem ofW_snoc (l : List Nat) (n : Nat) : ofW (l ++ [n]) = addW (ofW l) n := by unfold ofW; rw [List.foldl_append]; rfl
theorem nodesOf_lt {l : List Int} : ∀ n ∈ nodesOf l, n < 4096 := fun n hn => by
  unfold nodesOf at hn
  obtain ⟨x, hx, rfl⟩ := List.mem_map.1 hn
  have := (List.mem_filter.1 hx).2
  simp at this
  omega
theorem ofW_word {l : List Nat} (h : ∀ n ∈ l, n < 4096) : ∀ i, gw (ofW l) i < 2 ^ 64 := by
  have : ∀ (l : List Nat) (ws : List Nat), ws.length = 64 → (∀ n ∈ l, n < 4096) → (∀ i, gw ws i < 2 ^ 64) → ∀ i, gw (l.foldl addW ws) i < 2 ^ 64 := by
    intro l
    induction l with
    | nil => intro ws _ _ h i; exact h i
    | cons a r ih =>
      intro ws hw hl h i
      refine ih (addW ws a) (by rw [addW_len, hw]) (fun n hn => hl n (by simp [hn])) (fun i => ?_) i
      have ha := hl a (by simp)
      unfold addW
      rw [gw_set _ _ _ _ (by rw [hw]; omega)]
      split
      · exact Nat.or_lt_two_pow (h _) (Nat.pow_lt_pow_right (by omega) (by omega))
      · exact h i
  refine this l _ (by simp) h (fun i => ?_)
  unfold gw
  rw [List.getD_eq_getElem?_getD, List.getElem?_replicate]
  split <;> simp
end Go.Inc

namespace Go.Proofs.YtipkicijfedfoaaDoor
set_option linter.unusedVariables false
open Go.RowKit Go.Own Go.Quo Go.Inc
def SetPost (ws : List Nat) (w : World) (e : Ending) (w' : World) : Prop := ∃ g, w.heap.size ≤ g ∧ e = .returned (.agg #[.pointer (if zeroW ws = true then none else some ⟨g, 0, none⟩)]) ∧ WB w' g ws ∧ Below w.heap.size w w'
set_option maxRecDepth 10000 in
set_option maxHeartbeats 4000000 in
theorem of75 (B : Nat → Prop) (A : Option Addr) (c : Nat) (l : List Int) (w : World) (h : RI w B A l) (hl : l.length ≤ 100000) : Calls Tryd.prog 75 #[.slice A l.length c] w (SetPost (ofW (nodesOf l)) w) := by
  have hp := h.plain (by omega)
  have HR := Lib.hid ((h.old (by omega)).more (B' := fun k => k < w.heap.size) (fun k hk => hk.2))
  have HZ := Lib.hid (show WB ((w.alloc (.cells #[.pointer none] 96)).alloc (.cells (List.replicate 64 (Value.int .u64 0)).toArray 115)) (w.heap.size + 1) (ofW (nodesOf (l.take 0))) from by
    have := Blk.new (w.alloc (.cells #[.pointer none] 96)) 115 (List.replicate 64 (Value.int .u64 0)).toArray
    unfold WB wordsV
    simpa [nodesOf, ofW, List.map_replicate] using this)
  have HX := Lib.hid (show Blk ((w.alloc (.cells #[.pointer none] 96)).alloc (.cells (List.replicate 64 (Value.int .u64 0)).toArray 115)) w.heap.size 96 #[.pointer none] from (Blk.new w 96 _).alloc _)
  have HB := Lib.hid (((Below.refl w.heap.size w).alloc (Nat.le_refl _) (.cells #[.pointer none] 96)).alloc (by simp) (.cells (List.replicate 64 (Value.int .u64 0)).toArray 115))
  have HAd := Lib.hid (fun (k : Nat) (n : Nat) (hn : n < 4096) (W : World) (hW : WB W (w.heap.size + 1) (ofW (nodesOf (l.take k)))) => add89 (w.heap.size + 1) _ n hn W hW (ofW_len nodesOf_lt) (ofW_word nodesOf_lt))
  simp only [List.replicate_succ, List.replicate_zero] at HZ HX HB
  clear h
  go_enter Tryd.func75, Tryd.ntmps75
  go_wp2_with fail
  generalize (w.alloc (.cells #[.pointer none] 96)).alloc _ = W2 at *
  have HS := Lib.hid (fun (W : World) (hW : WB W (w.heap.size + 1) (ofW (nodesOf l))) => setOf90 (w.heap.size + 1) _ W hW (ofW_len nodesOf_lt))
  go_loopw [8] (fun vi wr => ∃ (k : Nat), k ≤ l.length ∧ vi = .int .i64 k ∧ WB wr (w.heap.size + 1) (ofW (nodesOf (l.take k))) ∧ Blk wr w.heap.size 96 #[.pointer none] ∧ Below w.heap.size w wr) (fun vi _ => l.length - (intOf vi).toNat)
  case atStart => exact ⟨0, Nat.zero_le _, rfl, HZ.out, HX.out, HB.out⟩
  case round =>
    obtain ⟨k, hk, rfl, hz, hx, hbel⟩ := hrel
    have HZr := Lib.hid hz
    have HXr := Lib.hid hx
    have HBr := Lib.hid hbel
    clear hz hx hbel
    by_cases hlt : k < l.length
    · have hlt' : (k : Int) < l.length := by omega
      have hix := fun W => ix22 hp c k hlt W
      have hc := ri_cell (HR.out.below HBr.out (fun _ h => h)) hlt
      have HTk := Lib.hid (show nodesOf (l.take (k + 1)) = if 0 ≤ gd l k ∧ gd l k < 4096 then nodesOf (l.take k) ++ [(gd l k).toNat] else nodesOf (l.take k) by
        rw [List.take_add_one, List.getElem?_eq_getElem hlt, ← nodesOf_snoc, gd_get hlt]; rfl)
      by_cases h0 : 0 ≤ gd l k ∧ gd l k < 4096
      · obtain ⟨n, hn⟩ : ∃ n : Nat, gd l k = n := ⟨(gd l k).toNat, by omega⟩
        rw [hn] at hc h0
        have HT2 := Lib.hid (show ofW (nodesOf (l.take (k + 1))) = addW (ofW (nodesOf (l.take k))) n by
          rw [HTk.out, hn, if_pos h0, ofW_snoc]; rfl)
        have HA := Lib.hid (HAd.out k n (by omega) wr HZr.out)
        have d2 : decide ((n : Int) < 4096) = true := by simp; omega
        have d2n : n < 4096 := by omega
        clear h0 hn HTk
        go_wp2_with (go_at_call 89; ((with_reducible refine HA.out.mono ?_); rintro e w3 ⟨rfl, hz3, hf3⟩))
        refine ⟨⟨k + 1, by omega, by go_num, by rw [HT2.out]; exact hz3, HXr.out.fr hf3 (by omega), HBr.out.trans (hf3.below HBr.out.size (fun k hk e => by omega))⟩, by simp [intOf]; omega⟩
      · have HT2 := Lib.hid (show ofW (nodesOf (l.take (k + 1))) = ofW (nodesOf (l.take k)) by rw [HTk.out, if_neg h0])
        by_cases h1 : 0 ≤ gd l k
        · have d2 : decide (gd l k < 4096) = false := by simp; omega
          have d1 : decide (0 ≤ gd l k) = true := by simpa using h1
          clear h0 h1 HTk
          generalize gd l k = v at *
          go_wp2_with fail
          exact ⟨⟨k + 1, by omega, by go_num, by rw [HT2.out]; exact HZr.out, HXr.out, HBr.out⟩, by simp [intOf]; omega⟩
        · have d1 : decide (0 ≤ gd l k) = false := by simpa using h1
          clear h0 h1 HTk
          generalize gd l k = v at *
          go_wp2_with fail
          exact ⟨⟨k + 1, by omega, by go_num, by rw [HT2.out]; exact HZr.out, HXr.out, HBr.out⟩, by simp [intOf]; omega⟩
    · have hlt' : ¬ (k : Int) < l.length := by omega
      have he : k = l.length := by omega
      subst he
      have HZl := Lib.hid (show WB wr (w.heap.size + 1) (ofW (nodesOf l)) by have := HZr.out; rwa [List.take_length] at this)
      have hsr := HBr.out.size
      have hgl := HZl.out.lt
      have hxl := HXr.out.lt
      cases hzz : zeroW (ofW (nodesOf l)) with
      | false =>
        rw [hzz] at HS
        go_wp2_with (go_at_call 90; ((with_reducible refine (HS.out _ HZl.out).mono ?_); rintro e w3 ⟨rfl, hb3⟩; have HX3 := Lib.hid (HXr.out.below hb3 hxl); have HZ3 := Lib.hid (show WB w3 _ _ from Blk.below HZl.out hb3 hgl); have HB3 := Lib.hid (HBr.out.trans (hb3.mono hsr)); obtain ⟨x0, x1, x2⟩ := HX3.out.facts))
        have HF := Lib.hid (fun (u : Value) => (((Fr.of_below HB3.out (S := fun _ => False)).setCell (p := ⟨w.heap.size, 0, none⟩) (.inr (Nat.le_refl _)) u).below (B := w.heap.size) (Nat.le_refl _) (fun _ _ => id)))
        have HW := Lib.hid (fun (u : Value) => Blk.far (p := ⟨w.heap.size, 0, none⟩) HZ3.out (by simp) u)
        have hc3 : (w3.cell? ⟨w.heap.size, 0, none⟩).isSome = true := by rw [x1]; rfl
        refine bodyPost_ret (v := .agg #[.pointer (some ⟨w.heap.size + 1, 0, none⟩)]) (by simp [results, Tryd.results75, go_sem, hc3]) rfl ⟨w.heap.size + 1, by omega, by simp [hzz], HW.out _, HF.out _⟩
      | true =>
        rw [hzz] at HS
        go_wp2_with (go_at_call 90; ((with_reducible refine (HS.out _ HZl.out).mono ?_); rintro e w3 ⟨rfl, hb3⟩; have HX3 := Lib.hid (HXr.out.below hb3 hxl); have HZ3 := Lib.hid (show WB w3 _ _ from Blk.below HZl.out hb3 hgl); have HB3 := Lib.hid (HBr.out.trans (hb3.mono hsr)); obtain ⟨x0, x1, x2⟩ := HX3.out.facts))
        have HF := Lib.hid (fun (u : Value) => (((Fr.of_below HB3.out (S := fun _ => False)).setCell (p := ⟨w.heap.size, 0, none⟩) (.inr (Nat.le_refl _)) u).below (B := w.heap.size) (Nat.le_refl _) (fun _ _ => id)))
        have HW := Lib.hid (fun (u : Value) => Blk.far (p := ⟨w.heap.size, 0, none⟩) HZ3.out (by simp) u)
        have hc3 : (w3.cell? ⟨w.heap.size, 0, none⟩).isSome = true := by rw [x1]; rfl
        refine bodyPost_ret (v := .agg #[.pointer none]) (by simp [results, Tryd.results75, go_sem, hc3]) rfl ⟨w.heap.size + 1, by omega, by simp [hzz], HW.out _, HF.out _⟩
end Go.Proofs.YtipkicijfedfoaaDoor

namespace Go.Inc
open Go.Quo
/-! ### Deriving an incident from calls, plain -/
def bothL (a b : List Int) : List Int := a.filter (fun n => hasB b n)
def furP (x : Ic) (c : Cr) : Ic :=
  { x with
    urg := if c.urg < x.urg then c.urg else x.urg
    code := if c.urg < x.urg then c.code else x.code
    nodes := if 0 < (bothL x.nodes c.nodes).length then bothL x.nodes c.nodes else x.nodes
    since := min x.since c.since
    calls := x.calls ++ [c.call] }
def firP (x : Ic) (c : Cr) : Ic := { x with urg := c.urg, code := c.code, nodes := c.nodes, since := c.since, calls := [c.call] }
def putK (l : List Int) (n : Int) : Nat := (l.takeWhile (fun a => decide (a < n))).length
def putL (l : List Int) (n : Int) : List Int := l.take (putK l n) ++ n :: l.drop (putK l n)
theorem incB_pw {l : List Int} {lo hi : Int} : incB l lo hi = true ↔ l.Pairwise (fun a b => a < b) ∧ ∀ n ∈ l, lo ≤ n ∧ n ≤ hi := by
  constructor
  · intro h
    refine ⟨?_, fun n hn => ?_⟩
    · rw [List.pairwise_iff_getElem]
      intro i j hi hj hij
      have := incB_lt h i j hij hj
      rw [gd_get hi, gd_get hj] at this
      exact this
    · obtain ⟨i, hi, rfl⟩ := List.mem_iff_getElem.1 hn
      have := incB_le h hi
      rw [gd_get hi] at this
      exact this
  · rintro ⟨h1, h2⟩
    rw [incB_iff]
    intro i hi
    have h3 := h2 _ (List.getElem_mem hi)
    unfold incAt
    rw [gd_get hi]
    simp only [Bool.and_eq_true, Bool.or_eq_true, decide_eq_true_eq]
    refine ⟨h3, ?_⟩
    by_cases h0 : i = 0
    · exact .inl h0
    · right
      rw [gd_get (by omega)]
      exact (List.pairwise_iff_getElem.1 h1) (i - 1) i (by omega) hi (by omega)
theorem incB_sub {l k : List Int} {lo hi : Int} (h : incB l lo hi = true) (hs : k.Sublist l) : incB k lo hi = true := by
  rw [incB_pw] at h ⊢
  exact ⟨h.1.sublist hs, fun n hn => h.2 n (hs.mem hn)⟩
theorem bothL_sub (a b : List Int) : (bothL a b).Sublist a := List.filter_sublist
theorem mem_bothL {a b : List Int} {n : Int} : n ∈ bothL a b ↔ n ∈ a ∧ n ∈ b := by
  unfold bothL hasB
  rw [List.mem_filter, List.contains_iff_mem]
/-- what the sets of nodes have in common is what the lists have in common -/
theorem nodesOf_map {l : List Int} (h : incB l 0 4095 = true) : (nodesOf l).map (fun n : Nat => (n : Int)) = l := by
  have h2 := (incB_pw.1 h).2
  unfold nodesOf
  rw [List.filter_eq_self.2 (fun n hn => by have := h2 n hn; simp; omega), List.map_map]
  conv => rhs; rw [← List.map_id l]
  refine List.map_congr_left (fun n hn => ?_)
  have := h2 n hn
  simp only [Function.comp_apply, id_eq]
  omega
theorem nodesOf_pw {l : List Int} (h : incB l 0 4095 = true) : (nodesOf l).Pairwise (fun a b => a < b) := by
  have h1 := (incB_pw.1 h).1
  have e := nodesOf_map h
  rw [← e, List.pairwise_map] at h1
  exact h1.imp (fun h => by omega)
theorem mem_nodesOf {l : List Int} (h : incB l 0 4095 = true) (n : Nat) : n ∈ nodesOf l ↔ (n : Int) ∈ l := by
  have e := nodesOf_map h
  constructor
  · intro hn; rw [← e]; exact List.mem_map_of_mem hn
  · intro hn
    rw [← e] at hn
    obtain ⟨m, hm, hmn⟩ := List.mem_map.1 hn
    have : m = n := by omega
    exact this ▸ hm
def commonN (a b : List Int) : List Int := (listW (andW (ofW (nodesOf a)) (ofW (nodesOf b)))).map (fun n : Nat => (n : Int))
theorem commonN_eq {a b : List Int} (ha : incB a 0 4095 = true) (hb : incB b 0 4095 = true) : commonN a b = bothL a b := by
  unfold commonN
  rw [common_eq (nodesOf_pw ha) nodesOf_lt nodesOf_lt]
  have e := nodesOf_map ha
  have e2 : bothL a b = ((nodesOf a).map (fun n : Nat => (n : Int))).filter (fun n => hasB b n) := by rw [e]; rfl
  rw [e2, List.filter_map]
  congr 1
  refine List.filter_congr (fun n _ => ?_)
  unfold hasB
  rw [Bool.eq_iff_iff, decide_eq_true_eq, mem_nodesOf hb]
  simp
/-! ### Calls in order -/
def leC (a b : Cr) : Prop := a.since < b.since ∨ a.since = b.since ∧ a.call ≤ b.call
def ltC (a b : Cr) : Prop := a.since < b.since ∨ a.since = b.since ∧ a.call < b.call
instance (a b : Cr) : Decidable (ltC a b) := by unfold ltC; infer_instance
theorem not_ltC {a b : Cr} : ¬ ltC a b ↔ leC b a := by unfold ltC leC; omega
def insK (l : List Cr) (t : Cr) : Nat := (l.takeWhile (fun a => decide (ltC a t))).length
def insL (l : List Cr) (t : Cr) : List Cr := l.take (insK l t) ++ t :: l.drop (insK l t)
def sortC (l : List Cr) : List Cr := l.foldl insL []
theorem dw_head {α : Type} (p : α → Bool) : ∀ (l : List α) (x : α) (r : List α), l.dropWhile p = x :: r → p x = false
  | [], x, r, h => by simp at h
  | a :: l, x, r, h => by
    rw [List.dropWhile_cons] at h
    by_cases ha : p a = true
    · rw [if_pos ha] at h; exact dw_head p l x r h
    · rw [if_neg ha] at h
      injection h with h1 h2
      subst h1; simpa using ha
theorem tw_mem {α : Type} {p : α → Bool} : ∀ {l : List α} {x : α}, x ∈ l.takeWhile p → p x = true
  | [], x, h => by simp at h
  | a :: l, x, h => by
    rw [List.takeWhile_cons] at h
    by_cases ha : p a = true
    · rw [if_pos ha] at h
      rcases List.mem_cons.1 h with rfl | h
      · exact ha
      · exact tw_mem h
    · rw [if_neg ha] at h; simp at h
theorem tw_take {α : Type} (p : α → Bool) (l : List α) : l.take (l.takeWhile p).length = l.takeWhile p := by
  conv => lhs; arg 2; rw [← List.takeWhile_append_dropWhile (p := p) (l := l)]
  rw [List.take_left']; rfl
theorem tw_drop {α : Type} (p : α → Bool) (l : List α) : l.drop (l.takeWhile p).length = l.dropWhile p := by
  conv => lhs; arg 2; rw [← List.takeWhile_append_dropWhile (p := p) (l := l)]
  rw [List.drop_left']; rfl
theorem insL_perm (l : List Cr) (t : Cr) : (insL l t).Perm (l ++ [t]) := by
  unfold insL
  refine List.perm_middle.trans ?_
  rw [List.take_append_drop]
  exact (List.perm_append_singleton t l).symm
theorem insL_sorted {l : List Cr} (h : l.Pairwise leC) (t : Cr) : (insL l t).Pairwise leC := by
  unfold insL insK
  rw [tw_take, tw_drop]
  rw [List.pairwise_append, List.pairwise_cons]
  have h1 := h
  rw [← List.takeWhile_append_dropWhile (p := fun a => decide (ltC a t)) (l := l), List.pairwise_append] at h1
  have hd : ∀ b ∈ l.dropWhile (fun a => decide (ltC a t)), leC t b := by
    intro b hb
    cases hc : l.dropWhile (fun a => decide (ltC a t)) with
    | nil => rw [hc] at hb; simp at hb
    | cons x r =>
      have hx : ¬ ltC x t := by
        have := dw_head _ l x r hc
        simpa using this
      rw [hc] at hb
      have hx2 := not_ltC.1 hx
      rcases List.mem_cons.1 hb with rfl | hb
      · exact hx2
      · have h2 := h1.2.1
        rw [hc, List.pairwise_cons] at h2
        have h3 := h2.1 b hb
        unfold leC at *; omega
  refine ⟨h1.1, ⟨hd, h1.2.1⟩, ?_⟩
  intro a ha b hb
  rcases List.mem_cons.1 hb with rfl | hb
  · have := tw_mem ha
    simp only [decide_eq_true_eq] at this
    unfold ltC at this; unfold leC; omega
  · exact h1.2.2 a ha b hb
theorem sortC_aux : ∀ (l a : List Cr), a.Pairwise leC → (l.foldl insL a).Pairwise leC ∧ (l.foldl insL a).Perm (a ++ l)
  | [], a, h => ⟨h, by simp⟩
  | c :: r, a, h => by
    obtain ⟨h1, h2⟩ := sortC_aux r (insL a c) (insL_sorted h c)
    refine ⟨h1, h2.trans ?_⟩
    have := (insL_perm a c).append_right r
    simpa using this
theorem sortC_sorted (l : List Cr) : (sortC l).Pairwise leC := (sortC_aux l [] List.Pairwise.nil).1
theorem sortC_perm (l : List Cr) : (sortC l).Perm l := by
  have := (sortC_aux l [] List.Pairwise.nil).2
  rw [List.nil_append] at this; exact this
theorem sortC_unique {l s : List Cr} (hd : (l.map (·.call)).Nodup) (hp : s.Perm l) (hs : s.Pairwise leC) : s = sortC l := by
  refine List.Perm.eq_of_pairwise (le := leC) (fun a b ha hb h1 h2 => ?_) hs (sortC_sorted l) (hp.trans (sortC_perm l).symm)
  have hc : a.call = b.call := by unfold leC at h1 h2; omega
  exact Own.inj_of_nodup_map (fun c : Cr => c.call) hd (hp.mem_iff.1 ha) ((sortC_perm l).mem_iff.1 hb) hc
/-! ### Calls put in order -/
theorem putL_perm (l : List Int) (n : Int) : (putL l n).Perm (l ++ [n]) := by
  unfold putL
  refine List.perm_middle.trans ?_
  rw [List.take_append_drop]
  exact (List.perm_append_singleton n l).symm
theorem putK_le (l : List Int) (n : Int) : putK l n ≤ l.length := (List.takeWhile_sublist _).length_le
theorem putL_sorted {l : List Int} (h : l.Pairwise (fun a b => a < b)) {n : Int} (hn : n ∉ l) : (putL l n).Pairwise (fun a b => a < b) := by
  unfold putL putK
  rw [tw_take, tw_drop]
  rw [List.pairwise_append, List.pairwise_cons]
  have h1 := h
  rw [← List.takeWhile_append_dropWhile (p := fun a => decide (a < n)) (l := l), List.pairwise_append] at h1
  have hd : ∀ b ∈ l.dropWhile (fun a => decide (a < n)), n < b := by
    intro b hb
    cases hc : l.dropWhile (fun a => decide (a < n)) with
    | nil => rw [hc] at hb; simp at hb
    | cons x r =>
      have hx : ¬ x < n := by
        have := dw_head _ l x r hc
        simpa using this
      have hxl : x ∈ l := (List.dropWhile_sublist (fun a => decide (a < n))).mem (by rw [hc]; simp)
      have hxn : x ≠ n := fun e => hn (e ▸ hxl)
      rw [hc] at hb
      rcases List.mem_cons.1 hb with rfl | hb
      · omega
      · have h2 := h1.2.1
        rw [hc, List.pairwise_cons] at h2
        have h3 := h2.1 b hb
        omega
  refine ⟨h1.1, ⟨hd, h1.2.1⟩, ?_⟩
  intro a ha b hb
  rcases List.mem_cons.1 hb with rfl | hb
  · have := tw_mem ha
    simpa using this
  · exact h1.2.2 a ha b hb
/-- place putK holds n just if n is in the list -/
theorem putK_has {l : List Int} (h : l.Pairwise (fun a b => a < b)) (n : Int) : (∃ _ : putK l n < l.length, gd l (putK l n) = n) ↔ n ∈ l := by
  constructor
  · rintro ⟨hk, e⟩
    rw [gd_get hk] at e
    exact e ▸ List.getElem_mem hk
  · intro hn
    have h1 := h
    rw [← List.takeWhile_append_dropWhile (p := fun a => decide (a < n)) (l := l), List.pairwise_append] at h1
    have hn2 : n ∈ l.dropWhile (fun a => decide (a < n)) := by
      have := hn
      rw [← List.takeWhile_append_dropWhile (p := fun a => decide (a < n)) (l := l), List.mem_append] at this
      rcases this with h2 | h2
      · have := tw_mem h2; simp at this
      · exact h2
    cases hc : l.dropWhile (fun a => decide (a < n)) with
    | nil => rw [hc] at hn2; simp at hn2
    | cons x r =>
      have hx : ¬ x < n := by
        have := dw_head _ l x r hc
        simpa using this
      have hxn : x = n := by
        rw [hc] at hn2
        rcases List.mem_cons.1 hn2 with e | h2
        · exact e.symm
        · have h3 := h1.2.1
          rw [hc, List.pairwise_cons] at h3
          have := h3.1 n h2
          omega
      have hd := tw_drop (fun a => decide (a < n)) l
      rw [hc] at hd
      have hk : putK l n < l.length := by
        unfold putK
        rcases Nat.lt_or_ge (l.takeWhile (fun a => decide (a < n))).length l.length with h2 | h2
        · exact h2
        · rw [List.drop_eq_nil_of_le h2] at hd; cases hd
      refine ⟨hk, ?_⟩
      rw [gd_get hk]
      have := List.getElem_cons_drop hk
      unfold putK at this
      rw [hd] at this
      injection this with e1 e2
      unfold putK
      rw [e1, hxn]
theorem pw_le_unique {s t : List Int} (hp : s.Perm t) (hs : s.Pairwise (fun a b => a ≤ b)) (ht : t.Pairwise (fun a b => a ≤ b)) : s = t :=
  List.Perm.eq_of_pairwise (le := fun a b : Int => a ≤ b) (fun a b _ _ h1 h2 => by omega) hs ht hp
end Go.Inc

import Derived.Test.YtipkicijfedfoaaDoorNod4
import Derived.Laws.StructEq
import Derived.ChangeKeysEq
namespace Go.Proofs.YtipkicijfedfoaaDoor
set_option linter.unusedVariables false
open Go.RowKit Go.Own Go.Quo Go.Inc
theorem info104 : (Tryd.prog.info? 104).map (fun i => (i.zero, i.size, i.bytes)) = some (some (.int .u64 0), 1, 8) := by kernel_rfl
theorem cells104 : Tryd.prog.cellsOf 104 = 1 := by kernel_rfl
theorem eqItems_words (ws : List Nat) (hl : ws.length = 64) (zs : List Value) (hzs : ∀ i, i < 64 → zs[i]? = some (.int .u64 0)) (W : World) : ∀ is : List Nat, (∀ i ∈ is, i < 64) → (Op.eqItems 9999 104 (Tryd.prog.cellsOf 104) (wordsL ws).toArray zs.toArray is).run Tryd.prog W = .ok (is.all fun i => gw ws i == 0) W
  | [], _ => by simp [Op.eqItems]
  | j :: is, h => by
    have hj := h j (by simp)
    have ih := eqItems_words ws hl zs hzs W is (fun i hi => h i (by simp [hi]))
    have p1 : (part 104 (wordsL ws).toArray (j * Tryd.prog.cellsOf 104)).run Tryd.prog W = .ok (.int .u64 (gw ws j : Nat)) W := by
      have hg : (wordsL ws)[j]? = some (.int .u64 (gw ws j : Nat)) := by
        unfold wordsL gw
        rw [List.getElem?_map, List.getD_eq_getElem?_getD, List.getElem?_eq_getElem (by omega)]
        rfl
      rw [cells104, Nat.mul_one]
      simp [part, Tryd.isAgg104, hg]
    have p2 : (part 104 zs.toArray (j * Tryd.prog.cellsOf 104)).run Tryd.prog W = .ok (.int .u64 0) W := by
      have hg := hzs j hj
      rw [cells104, Nat.mul_one]
      simp [part, Tryd.isAgg104, hg]
    simp only [Op.eqItems, Sem.run_bind, p1, p2, Result.andThen_ok, run_equalIn_int _ _ _ _ _ _ _ Tryd.underlying104]
    by_cases hz : gw ws j = 0
    · simp [hz, ih]
    · have : ((gw ws j : Int) == 0) = false := by simpa using hz
      simp [hz]
theorem eq_words (ws : List Nat) (hl : ws.length = 64) (zs : List Value) (hzs : ∀ i, i < 64 → zs[i]? = some (.int .u64 0)) (W : World) : (Op.equalIn 10000 115 (.agg (wordsL ws).toArray) (.agg zs.toArray)).run Tryd.prog W = .ok ((List.range 64).all fun i => gw ws i == 0) W := by
  obtain ⟨i, hi, -⟩ := info_parts info104
  rw [run_equalIn_array W 9999 _ _ Tryd.underlying115 hi]
  exact eqItems_words ws hl zs hzs W _ (fun i hi => List.mem_range.1 hi)
def zeroW (ws : List Nat) : Bool := (List.range 64).all fun i => gw ws i == 0
set_option maxRecDepth 10000 in
set_option maxHeartbeats 2000000 in
theorem setOf90 (g : Nat) (ws : List Nat) (w : World) (h : WB w g ws) (hl : ws.length = 64) :
    Calls Tryd.prog 90 #[.pointer (some ⟨g, 0, none⟩)] w (fun e w' => e = .returned (.agg #[.pointer (if zeroW ws = true then none else some ⟨g, 0, none⟩)]) ∧ Below w.heap.size w w') := by
  have HR := Lib.hid (fun (W : World) (hb : Below w.heap.size w W) => WB.range (show WB W g ws from Blk.below h hb h.lt))
  have hr := fun (o : Obj) => HR.out (w.alloc o) ((Below.refl _ w).alloc (Nat.le_refl _) _)
  have hsz := size115 hl
  have heq := fun W => eq_words ws hl (List.replicate 64 (Value.int .u64 0)) (fun i hi => by rw [List.getElem?_replicate, if_pos hi]) W
  simp only [List.replicate_succ, List.replicate_zero] at heq
  have hng : Tryd.prog.eqGuardType Tryd.prog.depth 115 = false := by kernel_rfl
  have HB := Lib.hid (fun (u : Value) => (((Fr.refl (fun _ => False) w).alloc (.cells #[.pointer none] 96)).setCell (p := ⟨w.heap.size, 0, none⟩) (.inr (Nat.le_refl _)) u).below (B := w.heap.size) (Nat.le_refl _) (fun _ _ => id))
  have HB0 := Lib.hid ((Below.refl w.heap.size w).alloc (Nat.le_refl _))
  change ∀ W, Sem.run _ _ _ = .ok (zeroW ws) W at heq
  clear h
  cases hq : zeroW ws with
  | false =>
    rw [hq] at heq
    go_enter Tryd.func90, Tryd.ntmps90
    go_wp2_with (refine wpList_load_mid rfl 115 _ rfl g 0 rfl (wordsL ws) _ (hr _) Tryd.underlying115 rfl hsz ?_)
    refine bodyPost_ret (v := .agg #[.pointer (some ⟨g, 0, none⟩)]) (by simp [results, Tryd.results90, go_sem]) rfl ⟨by simp, ?_⟩
    first | exact HB.out _ | exact HB0.out _
  | true =>
    rw [hq] at heq
    go_enter Tryd.func90, Tryd.ntmps90
    go_wp2_with (refine wpList_load_mid rfl 115 _ rfl g 0 rfl (wordsL ws) _ (hr _) Tryd.underlying115 rfl hsz ?_)
    refine bodyPost_ret (v := .agg #[.pointer none]) (by simp [results, Tryd.results90, go_sem]) rfl ⟨by simp, ?_⟩
    first | exact HB.out _ | exact HB0.out _
end Go.Proofs.YtipkicijfedfoaaDoor

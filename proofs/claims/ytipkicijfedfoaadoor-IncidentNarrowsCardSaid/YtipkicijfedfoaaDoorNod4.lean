import Derived.Test.YtipkicijfedfoaaDoorNod3
import Derived.Deep.MidRow
import Derived.Laws.Rows
namespace Go.Proofs.YtipkicijfedfoaaDoor
set_option linter.unusedVariables false
open Go.RowKit Go.Own Go.Quo Go.Inc
def wordsL (ws : List Nat) : List Value := ws.map (fun n : Nat => Value.int .u64 (n : Int))
theorem info115 : (Tryd.prog.info? 115).map (fun i => (i.size, i.bytes)) = some (64, 512) := by kernel_rfl
theorem size115 {ws : List Nat} (hl : ws.length = 64) : (Tryd.prog.info? 115).map (·.size) = some (wordsL ws).length := by
  have h := info115
  unfold wordsL
  rw [List.length_map, hl]
  cases hq : Tryd.prog.info? 115 with
  | none => rw [hq] at h; cases h
  | some i => rw [hq] at h; simp at h; simp [h.1]
theorem WB.range {w : World} {g : Nat} {ws : List Nat} (h : WB w g ws) : w.rangeAt g 0 (wordsL ws) := fun j v hv => by
  rw [Nat.zero_add, Blk.cell h]
  unfold wordsV
  unfold wordsL at hv
  simpa using hv
/-- a load of a whole bitmap -/
theorem run_load115 {w : World} {g : Nat} {ws : List Nat} (h : WB w g ws) (hl : ws.length = 64) : (loadVar 115 ⟨g, 0, none⟩).run Tryd.prog w = .ok (.agg (wordsV ws)) w :=
  run_loadVar_mid w g 0 115 (wordsL ws) _ h.range Tryd.underlying115 rfl (size115 hl)
theorem info115z : (Tryd.prog.info? 115).map (fun i => (i.zero, i.size, i.bytes)) = some (some (.agg (List.replicate 64 (Value.int .u64 0)).toArray), 64, 512) := by kernel_rfl
theorem words_one (ws : List Nat) : ∀ u ∈ (wordsL ws).toArray.toList, u.oneCell' = true := by
  intro u hu
  unfold wordsL at hu
  simp at hu
  obtain ⟨x, -, rfl⟩ := hu
  rfl
set_option maxRecDepth 10000 in
set_option maxHeartbeats 2000000 in
theorem bitmap91 (g : Nat) (ws : List Nat) (w : World) (h : WB w g ws) (hl : ws.length = 64) : Calls Tryd.prog 91 #[.agg #[.pointer (some ⟨g, 0, none⟩)]] w (fun e w' => e = .returned (.agg (wordsV ws)) ∧ Below w.heap.size w w') := by
  have HR := Lib.hid (fun (W : World) (hb : Below w.heap.size w W) => WB.range (show WB W g ws from Blk.below h hb h.lt))
  have hr := fun (o : Obj) (o' : Obj) => HR.out ((w.alloc o).alloc o') (((Below.refl _ w).alloc (Nat.le_refl _) _).alloc (by simp) _)
  have hsz := size115 hl
  have HX := Lib.hid (Blk.new w 96 #[.pointer (some ⟨g, 0, none⟩)])
  have hBn := fun (o : Obj) (cs : Array Value) => (show Blk ((w.alloc o).alloc (.cells cs 115)) (w.heap.size + 1) 115 cs from by have := Blk.new (w.alloc o) 115 cs; simpa using this)
  have h1 := words_one ws
  have hwl : (wordsL ws).toArray.size = 64 := by unfold wordsL; simp [hl]
  have HB := Lib.hid (fun (o o' : Obj) => (((Below.refl w.heap.size w).alloc (Nat.le_refl _) o).alloc (by simp) o'))
  clear h
  go_enter Tryd.func91, Tryd.ntmps91
  obtain ⟨x0, x1, x2⟩ := HX.out.facts
  go_wp2_with (first | (refine wpList_load_mid rfl 115 _ rfl g 0 rfl (wordsL ws) _ (hr _ _) Tryd.underlying115 rfl hsz ?_) | (refine wpList_storeBlk rfl (.tmp 2) (.tmp 10) 115 rfl (w.heap.size + 1) 115 _ (wordsL ws).toArray _ 64 512 info115z rfl rfl hwl.symm (hBn _ _) (by rw [hwl]; rfl) h1 ?_; intro w5 hb5 hf5 hs5))
  have hsz' : (Tryd.prog.info? 115).map (·.size) = some (wordsV ws).size := by rw [hsz]; simp [wordsV, wordsL]
  refine bodyPost_ret (results_cell_row (p := 2) (ty := 115) Tryd.results91 _ w5 (w.heap.size + 1) 115 (wordsV ws) (0, 0) _ rfl hb5 Tryd.underlying115 rfl hsz') rfl ⟨rfl, ?_⟩
  exact (HB.out _ _).trans (hf5.below (by simp; omega) (fun k hk e => by omega))
end Go.Proofs.YtipkicijfedfoaaDoor

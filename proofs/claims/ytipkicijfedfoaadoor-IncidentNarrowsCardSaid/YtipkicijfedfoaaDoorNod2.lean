import Derived.Test.YtipkicijfedfoaaDoorNod1
namespace Go.Proofs.YtipkicijfedfoaaDoor
set_option linter.unusedVariables false
open Go.RowKit Go.Own Go.Quo Go.Inc
/-- a bitmap: 64 words -/
def wordsV (ws : List Nat) : Array Value := (ws.map (fun n : Nat => Value.int .u64 (n : Int))).toArray
def WB (w : World) (g : Nat) (ws : List Nat) : Prop := Blk w g 115 (wordsV ws)
theorem WB.at_ {w : World} {g : Nat} {ws : List Nat} (h : WB w g ws) {i : Nat} (hi : i < ws.length) : w.cell? ⟨g, i, none⟩ = some (.int .u64 (gw ws i : Nat)) := by
  rw [Blk.cell h]
  unfold wordsV gw
  rw [List.getD_eq_getElem?_getD, List.getElem?_eq_getElem hi]
  simp [hi]
set_option maxRecDepth 10000 in
set_option maxHeartbeats 2000000 in
theorem len92 (g : Nat) (ws : List Nat) (w : World) (h : WB w g ws) (hl : ws.length = 64) : Calls Tryd.prog 92 #[.agg #[.pointer (some ⟨g, 0, none⟩)]] w (fun e w' => ∃ n : Int, 0 ≤ n ∧ n ≤ 8128 ∧ e = .returned (.int .i64 n) ∧ Below w.heap.size w w') := by
  have H1 := Lib.hid (show WB (w.alloc (.cells #[.pointer (some ⟨g, 0, none⟩)] 96)) g ws from Blk.alloc h _)
  have HB := Lib.hid ((Below.refl w.heap.size w).alloc (Nat.le_refl _) (.cells #[.pointer (some ⟨g, 0, none⟩)] 96))
  have HX := Lib.hid (Blk.new w 96 #[.pointer (some ⟨g, 0, none⟩)])
  have HO := Lib.hid (fun x W => ones114 x W)
  clear h
  go_enter Tryd.func92, Tryd.ntmps92
  obtain ⟨x0, x1, x2⟩ := HX.out.facts
  go_wp2_with fail
  generalize w.alloc (.cells #[.pointer (some ⟨g, 0, none⟩)] 96) = W at *
  clear x0 x1 x2
  go_loopw [3, 11] (fun vn vi wr => ∃ (k : Nat) (n : Int), k ≤ 64 ∧ vi = .int .i64 k ∧ vn = .int .i64 n ∧ 0 ≤ n ∧ n ≤ 127 * k ∧ wr = W) (fun _ vi _ => 64 - (intOf vi).toNat)
  case atStart => exact ⟨0, 0, Nat.zero_le _, rfl, rfl, by omega, by omega, rfl⟩
  case round =>
    obtain ⟨k, n, hk, rfl, rfl, h0, h1, rfl⟩ := hrel
    by_cases hlt : k < 64
    · have hlt' : (k : Int) < 64 := by omega
      have hc := H1.out.at_ (i := k) (by omega)
      generalize gw ws k = v at *
      go_wp2_with (go_at_call 114; ((with_reducible refine (HO.out _ _).mono ?_); rintro e w3 ⟨q, hq0, hq1, rfl, rfl⟩; have hw : IntKind.i64.wrap (n + q) = n + q := (IntWalk.i64_in _ (by omega))))
      exact ⟨⟨k + 1, n + q, by omega, by go_num, rfl, by omega, by omega, (by first | rfl | trivial)⟩, by simp [intOf]; omega⟩
    · have hlt' : ¬ (k : Int) < 64 := by omega
      go_wp2_with fail
      go_ret
      exact ⟨n, h0, by omega, rfl, HB.out⟩
end Go.Proofs.YtipkicijfedfoaaDoor

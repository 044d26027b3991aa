import Derived.Test.YtipkicijfedfoaaDoorMGD
import Derived.Test.YtipkicijfedfoaaDoorMGB
import Derived.Laws.Bits128
import Derived.Laws.Bits64b
namespace Go.Proofs.YtipkicijfedfoaaDoor
set_option linter.unusedVariables false
open Go.RowKit Go.Own Go.Quo Go.Inc
def tabL : List Nat := [0, 1, 56, 2, 57, 49, 28, 3, 61, 58, 42, 50, 38, 29, 17, 4, 62, 47, 59, 36, 45, 43, 51, 22, 53, 39, 33, 30, 24, 18, 12, 5, 63, 55, 48, 27, 60, 41, 37, 16, 46, 35, 44, 21, 52, 32, 23, 11, 54, 26, 40, 15, 34, 20, 31, 10, 25, 14, 19, 9, 13, 8, 7, 6]
/-- the table of the library lies in block 0 -/
def tabV : Array Value := (tabL.map (fun n : Nat => Value.int .u8 (n : Int))).toArray
def Tab (w : World) : Prop := 0 < w.heap.size ∧ ∀ i v, tabV[i]? = some v → w.cell? ⟨0, i, none⟩ = some v
theorem Tab.lt {w : World} (h : Tab w) : 0 < w.heap.size := h.1
theorem Tab.keep {w w' : World} (h : Tab w) (hs : 0 < w'.heap.size) (hb : w'.heap[0]? = w.heap[0]?) : Tab w' := ⟨hs, fun i v hv => (World.cell?_of_block (a := ⟨0, i, none⟩) hb).trans (h.2 i v hv)⟩
theorem Tab.below {w w' : World} {B : Nat} (h : Tab w) (hb : Below B w w') (hB : 0 < B) : Tab w' := h.keep (Nat.lt_of_lt_of_le h.1 hb.size) (hb.block 0 hB)
theorem Tab.fr {S : Nat → Prop} {w w' : World} (h : Tab w) (hf : Fr S w w') (hS : ¬ S 0) : Tab w' := h.keep (Nat.lt_of_lt_of_le h.1 hf.size) (hf.block 0 h.1 hS)
theorem Tab.alloc {w : World} (h : Tab w) (o : Obj) : Tab (w.alloc o) := h.keep (by simp) (Below.heap_alloc w o 0 h.1)
def tix (k : Nat) : Nat := 2 ^ k * 285870213051353865 % 18446744073709551616 / 288230376151711744
theorem tab_ok : ∀ k : Fin 64, tix k.val < 64 ∧ tabL[tix k.val]? = some k.val := by decide +kernel
theorem neg_u64 (x : Nat) (hx : x ≠ 0) (h : x < 2 ^ 64) : IntKind.u64.wrap (-(x : Int)) = ((2 ^ 64 - x : Nat) : Int) := by
  simp only [IntKind.wrap, IntKind.bits, IntKind.signed]
  simp
  omega
theorem wrap_u64 (n : Nat) : IntKind.u64.wrap (n : Int) = ((n % 18446744073709551616 : Nat) : Int) := by
  simp only [IntKind.wrap, IntKind.bits, IntKind.signed]
  rw [Int.natCast_emod]
  rfl
theorem iso_u64 (k m : Nat) (h64 : 2 ^ (k + 1) * m + 2 ^ k < 2 ^ 64) (x : Nat) (hx : x = 2 ^ (k + 1) * m + 2 ^ k) : bits .and .u64 (x : Int) (IntKind.u64.wrap (-(x : Int))) = ((2 ^ k : Nat) : Int) := by
  have hp : 0 < 2 ^ k := Nat.two_pow_pos k
  have hx0 : x ≠ 0 := by rw [hx]; omega
  have hlt : x < 2 ^ 64 := by rw [hx]; exact h64
  rw [neg_u64 x hx0 hlt]
  have h1 : x < 18446744073709551616 := hlt
  have h2 : 2 ^ 64 - x < 18446744073709551616 := by omega
  rw [bits_and_u64_nat _ _ h1 h2]
  congr 1
  rw [hx]
  exact low_iso h64
theorem tix_u64 (p : Nat) : IntKind.u64.wrap ((p : Int) * 285870213051353865) / 288230376151711744 = ((p * 285870213051353865 % 18446744073709551616 / 288230376151711744 : Nat) : Int) := by
  have : (p : Int) * 285870213051353865 = ((p * 285870213051353865 : Nat) : Int) := by simp
  rw [this, wrap_u64]
  generalize p * 285870213051353865 % 18446744073709551616 = y
  omega
set_option maxHeartbeats 1000000 in
theorem trail_aux (x k ti : Nat) (hk : k < 64) (hx : x ≠ 0) (w : World) (h1 : ti < 64) (hc : w.cell? ⟨0, ti, none⟩ = some (.int .u8 (k : Int))) (e3 : IntKind.u64.wrap (bits .and .u64 (x : Int) (IntKind.u64.wrap (-(x : Int))) * 285870213051353865) / 288230376151711744 = (ti : Int)) :
    Calls Tryd.prog 116 #[.int .u64 (x : Int)] w (fun e w' => e = .returned (.int .i64 (k : Int)) ∧ w' = w) := by
  have d0 : ((x : Int) == 0) = false := by simpa using hx
  have hw : IntKind.i64.wrap (k : Int) = k := IntWalk.i64_in _ (by omega)
  go_enter Tryd.func116, Tryd.ntmps116
  go_wp2_with fail
  go_ret
  exact ⟨by first | rfl | simp, rfl⟩
theorem tab_at {k : Nat} (hk : k < 64) : tix k < 64 ∧ tabL[tix k]? = some k := tab_ok ⟨k, hk⟩
/-- The number of zeros ahead of the lowest bit. -/
theorem trail116 (k m : Nat) (h64 : 2 ^ (k + 1) * m + 2 ^ k < 2 ^ 64) (x : Nat) (hx : x = 2 ^ (k + 1) * m + 2 ^ k) (hk : k < 64) (w : World) (ht : Tab w) :
    Calls Tryd.prog 116 #[.int .u64 (x : Int)] w (fun e w' => e = .returned (.int .i64 (k : Int)) ∧ w' = w) := by
  obtain ⟨t1, t2⟩ := tab_at hk
  have hp : 0 < 2 ^ k := Nat.two_pow_pos k
  refine trail_aux x k (tix k) hk (by rw [hx]; omega) w t1 ?_ ?_
  · refine ht.2 _ _ ?_
    unfold tabV
    simp [t2]
  · rw [iso_u64 k m h64 x hx, tix_u64]
    rfl
set_option maxHeartbeats 1000000 in
theorem ones114 (x : Nat) (w : World) : Calls Tryd.prog 114 #[.int .u64 (x : Int)] w (fun e w' => ∃ k : Int, 0 ≤ k ∧ k ≤ 127 ∧ e = .returned (.int .i64 k) ∧ w' = w) := by
  go_enter Tryd.func114, Tryd.ntmps114
  go_wp2_with fail
  go_ret
  refine ⟨_, ?_, ?_, rfl, rfl⟩
  · rw [i64_and127]; omega
  · rw [i64_and127]; omega
end Go.Proofs.YtipkicijfedfoaaDoor

namespace Go.Proofs.YtipkicijfedfoaaDoor
set_option linter.unusedVariables false
open Go.RowKit Go.Own Go.Quo Go.Inc
/-- a bitmap: 64 words -/
def wordsV (ws : List Nat) : Array Value := (ws.map (fun n : Nat => Value.int .u64 (n : Int))).toArray
def WB (w : World) (g : Nat) (ws : List Nat) : Prop := Blk w g 115 (wordsV ws)
theorem WB.at_ {w : World} {g : Nat} {ws : List Nat} (h : WB w g ws) {i : Nat} (hi : i < ws.length) : w.cell? ⟨g, i, none⟩ = some (.int .u64 (gw ws i : Nat)) := by
  rw [Blk.cell h]
  unfold wordsV gw
  rw [List.getD_eq_getElem?_getD, List.getElem?_eq_getElem hi]
  simp [hi]
set_option maxRecDepth 10000 in
set_option maxHeartbeats 2000000 in
theorem len92 (g : Nat) (ws : List Nat) (w : World) (h : WB w g ws) (hl : ws.length = 64) : Calls Tryd.prog 92 #[.agg #[.pointer (some ⟨g, 0, none⟩)]] w (fun e w' => ∃ n : Int, 0 ≤ n ∧ n ≤ 8128 ∧ e = .returned (.int .i64 n) ∧ Below w.heap.size w w') := by
  have H1 := Lib.hid (show WB (w.alloc (.cells #[.pointer (some ⟨g, 0, none⟩)] 96)) g ws from Blk.alloc h _)
  have HB := Lib.hid ((Below.refl w.heap.size w).alloc (Nat.le_refl _) (.cells #[.pointer (some ⟨g, 0, none⟩)] 96))
  have HX := Lib.hid (Blk.new w 96 #[.pointer (some ⟨g, 0, none⟩)])
  have HO := Lib.hid (fun x W => ones114 x W)
  clear h
  go_enter Tryd.func92, Tryd.ntmps92
  obtain ⟨x0, x1, x2⟩ := HX.out.facts
  go_wp2_with fail
  generalize w.alloc (.cells #[.pointer (some ⟨g, 0, none⟩)] 96) = W at *
  clear x0 x1 x2
  go_loopw [3, 11] (fun vn vi wr => ∃ (k : Nat) (n : Int), k ≤ 64 ∧ vi = .int .i64 k ∧ vn = .int .i64 n ∧ 0 ≤ n ∧ n ≤ 127 * k ∧ wr = W) (fun _ vi _ => 64 - (intOf vi).toNat)
  case atStart => exact ⟨0, 0, Nat.zero_le _, rfl, rfl, by omega, by omega, rfl⟩
  case round =>
    obtain ⟨k, n, hk, rfl, rfl, h0, h1, rfl⟩ := hrel
    by_cases hlt : k < 64
    · have hlt' : (k : Int) < 64 := by omega
      have hc := H1.out.at_ (i := k) (by omega)
      generalize gw ws k = v at *
      go_wp2_with (go_at_call 114; ((with_reducible refine (HO.out _ _).mono ?_); rintro e w3 ⟨q, hq0, hq1, rfl, rfl⟩; have hw : IntKind.i64.wrap (n + q) = n + q := (IntWalk.i64_in _ (by omega))))
      exact ⟨⟨k + 1, n + q, by omega, by go_num, rfl, by omega, by omega, (by first | rfl | trivial)⟩, by simp [intOf]; omega⟩
    · have hlt' : ¬ (k : Int) < 64 := by omega
      go_wp2_with fail
      go_ret
      exact ⟨n, h0, by omega, rfl, HB.out⟩
end Go.Proofs.YtipkicijfedfoaaDoor

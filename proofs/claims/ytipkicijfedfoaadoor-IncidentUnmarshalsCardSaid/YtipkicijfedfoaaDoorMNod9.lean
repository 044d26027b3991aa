import Derived.RangeFuncBox
import Derived.RangeFuncNested
import Derived.RangeFuncBound
import Derived.RangeFuncCalls
import Derived.RangeFuncLeaves
import Derived.Shelf.Abstract
import Derived.Shelf.RegionOpen
import Derived.WalkKit
import Derived.OwnWalkIn
import Derived.TacticsInMore
import Derived.LoopNIn
import Derived.LoopIn
import Derived.BigRegionIn
import Derived.Maps.AppendAt
import Derived.Test.YtipkicijfedfoaaDoorMNod8
namespace Go.Proofs.YtipkicijfedfoaaDoor
set_option linter.unusedVariables false
open Go.RowKit Go.Own Go.Quo Go.Inc Go.Shelf
attribute [local go_sem] Oper.semAt_some
/-- the nodes of the words from i on -/
def tailW (ws : List Nat) (i : Nat) : List Int := (List.range' i (64 - i)).flatMap (fun i => (bitsOf (gw ws i)).map (fun j => ((i * 64 + j : Nat) : Int)))
theorem tailW_succ (ws : List Nat) {i : Nat} (hi : i < 64) : tailW ws i = (bitsOf (gw ws i)).map (fun j => ((i * 64 + j : Nat) : Int)) ++ tailW ws (i + 1) := by
  unfold tailW
  rw [show 64 - i = (64 - (i + 1)) + 1 by omega, List.range'_succ, List.flatMap_cons]
theorem tailW_end (ws : List Nat) : tailW ws 64 = [] := by unfold tailW; simp
theorem tailW_all {ws : List Nat} (hl : ws.length = 64) : tailW ws 0 = (listW ws).map (fun n : Nat => (n : Int)) := by
  unfold tailW listW
  rw [hl, List.range_eq_range', List.map_flatMap]
  simp only [List.map_map]
  rfl
theorem clear_u64 (k m : Nat) (h64 : 2 ^ (k + 1) * m + 2 ^ k < 2 ^ 64) (x : Nat) (hx : x = 2 ^ (k + 1) * m + 2 ^ k) : bits .and .u64 (x : Int) (IntKind.u64.wrap ((x : Int) - 1)) = ((2 ^ (k + 1) * m : Nat) : Int) := by
  have hp : 0 < 2 ^ k := Nat.two_pow_pos k
  have hx0 : 0 < x := by rw [hx]; omega
  have hlt : x < 18446744073709551616 := by rw [hx]; exact h64
  have e : ((x : Int) - 1) = ((x - 1 : Nat) : Int) := by omega
  rw [e, wrap_u64, Nat.mod_eq_of_lt (by omega), bits_and_u64_nat _ _ hlt (by omega)]
  congr 1
  rw [hx]
  exact low_clear
set_option maxRecDepth 100000 in
set_option maxHeartbeats 2000000 in
/-- the iterator over the nodes of a set that is not empty -/
theorem each115 (n : Nat) (hn : 1 ≤ n) (l Bn n₀ g : Nat) (ws : List Nat) (hl : ws.length = 64) (hv : ∀ i, gw ws i < 2 ^ 64) (hg : g < n₀) (h0n : 0 < n₀) (B0 : Nat) (J Jx : List Int → World → Prop) (hJA : AbidesFrom B0 J)
    (hY : ∀ pre x W, J pre W → pre.length < (tailW ws 0).length → YieldAt Fence.wide (n - 1) Tryd.prog l #[.int .i64 x] W fun e W' =>
      (e = .returned (.bool true) ∧ J (pre ++ [x]) W' ∧ Below n₀ W W') ∨ (e = .returned (.bool false) ∧ Jx (pre ++ [x]) W'))
    (W : World) (hBn : W.cell? ⟨Bn, 0, none⟩ = some (.pointer (some ⟨g, 0, none⟩))) (hz : WB W g ws) (ht : Tab W) (h0 : J [] W) :
    CallsIn Fence.wide n Tryd.prog 115 #[.func (.yield l) #[] #[], .pointer (some ⟨Bn, 0, none⟩)] W fun e W' => (∃ v, e = .returned v) ∧
      ((∃ ys, ys = tailW ws 0 ∧ J ys W') ∨ (∃ pre, pre <+: tailW ws 0 ∧ Jx pre W')) := by
  have HZ := Lib.hid hz
  have HT := Lib.hid ht
  have HV := Lib.hid hv
  have HL := Lib.hid hl
  have HY := Lib.hid hY
  have HJ := Lib.hid h0
  have HJA := Lib.hid hJA
  clear hz ht hv hl hY h0 hJA
  refine callsIn_of_wp Tryd.func115 rfl trivial ?_ rfl
  simp only [Tryd.ntmps115, List.size_toArray, List.length_cons, List.length_nil, Nat.reduceAdd, Nat.reduceSub, Array.replicate_succ, Array.replicate_zero, List.push_toArray, List.append_toArray, List.nil_append, List.cons_append]
  gi_wp2
  gi_loopw [10] (fun vi wr => ∃ (k : Nat) (pre : List Int), k ≤ 64 ∧ vi = .int .i64 k ∧ tailW ws 0 = pre ++ tailW ws k ∧ J pre wr ∧ WB wr g ws ∧ Tab wr)
    (fun vi _ => 64 - (intOf vi).toNat)
  case atStart => exact ⟨0, [], Nat.zero_le _, rfl, rfl, HJ.out, HZ.out, HT.out⟩
  case round =>
    obtain ⟨k, pre, hk, rfl, hx, hJ, hz, ht⟩ := hrel
    have GJ := Lib.hid hJ
    have GZ := Lib.hid hz
    have GT := Lib.hid ht
    have GX := Lib.hid hx
    clear hJ hz ht hx
    by_cases hlt : k < 64
    · have hlt' : (k : Int) < 64 := by omega
      have hc := GZ.out.at_ (i := k) (by rw [HL.out]; exact hlt)
      have GV := Lib.hid (HV.out k)
      have GS := Lib.hid (tailW_succ ws hlt)
      generalize gw ws k = v0 at *
      gi_wp2
      gi_region
      have HJ2 := Lib.hid (show J pre wr.drew from HJA.out pre wr wr.drew none GJ.out ⟨rfl, rfl, rfl, Nat.le_refl _, fun _ _ _ => rfl⟩ (fun r e => by cases e))
      have HZ2 := Lib.hid (show WB wr.drew g ws from GZ.out)
      have HT2 := Lib.hid (show Tab wr.drew from GT.out)
      generalize wr.drew = w2 at *
      clear hc GJ GZ GT
      gi_wp2
      gi_loopw [4] (fun vv wi => ∃ (v : Nat) (pre : List Int), vv = .int .u64 v ∧ v < 2 ^ 64 ∧ tailW ws 0 = pre ++ ((bitsOf v).map (fun j => ((k * 64 + j : Nat) : Int)) ++ tailW ws (k + 1)) ∧ J pre wi ∧ WB wi g ws ∧ Tab wi) (fun vv _ => (intOf vv).toNat)
      case atStart => exact ⟨v0, pre, rfl, GV.out, by rw [GX.out, GS.out], HJ2.out, HZ2.out, HT2.out⟩
      case round =>
        obtain ⟨v, pre1, rfl, hv1, hx1, hj1, hz1, ht1⟩ := hrel
        have HJ1 := Lib.hid hj1
        have HZ1 := Lib.hid hz1
        have HT1 := Lib.hid ht1
        have HX1 := Lib.hid hx1
        clear hj1 hz1 ht1 hx1 HJ2 HZ2 HT2 GX GS GV
        by_cases h0 : v = 0
        · subst h0
          gi_wp2
          exact ⟨⟨k + 1, pre1, by omega, by go_num, by rw [HX1.out, bitsOf_zero]; rfl, HJ1.out, HZ1.out, HT1.out⟩, by simp [intOf]; omega⟩
        · have d0 : ((v : Int) == 0) = false := by simpa using h0
          obtain ⟨c, m, hcm⟩ := low_split h0
          have HCM := Lib.hid hcm
          have HV1 := Lib.hid hv1
          have hc64 : c < 64 := by
            rcases Nat.lt_or_ge c 64 with h1 | h1
            · exact h1
            · have := Nat.pow_le_pow_right (n := 2) (by omega) h1; omega
          have HTr := Lib.hid (fun W (h : Tab W) => trail116 c m (by rw [← hcm]; exact hv1) v hcm hc64 W h)
          have hclr := clear_u64 c m (by rw [← hcm]; exact hv1) v hcm
          have hb := bits_cons (k := c) (m := m) (by rw [← hcm]; exact hv1)
          have hbz : bitsOf v = c :: bitsOf (2 ^ (c + 1) * m) := by rw [hcm]; exact hb
          have HX2 := Lib.hid (show tailW ws 0 = pre1 ++ ((k : Int) * 64 + (c : Int)) :: ((bitsOf (2 ^ (c + 1) * m)).map (fun j => ((k * 64 + j : Nat) : Int)) ++ tailW ws (k + 1)) by
            rw [HX1.out, hbz, List.map_cons, List.cons_append]; congr 2)
          have hpl : pre1.length < (tailW ws 0).length := by rw [HX2.out]; simp
          have hw1 : IntKind.i64.wrap ((k : Int) * 64) = (k : Int) * 64 := IntWalk.i64_in _ (by omega)
          have hw2 : IntKind.i64.wrap ((k : Int) * 64 + (c : Int)) = (k : Int) * 64 + (c : Int) := IntWalk.i64_in _ (by omega)
          obtain ⟨fn, tmps, assign, body, hy, hR⟩ := HY.out pre1 ((k : Int) * 64 + (c : Int)) wr HJ1.out hpl
          have HLt := Lib.hid (show 2 ^ (c + 1) * m < v by rw [hcm]; have := Nat.two_pow_pos c; omega)
          clear hcm hb hbz h0 hv1 HX1 hpl
          generalize 2 ^ (c + 1) * m = v2 at *
          gi_wp2_with (refine ⟨trivial, ?_⟩; gi_at_call 116; refine (callsIn_wide.2 (HTr.out _ HT1.out)).mono ?_; rintro e w' ⟨rfl, rfl⟩)
          refine hR.mono ?_
          rintro e W3 (⟨rfl, hJ3, hk3⟩ | ⟨rfl, hJx3⟩)
          · have HJ3 := Lib.hid hJ3
            have HZ3 := Lib.hid (show WB W3 g ws from Blk.below HZ1.out hk3 hg)
            have HT3 := Lib.hid (show Tab W3 from Tab.below HT1.out hk3 h0n)
            clear hJ3 hk3 hy hR
            gi_wp2
            go_roundw
            case rel => exact ⟨v2, _, rfl, by have := HV1.out; have := HLt.out; omega, by rw [HX2.out]; simp, HJ3.out, HZ3.out, HT3.out⟩
            case measure => have := HLt.out; simp [intOf]; omega
          · clear hy hR
            gi_wp2
            refine bodyPost_ret (results_none rfl _ _ _) rfl ?_
            exact ⟨⟨_, rfl⟩, .inr ⟨_, ⟨_, by rw [HX2.out, List.append_assoc]; rfl⟩, hJx3⟩⟩
    · have hlt' : ¬ (k : Int) < 64 := by omega
      obtain rfl : k = 64 := by omega
      gi_wp2
      go_end0
      exact ⟨⟨_, rfl⟩, .inl (by rw [GX.out, tailW_end, List.append_nil]; exact GJ.out)⟩
set_option maxRecDepth 100000 in
set_option maxHeartbeats 1000000 in
/-- the iterator over the empty set -/
theorem each115n (n : Nat) (l Bn : Nat) (J Jx : List Int → World → Prop) (W : World) (hBn : W.cell? ⟨Bn, 0, none⟩ = some (.pointer none)) (h0 : J [] W) :
    CallsIn Fence.wide n Tryd.prog 115 #[.func (.yield l) #[] #[], .pointer (some ⟨Bn, 0, none⟩)] W fun e W' => (∃ v, e = .returned v) ∧
      ((∃ ys, ys = [] ∧ J ys W') ∨ (∃ pre, pre <+: [] ∧ Jx pre W')) := by
  have HJ := Lib.hid h0
  clear h0
  refine callsIn_of_wp Tryd.func115 rfl trivial ?_ rfl
  simp only [Tryd.ntmps115, List.size_toArray, List.length_cons, List.length_nil, Nat.reduceAdd, Nat.reduceSub, Array.replicate_succ, Array.replicate_zero, List.push_toArray, List.append_toArray, List.nil_append, List.cons_append]
  gi_wp2
  refine bodyPost_ret (results_none rfl _ _ _) rfl ?_
  exact ⟨⟨_, rfl⟩, .inl ⟨_, rfl, HJ.out⟩⟩
set_option maxHeartbeats 1000000 in
theorem each93 (n : Nat) (p : Option Addr) (w : World) :
    CallsIn Fence.wide n Tryd.prog 93 #[.agg #[.pointer p]] w fun e w' => e = .returned (.func (.func 115) #[] #[.pointer (some ⟨w.heap.size, 0, none⟩)]) ∧ w' = w.alloc (.cells #[.pointer p] 96) := by
  refine callsIn_of_wp Tryd.func93 rfl trivial ?_ rfl
  simp only [Tryd.ntmps93, List.size_toArray, List.length_cons, List.length_nil, Nat.reduceAdd, Nat.reduceSub, Array.replicate_succ, Array.replicate_zero, List.push_toArray, List.append_toArray, List.nil_append, List.cons_append]
  gi_wp2
  go_ret
  exact ⟨rfl, rfl⟩
end Go.Proofs.YtipkicijfedfoaaDoor

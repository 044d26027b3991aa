import Derived.Test.YtipkicijfedfoaaDoorMGC
import Derived.Test.YtipkicijfedfoaaDoorProg
import Derived.Test.YtipkicijfedfoaaDoorMGA
import Derived.IntWalk
import Derived.Deep.Cut
import Derived.Deep.CutBlock
import Derived.Deep.DeepCutAuto
namespace Go.Wire
theorem zig_in {n : Int} (h : Inc.In64 n) : zig n < 18446744073709551616 := zig_lt h.1 h.2
end Go.Wire
namespace Go.Proofs.YtipkicijfedfoaaDoor
set_option linter.unusedVariables false
open Go.RowKit Go.Own Go.Quo Go.Inc Go.Wire
theorem info5 : (Tryd.prog.info? 5).map (fun i => (i.zero, i.size, i.bytes)) = some (some (.int .u8 0), 1, 1) := by kernel_rfl
def bys (bs : List Int) : List Value := bs.map (Value.int .u8)
/-- A new own row of bytes comes back. -/
def BysPost (bs : List Int) (w : World) (e : Ending) (w' : World) : Prop := ∃ A c, e = .returned (.slice A bs.length c) ∧ w'.ownsRow w.heap.size 5 1 (.slice A bs.length c) bs.length (bys bs) ∧ Below w.heap.size w w'
theorem bys_one (bs : List Int) : ∀ u ∈ bys bs, u.oneCell' = true := by
  intro u hu
  obtain ⟨x, -, rfl⟩ := List.mem_map.1 hu
  rfl
set_option maxRecDepth 10000 in
set_option maxHeartbeats 2000000 in
theorem rInt113 (n : Int) (w : World) (hn : In64 n) : Calls Tryd.prog 113 #[.int .i64 n] w (BysPost (encI n) w) := by
  have hlen := encI_len hn.1 hn.2
  have HE := Lib.hid (show encI n = encU (zig n) from rfl)
  have hzl := zig_in hn
  generalize encI n = en at *
  obtain ⟨hn0, hn1⟩ := hn
  go_enter Tryd.func113, Tryd.ntmps113
  go_upto_if 9 with (fail)
  go_cut [3] (fun v wx => v = .int .u64 ((zig n : Nat) : Int) ∧ wx = w)
  case first =>
    by_cases hneg : n < 0
    · have hw1 : IntKind.i64.wrap (n + 1) = n + 1 := IntWalk.i64_in _ (by omega)
      have hw2 : IntKind.i64.wrap (-(n + 1)) = -(n + 1) := IntWalk.i64_in _ (by omega)
      have hw3 : IntKind.u64.wrap (-(n + 1)) = -(n + 1) := by rw [IntKind.wrap_u64]; omega
      have hw4 : IntKind.u64.wrap (-(n + 1) * 2) = -(n + 1) * 2 := by rw [IntKind.wrap_u64]; omega
      have hw5 : IntKind.u64.wrap (-(n + 1) * 2 + 1) = ((zig n : Nat) : Int) := by rw [IntKind.wrap_u64]; unfold zig; rw [if_neg (by omega)]; omega
      go_wp2_with fail
      go_meet
      case rel => exact ⟨rfl, rfl⟩
    · have hw1 : IntKind.u64.wrap n = n := by rw [IntKind.wrap_u64]; omega
      have hw2 : IntKind.u64.wrap (n * 2) = ((zig n : Nat) : Int) := by rw [IntKind.wrap_u64]; unfold zig; rw [if_pos (by omega)]; omega
      go_wp2_with fail
      go_meet
      case rel => exact ⟨by first | rfl | (rw [hw1, hw2]), rfl⟩
  case rest =>
    obtain ⟨rfl, rfl⟩ := hcut
    generalize zig n = z at *
    clear hn0 hn1
    go_wp2_with fail
    have o0 : (wc.alloc (.cells #[] 5)).ownsRow wc.heap.size 5 1 (.slice (some ⟨wc.heap.size, 0, none⟩) 0 0) 0 (bys []) := ⟨rfl, .inr ⟨wc.heap.size, 0, #[], rfl, Nat.le_refl _, heap_alloc_new wc _, Nat.le_refl _, by simp [maxLen], rfl, rfl⟩⟩
    have b0 : Below wc.heap.size wc (wc.alloc (.cells #[] 5)) := (Below.refl _ _).alloc (Nat.le_refl _) _
    generalize wc.alloc (.cells #[] 5) = W0 at *
    go_loopw [3, 4] (fun vu vb wr => ∃ (u : Nat) (o : List Int) (A : Option Addr) (c : Nat), vu = .int .u64 u ∧ u < 18446744073709551616 ∧ vb = .slice A o.length c ∧ wr.ownsRow wc.heap.size 5 1 (.slice A o.length c) o.length (bys o) ∧ o ++ encU u = en ∧ Below wc.heap.size wc wr) (fun u _ _ => (intOf u).toNat)
    case atStart => exact ⟨z, [], _, 0, rfl, hzl, rfl, o0, by rw [HE.out]; rfl, b0⟩
    case round =>
      obtain ⟨u, o, A, c, rfl, hu, rfl, hown, ho, hb⟩ := hrel
      have HO := Lib.hid ho
      have hsz := hb.size
      have hol : o.length + (encU u).length ≤ en.length := by rw [← List.length_append, ho]; exact Nat.le_refl _
      have HOw := Lib.hid hown
      have hol2 : o.length ≤ 30 := by omega
      clear ho hown
      by_cases h : u < 128
      · have h' : ¬ (128 : Int) ≤ u := by omega
        have hu8 : IntKind.u8.wrap (u : Int) = u := by rw [IntKind.wrap_u8']; omega
        go_wp2_with (at_builtin; refine wpList_append_any _ rfl _ _ _ rfl wc.heap.size 5 _ 1 1 Tryd.underlying40 info5 rfl (by omega) (.slice A o.length c) o.length (bys o) rfl (HOw.out.alloc _) _ (some ⟨wr.heap.size, 0, none⟩) 1 1 [.int .u8 u] rfl (Reads.newS _ [.int .u8 u] 5 (0, 0) 1 1 rfl _ rfl) (by simp [Value.oneCell']) (by simp only [maxLen]; omega) (by omega) (by simp; omega) ?_; intro A4 c4 w4 hown4 hgr4 hat4)
        go_ret
        have e4 : en = o ++ [(u : Int)] := by rw [← HO.out, encU_lt h]
        refine ⟨A4, c4, by rw [e4]; simp, by rw [e4]; simpa [bys] using hown4, (hb.alloc hsz _).grown hgr4 (by simp; omega) (fun g hg => (HOw.out.lt g hg).1)⟩
      · have h' : (128 : Int) ≤ u := by omega
        go_wp2_with (at_builtin; refine wpList_append_any _ rfl _ _ _ rfl wc.heap.size 5 _ 1 1 Tryd.underlying40 info5 rfl (by omega) (.slice A o.length c) o.length (bys o) rfl (HOw.out.alloc _) _ (some ⟨wr.heap.size, 0, none⟩) 1 1 [.int .u8 ((u : Int) % 128 + 128)] rfl (Reads.newS _ [.int .u8 ((u : Int) % 128 + 128)] 5 (0, 0) 1 1 rfl _ rfl) (by simp [Value.oneCell']) (by simp only [maxLen]; omega) (by omega) (by simp; omega) ?_; intro A4 c4 w4 hown4 hgr4 hat4)
        have hsh : (u : Int) / 128 = ((u / 128 : Nat) : Int) := by omega
        refine ⟨⟨u / 128, o ++ [(u : Int) % 128 + 128], A4, c4, congrArg _ hsh, by omega, by simp, by simpa [bys] using hown4, ?_, (hb.alloc hsz _).grown hgr4 (by simp; omega) (fun g hg => (HOw.out.lt g hg).1)⟩, by simp [intOf]; omega⟩
        rw [← HO.out, encU_ge h, List.append_assoc]
        congr 2
end Go.Proofs.YtipkicijfedfoaaDoor

import Derived.Test.YtnmmiiajcjcccaaProg
import Derived.Test.YtnmmiiajcjcccaaLPlain
import Derived.Deep.RegionLaw
import Derived.Deep.RegionHeld
import Derived.Deep.DeepCutAuto
import Derived.Deep.CutBlock
namespace Go.Proofs.Ytnmmiiajcjcccaa
set_option linter.unusedVariables false
open Go.RowKit Go.Own Go.Quo Go.Aid
theorem info3 : (Try.prog.info? 3).map (fun i => (i.zero, i.size, i.bytes)) = some (some (.int .i64 0), 1, 8) := by kernel_rfl
theorem i3x : ∃ i, Try.prog.info? 3 = some i ∧ i.size = 1 := by obtain ⟨i, h, _, h2, _⟩ := info_parts info3; exact ⟨i, h, h2⟩
/-- A slice of ints that reads as l. -/
abbrev RI (w : World) (B : Nat → Prop) (A : Option Addr) (l : List Int) : Prop := Reads w B 1 A l.length (l.map (Value.int .i64))
theorem RI.at_ {w : World} {B : Nat → Prop} {A : Option Addr} {l : List Int} (h : RI w B A l) {k : Nat} (hk : k < l.length) : w.cell? ⟨bk A, ofs A + k, none⟩ = some (.int .i64 (gd l k)) := by
  rw [h.cell2 k (by omega) (by omega), gd_get hk]; simp [hk]
theorem ix22 {A : Option Addr} {n : Nat} (hA : Plain A n) (c k : Nat) (hk : k < n) (w : World) : (Instr.indexAt 22 (.slice A n c) (.int .i64 (k : Int))).run Try.prog w = .ok (.pointer (some ⟨bk A, ofs A + k, none⟩)) w := by
  obtain ⟨i, h1, h2⟩ := i3x
  simpa using run_indexAt2 (P := Try.prog) Try.underlying22 h1 h2 hA c k hk w
/-- A block of ints, known whole. -/
abbrev IB (w : World) (g : Nat) (t : TypeId) (l : List Int) : Prop := Blk w g t (l.map (Value.int .i64)).toArray
theorem IB.reads {w : World} {g : Nat} {t : TypeId} {l : List Int} (h : IB w g t l) : Reads w (· = g) 1 (some ⟨g, 0, none⟩) l.length (l.map (Value.int .i64)) := by
  have := Reads.of_blk (B := (· = g)) (n := l.length) (size := 1) h (by simp) rfl
  rwa [List.take_of_length_le (by simp)] at this
theorem IB.at_ {w : World} {g : Nat} {t : TypeId} {l : List Int} (h : IB w g t l) {k : Nat} (hk : k < l.length) : w.cell? ⟨g, k, none⟩ = some (.int .i64 (gd l k)) := by
  rw [h.cell k, gd_get hk]; simp [hk]
theorem IB.put {w : World} {g : Nat} {t : TypeId} {l : List Int} (h : IB w g t l) (k : Nat) (x : Int) : IB (w.setCell ⟨g, k, none⟩ (.int .i64 x)) g t (l.set k x) := by
  have := h.set_ k (.int .i64 x)
  show Blk _ g t ((l.set k x).map (Value.int .i64)).toArray
  rw [List.map_set]
  simpa using this
theorem ixg {g : Nat} (n c k : Nat) (hk : k < n) (w : World) : (Instr.indexAt 22 (.slice (some ⟨g, 0, none⟩) n c) (.int .i64 (k : Int))).run Try.prog w = .ok (.pointer (some ⟨g, k, none⟩)) w := by
  simpa [bk, ofs, adr] using ix22 (A := some ⟨g, 0, none⟩) (n := n) (fun _ => ⟨_, _, rfl⟩) c k hk w
set_option maxHeartbeats 400000 in
theorem clamp_any (n : Int) (w : World) : Calls Try.prog 45 #[.int .i64 n] w fun e w' => e = .returned (.int .i64 (clampI n)) ∧ w = w' := by
  go_enter Try.func45, Try.ntmps45
  go_wp2
  all_goals
    go_ret
    refine ⟨?_, rfl⟩
    simp [clampI]
    try omega
set_option maxRecDepth 10000 in
set_option maxHeartbeats 1000000 in
theorem greatest_any (B : Nat → Prop) (A : Option Addr) (c : Nat) (l : List Int) (w : World) (h : RI w B A l) (hm : l.length ≤ 1000) :
    Calls Try.prog 31 #[.slice A l.length c] w fun e w' => e = .returned (.int .i64 (grF l)) ∧ w = w' := by
  have hp := h.plain (by omega)
  have HR := Lib.hid h
  clear h
  go_enter Try.func31, Try.ntmps31
  go_wp2_with fail
  go_loopw [3, 4, 5, 8] (fun va _ _ vi wr => ∃ k : Nat, k ≤ l.length ∧ vi = .int .i64 k ∧ va = .int .i64 (grUp l k) ∧ wr = w) (fun _ _ _ vi _ => l.length - (intOf vi).toNat)
  case atStart => exact ⟨0, Nat.zero_le _, rfl, rfl, rfl⟩
  case round =>
    obtain ⟨k, hk, rfl, rfl, rfl⟩ := hrel
    by_cases hlt : k < l.length
    · have hlt' : (k : Int) < l.length := by omega
      have hix := fun W => ix22 hp c k hlt W
      have hcell := HR.out.at_ hlt
      have HSt := Lib.hid (show grUp l (k + 1) = if 0 < gd l k ∧ (grUp l k < 0 ∨ gd l (grUp l k).toNat < gd l k) then (k : Int) else grUp l k from rfl)
      have hcs : grUp l k = -1 ∨ ∃ j : Nat, grUp l k = j ∧ j < k := by
        rcases grUp_is l k with ⟨e, _⟩ | ⟨j, e, hj, _⟩
        · exact .inl e
        · exact .inr ⟨j, e, hj⟩
      generalize grUp l k = a at *
      by_cases h0 : 0 < gd l k
      · rcases hcs with rfl | ⟨j, rfl, hj⟩
        · have ha : ((-1 : Int) < 0) := by omega
          have HX := Lib.hid (HSt.out.trans (if_pos ⟨h0, .inl ha⟩))
          go_wp2_with fail
          exact ⟨⟨k + 1, by omega, by go_num, by rw [HX.out], by trivial⟩, by simp [intOf]; omega⟩
        · have ha : ¬ ((j : Int) < 0) := by omega
          have hixj := fun W => ix22 hp c j (show j < l.length by omega) W
          have hcellj := HR.out.at_ (show j < l.length by omega)
          by_cases hc : gd l j < gd l k
          · have HX := Lib.hid (HSt.out.trans (if_pos ⟨h0, .inr (by simpa using hc)⟩))
            go_wp2_with fail
            exact ⟨⟨k + 1, by omega, by go_num, by rw [HX.out], by trivial⟩, by simp [intOf]; omega⟩
          · have HX := Lib.hid (HSt.out.trans (if_neg (fun hh => hh.2.elim ha (fun e => hc (by simpa using e)))))
            go_wp2_with fail
            exact ⟨⟨k + 1, by omega, by go_num, by rw [HX.out], by trivial⟩, by simp [intOf]; omega⟩
      · have HX := Lib.hid (HSt.out.trans (if_neg (fun hh => h0 hh.1)))
        go_wp2_with fail
        exact ⟨⟨k + 1, by omega, by go_num, by rw [HX.out], by trivial⟩, by simp [intOf]; omega⟩
    · have hlt' : ¬ (k : Int) < l.length := by omega
      have he : k = l.length := by omega
      subst he
      go_wp2
      go_ret
      exact ⟨rfl, rfl⟩
end Go.Proofs.Ytnmmiiajcjcccaa

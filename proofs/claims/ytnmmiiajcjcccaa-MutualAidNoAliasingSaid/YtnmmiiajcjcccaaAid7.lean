import Derived.Test.YtnmmiiajcjcccaaAid6
import Derived.Test.YtnmmiiajcjcccaaFPlain
namespace Go.Proofs.Ytnmmiiajcjcccaa
set_option linter.unusedVariables false
open Go.RowKit Go.Own Go.Quo Go.Aid
def maxUp (l : List Int) : Nat → Int
  | 0 => gd l 0
  | k + 1 => max (maxUp l k) (gd l k)
def MaxIs (l : List Int) (n : Nat) (M : Int) : Prop := (∀ i, i < n → gd l i ≤ M) ∧ ∃ i, i < n ∧ gd l i = M
theorem maxUp_one (l : List Int) : maxUp l 1 = gd l 0 := by simp [maxUp]
theorem maxUp_is (l : List Int) : ∀ n, MaxIs l (n + 1) (maxUp l (n + 1))
  | 0 => by
    rw [maxUp_one]
    refine ⟨fun i hi => ?_, 0, by omega, rfl⟩
    have : i = 0 := by omega
    rw [this]; exact Int.le_refl _
  | n + 1 => by
    obtain ⟨h1, i0, h2, h3⟩ := maxUp_is l n
    have e : maxUp l (n + 1 + 1) = max (maxUp l (n + 1)) (gd l (n + 1)) := rfl
    rw [e]
    refine ⟨fun i hi => ?_, ?_⟩
    · rcases (by omega : i < n + 1 ∨ i = n + 1) with e | rfl
      · have := h1 i e; omega
      · omega
    · by_cases hc : maxUp l (n + 1) ≤ gd l (n + 1)
      · exact ⟨n + 1, by omega, by omega⟩
      · exact ⟨i0, by omega, by omega⟩
set_option maxRecDepth 10000 in
set_option maxHeartbeats 1000000 in
theorem max_any (B : Nat → Prop) (A : Option Addr) (c : Nat) (l : List Int) (w : World) (h : RI w B A l) (h0 : 0 < l.length) (hm : l.length ≤ 1000) :
    Calls Try.prog 46 #[.slice A l.length c] w fun e w' => e = .returned (.int .i64 (maxUp l l.length)) ∧ w' = w := by
  have hp := h.plain (by omega)
  have HR := Lib.hid h
  clear h
  have hi0 : ∀ W, (Instr.indexAt 22 (.slice A l.length c) (.int .i64 0)).run Try.prog W = .ok (.pointer (some ⟨bk A, ofs A + 0, none⟩)) W := fun W => by simpa using ix22 hp c 0 h0 W
  have hc0 := RI.at_ HR.out h0
  simp only [Nat.add_zero] at hi0 hc0
  have h1 : ¬ ((l.length : Int) < 1) := by omega
  go_enter Try.func46, Try.ntmps46
  go_wp2_with fail
  go_loopw [3, 4] (fun vm vi wr => ∃ (k : Nat), k ≤ l.length ∧ 1 ≤ k ∧ vi = .int .i64 k ∧ vm = .int .i64 (maxUp l k) ∧ wr = w) (fun _ vi _ => l.length - (intOf vi).toNat)
  case atStart => exact ⟨1, by omega, by omega, rfl, by rw [maxUp_one], rfl⟩
  case round =>
    obtain ⟨k, hk, hk1, rfl, rfl, rfl⟩ := hrel
    by_cases hlt : k < l.length
    · have hlt' : (k : Int) < l.length := by omega
      have hix := fun W => ix22 hp c k hlt W
      have hc1 := RI.at_ HR.out hlt
      have HN := Lib.hid (show maxUp l (k + 1) = max (maxUp l k) (gd l k) from rfl)
      generalize maxUp l k = M at *
      generalize gd l k = x at *
      by_cases hx : M < x
      all_goals
        go_wp2_with fail
        exact ⟨⟨k + 1, by omega, by omega, by go_num, by rw [HN.out]; congr 1; (try split) <;> omega, by trivial⟩, by simp [intOf]; omega⟩
    · have hlt' : ¬ (k : Int) < l.length := by omega
      have he : k = l.length := by omega
      subst he
      go_wp2_with fail
      go_ret
      exact ⟨rfl, rfl⟩
abbrev BBk (w : World) (g : Nat) (l : List Bool) : Prop := Blk w g 4 (l.map Value.bool).toArray
theorem bb_at {w : World} {g : Nat} {l : List Bool} (h : BBk w g l) {k : Nat} {b : Bool} (hb : l[k]? = some b) : w.cell? ⟨g, k, none⟩ = some (.bool b) := by
  rw [h.cell k]; simp [hb]
theorem bb_put {w : World} {g : Nat} {l : List Bool} (h : BBk w g l) (k : Nat) (x : Bool) : BBk (w.setCell ⟨g, k, none⟩ (.bool x)) g (l.set k x) := by
  have := h.set_ k (.bool x)
  show Blk _ g 4 ((l.set k x).map Value.bool).toArray
  rw [List.map_set]
  simpa using this
theorem info4 : (Try.prog.info? 4).map (fun i => (i.zero, i.size, i.bytes)) = some (some (.bool false), 1, 1) := by kernel_rfl
theorem i4x : ∃ i, Try.prog.info? 4 = some i ∧ i.size = 1 := by obtain ⟨i, h, _, h2, _⟩ := info_parts info4; exact ⟨i, h, h2⟩
theorem ixb {g : Nat} (n c k : Nat) (hk : k < n) (w : World) : (Instr.indexAt 68 (.slice (some ⟨g, 0, none⟩) n c) (.int .i64 (k : Int))).run Try.prog w = .ok (.pointer (some ⟨g, k, none⟩)) w := by
  obtain ⟨i, h1, h2⟩ := i4x
  have := run_indexAt2 (P := Try.prog) Try.underlying68 h1 h2 (A := some ⟨g, 0, none⟩) (n := n) (fun _ => ⟨_, _, rfl⟩) c k hk w
  simpa [bk, ofs, adr] using this
/-- Yes just where P. -/
def IffPost (P : Prop) (w : World) (e : Ending) (w' : World) : Prop := ∃ b : Bool, e = .returned (.bool b) ∧ (b = true ↔ P) ∧ ∃ j, w' = w.drewN j
def evenUp (l : List Int) (q : List Bool) (m : Nat) : Prop := ∀ d, d < m → q[d]? = some true → ∀ k, k < l.length → gd l k ≤ gd l d + 1
set_option maxRecDepth 10000 in
set_option maxHeartbeats 2000000 in
theorem even_any (g1 g2 : Nat) (l : List Int) (q : List Bool) (n : Nat) (w : World) (h : IB w g1 3 l) (h2 : BBk w g2 q) (hl : l.length = n) (hq : q.length = n) (hm : n ≤ 64) (hr : ∀ i, i < n → 0 ≤ gd l i ∧ gd l i ≤ 1000) :
    Calls Try.prog 33 #[.slice (some ⟨g1, 0, none⟩) n n, .slice (some ⟨g2, 0, none⟩) n n] w (IffPost (evenP l q) w) := by
  have HR := Lib.hid h
  have HQ := Lib.hid h2
  have HL := Lib.hid hl
  have HQl := Lib.hid hq
  have Hrr := Lib.hid hr
  have HMx := Lib.hid fun W (hW : IB W g1 3 l) (h0 : 0 < n) => (by
    have := max_any (· = g1) (some ⟨g1, 0, none⟩) n l W (IB.reads hW) (by rw [hl]; exact h0) (by omega)
    rw [hl] at this
    exact this : Calls Try.prog 46 #[.slice (some ⟨g1, 0, none⟩) n n] W fun e w' => e = .returned (.int .i64 (maxUp l n)) ∧ w' = W)
  have HEnd := Lib.hid (show evenUp l q n ↔ evenP l q by unfold evenUp evenP; rw [hl])
  clear h h2 hl hq hr
  go_enter Try.func33, Try.ntmps33
  go_wp2_with fail
  go_loopw [5, 6, 9] (fun _ _ vi wr => ∃ (k j : Nat), k ≤ n ∧ vi = .int .i64 k ∧ evenUp l q k ∧ wr = w.drewN j) (fun _ _ vi _ => n - (intOf vi).toNat)
  case atStart => exact ⟨0, 0, Nat.zero_le _, rfl, fun d hd => by omega, rfl⟩
  case round =>
    obtain ⟨k, j, hk, rfl, hev, hwr⟩ := hrel
    have HE := Lib.hid hev
    have HW := Lib.hid hwr
    have HRr := Lib.hid (show IB wr g1 3 l by rw [hwr]; exact HR.out)
    have HQr := Lib.hid (show BBk wr g2 q by rw [hwr]; exact HQ.out)
    clear hev hwr
    by_cases hlt : k < n
    · have hlt' : (k : Int) < n := by omega
      have hixb := fun W => ixb (g := g2) n n k hlt W
      have hixa := fun W => ixg (g := g1) n n k hlt W
      obtain ⟨b, hb⟩ : ∃ b, q[k]? = some b := ⟨_, List.getElem?_eq_getElem (by rw [HQl.out]; exact hlt)⟩
      have hcb := bb_at HQr.out hb
      have hca := IB.at_ HRr.out (k := k) (by rw [HL.out]; exact hlt)
      have HBk := Lib.hid hb
      clear hb
      cases b with
      | false =>
        have HN := Lib.hid (show evenUp l q (k + 1) from fun d hd hq i hi => by
          rcases (by omega : d < k ∨ d = k) with e | rfl
          · exact HE.out d e hq i hi
          · rw [HBk.out] at hq; cases hq)
        go_wp2_with fail
        go_quiet (fail)
        go_wp2_with fail
        exact ⟨⟨k + 1, _, by omega, by go_num, HN.out, by rw [HW.out, World.drewN_drewN]⟩, by simp [intOf]; omega⟩
      | true =>
        have HC := Lib.hid fun q => ((HMx.out (wr.drewN q) (HRr.out.drewN q) (by omega)).mono (fun e w' hh => And.intro hh.1 (⟨q, hh.2⟩ : ∃ n, w' = wr.drewN n)))
        have HM1 := Lib.hid (show MaxIs l n (maxUp l n) by
          have := maxUp_is l (n - 1)
          rwa [show n - 1 + 1 = n by omega] at this)
        generalize maxUp l n = M at *
        have r1 := Hrr.out k hlt
        generalize hgx : gd l k = x at *
        have Hgx := Lib.hid hgx
        clear hgx
        have hw1 : IntKind.i64.wrap (x + 1) = x + 1 := IntWalk.i64_in _ (by omega)
        by_cases hx : x + 1 < M
        · have hx2 : decide (x + 1 < M) = true := by simpa using hx
          go_wp2_with fail
          go_quiet ((go_at_call 46; with_reducible exact HC.out _))
          go_wp2_with fail
          go_ret
          refine ⟨false, rfl, ⟨fun h => (by cases h), fun h => ?_⟩, _, by rw [HW.out, World.drewN_drewN]⟩
          obtain ⟨i, hi, e⟩ := HM1.out.2
          have := h k (by rw [HL.out]; exact hlt) HBk.out i (by rw [HL.out]; exact hi)
          rw [e, Hgx.out] at this
          omega
        · have hx2 : decide (x + 1 < M) = false := by simpa using hx
          have HN := Lib.hid (show evenUp l q (k + 1) from fun d hd hq i hi => by
            rcases (by omega : d < k ∨ d = k) with e | rfl
            · exact HE.out d e hq i hi
            · have := HM1.out.1 i (by rw [← HL.out]; exact hi)
              rw [Hgx.out]; omega)
          go_wp2_with fail
          go_quiet ((go_at_call 46; with_reducible exact HC.out _))
          go_wp2_with fail
          exact ⟨⟨k + 1, _, by omega, by go_num, HN.out, by rw [HW.out, World.drewN_drewN]⟩, by simp [intOf]; omega⟩
    · have hlt' : ¬ (k : Int) < n := by omega
      have he : k = n := by omega
      subst he
      go_wp2_with fail
      go_ret
      exact ⟨true, rfl, ⟨fun _ => HEnd.out.1 HE.out, fun _ => rfl⟩, j, HW.out⟩
end Go.Proofs.Ytnmmiiajcjcccaa

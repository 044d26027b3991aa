import Derived.Test.YtnmmiiajcjcccaaLed3
namespace Go.Proofs.Ytnmmiiajcjcccaa
set_option linter.unusedVariables false
open Go.RowKit Go.Own Go.Quo Go.Aid
def lnL (l : Ln) : List Value := [.int .i64 l.f, .int .i64 l.t, .int .i64 l.u]
theorem lnL_len (l : Ln) : (lnL l).length = 3 := rfl
theorem info42 : (Try.prog.info? 42).map (fun i => (i.zero, i.size, i.bytes)) = some (some (.agg #[.int .i64 0, .int .i64 0, .int .i64 0]), 3, 24) := by kernel_rfl
theorem i42x : ∃ i, Try.prog.info? 42 = some i ∧ i.size = 3 := by obtain ⟨i, h, _, h2, _⟩ := info_parts info42; exact ⟨i, h, h2⟩
theorem ix37 {A : Option Addr} {n : Nat} (hA : Plain A n) (c k : Nat) (hk : k < n) (w : World) : (Instr.indexAt 37 (.slice A n c) (.int .i64 (k : Int))).run Try.prog w = .ok (.pointer (some ⟨bk A, ofs A + k * 3, none⟩)) w := by
  obtain ⟨i, h1, h2⟩ := i42x
  exact run_indexAt2 (P := Try.prog) Try.underlying37 h1 h2 hA c k hk w
theorem ln_cells {w : World} {B : Nat → Prop} {A : Option Addr} {l : List Ln} (h : Reads w B 3 A l.length (l.flatMap lnL)) {k : Nat} {x : Ln} (hx : l[k]? = some x) :
    w.cell? ⟨bk A, ofs A + k * 3, none⟩ = some (.int .i64 x.f) ∧ w.cell? ⟨bk A, ofs A + k * 3 + 1, none⟩ = some (.int .i64 x.t) ∧ w.cell? ⟨bk A, ofs A + k * 3 + 2, none⟩ = some (.int .i64 x.u) := by
  have hk := (List.getElem?_eq_some_iff.1 hx).1
  refine ⟨?_, ?_, ?_⟩
  · rw [h.cell2 (k * 3) (by omega) (by omega)]
    simpa [lnL] using flat_get lnL 3 lnL_len l k 0 x hx (by omega)
  · rw [Nat.add_assoc, h.cell2 (k * 3 + 1) (by omega) (by omega)]
    simpa [lnL] using flat_get lnL 3 lnL_len l k 1 x hx (by omega)
  · rw [Nat.add_assoc, h.cell2 (k * 3 + 2) (by omega) (by omega)]
    simpa [lnL] using flat_get lnL 3 lnL_len l k 2 x hx (by omega)
/-- The reference's book. -/
structure Bok (w : World) (B : Nat → Prop) (r : Nat) (s : LSt) (A1 A2 : Option Addr) (c1 c2 : Nat) : Prop where
  rb : Blk w r 39 #[.int .i64 (s.n : Int), .slice A1 s.now.length c1, .slice A2 s.all.length c2]
  now : Reads w B 3 A1 s.now.length (s.now.flatMap lnL)
  all : Reads w B 3 A2 s.all.length (s.all.flatMap lnL)
def PlcPost (now : List Ln) (u : Int) (w : World) (e : Ending) (w' : World) : Prop := w' = w ∧ ((e = .returned (.int .i64 (-1)) ∧ hasU now u = false) ∨ ∃ (k : Nat) (x : Ln), e = .returned (.int .i64 (k : Int)) ∧ now[k]? = some x ∧ x.u = u)
set_option maxRecDepth 10000 in
set_option maxHeartbeats 2000000 in
theorem place_any (B : Nat → Prop) (r : Nat) (s : LSt) (A1 A2 : Option Addr) (c1 c2 : Nat) (u : Int) (w : World) (h : Bok w B r s A1 A2 c1 c2) (hl : s.now.length ≤ 1000) :
    Calls Try.prog 47 #[.pointer (some ⟨r, 0, none⟩), .int .i64 u] w (PlcPost s.now u w) := by
  obtain ⟨q0, q1, q2⟩ := h.rb.facts
  have hp := h.now.plain (by omega)
  have HN := Lib.hid h.now
  clear h
  obtain ⟨l, hl2⟩ : ∃ l, s.now = l := ⟨_, rfl⟩
  rw [hl2] at hp HN q1 hl ⊢
  obtain ⟨n, hn⟩ : ∃ n, s.n = n := ⟨_, rfl⟩
  obtain ⟨m, hm⟩ : ∃ m, s.all.length = m := ⟨_, rfl⟩
  rw [hn, hm] at q1
  clear hl2 hn hm
  go_enter Try.func47, Try.ntmps47
  go_wp2_with fail
  go_loopw [5] (fun vi wr => ∃ (k : Nat), k ≤ l.length ∧ vi = .int .i64 k ∧ (∀ j x, j < k → l[j]? = some x → x.u ≠ u) ∧ wr = w) (fun vi _ => l.length - (intOf vi).toNat)
  case atStart => exact ⟨0, Nat.zero_le _, rfl, fun j x hj => by omega, rfl⟩
  case round =>
    obtain ⟨k, hk, rfl, hno, rfl⟩ := hrel
    have HNo := Lib.hid hno
    clear hno
    by_cases hlt : k < l.length
    · have hlt' : (k : Int) < l.length := by omega
      obtain ⟨x, hx⟩ : ∃ x, l[k]? = some x := ⟨_, List.getElem?_eq_getElem hlt⟩
      obtain ⟨y1, y2, y3⟩ := ln_cells HN.out hx
      have hix := fun W => ix37 hp c1 k hlt W
      have HX := Lib.hid hx
      clear hx y1 y2
      by_cases hu : x.u = u
      · have hu' : (x.u == u) = true := by simpa using hu
        have HU := Lib.hid hu
        clear hu
        go_wp2_with fail
        go_ret
        exact ⟨rfl, .inr ⟨k, x, rfl, HX.out, HU.out⟩⟩
      · have hu' : (x.u == u) = false := by simpa using hu
        have HT := Lib.hid (show ∀ j x, j < k + 1 → l[j]? = some x → x.u ≠ u from fun j y hj hy => by
          rcases (by omega : j < k ∨ j = k) with e | rfl
          · exact HNo.out j y e hy
          · have := HX.out; rw [this] at hy; injection hy with hy; rw [← hy]; exact hu)
        clear hu
        go_wp2_with fail
        exact ⟨⟨k + 1, by omega, by go_num, HT.out, by trivial⟩, by simp [intOf]; omega⟩
    · have hlt' : ¬ (k : Int) < l.length := by omega
      have he : k = l.length := by omega
      subst he
      go_wp2_with fail
      go_ret
      refine ⟨rfl, .inl ⟨rfl, ?_⟩⟩
      cases hh : hasU l u with
      | false => rfl
      | true =>
        obtain ⟨x, hx, e⟩ := hasU_iff.1 hh
        obtain ⟨j, hj⟩ := List.mem_iff_getElem?.1 hx
        exact absurd e (HNo.out j x (List.getElem?_eq_some_iff.1 hj).1 hj)
end Go.Proofs.Ytnmmiiajcjcccaa

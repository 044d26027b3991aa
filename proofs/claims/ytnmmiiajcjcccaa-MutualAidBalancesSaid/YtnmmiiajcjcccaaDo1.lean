import Derived.Test.YtnmmiiajcjcccaaBk6
import Derived.Deep.RegionHeldLaw
namespace Go.Proofs.Ytnmmiiajcjcccaa
set_option linter.unusedVariables false
open Go.RowKit Go.Own Go.Quo Go.Aid
structure Ac where
  k : Int
  l : Ln
def acV (a : Ac) : Value := .agg #[.int .i64 a.k, .int .i64 a.l.f, .int .i64 a.l.t, .int .i64 a.l.u]
def stepF (s : LSt) (a : Ac) : LSt := if a.k = 1 then (lendF s a.l).1 else if a.k = 2 then (backF s a.l.u).1 else s
def DoPost (p m g r : Nat) (s' : LSt) (w : World) (e : Ending) (w' : World) : Prop := e = .returned (.bool true) ∧ Pr w' p m g r s' ∧ Fr (fun k => k = m ∨ k = g ∨ k = r) w w'
theorem debts_small {s : LSt} {K : Nat} (h : LOk s K) (hK : K ≤ 1000) (i : Nat) : gd (debts s.n s.all) i ≤ 1000 ∧ -1000 ≤ gd (debts s.n s.all) i := by
  have := debts_r h.ok s.all.length (Nat.le_refl _) i
  rw [List.take_length] at this
  have := h.al
  omega
set_option maxRecDepth 10000 in
set_option maxHeartbeats 4000000 in
theorem do_lend (p m g r : Nat) (s : LSt) (K : Nat) (l : Ln) (w : World) (h : Pr w p m g r s) (hk : LOk s K) (hK : K ≤ 1000) :
    Calls Try.prog 20 #[.pointer (some ⟨p, 0, none⟩), .pointer (some ⟨r, 0, none⟩), acV ⟨1, l⟩] w (DoPost p m g r (lendF s l).1 w) := by
  have hw0 := Fr.refl (fun _ => False) w
  have HPr := Lib.hid h
  have HL := Lib.hid (show ∀ W, Fr (fun _ => False) w W → Calls Try.prog 26 #[.pointer (some ⟨p, 0, none⟩), lnV l] W (fun e w' => e = .returned (.int .i64 (lendF s l).2) ∧ (∃ ls, Led w' p m g (lendF s l).1 ls) ∧ Fr (fun k => k = m ∨ k = g) W w') from fun W hW => by
    obtain ⟨ls, hl⟩ := h.led
    exact (lend_any p m g s ls l W (hl.fr hW id id id) (debts_small hk hK)).mono (fun e w' q => ⟨q.1, q.2.imp (fun _ x => x.1), by obtain ⟨_, _, x⟩ := q.2; exact x⟩))
  have HB := Lib.hid (show ∀ W, Fr (fun k => k = m ∨ k = g) w W → (∃ ls, Led W p m g (lendF s l).1 ls) → Calls Try.prog 35 #[.pointer (some ⟨r, 0, none⟩), lnV l] W (fun e w' => e = .returned (.int .i64 (lendF s l).2) ∧ Pr w' p m g r (lendF s l).1 ∧ Fr (fun k => k = r) W w') from fun W hf hl => by
    obtain ⟨ls, hl⟩ := hl
    obtain ⟨⟨A1, A2, c1, c2, hb, k1, k2⟩, hn⟩ := h.led_lend hl hf
    exact (rlend_any _ r s A1 A2 c1 c2 l W hb k1 k2 (by have := hk.nl; omega) (by have := hk.al; omega) hn (fun hh => hh.2.2.2 rfl)).mono (fun e w' q => by
      obtain ⟨rfl, A3, c3, A4, c4, x1, x2, x3, x4⟩ := q
      exact ⟨rfl, Pr.both hl x3 x1 x2 x4 h.ne, x4⟩))
  have hlt := h.lt
  generalize lendF s l = q at *
  obtain ⟨f, t, u⟩ := l
  simp only [lnV] at HL HB
  obtain ⟨hlp, hlm, hlg, hlr⟩ := hlt
  have nm : w.heap.size ≠ m := by omega
  have ng : w.heap.size ≠ g := by omega
  have nr : w.heap.size ≠ r := by omega
  have HN := Lib.hid (show ¬ (w.heap.size = m ∨ w.heap.size = g) from by omega)
  have hX := Blk.new w 44 #[.int .i64 1, .int .i64 f, .int .i64 t, .int .i64 u]
  have hF := (Fr.refl (fun _ => False) w).alloc (.cells #[.int .i64 1, .int .i64 f, .int .i64 t, .int .i64 u] 44)
  clear h hk hw0 hlp hlm hlg hlr
  unfold acV
  simp only
  go_enter Try.func20, Try.ntmps20
  have HX := Lib.hid hX
  have HF := Lib.hid hF
  clear hX hF
  obtain ⟨x0, x1, x2⟩ := HX.out.facts
  go_wp2_with fail
  clear x0 x1 x2
  generalize w.alloc (.cells #[.int .i64 1, .int .i64 f, .int .i64 t, .int .i64 u] 44) = W at *
  go_region_held (fun w' => ∀ i, w'.cell? ⟨w.heap.size, i, none⟩ = #[Value.int .i64 1, .int .i64 f, .int .i64 t, .int .i64 u][i]?) (first | exact HX.out.cell | exact HX2.out.cell | exact HX3.out.cell) (first
    | (go_at_call 26; refine (HL.out _ HF.out.drew).mono ?_; rintro e w2 ⟨rfl, hl2, hf2⟩; have HX2 := Lib.hid (HX.out.drew.fr hf2 HN.out); have HL2 := Lib.hid hl2; have HF2 := Lib.hid hf2; clear hl2 hf2)
    | (go_at_call 35; refine (HB.out _ ((HF.out.drew.mono (fun _ _ e => e.elim)).trans HF2.out) HL2.out).mono ?_; rintro e w3 ⟨rfl, hp3, hf3⟩; have HX3 := Lib.hid (HX2.out.fr hf3 nr); have HP3 := Lib.hid hp3; have HF3 := Lib.hid hf3; clear hp3 hf3))
  go_wp2_with fail
  go_ret
  exact ⟨by simp, HP3.out, (((HF.out.drew.mono (fun _ _ e => e.elim)).trans (HF2.out.mono (T := fun k => k = m ∨ k = g ∨ k = r) (fun _ _ e => by rcases e with e | e <;> simp [e]))).trans (HF3.out.mono (fun _ _ e => by simp [e])))⟩
theorem backF_all (s : LSt) (u : Int) : (backF s u).1.all = s.all := by
  unfold backF; split <;> rfl
set_option maxRecDepth 10000 in
set_option maxHeartbeats 4000000 in
theorem do_back (p m g r : Nat) (s : LSt) (K : Nat) (l : Ln) (w : World) (h : Pr w p m g r s) (hk : LOk s K) (hK : K ≤ 1000) :
    Calls Try.prog 20 #[.pointer (some ⟨p, 0, none⟩), .pointer (some ⟨r, 0, none⟩), acV ⟨2, l⟩] w (DoPost p m g r (backF s l.u).1 w) := by
  have hw0 := Fr.refl (fun _ => False) w
  have HPr := Lib.hid h
  have HL := Lib.hid (show ∀ W, Fr (fun _ => False) w W → Calls Try.prog 27 #[.pointer (some ⟨p, 0, none⟩), .int .i64 l.u] W (fun e w' => e = .returned (.int .i64 (backF s l.u).2) ∧ (∃ ls, Led w' p m g (backF s l.u).1 ls) ∧ Fr (fun k => k = m ∨ k = g) W w') from fun W hW => by
    obtain ⟨ls, hl⟩ := h.led
    exact (return_any p m g s ls l.u W (hl.fr hW id id id) hk.nodup).mono (fun e w' q => ⟨q.1, q.2.imp (fun _ x => x.1), by obtain ⟨_, _, x⟩ := q.2; exact x⟩))
  have HB := Lib.hid (show ∀ W, Fr (fun k => k = m ∨ k = g) w W → (∃ ls, Led W p m g (backF s l.u).1 ls) → Calls Try.prog 36 #[.pointer (some ⟨r, 0, none⟩), .int .i64 l.u] W (fun e w' => e = .returned (.int .i64 (backF s l.u).2) ∧ Pr w' p m g r (backF s l.u).1 ∧ Fr (fun k => k = r) W w') from fun W hf hl => by
    obtain ⟨ls, hl⟩ := hl
    obtain ⟨⟨A1, A2, c1, c2, hb, k1, k2⟩, hn⟩ := h.led_lend hl hf
    exact (back_any _ r s A1 A2 c1 c2 l.u W hb k1 (by have := hk.nl; omega) hk.srt hn (fun hh => hh.2.2.2 rfl)).mono (fun e w' q => by
      obtain ⟨rfl, A3, c3, x1, x3, x4⟩ := q
      exact ⟨rfl, Pr.both hl x3 x1 (by rw [backF_all]; exact k2) x4 h.ne, x4⟩))
  have hlt := h.lt
  generalize backF s l.u = q at *
  obtain ⟨f, t, u⟩ := l
  simp only at HL HB
  obtain ⟨hlp, hlm, hlg, hlr⟩ := hlt
  have nm : w.heap.size ≠ m := by omega
  have ng : w.heap.size ≠ g := by omega
  have nr : w.heap.size ≠ r := by omega
  have HN := Lib.hid (show ¬ (w.heap.size = m ∨ w.heap.size = g) from by omega)
  have hX := Blk.new w 44 #[.int .i64 2, .int .i64 f, .int .i64 t, .int .i64 u]
  have hF := (Fr.refl (fun _ => False) w).alloc (.cells #[.int .i64 2, .int .i64 f, .int .i64 t, .int .i64 u] 44)
  clear h hk hw0 hlp hlm hlg hlr
  unfold acV
  simp only
  go_enter Try.func20, Try.ntmps20
  have HX := Lib.hid hX
  have HF := Lib.hid hF
  clear hX hF
  obtain ⟨x0, x1, x2⟩ := HX.out.facts
  go_wp2_with fail
  clear x0 x1 x2
  generalize w.alloc (.cells #[.int .i64 2, .int .i64 f, .int .i64 t, .int .i64 u] 44) = W at *
  go_region_held (fun w' => ∀ i, w'.cell? ⟨w.heap.size, i, none⟩ = #[Value.int .i64 2, .int .i64 f, .int .i64 t, .int .i64 u][i]?) (first | exact HX.out.cell | exact HX2.out.cell | exact HX3.out.cell) (first
    | (go_at_call 27; refine (HL.out _ HF.out.drew).mono ?_; rintro e w2 ⟨rfl, hl2, hf2⟩; have HX2 := Lib.hid (HX.out.drew.fr hf2 HN.out); have HL2 := Lib.hid hl2; have HF2 := Lib.hid hf2; clear hl2 hf2)
    | (go_at_call 36; refine (HB.out _ ((HF.out.drew.mono (fun _ _ e => e.elim)).trans HF2.out) HL2.out).mono ?_; rintro e w3 ⟨rfl, hp3, hf3⟩; have HX3 := Lib.hid (HX2.out.fr hf3 nr); have HP3 := Lib.hid hp3; have HF3 := Lib.hid hf3; clear hp3 hf3))
  go_wp2_with fail
  go_ret
  exact ⟨by simp, HP3.out, (((HF.out.drew.mono (fun _ _ e => e.elim)).trans (HF2.out.mono (T := fun k => k = m ∨ k = g ∨ k = r) (fun _ _ e => by rcases e with e | e <;> simp [e]))).trans (HF3.out.mono (fun _ _ e => by simp [e])))⟩
set_option maxRecDepth 10000 in
set_option maxHeartbeats 4000000 in
theorem do_none (p m g r : Nat) (s : LSt) (a : Ac) (w : World) (h : Pr w p m g r s) (h1 : a.k ≠ 1) (h2 : a.k ≠ 2) :
    Calls Try.prog 20 #[.pointer (some ⟨p, 0, none⟩), .pointer (some ⟨r, 0, none⟩), acV a] w (DoPost p m g r s w) := by
  have HE := Lib.hid (show ∀ W, Below w.heap.size w W → DoPost p m g r s w (.returned (.bool true)) W from fun W hb => ⟨rfl, h.below hb, Fr.of_below hb⟩)
  obtain ⟨k, ⟨f, t, u⟩⟩ := a
  simp only at h1 h2
  have d1 : (k == 1) = false := by simpa using h1
  have d2 : (k == 2) = false := by simpa using h2
  clear h
  have hX := Blk.new w 44 #[.int .i64 k, .int .i64 f, .int .i64 t, .int .i64 u]
  have HF := Lib.hid ((Below.refl w.heap.size w).alloc (Nat.le_refl _) (.cells #[.int .i64 k, .int .i64 f, .int .i64 t, .int .i64 u] 44))
  unfold acV
  simp only
  go_enter Try.func20, Try.ntmps20
  obtain ⟨x0, x1, x2⟩ := hX.facts
  clear hX
  go_wp2_with fail
  go_ret
  exact HE.out _ HF.out
theorem do_any (p m g r : Nat) (s : LSt) (K : Nat) (a : Ac) (w : World) (h : Pr w p m g r s) (hk : LOk s K) (hK : K ≤ 1000) :
    Calls Try.prog 20 #[.pointer (some ⟨p, 0, none⟩), .pointer (some ⟨r, 0, none⟩), acV a] w (DoPost p m g r (stepF s a) w) := by
  unfold stepF
  by_cases h1 : a.k = 1
  · rw [if_pos h1]
    have := do_lend p m g r s K a.l w h hk hK
    have e : a = ⟨1, a.l⟩ := by cases a; simp only at h1; rw [h1]
    rw [e]; exact this
  · rw [if_neg h1]
    by_cases h2 : a.k = 2
    · rw [if_pos h2]
      have := do_back p m g r s K a.l w h hk hK
      have e : a = ⟨2, a.l⟩ := by cases a; simp only at h2; rw [h2]
      rw [e]; exact this
    · rw [if_neg h2]
      exact do_none p m g r s a w h h1 h2
theorem LOk.step {s : LSt} {k : Nat} (h : LOk s k) (a : Ac) : LOk (stepF s a) (k + 1) := by
  unfold stepF
  split
  · exact h.lend _
  · split
    · exact (h.back _).more (by omega)
    · exact h.more (by omega)
end Go.Proofs.Ytnmmiiajcjcccaa

import Derived.Test.YtbhbamgnapcbaaaJou5
namespace Go.Proofs.Ytbhbamgnapcbaaa
set_option linter.unusedVariables false
open Go.RowKit Go.Own Go.Quo Go.Wire
theorem JS.cut {w : World} {Z : Nat → Prop} {p j : Nat} {recs : List (Int × List Int)} {dur : Int} {off : Bool} (h : JS w Z p j recs dur off) : JS w (fun k => Z k ∧ k < w.heap.size) p j recs dur off := by
  obtain ⟨A, c, Ar, cr, As, cs, rs, h1, h2⟩ := h
  exact ⟨A, c, Ar, cr, As, cs, rs, ⟨h1.fb, h1.fo, h1.jb, h1.ro, h1.so, ⟨h1.zp, h1.fb.lt⟩, ⟨h1.zj, h1.jb.lt⟩, fun g hg => ⟨h1.zf g hg, own_lt h1.fo hg⟩, fun g hg => ⟨h1.zr g hg, own_lt h1.ro hg⟩, fun g hg => ⟨h1.zs g hg, own_lt h1.so hg⟩, fun r hr => ((h1.bd r hr).old (by omega)).more (fun k hk => ⟨⟨hk.1.1, hk.2⟩, hk.1.2⟩)⟩, h2⟩
/-- A vote record at block v upon a journal; all is durable. -/
structure VS (w : World) (Z : Nat → Prop) (p j v : Nat) (recs : List (Int × List Int)) (term voted : Int) : Prop where
  b : Blk w v 91 #[.pointer (some ⟨j, 0, none⟩), .int .i64 term, .int .i64 voted]
  nz : ¬ Z v
  js : JS w Z p j recs (encJ initS recs).length false
  bd : ∀ k, Z k → k < w.heap.size
theorem VS.fr {w w' : World} {Z S : Nat → Prop} {p j v : Nat} {recs : List (Int × List Int)} {term voted : Int} (h : VS w Z p j v recs term voted) (hf : Fr S w w') (hS : ∀ g, (Z g ∨ g = v) → ¬ S g) : VS w' Z p j v recs term voted :=
  ⟨h.b.fr hf (hS _ (.inr rfl)), h.nz, h.js.fr hf (fun g hg => hS g (.inl hg)), fun k hk => Nat.lt_of_lt_of_le (h.bd k hk) hf.size⟩
def validT (t : Int) : Bool := decide (1 ≤ t) && decide (t ≤ 1099511627776)
def validN (n : Int) : Bool := decide (0 ≤ n) && decide (n < 9)
set_option maxHeartbeats 400000 in
theorem validTerm_any (t : Int) (w : World) (q : Bool) (hq : validT t = q) : Calls Try.prog 45 #[.int .i64 t] w fun e w' => e = .returned (.bool q) ∧ w = w' := by
  subst hq
  unfold validT
  by_cases h1 : 1 ≤ t
  · go_enter Try.func45, Try.ntmps45
    go_wp2
    go_ret
    exact ⟨by simp [h1], rfl⟩
  · go_enter Try.func45, Try.ntmps45
    go_wp2
    go_ret
    exact ⟨by simp; omega, rfl⟩
set_option maxHeartbeats 400000 in
theorem validNode_any (t : Int) (w : World) (q : Bool) (hq : validN t = q) : Calls Try.prog 50 #[.int .i64 t] w fun e w' => e = .returned (.bool q) ∧ w = w' := by
  subst hq
  unfold validN
  by_cases h1 : 0 ≤ t
  · go_enter Try.func50, Try.ntmps50
    go_wp2
    go_ret
    exact ⟨by simp [h1], rfl⟩
  · go_enter Try.func50, Try.ntmps50
    go_wp2
    go_ret
    exact ⟨by simp; omega, rfl⟩
set_option maxHeartbeats 400000 in
theorem term_any (w : World) (Z : Nat → Prop) (p j v : Nat) (recs : List (Int × List Int)) (term voted : Int) (h : VS w Z p j v recs term voted) : Calls Try.prog 15 #[.pointer (some ⟨v, 0, none⟩)] w fun e w' => e = .returned (.int .i64 term) ∧ w = w' := by
  obtain ⟨q0, q1, q2⟩ := h.b.facts
  go_enter Try.func15, Try.ntmps15
  go_wp2
  go_ret
  exact ⟨rfl, rfl⟩
set_option maxHeartbeats 400000 in
theorem votedFor_any (w : World) (Z : Nat → Prop) (p j v : Nat) (recs : List (Int × List Int)) (term voted : Int) (h : VS w Z p j v recs term voted) : Calls Try.prog 16 #[.pointer (some ⟨v, 0, none⟩)] w fun e w' => e = .returned (.int .i64 voted) ∧ w = w' := by
  obtain ⟨q0, q1, q2⟩ := h.b.facts
  go_enter Try.func16, Try.ntmps16
  go_wp2
  go_ret
  exact ⟨rfl, rfl⟩
def VPost (Z : Nat → Prop) (p j v : Nat) (recs : List (Int × List Int)) (term voted er : Int) (w : World) (e : Ending) (w' : World) : Prop :=
  e = .returned (.int .i64 er) ∧ ∃ Z' : Nat → Prop, VS w' Z' p j v recs term voted ∧ (∀ k, Z' k → Z k ∨ w.heap.size ≤ k) ∧ Fr (fun k => Z k ∨ k = v) w w'
set_option maxRecDepth 10000 in
set_option maxHeartbeats 1000000 in
theorem advance_bad (w : World) (Z : Nat → Prop) (p j v : Nat) (recs : List (Int × List Int)) (term voted t : Int) (h : VS w Z p j v recs term voted) (ht : validT t = false) :
    Calls Try.prog 19 #[.pointer (some ⟨v, 0, none⟩), .int .i64 t] w (VPost Z p j v recs term voted 1 w) := by
  have HV := Lib.hid (validTerm_any t w false ht)
  clear ht
  go_enter Try.func19, Try.ntmps19
  go_wp2_with (go_at_call 45; ((with_reducible refine HV.out.mono ?_); rintro e w1 ⟨rfl, rfl⟩))
  go_ret
  exact ⟨rfl, Z, h, fun k hk => .inl hk, Fr.refl _ _⟩
set_option maxRecDepth 10000 in
set_option maxHeartbeats 1000000 in
theorem advance_stale (w : World) (Z : Nat → Prop) (p j v : Nat) (recs : List (Int × List Int)) (term voted t : Int) (h : VS w Z p j v recs term voted) (ht : validT t = true) (hs : t ≤ term) :
    Calls Try.prog 19 #[.pointer (some ⟨v, 0, none⟩), .int .i64 t] w (VPost Z p j v recs term voted 9 w) := by
  have HV := Lib.hid (validTerm_any t w true ht)
  obtain ⟨q0, q1, q2⟩ := h.b.facts
  clear ht
  go_enter Try.func19, Try.ntmps19
  go_wp2_with (go_at_call 45; ((with_reducible refine HV.out.mono ?_); rintro e w1 ⟨rfl, rfl⟩))
  go_ret
  exact ⟨rfl, Z, h, fun k hk => .inl hk, Fr.refl _ _⟩
set_option maxRecDepth 10000 in
set_option maxHeartbeats 2000000 in
theorem advance_ok (w : World) (Z : Nat → Prop) (p j v : Nat) (recs : List (Int × List Int)) (term voted t : Int) (h : VS w Z p j v recs term voted) (ht : validT t = true) (hs : ¬ t ≤ term) (hfit : (encJ initS (recs ++ [(84, encI t)])).length ≤ 16777216) (hrl : recs.length ≤ 1000000) :
    Calls Try.prog 19 #[.pointer (some ⟨v, 0, none⟩), .int .i64 t] w (VPost Z p j v (recs ++ [(84, encI t)]) t (-1) 0 w) := by
  have HV := Lib.hid (validTerm_any t w true ht)
  have htr : 1 ≤ t ∧ t ≤ 1099511627776 := by unfold validT at ht; simpa using ht
  obtain ⟨q0, q1, q2⟩ := h.b.facts
  have f1 : Fr (fun _ => False) w (w.alloc (.cells #[.slice none 0 0] 100)) := (Fr.refl _ _).alloc _
  have h1 := h.fr f1 (fun _ _ => id)
  have w1 := WrP.new w
  have hel := encI_len (n := t) (by omega) (by omega)
  have hby : Bytes (encI t) := encU_bytes _
  have HI := Lib.hid fun W' (x : WrP W' w.heap.size []) => int_any w.heap.size t [] W' x (by omega) (by omega) (by simp)
  have HEn := Lib.hid fun W' (x : WrP W' w.heap.size (encI t)) => encoded_cap w.heap.size _ W' x (by omega)
  have HSt := Lib.hid fun (W' : World) (A0 : Option Addr) (c0 : Nat) (x : VS W' Z p j v recs term voted) (y : Reads W' (fun k => ¬ Z k) 1 A0 (encI t).length (bys (encI t))) => store_any W' Z p j v recs _ 84 term voted A0 c0 (encI t) x.b x.nz x.js (by omega) (by omega) hby (by omega) y hfit hrl
  have HbZ := Lib.hid h.bd
  have hvl := h.b.lt
  clear ht hby hfit h
  generalize encI t = en at *
  go_enter Try.func19, Try.ntmps19
  go_wp2_with (go_at_call 45; ((with_reducible refine HV.out.mono ?_); rintro e w1 ⟨rfl, rfl⟩))
  generalize w.alloc (.cells #[.slice none 0 0] 100) = W1 at *
  refine (HI.out W1 w1).mono ?_
  rintro e w2 ⟨rfl, hw2, hB2⟩
  rw [List.nil_append] at hw2
  have hsw := f1.size
  have h2 := h1.fr (S := fun k => w.heap.size ≤ k) ⟨hB2.os, hB2.tape, hB2.output, hB2.size, fun k _ hn => hB2.block k (by omega)⟩ (fun g hg => by
    rcases hg with hg | hg
    · have := HbZ.out g hg; omega
    · omega)
  have hs2 := hB2.size
  go_wp2_with fail
  refine (HEn.out w2 hw2).mono ?_
  rintro e w3 ⟨A3, c3, rfl, r3, hB3, hc3⟩
  have h3 := h2.fr (Fr.of_below (S := fun _ => False) hB3) (fun _ _ => id)
  have hs3 := hB3.size
  have HS3 := Lib.hid (HSt.out w3 A3 c3 h3 (r3.more (fun k hk hz => by have := HbZ.out k hz; omega)))
  go_wp2_with fail
  refine HS3.out.mono ?_
  rintro e w4 ⟨rfl, hj4, hf4⟩
  have hb4 := h3.b.fr hf4 h3.nz
  have hs4 := hf4.size
  obtain ⟨x0, x1, x2⟩ := hb4.facts
  go_wp2_with fail
  go_ret
  have f5 : Fr (fun k => k = v) w4 ((w4.setCell ⟨v, 1, none⟩ (.int .i64 t)).setCell ⟨v, 2, none⟩ (.int .i64 (-1))) := ((Fr.refl (fun k => k = v) _).setCell (.inl rfl) _).setCell (.inl rfl) _
  have hnz : ∀ g, ((Z g ∨ w3.heap.size ≤ g) ∧ g < w4.heap.size) → g ≠ v := by
    rintro g ⟨hg | hg, _⟩ e
    · exact h3.nz (e ▸ hg)
    · omega
  have hj5 := (hj4.cut).fr f5 hnz
  refine ⟨rfl, _, ⟨by simpa using (hb4.set_ 1 (.int .i64 t)).set_ 2 (.int .i64 (-1)), fun hh => hnz v hh rfl, hj5, fun k hk => by simpa using hk.2⟩, fun k hk => hk.1.elim .inl (fun e => .inr (by omega)), ?_⟩
  refine ⟨hf4.os.trans (hB3.os.trans (hB2.os.trans f1.os)), hf4.tape.trans (hB3.tape.trans (hB2.tape.trans f1.tape)), hf4.output.trans (hB3.output.trans (hB2.output.trans f1.output)), by simp; omega, fun k hk hn => ?_⟩
  have e1 := f1.block k hk id
  have e2 := hB2.block k hk
  have e3 := hB3.block k (by omega)
  have e4 := hf4.block k (by omega) (fun hz => hn (.inl hz))
  have e5 := f5.block k (by omega) (fun hz => hn (.inr hz))
  exact e5.trans (e4.trans (e3.trans (e2.trans e1)))
end Go.Proofs.Ytbhbamgnapcbaaa

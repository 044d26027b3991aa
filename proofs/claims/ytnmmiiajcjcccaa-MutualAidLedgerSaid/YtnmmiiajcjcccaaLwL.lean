import Derived.Test.YtnmmiiajcjcccaaAwk3
namespace Go.Proofs.Ytnmmiiajcjcccaa
set_option linter.unusedVariables false
open Go.RowKit Go.Own Go.Quo Go.Aid
set_option maxRecDepth 10000 in
set_option maxHeartbeats 4000000 in
theorem ledger_long (n : Int) (A : Option Addr) (c : Nat) (l : List Ac) (w : World) (hl : 60 < l.length) :
    Calls Try.prog 6 #[.int .i64 n, .slice A l.length c] w (fun e w' => e = .returned (.bool true) ∧ Below w.heap.size w w') := by
  have HAw := Lib.hid fun W => awake_any W
  have n3 : (60 : Int) < l.length := by omega
  clear hl
  go_enter Try.func6, Try.ntmps6
  go_wp2_with fail
  refine (HAw.out _).mono ?_
  rintro e w2 ⟨rfl, b2⟩
  go_wp2_with fail
  refine (HAw.out _).mono ?_
  rintro e w3 ⟨rfl, b3⟩
  go_wp2_with fail
  go_ret
  exact ⟨rfl, b2.trans (b3.mono b2.size)⟩
set_option maxRecDepth 10000 in
set_option maxHeartbeats 4000000 in
theorem ledger_bad (n : Int) (A : Option Addr) (c : Nat) (l : List Ac) (w : World) (hl : ¬ 60 < l.length) (h1 : n < 1 ∨ 64 < n) :
    Calls Try.prog 6 #[.int .i64 n, .slice A l.length c] w (fun e w' => e = .returned (.bool true) ∧ Below w.heap.size w w') := by
  have HAw := Lib.hid fun W => awake_any W
  have HN := Lib.hid fun W => new_bad n W h1
  have n3 : decide ((60 : Int) < l.length) = false := by simp; omega
  clear hl
  by_cases h2 : n < 1
  · have n1 : decide (n < 1) = true := by simpa using h2
    clear h1
    go_enter Try.func6, Try.ntmps6
    go_wp2_with fail
    refine (HAw.out _).mono ?_
    rintro e w2 ⟨rfl, b2⟩
    go_wp2_with (go_at_call 18; ((with_reducible refine (HN.out _).mono ?_); rintro e w3 ⟨rfl, rfl⟩))
    go_ret
    exact ⟨rfl, b2⟩
  · have n1 : decide (n < 1) = false := by simpa using h2
    have n2 : decide (64 < n) = true := by simp; omega
    clear h1 h2
    go_enter Try.func6, Try.ntmps6
    go_wp2_with fail
    refine (HAw.out _).mono ?_
    rintro e w2 ⟨rfl, b2⟩
    go_wp2_with (go_at_call 18; ((with_reducible refine (HN.out _).mono ?_); rintro e w3 ⟨rfl, rfl⟩))
    go_ret
    exact ⟨rfl, b2⟩
set_option maxRecDepth 10000 in
set_option maxHeartbeats 4000000 in
theorem ledger_ok (d : Nat) (h1 : ¬ (d : Int) < 1) (h2 : ¬ 64 < (d : Int)) (A : Option Addr) (c : Nat) (l : List Ac) (w : World) (hr : Reads w (fun k => k < w.heap.size) 4 A l.length (l.flatMap acL)) (hl : ¬ 60 < l.length) (hwf : ∀ a ∈ l, (Lit.int .i64 a.l.u).wf = true) :
    Calls Try.prog 6 #[.int .i64 (d : Int), .slice A l.length c] w (fun e w' => e = .returned (.bool true) ∧ Below w.heap.size w w') := by
  have HAw := Lib.hid fun W => awake_any W
  have HN := Lib.hid fun W => new_ok (d : Int) W h1 h2
  have n1 : decide ((d : Int) < 1) = false := by simp; omega
  have n2 : decide (64 < (d : Int)) = false := by simp; omega
  have n3 : decide ((60 : Int) < l.length) = false := by simp; omega
  have hp := hr.plain (by omega)
  have HR := Lib.hid hr
  have HWf := Lib.hid hwf
  clear hr hwf h1
  go_enter Try.func6, Try.ntmps6
  go_wp2_with fail
  refine (HAw.out _).mono ?_
  rintro e w2 ⟨rfl, b2⟩
  have B2 := Lib.hid b2
  clear b2
  go_wp2_with (go_at_call 18; ((with_reducible refine (HN.out _).mono ?_); rintro e w3 ⟨d', p, m, g, hd', rfl, hl3, hp3, hm3, hg3, hb⟩; obtain rfl : d = d' := (by have := hd'; omega); clear hd'; have HB3 := Lib.hid (B2.out.trans (hb.mono B2.out.size)); have HL3 := Lib.hid hl3; clear hl3 hb))
  obtain ⟨-, -, -, hpl, hml, hgl⟩ := HL3.out.ne
  have HPr := Lib.hid (show Pr (w3.alloc (.cells #[.int .i64 (d : Int), .slice none 0 0, .slice none 0 0] 39)) p m g w3.heap.size (stepsF ⟨d, [], []⟩ (l.take 0)) from ⟨⟨[], HL3.out.fr ((Fr.refl (fun _ => False) w3).alloc _) id id id⟩, ⟨none, none, 0, 0, ⟨Blk.new w3 39 _, Reads.none_, Reads.none_⟩, Nat.le_refl _, Nat.le_refl _⟩, by omega, by omega, by omega⟩)
  have HB4 := Lib.hid (HB3.out.alloc HB3.out.size (.cells #[.int .i64 (d : Int), .slice none 0 0, .slice none 0 0] 39))
  have hs2 := B2.out.size
  have hs3 := HB3.out.size
  clear HL3 HN
  have HSa := Lib.hid fun (k : Nat) (hk : k ≤ l.length) (W : World) (h : Pr W p m g w3.heap.size (stepsF ⟨d, [], []⟩ (l.take k))) (h' : LOk (stepsF ⟨d, [], []⟩ (l.take k)) k) (hu : UOk (stepsF ⟨d, [], []⟩ (l.take k))) (hnn : (stepsF ⟨d, [], []⟩ (l.take k)).n = d) => same_any p m g w3.heap.size (stepsF ⟨d, [], []⟩ (l.take k)) k W h h' (by omega) (by rw [hnn]; omega) hu
  generalize w3.alloc (.cells #[.int .i64 (d : Int), .slice none 0 0, .slice none 0 0] 39) = W4 at *
  refine (HSa.out 0 (Nat.zero_le _) W4 HPr.out (LOk.new d) (fun x hx => by cases hx) rfl).mono ?_
  rintro e w5 ⟨rfl, b5⟩
  have HPr5 := Lib.hid (HPr.out.below b5)
  have HB5 := Lib.hid (HB4.out.trans (b5.mono HB4.out.size))
  clear b5 HPr HB4
  go_wp2_with fail
  go_loopw [52] (fun vi wr => ∃ (k : Nat), k ≤ l.length ∧ vi = .int .i64 k ∧ Pr wr p m g w3.heap.size (stepsF ⟨d, [], []⟩ (l.take k)) ∧ LOk (stepsF ⟨d, [], []⟩ (l.take k)) k ∧ UOk (stepsF ⟨d, [], []⟩ (l.take k)) ∧ (stepsF ⟨d, [], []⟩ (l.take k)).n = d ∧ Below w.heap.size w wr) (fun vi _ => l.length - (intOf vi).toNat)
  case atStart => exact ⟨0, Nat.zero_le _, rfl, HPr5.out, LOk.new d, (fun x hx => by cases hx), rfl, HB5.out⟩
  case round =>
    obtain ⟨k, hk, rfl, hpr, hlk, huk, hnk, hbel⟩ := hrel
    have HB := Lib.hid hbel
    by_cases hlt : k < l.length
    · have hlt' : (k : Int) < l.length := by omega
      obtain ⟨x, hx⟩ : ∃ x, l[k]? = some x := ⟨_, List.getElem?_eq_getElem hlt⟩
      obtain ⟨z1, z2, z3, z4⟩ := ac_cells (HR.out.below hbel (fun _ h => h)) hx
      have hix := fun W => ix31 hp c k hlt W
      have HTk := Lib.hid (take_snoc hx)
      have HDo := Lib.hid (show ∀ W, Below wr.heap.size wr W → Calls Try.prog 20 #[.pointer (some ⟨p, 0, none⟩), .pointer (some ⟨w3.heap.size, 0, none⟩), .agg #[.int .i64 x.k, .int .i64 x.l.f, .int .i64 x.l.t, .int .i64 x.l.u]] W (DoPost p m g w3.heap.size (stepF (stepsF ⟨d, [], []⟩ (l.take k)) x) W) from fun W hW => do_any p m g w3.heap.size _ k x W (hpr.below hW) hlk (by omega))
      have HFin := Lib.hid (show LOk (stepsF ⟨d, [], []⟩ (l.take (k + 1))) (k + 1) ∧ UOk (stepsF ⟨d, [], []⟩ (l.take (k + 1))) ∧ (stepsF ⟨d, [], []⟩ (l.take (k + 1))).n = d from by
        rw [HTk.out, steps_snoc]
        exact ⟨LOk.step hlk x, huk.step (HWf.out x (List.mem_of_getElem? hx)), by rw [step_n]; exact hnk⟩)
      have HBW := Lib.hid ((Below.refl wr.heap.size wr).alloc (Nat.le_refl _) (.cells #[.int .i64 x.k, .int .i64 x.l.f, .int .i64 x.l.t, .int .i64 x.l.u] 44))
      have hsz := hbel.size
      clear hpr hlk huk hnk hbel hx
      go_wp2_with (go_at_call 20; ((with_reducible refine (HDo.out _ HBW.out).mono ?_); rintro e w6 ⟨rfl, hp6, hf6⟩))
      have hb6 := Lib.hid ((HB.out.trans (HBW.out.mono hsz)).trans (hf6.below (by have := HBW.out.size; omega) (fun k hk e => by omega)))
      have HP6 := Lib.hid (show Pr w6 p m g w3.heap.size (stepsF ⟨d, [], []⟩ (l.take (k + 1))) by rw [HTk.out, steps_snoc]; exact hp6)
      clear hf6 hp6
      refine (HSa.out (k + 1) hlt w6 HP6.out HFin.out.1 HFin.out.2.1 HFin.out.2.2).mono ?_
      rintro e w7 ⟨rfl, b7⟩
      have HP7 := Lib.hid (HP6.out.below b7)
      have HB7 := Lib.hid (hb6.out.trans (b7.mono hb6.out.size))
      clear b7
      go_wp2_with fail
      exact ⟨⟨k + 1, by omega, by go_num, HP7.out, HFin.out.1, HFin.out.2.1, HFin.out.2.2, HB7.out⟩, by simp [intOf]; omega⟩
    · have hlt' : ¬ (k : Int) < l.length := by omega
      clear hpr hlk huk hnk hbel
      go_wp2_with fail
      go_ret
      exact ⟨rfl, HB.out⟩
theorem ledger_law (n : Int) (A : Option Addr) (c : Nat) (l : List Ac) (w : World) (h : Reads w (· < w.heap.size) 4 A l.length (l.flatMap acL) ∧ ∀ a ∈ l, (Lit.int .i64 a.l.u).wf = true) :
    Calls Try.prog 6 #[.int .i64 n, .slice A l.length c] w (fun e w' => e = .returned (.bool true) ∧ Below w.heap.size w w') := by
  by_cases hl : 60 < l.length
  · exact ledger_long n A c l w hl
  · by_cases h1 : n < 1 ∨ 64 < n
    · exact ledger_bad n A c l w hl h1
    · obtain ⟨d, rfl⟩ : ∃ d : Nat, n = d := ⟨n.toNat, by omega⟩
      exact ledger_ok d (by omega) (by omega) A c l w h.1 hl h.2
end Go.Proofs.Ytnmmiiajcjcccaa

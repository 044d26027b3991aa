import Derived.Test.YtnmmiiajcjcccaaSm2
namespace Go.Proofs.Ytnmmiiajcjcccaa
set_option linter.unusedVariables false
open Go.RowKit Go.Own Go.Quo Go.Aid
def acL (a : Ac) : List Value := [.int .i64 a.k, .int .i64 a.l.f, .int .i64 a.l.t, .int .i64 a.l.u]
theorem acL_len (a : Ac) : (acL a).length = 4 := rfl
theorem info44 : (Try.prog.info? 44).map (fun i => (i.zero, i.size, i.bytes)) = some (some (.agg #[.int .i64 0, .int .i64 0, .int .i64 0, .int .i64 0]), 4, 32) := by kernel_rfl
theorem i44x : ∃ i, Try.prog.info? 44 = some i ∧ i.size = 4 := by obtain ⟨i, h, _, h2, _⟩ := info_parts info44; exact ⟨i, h, h2⟩
theorem ix31 {A : Option Addr} {n : Nat} (hA : Plain A n) (c k : Nat) (hk : k < n) (w : World) : (Instr.indexAt 31 (.slice A n c) (.int .i64 (k : Int))).run Try.prog w = .ok (.pointer (some ⟨bk A, ofs A + k * 4, none⟩)) w := by
  obtain ⟨i, h1, h2⟩ := i44x
  exact run_indexAt2 (P := Try.prog) Try.underlying31 h1 h2 hA c k hk w
theorem ac_cells {w : World} {B : Nat → Prop} {A : Option Addr} {l : List Ac} (h : Reads w B 4 A l.length (l.flatMap acL)) {k : Nat} {x : Ac} (hx : l[k]? = some x) :
    w.cell? ⟨bk A, ofs A + k * 4, none⟩ = some (.int .i64 x.k) ∧ w.cell? ⟨bk A, ofs A + k * 4 + 1, none⟩ = some (.int .i64 x.l.f) ∧ w.cell? ⟨bk A, ofs A + k * 4 + 2, none⟩ = some (.int .i64 x.l.t) ∧ w.cell? ⟨bk A, ofs A + k * 4 + 3, none⟩ = some (.int .i64 x.l.u) := by
  have hk := (List.getElem?_eq_some_iff.1 hx).1
  refine ⟨?_, ?_, ?_, ?_⟩
  · rw [h.cell2 (k * 4) (by omega) (by omega)]
    simpa [acL] using flat_get acL 4 acL_len l k 0 x hx (by omega)
  · rw [Nat.add_assoc, h.cell2 (k * 4 + 1) (by omega) (by omega)]
    simpa [acL] using flat_get acL 4 acL_len l k 1 x hx (by omega)
  · rw [Nat.add_assoc, h.cell2 (k * 4 + 2) (by omega) (by omega)]
    simpa [acL] using flat_get acL 4 acL_len l k 2 x hx (by omega)
  · rw [Nat.add_assoc, h.cell2 (k * 4 + 3) (by omega) (by omega)]
    simpa [acL] using flat_get acL 4 acL_len l k 3 x hx (by omega)
def stepsF (s : LSt) (l : List Ac) : LSt := l.foldl stepF s
theorem steps_snoc (s : LSt) (l : List Ac) (a : Ac) : stepsF s (l ++ [a]) = stepF (stepsF s l) a := by unfold stepsF; rw [List.foldl_append]; rfl
def UOk (s : LSt) : Prop := ∀ x ∈ s.now, (Lit.int .i64 x.u).wf = true
theorem lend_n (s : LSt) (l : Ln) : (lendF s l).1.n = s.n := by unfold lendF; split; · rfl
                                                                split <;> rfl
theorem back_n (s : LSt) (u : Int) : (backF s u).1.n = s.n := by unfold backF; split <;> rfl
theorem step_n (s : LSt) (a : Ac) : (stepF s a).n = s.n := by
  unfold stepF; split
  · exact lend_n _ _
  · split
    · exact back_n _ _
    · rfl
theorem UOk.lend {s : LSt} (h : UOk s) {l : Ln} (hl : (Lit.int .i64 l.u).wf = true) : UOk (lendF s l).1 := by
  unfold lendF; split
  · exact h
  · split
    · exact h
    · intro x hx
      rcases mem_insU.1 hx with hx | rfl
      · exact h x hx
      · exact hl
theorem UOk.back {s : LSt} (h : UOk s) (u : Int) : UOk (backF s u).1 := by
  unfold backF; split
  · intro x hx
    exact h x (List.mem_filter.1 hx).1
  · exact h
theorem UOk.step {s : LSt} (h : UOk s) {a : Ac} (hl : (Lit.int .i64 a.l.u).wf = true) : UOk (stepF s a) := by
  unfold stepF; split
  · exact h.lend hl
  · split
    · exact h.back _
    · exact h
def RunPost (d : Nat) (l : List Ac) (w : World) (e : Ending) (w' : World) : Prop :=
  ∃ p m g r, e = .returned (.tuple #[.pointer (some ⟨p, 0, none⟩), .pointer (some ⟨r, 0, none⟩)]) ∧ Pr w' p m g r (stepsF ⟨d, [], []⟩ l) ∧ LOk (stepsF ⟨d, [], []⟩ l) l.length ∧ UOk (stepsF ⟨d, [], []⟩ l) ∧ (stepsF ⟨d, [], []⟩ l).n = d ∧ w.heap.size ≤ p ∧ w.heap.size ≤ m ∧ w.heap.size ≤ g ∧ w.heap.size ≤ r ∧ Below w.heap.size w w'
set_option maxRecDepth 10000 in
set_option maxHeartbeats 4000000 in
theorem run_nil (n : Int) (A : Option Addr) (c : Nat) (l : List Ac) (w : World) (h : (n < 1 ∨ 64 < n) ∨ 60 < l.length) :
    Calls Try.prog 21 #[.int .i64 n, .slice A l.length c] w (fun e w' => (∃ q, e = .returned (.tuple #[.pointer none, q])) ∧ Below w.heap.size w w') := by
  have hb0 := Lib.hid ((Below.refl w.heap.size w).alloc (Nat.le_refl _) (.cells #[.int .i64 n, .slice none 0 0, .slice none 0 0] 39))
  by_cases h1 : n < 1 ∨ 64 < n
  · have HN := Lib.hid fun W => new_bad n W h1
    clear h h1
    go_enter Try.func21, Try.ntmps21
    go_wp2_with (go_at_call 18; ((with_reducible refine (HN.out _).mono ?_); rintro e w3 ⟨rfl, rfl⟩))
    refine bodyPost_ret (v := .tuple #[.pointer none, .pointer (some ⟨w.heap.size, 0, none⟩)]) (by simp [results, Try.results21, go_sem]) rfl ⟨⟨_, rfl⟩, hb0.out⟩
  · have h2 : 60 < l.length := by
      rcases h with h | h
      · exact absurd h h1
      · exact h
    have n1 : decide (n < 1) = false := by simp; omega
    have n2 : decide (64 < n) = false := by simp; omega
    have n3 : (60 : Int) < l.length := by omega
    have HN := Lib.hid fun W => new_ok n W (by omega) (by omega)
    clear h h1 h2
    go_enter Try.func21, Try.ntmps21
    go_wp2_with (go_at_call 18; ((with_reducible refine (HN.out _).mono ?_); rintro e w3 ⟨d, p, m, g, -, rfl, -, -, -, -, hb⟩; have HB3 := Lib.hid (hb0.out.trans (hb.mono hb0.out.size)); clear hb))
    refine bodyPost_ret (v := .tuple #[.pointer none, .pointer (some ⟨w.heap.size, 0, none⟩)]) (by simp [results, Try.results21, go_sem]) rfl ⟨⟨_, rfl⟩, HB3.out⟩
set_option maxRecDepth 10000 in
set_option maxHeartbeats 4000000 in
theorem run_ok (B : Nat → Prop) (d : Nat) (h1 : ¬ (d : Int) < 1) (h2 : ¬ 64 < (d : Int)) (A : Option Addr) (c : Nat) (l : List Ac) (w : World) (hr : Reads w B 4 A l.length (l.flatMap acL)) (hl : l.length ≤ 60) (hwf : ∀ a ∈ l, (Lit.int .i64 a.l.u).wf = true) :
    Calls Try.prog 21 #[.int .i64 (d : Int), .slice A l.length c] w (RunPost d l w) := by
  have hX := Lib.hid (Blk.new w 39 #[.int .i64 (d : Int), .slice none 0 0, .slice none 0 0])
  have hb0 := Lib.hid ((Below.refl w.heap.size w).alloc (Nat.le_refl _) (.cells #[.int .i64 (d : Int), .slice none 0 0, .slice none 0 0] 39))
  have HN := Lib.hid fun W => new_ok (d : Int) W h1 h2
  have n1 : decide ((d : Int) < 1) = false := by simp; omega
  have n2 : decide (64 < (d : Int)) = false := by simp; omega
  have n3 : decide ((60 : Int) < l.length) = false := by simp; omega
  have hp := hr.plain (by omega)
  have HR := Lib.hid (show Reads w (fun k => k < w.heap.size) 4 A l.length (l.flatMap acL) from (hr.old (by omega)).more (fun k hk => hk.2))
  have HWf := Lib.hid hwf
  clear hr hwf h1 h2
  go_enter Try.func21, Try.ntmps21
  go_wp2_with (go_at_call 18; ((with_reducible refine (HN.out _).mono ?_); rintro e w3 ⟨d', p, m, g, hd', rfl, hl3, hp3, hm3, hg3, hb⟩; obtain rfl : d = d' := (by have := hd'; omega); clear hd'; have HB3 := Lib.hid (hb0.out.trans (hb.mono hb0.out.size)); have HB13 := Lib.hid hb; have HL3 := Lib.hid hl3; clear hl3 hb))
  have hsz : (w.alloc (.cells #[.int .i64 (d : Int), .slice none 0 0, .slice none 0 0] 39)).heap.size = w.heap.size + 1 := by simp
  rw [hsz] at hp3 hm3 hg3
  have HPr := Lib.hid (show Pr w3 p m g w.heap.size (stepsF ⟨d, [], []⟩ (l.take 0)) from ⟨⟨[], HL3.out⟩, ⟨none, none, 0, 0, ⟨hX.out.below HB13.out (by omega), Reads.none_, Reads.none_⟩, Nat.le_refl _, Nat.le_refl _⟩, by omega, by omega, by omega⟩)
  clear hX hb0 HN HB13 HL3 hsz
  have hs3 := HB3.out.size
  go_loopw [37] (fun vi wr => ∃ (k : Nat), k ≤ l.length ∧ vi = .int .i64 k ∧ Pr wr p m g w.heap.size (stepsF ⟨d, [], []⟩ (l.take k)) ∧ LOk (stepsF ⟨d, [], []⟩ (l.take k)) k ∧ UOk (stepsF ⟨d, [], []⟩ (l.take k)) ∧ (stepsF ⟨d, [], []⟩ (l.take k)).n = d ∧ Below w.heap.size w wr) (fun vi _ => l.length - (intOf vi).toNat)
  case atStart => exact ⟨0, Nat.zero_le _, rfl, HPr.out, LOk.new d, (fun x hx => by cases hx), rfl, HB3.out⟩
  case round =>
    obtain ⟨k, hk, rfl, hpr, hlk, huk, hnk, hbel⟩ := hrel
    have HB := Lib.hid hbel
    by_cases hlt : k < l.length
    · have hlt' : (k : Int) < l.length := by omega
      obtain ⟨x, hx⟩ : ∃ x, l[k]? = some x := ⟨_, List.getElem?_eq_getElem hlt⟩
      obtain ⟨z1, z2, z3, z4⟩ := ac_cells (HR.out.below hbel (fun _ h => h)) hx
      have hix := fun W => ix31 hp c k hlt W
      have HTk := Lib.hid (take_snoc hx)
      have HDo := Lib.hid (show ∀ W, Below wr.heap.size wr W → Calls Try.prog 20 #[.pointer (some ⟨p, 0, none⟩), .pointer (some ⟨w.heap.size, 0, none⟩), .agg #[.int .i64 x.k, .int .i64 x.l.f, .int .i64 x.l.t, .int .i64 x.l.u]] W (DoPost p m g w.heap.size (stepF (stepsF ⟨d, [], []⟩ (l.take k)) x) W) from fun W hW => do_any p m g w.heap.size _ k x W (hpr.below hW) hlk (by omega))
      have HFin := Lib.hid (show LOk (stepsF ⟨d, [], []⟩ (l.take (k + 1))) (k + 1) ∧ UOk (stepsF ⟨d, [], []⟩ (l.take (k + 1))) ∧ (stepsF ⟨d, [], []⟩ (l.take (k + 1))).n = d from by
        rw [HTk.out, steps_snoc]
        exact ⟨LOk.step hlk x, huk.step (HWf.out x (List.mem_of_getElem? hx)), by rw [step_n]; exact hnk⟩)
      have HBW := Lib.hid ((Below.refl wr.heap.size wr).alloc (Nat.le_refl _) (.cells #[.int .i64 x.k, .int .i64 x.l.f, .int .i64 x.l.t, .int .i64 x.l.u] 44))
      have hsz := hbel.size
      clear hpr hlk huk hnk hbel hx
      go_wp2_with (go_at_call 20; ((with_reducible refine (HDo.out _ HBW.out).mono ?_); rintro e w6 ⟨rfl, hp6, hf6⟩))
      have hb6 : Below w.heap.size w w6 := (HB.out.trans (HBW.out.mono hsz)).trans (hf6.below (by have := HBW.out.size; omega) (fun k hk e => by omega))
      refine ⟨⟨k + 1, by omega, by go_num, by rw [HTk.out, steps_snoc]; exact hp6, HFin.out.1, HFin.out.2.1, HFin.out.2.2, hb6⟩, by simp [intOf]; omega⟩
    · have hlt' : ¬ (k : Int) < l.length := by omega
      have he : k = l.length := by omega
      subst he
      rw [List.take_length] at *
      have HE := Lib.hid (show RunPost d l w (.returned (.tuple #[.pointer (some ⟨p, 0, none⟩), .pointer (some ⟨w.heap.size, 0, none⟩)])) wr from ⟨p, m, g, w.heap.size, rfl, hpr, hlk, huk, hnk, by omega, by omega, by omega, Nat.le_refl _, hbel⟩)
      clear hpr hlk huk hnk hbel
      go_wp2_with fail
      exact bodyPost_ret (v := .tuple #[.pointer (some ⟨p, 0, none⟩), .pointer (some ⟨w.heap.size, 0, none⟩)]) (by simp [results, Try.results21, go_sem]) rfl HE.out
end Go.Proofs.Ytnmmiiajcjcccaa

import Derived.Test.YtbhbamgnapcbaaaRst
namespace Go.Proofs.Ytbhbamgnapcbaaa
set_option linter.unusedVariables false
open Go.RowKit Go.Own Go.Quo Go.Wire
set_option maxHeartbeats 400000 in
theorem number_any (t : Int) (w : World) (q : Bool) (hq : validT t = q) : Calls Try.prog 43 #[.int .i64 t] w fun e w' => e = .returned (.bool q) ∧ w = w' := by
  subst hq
  unfold validT
  by_cases h1 : 1 ≤ t
  · go_enter Try.func43, Try.ntmps43
    go_wp2
    go_ret
    exact ⟨by simp [h1], rfl⟩
  · go_enter Try.func43, Try.ntmps43
    go_wp2
    go_ret
    exact ⟨by simp; omega, rfl⟩
set_option maxHeartbeats 400000 in
theorem somebody_any (t : Int) (w : World) (q : Bool) (hq : validN t = q) : Calls Try.prog 44 #[.int .i64 t] w fun e w' => e = .returned (.bool q) ∧ w = w' := by
  subst hq
  unfold validN
  by_cases h1 : 0 ≤ t
  · go_enter Try.func44, Try.ntmps44
    go_wp2
    go_ret
    exact ⟨by simp [h1], rfl⟩
  · go_enter Try.func44, Try.ntmps44
    go_wp2
    go_ret
    exact ⟨by simp; omega, rfl⟩
/-- The reference's reader at block p. -/
def RRP (w : World) (p : Nat) (B : Nat → Prop) (rest : List Int) (err : Int) : Prop := ∃ A c, Blk w p 96 #[.slice A rest.length c, .int .i64 err] ∧ Reads w B 1 A rest.length (bys rest) ∧ rest.length ≤ c
set_option maxRecDepth 10000 in
set_option maxHeartbeats 1000000 in
theorem end_any (p : Nat) (B : Nat → Prop) (rest : List Int) (err : Int) (w : World) (h : RRP w p B rest err) :
    Calls Try.prog 42 #[.pointer (some ⟨p, 0, none⟩)] w fun e w' => e = .returned (.int .i64 (finE err rest)) ∧ w = w' := by
  obtain ⟨A1, c1, hk1, hr1, hc1⟩ := h
  obtain ⟨q0, q1, q2⟩ := hk1.facts
  unfold finE
  by_cases h0 : err = 0
  · subst h0
    by_cases hl : rest.length = 0
    · rw [if_pos rfl, if_pos hl]
      have hl' : ¬ (0 : Int) < rest.length := by omega
      have HL := Lib.hid hl
      clear hl
      go_enter Try.func42, Try.ntmps42
      go_wp2
      go_ret
      exact ⟨rfl, rfl⟩
    · rw [if_pos rfl, if_neg hl]
      have hl' : (0 : Int) < rest.length := by omega
      go_enter Try.func42, Try.ntmps42
      go_wp2
      go_ret
      exact ⟨rfl, rfl⟩
  · rw [if_neg h0]
    have heb : (err == 0) = false := by simpa using h0
    clear h0
    go_enter Try.func42, Try.ntmps42
    go_wp2
    go_ret
    exact ⟨rfl, rfl⟩
set_option maxRecDepth 10000 in
set_option maxHeartbeats 1000000 in
theorem rint_err (p : Nat) (B : Nat → Prop) (rest : List Int) (err : Int) (w : World) (h : RRP w p B rest err) (he : err ≠ 0) :
    Calls Try.prog 41 #[.pointer (some ⟨p, 0, none⟩)] w fun e w' => e = .returned (.int .i64 0) ∧ w = w' := by
  obtain ⟨A1, c1, hk1, hr1, hc1⟩ := h
  obtain ⟨q0, q1, q2⟩ := hk1.facts
  go_enter Try.func41, Try.ntmps41
  go_wp2
  go_ret
  exact ⟨rfl, rfl⟩
def RIPost (p : Nat) (B : Nat → Prop) (R : Int × Int × List Int) (w : World) (e : Ending) (w' : World) : Prop :=
  e = .returned (.int .i64 R.2.1) ∧ (∃ rest', RRP w' p B rest' R.1 ∧ (R.1 = 0 → rest' = R.2.2)) ∧ Fr (fun x => x = p) w w'
set_option maxRecDepth 10000 in
set_option maxHeartbeats 2000000 in
theorem rint_ok (p : Nat) (B : Nat → Prop) (rest : List Int) (w : World) (h : RRP w p B rest 0) (hp : ¬ B p) (hB : Bytes rest) (hl : rest.length ≤ 1000000) :
    Calls Try.prog 41 #[.pointer (some ⟨p, 0, none⟩)] w (RIPost p B (rdI rest) w) := by
  have HI := Lib.hid (show rdI rest = if (rdU 0 0 rest).1 = 0 then (0, unzig (rdU 0 0 rest).2.1, (rdU 0 0 rest).2.2) else ((rdU 0 0 rest).1, 0, []) from rfl)
  generalize rdI rest = RI0 at *
  have HB := Lib.hid hB
  have HRR := Lib.hid h
  obtain ⟨A, c, hk1, hr1, hc1⟩ := h
  obtain ⟨q0, q1, q2⟩ := hk1.facts
  have pA := hr1.plain (by omega)
  clear hB
  go_enter Try.func41, Try.ntmps41
  go_wp2_with fail
  go_loopw [3, 4, 5] (fun vu vb vi wr => ∃ (i u P : Nat), P = 128 ^ i ∧ i ≤ 9 ∧ i ≤ rest.length ∧ vi = .int .i64 i ∧ vu = .int .u64 u ∧ vb = .int .u64 (P : Int) ∧ u < 128 ^ i ∧ rdU i u (rest.drop i) = rdU 0 0 rest ∧ wr = w) (fun _ _ i _ => 10 - (intOf i).toNat)
  case atStart => exact ⟨0, 0, 1, rfl, by omega, by omega, rfl, rfl, rfl, by simp, rfl, rfl⟩
  case round =>
    obtain ⟨i, u, P, hP, hi, hir, rfl, rfl, rfl, hu, hru, rfl⟩ := hrel
    have HP := Lib.hid hP
    clear hP
    have HU := Lib.hid hu
    have HR := Lib.hid hru
    clear hu hru
    have hi' : (i : Int) < 10 := by omega
    by_cases hend : rest.length ≤ i
    · have hE : (rest.length : Int) ≤ i := by omega
      have HE := Lib.hid (show RI0 = (11, 0, []) by
        rw [HI.out, ← HR.out, List.drop_eq_nil_of_le hend, rdU_nil]; rfl)
      go_wp2
      go_ret
      refine ⟨by rw [HE.out]; rfl, ⟨rest, ⟨A, c, ?_, hr1.setCell (by simpa using hp) _, hc1⟩, fun e => ?_⟩, (Fr.refl (fun x => x = p) _).setCell (.inl rfl) _⟩
      · rw [HE.out]; simpa using hk1.set_ 1 (.int .i64 11)
      · rw [HE.out] at e; exact absurd e (by decide)
    · have hlt : i < rest.length := by omega
      have hlt' : ¬ (rest.length : Int) ≤ i := by omega
      have hix := fun W => ix45 pA c i hlt W
      obtain ⟨b, r, hbr⟩ : ∃ b r, rest.drop i = b :: r := ⟨_, _, (List.drop_eq_getElem_cons hlt)⟩
      have hgb : rest[i]? = some b := by
        have := congrArg (fun l => l[0]?) hbr
        simpa using this
      have hcell : wr.cell? ⟨bk A, ofs A + i, none⟩ = some (.int .u8 b) := by
        rw [hr1.cell2 i (by omega) (by omega)]
        simp [bys, hgb]
      have hb0 := (HB.out b (List.mem_of_getElem? hgb)).1
      have hb1 := (HB.out b (List.mem_of_getElem? hgb)).2
      have hrr : r = rest.drop (i + 1) := by
        have := congrArg List.tail hbr
        simpa using this.symm
      have HR2 := Lib.hid (show rdU i u (b :: r) = rdU 0 0 rest by rw [← hbr]; exact HR.out)
      have HRr := Lib.hid hrr
      clear hgb hbr hrr
      by_cases hbad : (i = 9 ∧ b ≠ 1) ∨ (0 < i ∧ b = 0)
      · have HE := Lib.hid (show RI0 = (2, 0, []) by rw [HI.out, ← HR2.out, rdU_bad hbad]; rfl)
        have hcs : ((i : Int) == 9) = true ∧ (b == 1) = false ∧ b ≠ 1 ∨ (((i : Int) == 9) = false ∧ decide ((0 : Int) < i) = true ∧ (b == 0) = true ∧ 0 < i) := by
          rcases hbad with ⟨h1, h2⟩ | ⟨h1, h2⟩
          · left; exact ⟨by simpa using (show (i : Int) = 9 by omega), by simpa using h2, h2⟩
          · by_cases h9 : i = 9
            · left; exact ⟨by simpa using (show (i : Int) = 9 by omega), by simp; omega, by omega⟩
            · right; exact ⟨by simp; omega, by simpa using h1, by simpa using h2, h1⟩
        clear hbad
        rcases hcs with ⟨x1, x2, x2'⟩ | ⟨x1, x2, x3, x4⟩
        all_goals
          go_wp2
          go_ret
          refine ⟨by rw [HE.out]; rfl, ⟨rest, ⟨A, c, ?_, hr1.setCell (by simpa using hp) _, hc1⟩, fun e => ?_⟩, (Fr.refl (fun x => x = p) _).setCell (.inl rfl) _⟩
          · rw [HE.out]; simpa using hk1.set_ 1 (.int .i64 2)
          · rw [HE.out] at e; exact absurd e (by decide)
      · obtain ⟨U, hU⟩ : ∃ U : Nat, U = u + (b.toNat % 128) * 128 ^ i := ⟨_, rfl⟩
        have hi9 : i ≤ 8 ∨ (i = 9 ∧ b = 1) := by omega
        have hU64 := or_lt HU.out hb0 hb1 hi9
        rw [← hU] at hU64
        have HUu := Lib.hid hU
        have HBd := Lib.hid hbad
        have hcs : (((i : Int) == 9) = true ∧ b = 1 ∧ 0 < i) ∨ (((i : Int) == 9) = false ∧ (b == 0) = false ∧ b ≠ 0) ∨ (((i : Int) == 9) = false ∧ b = 0 ∧ ¬ 0 < i) := by
          by_cases h9 : i = 9
          · left; exact ⟨by simpa using (show (i : Int) = 9 by omega), by omega, by omega⟩
          · by_cases h0 : b = 0
            · right; right; exact ⟨by simp; omega, h0, by omega⟩
            · right; left; exact ⟨by simp; omega, by simpa using h0, h0⟩
        have hmulI : b % 128 * (P : Int) = (((b.toNat % 128) * 128 ^ i : Nat) : Int) := by rw [HP.out]; have : b % 128 = ((b.toNat % 128 : Nat) : Int) := (by omega); rw [this]; simp
        have hadd : IntKind.u64.wrap ((u : Int) + IntKind.u64.wrap (b % 128 * (P : Int))) = (U : Int) := by
          rw [hmulI, IntKind.wrap_u64, IntKind.wrap_u64]
          have := HUu.out
          generalize (b.toNat % 128) * 128 ^ i = M at *
          omega
        obtain ⟨P', hP'⟩ : ∃ P' : Nat, IntKind.u64.wrap ((P : Int) * 128) = (P' : Int) := ⟨(P * 128) % 18446744073709551616, by rw [IntKind.wrap_u64]; omega⟩
        have HPP := Lib.hid (show i ≤ 8 → P' = 128 ^ (i + 1) by
          intro h8
          have h9 : 128 ^ (i + 1) ≤ 128 ^ 9 := Nat.pow_le_pow_right (by decide) (by omega)
          have e9 : (128 : Nat) ^ 9 = 9223372036854775808 := by decide
          rw [IntKind.wrap_u64, HP.out] at hP'
          rw [Nat.pow_succ] at *
          omega)
        clear hbad hU hi9 hmulI
        have hsl : ∀ W : World, (Instr.slice 31 (.slice A rest.length c) (some (.int .i64 ((i : Int) + 1))) none none).run Try.prog W = .ok (.slice (cutA A c (i + 1)) (rest.length - (i + 1)) (c - (i + 1))) W := fun W => by simpa using run_cutB (A := A) (n := rest.length) (c := c) (i + 1) (by omega) W
        have hsl2 : ∀ W : World, (Instr.sliceAt 31 (.slice A rest.length c) (some (.int .i64 ((i : Int) + 1))) none none).run Try.prog W = .ok (.slice (cutA A c (i + 1)) (rest.length - (i + 1)) (c - (i + 1))) W := fun W => by simpa using run_cutB2 (A := A) (n := rest.length) (c := c) (i + 1) (by omega) W
        by_cases hlow : b < 128
        · have HE := Lib.hid (show RI0 = (0, unzig U, rest.drop (i + 1)) by rw [HI.out, ← HR2.out, rdU_last HBd.out hlow, HUu.out, show b.toNat % 128 = b.toNat by omega, HRr.out]; rfl)
          have HFin := Lib.hid (show ∀ (e : Ending), e = .returned (.int .i64 (unzig U)) → RIPost p B RI0 wr e (wr.setCell ⟨p, 0, none⟩ (.slice (cutA A c (i + 1)) (rest.length - (i + 1)) (c - (i + 1)))) from fun e he => by
            rw [HE.out]
            refine ⟨he, ⟨rest.drop (i + 1), ⟨cutA A c (i + 1), c - (i + 1), ?_, ?_, ?_⟩, fun _ => rfl⟩, (Fr.refl (fun x => x = p) _).setCell (.inl rfl) _⟩
            · rw [List.length_drop]
              simpa using hk1.set_ 0 (.slice (cutA A c (i + 1)) (rest.length - (i + 1)) (c - (i + 1)))
            · exact (Reads.cutB hr1 (k := i + 1) (by omega) hc1).setCell (by simpa using hp) _
            · rw [List.length_drop]; omega)
          by_cases hpar : U % 2 = 1
          · have hp1 : (U : Int) % 2 = 1 := by omega
            have HZ := Lib.hid (show unzig U = -((U : Int) / 2) - 1 by unfold unzig; rw [if_neg (by omega)]; omega)
            have hp2 : (U : Int).tmod 2 = 1 := by rw [Int.tmod_eq_emod_of_nonneg (by omega)]; exact hp1
            have hp3 : (U : Int).tdiv 2 = (U : Int) / 2 := Int.tdiv_eq_ediv_of_nonneg (by omega)
            rcases hcs with ⟨x1, rfl, x3⟩ | ⟨x1, x2, x2'⟩ | ⟨x1, rfl, x2⟩
            all_goals
              try simp only [Int.zero_emod, Int.zero_mul, show (1 : Int) % 128 = 1 by decide, Int.one_mul, show IntKind.u64.wrap 0 = 0 by decide, Int.add_zero] at hadd
              go_wp2
              go_ret
              refine HFin.out _ ?_
              rw [HZ.out]
              rfl
          · have hp1 : (U : Int) % 2 = 0 := by omega
            have HZ := Lib.hid (show unzig U = (U : Int) / 2 by unfold unzig; rw [if_pos (by omega)]; omega)
            have hp2 : (U : Int).tmod 2 = 0 := by rw [Int.tmod_eq_emod_of_nonneg (by omega)]; exact hp1
            have hp3 : (U : Int).tdiv 2 = (U : Int) / 2 := Int.tdiv_eq_ediv_of_nonneg (by omega)
            rcases hcs with ⟨x1, rfl, x3⟩ | ⟨x1, x2, x2'⟩ | ⟨x1, rfl, x2⟩
            all_goals
              try simp only [Int.zero_emod, Int.zero_mul, show (1 : Int) % 128 = 1 by decide, Int.one_mul, show IntKind.u64.wrap 0 = 0 by decide, Int.add_zero] at hadd
              go_wp2
              go_ret
              refine HFin.out _ ?_
              rw [HZ.out]
              rfl
        · have hge : ¬ b < 128 := hlow
          have HE := Lib.hid (show rdU (i + 1) U (rest.drop (i + 1)) = rdU 0 0 rest by rw [← HR2.out, rdU_more HBd.out hlow, HUu.out, show b.toNat % 128 = b.toNat - 128 by omega, HRr.out])
          rcases hcs with ⟨x1, rfl, x3⟩ | ⟨x1, x2, x2'⟩ | ⟨x1, rfl, x2⟩
          · omega
          · have hi8 : i ≤ 8 := by simp at x1; omega
            have HU8 := Lib.hid (show U < 128 ^ (i + 1) by
              rw [HUu.out, Nat.pow_succ]
              have h7 : b.toNat % 128 ≤ 127 := by omega
              have := Nat.mul_le_mul_right (128 ^ i) h7
              have := HU.out
              omega)
            go_wp2
            exact ⟨⟨i + 1, U, P', HPP.out hi8, by omega, by omega, by go_num, rfl, rfl, HU8.out, HE.out, trivial⟩, by simp [intOf]; omega⟩
          · omega
/-- The second number of the reference's reader. -/
theorem rint_gen (p : Nat) (B : Nat → Prop) (a : Int × Int × List Int) (rest : List Int) (w : World) (h : RRP w p B rest a.1) (hr : a.1 = 0 → rest = a.2.2) (hp : ¬ B p) (hB : Bytes a.2.2) (hl : a.2.2.length ≤ 1000000) :
    Calls Try.prog 41 #[.pointer (some ⟨p, 0, none⟩)] w (RIPost p B (rdN a) w) := by
  obtain ⟨er, t, rest'⟩ := a
  unfold rdN
  by_cases h0 : er = 0
  · subst h0
    obtain rfl := hr rfl
    exact rint_ok p B rest w h hp hB hl
  · simp only [h0, if_false]
    refine (rint_err p B rest er w h h0).mono ?_
    rintro e w' ⟨rfl, rfl⟩
    exact ⟨rfl, ⟨rest, h, fun e => absurd e h0⟩, Fr.refl _ _⟩
theorem finE_of {er : Int} {rest rest' : List Int} (h : er = 0 → rest = rest') : finE er rest = finE er rest' := by
  unfold finE
  by_cases h0 : er = 0
  · rw [h h0]
  · rw [if_neg h0, if_neg h0]
end Go.Proofs.Ytbhbamgnapcbaaa

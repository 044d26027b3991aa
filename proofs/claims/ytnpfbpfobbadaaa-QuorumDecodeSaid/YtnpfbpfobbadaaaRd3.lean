import Derived.Test.YtnpfbpfobbadaaaRd2
import Derived.Test.YtnpfbpfobbadaaaCom1
namespace Go.Wire
theorem rdU_suf : ∀ (l : List Int) (i u : Nat), ∃ pre, l = pre ++ (rdU i u l).2.2
  | [], i, u => ⟨[], by rw [rdU_nil]; rfl⟩
  | b :: r, i, u => by
    by_cases h : (i = 9 ∧ b ≠ 1) ∨ (0 < i ∧ b = 0)
    · rw [rdU_bad h]; exact ⟨b :: r, by simp⟩
    · by_cases hb : b < 128
      · rw [rdU_last h hb]; exact ⟨[b], rfl⟩
      · rw [rdU_more h hb]
        obtain ⟨pre, e⟩ := rdU_suf r (i + 1) (u + (b.toNat - 128) * 128 ^ i)
        exact ⟨b :: pre, by rw [List.cons_append, ← e]⟩
theorem rdI_suf (l : List Int) : ∃ pre, l = pre ++ (rdI l).2.2 := by
  unfold rdI
  split
  · exact rdU_suf l 0 0
  · exact ⟨l, by simp⟩
theorem rdI_bytes {l : List Int} (h : Bytes l) : Bytes (rdI l).2.2 := by
  obtain ⟨pre, e⟩ := rdI_suf l
  rw [e] at h
  exact h.right
theorem rdI_len (l : List Int) : (rdI l).2.2.length ≤ l.length := by
  obtain ⟨pre, e⟩ := rdI_suf l
  have := congrArg List.length e
  rw [List.length_append] at this; omega
end Go.Wire
namespace Go.Proofs.Ytnpfbpfobbadaaa
set_option linter.unusedVariables false
open Go.RowKit Go.Own Go.Quo Go.Wire
set_option maxRecDepth 10000 in
set_option maxHeartbeats 2000000 in
theorem length_ok (p : Nat) (B : Nat → Prop) (rest : List Int) (w : World) (h : RdP w p B rest 0) (hp : ¬ B p) (hB : Bytes rest) :
    Calls Try.prog 57 #[.pointer (some ⟨p, 0, none⟩)] w fun e w' => e = .returned (.int .i64 (rdL rest).2.1) ∧ RdP w' p B (rdL rest).2.2 (rdL rest).1 ∧ Fr (· = p) w w' := by
  have HI := Lib.hid (int_ok p B rest w h hp hB)
  have HL := Lib.hid (show rdL rest = if (rdI rest).1 = 0 then (if (rdI rest).2.1 < 0 then (2, 0, []) else if ((rdI rest).2.2.length : Int) < (rdI rest).2.1 then (11, 0, []) else rdI rest) else ((rdI rest).1, 0, []) from rfl)
  have HEr := Lib.hid (rdI_err rest)
  generalize rdL rest = RL at *
  generalize rdI rest = R0 at *
  obtain ⟨e1, n, r1⟩ := R0
  simp only at HI HL
  clear h hp hB
  go_enter Try.func57, Try.ntmps57
  go_wp2_with fail
  refine HI.out.mono ?_
  rintro e w1 ⟨rfl, hrd, hfr⟩
  have HF := Lib.hid fun er => fail_any p B r1 e1 er w1 hrd
  obtain ⟨A1, c1, hk1, hr1, hc1⟩ := id hrd
  obtain ⟨q0, q1, q2⟩ := hk1.facts
  by_cases h0 : e1 = 0
  · have h0b : (e1 == 0) = true := by simpa using h0
    by_cases hn : n < 0
    · have HE := Lib.hid (show RL = (2, 0, []) by rw [HL.out, if_pos h0, if_pos hn])
      clear h0
      go_wp2_with (go_at_call 71; ((with_reducible refine (HF.out _).mono ?_); rintro e w2 ⟨rfl, h3, h4⟩))
      go_ret
      rw [HE.out]
      exact ⟨rfl, h3, hfr.trans h4⟩
    · by_cases hlt : (r1.length : Int) < n
      · have HE := Lib.hid (show RL = (11, 0, []) by rw [HL.out, if_pos h0, if_neg hn, if_pos hlt])
        clear h0
        go_wp2_with (go_at_call 71; ((with_reducible refine (HF.out _).mono ?_); rintro e w2 ⟨rfl, h3, h4⟩))
        go_ret
        rw [HE.out]
        exact ⟨rfl, h3, hfr.trans h4⟩
      · have HE := Lib.hid (show RL = (e1, n, r1) by rw [HL.out, if_pos h0, if_neg hn, if_neg hlt])
        clear h0
        go_wp2
        go_ret
        rw [HE.out]
        exact ⟨rfl, hrd, hfr⟩
  · have h0b : (e1 == 0) = false := by simpa using h0
    obtain ⟨rfl, rfl⟩ : n = 0 ∧ r1 = [] := by
      rcases HEr.out with h | ⟨_, h⟩
      · exact absurd h h0
      · simpa using h
    have HE := Lib.hid (show RL = (e1, 0, []) by rw [HL.out, if_neg h0])
    clear h0
    go_wp2
    go_ret
    rw [HE.out]
    exact ⟨rfl, hrd, hfr⟩
set_option maxRecDepth 10000 in
set_option maxHeartbeats 2000000 in
theorem length_err (p : Nat) (B : Nat → Prop) (rest : List Int) (err : Int) (w : World) (h : RdP w p B rest err) (he : err ≠ 0) :
    Calls Try.prog 57 #[.pointer (some ⟨p, 0, none⟩)] w fun e w' => e = .returned (.int .i64 0) ∧ w = w' := by
  have HI := Lib.hid (int_err p B rest err w h he)
  obtain ⟨A1, c1, hk1, hr1, hc1⟩ := h
  obtain ⟨q0, q1, q2⟩ := hk1.facts
  have heb : (err == 0) = false := by simpa using he
  clear he
  go_enter Try.func57, Try.ntmps57
  go_wp2_with (go_at_call 58; ((with_reducible refine HI.out.mono ?_); rintro e w1 ⟨rfl, rfl⟩))
  go_ret
  exact ⟨rfl, rfl⟩
set_option maxRecDepth 10000 in
set_option maxHeartbeats 2000000 in
theorem finish_any (p : Nat) (B : Nat → Prop) (rest : List Int) (err : Int) (w : World) (h : RdP w p B rest err) :
    Calls Try.prog 51 #[.pointer (some ⟨p, 0, none⟩)] w fun e w' => e = .returned (.int .i64 (if err = 0 then (if rest.length = 0 then 0 else 2) else err)) ∧ w = w' := by
  obtain ⟨A1, c1, hk1, hr1, hc1⟩ := h
  obtain ⟨q0, q1, q2⟩ := hk1.facts
  by_cases h0 : err = 0
  · subst h0
    by_cases hl : rest.length = 0
    · rw [if_pos rfl, if_pos hl]
      have hl' : ¬ (0 : Int) < rest.length := by omega
      have HL := Lib.hid hl
      clear hl
      go_enter Try.func51, Try.ntmps51
      go_wp2
      go_ret
      exact ⟨rfl, rfl⟩
    · rw [if_pos rfl, if_neg hl]
      have hl' : (0 : Int) < rest.length := by omega
      go_enter Try.func51, Try.ntmps51
      go_wp2
      go_ret
      exact ⟨rfl, rfl⟩
  · rw [if_neg h0]
    have heb : (err == 0) = false := by simpa using h0
    clear h0
    go_enter Try.func51, Try.ntmps51
    go_wp2
    go_ret
    exact ⟨rfl, rfl⟩
end Go.Proofs.Ytnpfbpfobbadaaa

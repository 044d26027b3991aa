import Derived.Test.YtnpfbpfobbadaaaRd1
namespace Go.Proofs.Ytnpfbpfobbadaaa
set_option linter.unusedVariables false
open Go.RowKit Go.Own Go.Quo Go.Wire
theorem and127 {b : Int} (h0 : 0 ≤ b) (h1 : b < 256) : bits .and .u8 b 127 = ((b.toNat % 128 : Nat) : Int) := by
  rw [u8_and _ _ h0 (by omega) (by omega) (by omega), show (127 : Int).toNat = 127 from rfl, nat_mask7]
theorem pow7 (i : Nat) : (2 : Nat) ^ (7 * i) = 128 ^ i := by rw [Nat.pow_mul]
theorem or_lt {i u : Nat} {b : Int} (hu : u < 128 ^ i) (h0 : 0 ≤ b) (h1 : b < 256) (hi : i ≤ 8 ∨ (i = 9 ∧ b = 1)) : u + (b.toNat % 128) * 128 ^ i < 18446744073709551616 := by
  rcases hi with hi | ⟨rfl, rfl⟩
  · have : 128 ^ i ≤ 128 ^ 8 := Nat.pow_le_pow_right (by decide) hi
    have h7 : b.toNat % 128 ≤ 127 := by omega
    have := Nat.mul_le_mul_right (128 ^ i) h7
    have e : (128 : Nat) ^ 8 = 72057594037927936 := by decide
    omega
  · have e : (128 : Nat) ^ 9 = 9223372036854775808 := by decide
    rw [e] at hu ⊢
    have : (1 : Int).toNat % 128 = 1 := rfl
    rw [this]; omega
theorem or_step {i u : Nat} {b : Int} (hu : u < 128 ^ i) (h0 : 0 ≤ b) (h1 : b < 256) (hi : i ≤ 8 ∨ (i = 9 ∧ b = 1)) :
    bits .or .u64 (u : Int) (IntKind.u64.wrap (IntKind.u64.wrap (bits .and .u8 b 127) * 2 ^ (7 * i))) = ((u + (b.toNat % 128) * 128 ^ i : Nat) : Int) := by
  have hlt := or_lt hu h0 h1 hi
  rw [and127 h0 h1, IntKind.wrap_u64, IntKind.wrap_u64]
  have e1 : ((b.toNat % 128 : Nat) : Int) % 18446744073709551616 = ((b.toNat % 128 : Nat) : Int) := by omega
  rw [e1]
  have e2 : ((b.toNat % 128 : Nat) : Int) * 2 ^ (7 * i) = (((b.toNat % 128) * 128 ^ i : Nat) : Int) := by
    rw [← pow7]; simp
  rw [e2, show (((b.toNat % 128) * 128 ^ i : Nat) : Int) % 18446744073709551616 = (((b.toNat % 128) * 128 ^ i : Nat) : Int) by omega]
  rw [u64_or_nat _ _ (by omega) (by omega), Nat.or_comm, nat_join (7 * i) _ _ (by rw [pow7]; exact Nat.mul_mod_left _ _) (by rw [pow7]; exact hu), Nat.add_comm]
theorem xor_zero_i64 {x : Int} (h0 : 0 ≤ x) (h1 : x < 9223372036854775808) : bits .xor .i64 x 0 = x := by
  show IntKind.i64.wrap ((BitVec.ofInt 64 x ^^^ BitVec.ofInt 64 0).toNat : Int) = _
  have h2 : (BitVec.ofInt 64 x).toNat = x.toNat := by
    rw [BitVec.toNat_ofInt]
    have : ((2 ^ 64 : Nat) : Int) = 18446744073709551616 := by decide
    rw [this]; omega
  rw [show BitVec.ofInt 64 0 = 0#64 from rfl, BitVec.xor_zero, h2, IntKind.wrap_i64]
  omega
theorem bits_xor_comm (k : IntKind) (x y : Int) : bits .xor k x y = bits .xor k y x := by
  show IntKind.wrap k ((BitVec.ofInt k.bits x ^^^ BitVec.ofInt k.bits y).toNat : Int) = IntKind.wrap k ((BitVec.ofInt k.bits y ^^^ BitVec.ofInt k.bits x).toNat : Int)
  rw [BitVec.xor_comm]
theorem wrap64_in {x : Int} (h0 : -9223372036854775808 ≤ x) (h1 : x < 9223372036854775808) : wrap64 x = x := by
  unfold wrap64; omega
theorem unzig_bits {U : Nat} (h : U < 18446744073709551616) : bits .xor .i64 (wrap64 ((U : Int) / 2)) (wrap64 (-wrap64 (bits .and .u64 (U : Int) 1))) = unzig U := by
  rw [Lib.u64_and1 _ (by omega) (by omega)]
  rw [wrap64_in (x := (U : Int) / 2) (by omega) (by omega), wrap64_in (x := (U : Int) % 2) (by omega) (by omega), wrap64_in (x := -((U : Int) % 2)) (by omega) (by omega)]
  unfold unzig
  by_cases h2 : U % 2 = 0
  · rw [if_pos h2, show -((U : Int) % 2) = 0 by omega, xor_zero_i64 (by omega) (by omega)]; omega
  · rw [if_neg h2, show -((U : Int) % 2) = -1 by omega, bits_xor_comm, show (U : Int) / 2 = ((U / 2 : Nat) : Int) by omega, Lib.i64_not _ (by omega)]
set_option maxRecDepth 10000 in
set_option maxHeartbeats 2000000 in
theorem int_ok (p : Nat) (B : Nat → Prop) (rest : List Int) (w : World) (h : RdP w p B rest 0) (hp : ¬ B p) (hB : Bytes rest) :
    Calls Try.prog 58 #[.pointer (some ⟨p, 0, none⟩)] w fun e w' => e = .returned (.int .i64 (rdI rest).2.1) ∧ RdP w' p B (rdI rest).2.2 (rdI rest).1 ∧ Fr (· = p) w w' := by
  have HI := Lib.hid (show rdI rest = if (rdU 0 0 rest).1 = 0 then (0, unzig (rdU 0 0 rest).2.1, (rdU 0 0 rest).2.2) else ((rdU 0 0 rest).1, 0, []) from rfl)
  generalize rdI rest = RI0 at *
  have HB := Lib.hid hB
  clear hB
  go_enter Try.func58, Try.ntmps58
  go_wp2_with fail
  go_loopw [3, 7] (fun vu vi wr => ∃ (i u : Nat) (r : List Int), i ≤ 9 ∧ vi = .int .i64 i ∧ vu = .int .u64 u ∧ u < 128 ^ i ∧ rdU i u r = rdU 0 0 rest ∧ Bytes r ∧ RdP wr p B r 0 ∧ Fr (fun x => x = p) w wr) (fun _ i _ => 10 - (intOf i).toNat)
  case atStart => exact ⟨0, 0, rest, by omega, rfl, rfl, by simp, rfl, HB.out, h, Fr.refl _ _⟩
  case round =>
    obtain ⟨i, u, r, hi, rfl, rfl, hu, hru, hBr, hrd, hfr⟩ := hrel
    have HU := Lib.hid hu
    have HR := Lib.hid hru
    have HBr := Lib.hid hBr
    clear hu hru hBr h
    have hi' : (i : Int) < 10 := by omega
    cases r with
    | nil =>
      have HN := Lib.hid (next_none p B wr hrd)
      have HE := Lib.hid (show RI0 = (11, 0, []) by rw [HI.out, ← HR.out, rdU_nil]; rfl)
      clear hrd
      go_wp2_with (go_at_call 72; ((with_reducible refine HN.out.mono ?_); rintro e w1 ⟨rfl, h1, h2⟩))
      go_ret
      rw [HE.out]
      exact ⟨rfl, h1, hfr.trans h2⟩
    | cons b r =>
      have HN := Lib.hid (next_some p B b r wr hrd hp)
      have hb0 := (HBr.out b (by simp)).1
      have hb1 := (HBr.out b (by simp)).2
      clear hrd
      by_cases hbad : (i = 9 ∧ b ≠ 1) ∨ (0 < i ∧ b = 0)
      · have HE := Lib.hid (show RI0 = (2, 0, []) by rw [HI.out, ← HR.out, rdU_bad hbad]; rfl)
        have HF := Lib.hid fun W' (x : RdP W' p B r 0) => fail_any p B r 0 2 W' x
        have hcs : ((i : Int) == 9) = true ∧ (b == 1) = false ∧ b ≠ 1 ∨ (((i : Int) == 9) = false ∧ decide ((0 : Int) < i) = true ∧ (b == 0) = true ∧ 0 < i) := by
          rcases hbad with ⟨h1, h2⟩ | ⟨h1, h2⟩
          · left; exact ⟨by simpa using (show (i : Int) = 9 by omega), by simpa using h2, h2⟩
          · by_cases h9 : i = 9
            · left; exact ⟨by simpa using (show (i : Int) = 9 by omega), by simp; omega, by omega⟩
            · right; exact ⟨by simp; omega, by simpa using h1, by simpa using h2, h1⟩
        clear hbad
        rcases hcs with ⟨x1, x2, x2'⟩ | ⟨x1, x2, x3, x4⟩
        all_goals
          go_wp2_with (first
            | (go_at_call 72; ((with_reducible refine HN.out.mono ?_); rintro e w1 ⟨rfl, h1, h2⟩; have HF1 := Lib.hid (HF.out w1 h1)))
            | (go_at_call 71; ((with_reducible refine HF1.out.mono ?_); rintro e w2 ⟨rfl, h3, h4⟩)))
          go_ret
          rw [HE.out]
          exact ⟨rfl, h3, (hfr.trans h2).trans h4⟩
      · obtain ⟨U, hU⟩ : ∃ U : Nat, U = u + (b.toNat % 128) * 128 ^ i := ⟨_, rfl⟩
        have hi9 : i ≤ 8 ∨ (i = 9 ∧ b = 1) := by omega
        have hor := or_step HU.out hb0 hb1 hi9
        rw [← hU] at hor
        have hU64 := or_lt HU.out hb0 hb1 hi9
        rw [← hU] at hU64
        have HUu := Lib.hid hU
        have hxor := unzig_bits hU64
        rw [wrap64_in (x := (U : Int) / 2) (by omega) (by omega)] at hxor
        have HBd := Lib.hid hbad
        have hcs : (((i : Int) == 9) = true ∧ b = 1 ∧ 0 < i) ∨ (((i : Int) == 9) = false ∧ 0 < i ∧ (b == 0) = false) ∨ (((i : Int) == 9) = false ∧ ¬ 0 < i) := by
          by_cases h9 : i = 9
          · left; exact ⟨by simpa using (show (i : Int) = 9 by omega), by omega, by omega⟩
          · by_cases h0 : 0 < i
            · right; left; exact ⟨by simp; omega, h0, by simp; omega⟩
            · right; right; exact ⟨by simp; omega, h0⟩
        clear hbad hU hi9
        by_cases hlt : b < 128
        · have HE := Lib.hid (show RI0 = (0, unzig U, r) by rw [HI.out, ← HR.out, rdU_last HBd.out hlt, HUu.out, show b.toNat % 128 = b.toNat by omega]; rfl)
          rcases hcs with ⟨x1, rfl, x3⟩ | ⟨x1, x2, x3⟩ | ⟨x1, x2⟩
          all_goals
            go_wp2_with (first
              | (go_at_call 72; ((with_reducible refine HN.out.mono ?_); rintro e w1 ⟨rfl, h1, h2⟩)))
            go_ret
            rw [HE.out]
            exact ⟨rfl, h1, hfr.trans h2⟩
        · have HE := Lib.hid (show rdU (i + 1) U r = rdU 0 0 rest by rw [← HR.out, rdU_more HBd.out hlt, HUu.out, show b.toNat % 128 = b.toNat - 128 by omega])
          have hge : ¬ b < 128 := hlt
          rcases hcs with ⟨x1, rfl, x3⟩ | ⟨x1, x2, x3⟩ | ⟨x1, x2⟩
          · omega
          all_goals
            have hi8 : i ≤ 8 := by simp at x1; omega
            have HU8 := Lib.hid (show U < 128 ^ (i + 1) by
              rw [HUu.out, Nat.pow_succ]
              have h7 : b.toNat % 128 ≤ 127 := by omega
              have := Nat.mul_le_mul_right (128 ^ i) h7
              have := HU.out
              omega)
            go_wp2_with (first
              | (go_at_call 72; ((with_reducible refine HN.out.mono ?_); rintro e w1 ⟨rfl, h1, h2⟩)))
            exact ⟨⟨i + 1, U, r, by omega, by go_num, rfl, HU8.out, HE.out, fun x hx => HBr.out x (by simp [hx]), h1, hfr.trans h2⟩, by simp [intOf]; omega⟩
end Go.Proofs.Ytnpfbpfobbadaaa

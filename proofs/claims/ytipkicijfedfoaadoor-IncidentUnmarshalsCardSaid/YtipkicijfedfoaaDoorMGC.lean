import Derived.Test.YtipkicijfedfoaaDoorMGB
import Derived.Laws.BitsAllLaws
import Derived.Lib.Zigzag
import Derived.Lib.AppendStr
namespace Go.Wire
/-! ### The encoding of integers, plain -/
def encU (u : Nat) : List Int := if h : u < 128 then [(u : Int)] else ((u % 128 + 128 : Nat) : Int) :: encU (u / 128)
termination_by u
decreasing_by omega
theorem encU_lt {u : Nat} (h : u < 128) : encU u = [(u : Int)] := by rw [encU, dif_pos h]
theorem encU_ge {u : Nat} (h : ¬ u < 128) : encU u = ((u % 128 + 128 : Nat) : Int) :: encU (u / 128) := by rw [encU, dif_neg h]
theorem encU_len : ∀ (k u : Nat), u < 128 ^ (k + 1) → (encU u).length ≤ k + 1
  | 0, u, h => by rw [encU_lt (by simpa using h)]; simp
  | k + 1, u, h => by
    by_cases hu : u < 128
    · rw [encU_lt hu]; simp
    · rw [encU_ge hu]
      have := encU_len k (u / 128) (by rw [Nat.pow_succ] at h; omega)
      simp only [List.length_cons]; omega
theorem encU_len10 {u : Nat} (h : u < 18446744073709551616) : (encU u).length ≤ 10 := encU_len 9 u (Nat.lt_of_lt_of_le h (by decide))
def zig (n : Int) : Nat := if 0 ≤ n then (2 * n).toNat else (-2 * n - 1).toNat
def encI (n : Int) : List Int := encU (zig n)
theorem zig_lt {n : Int} (h0 : -9223372036854775808 ≤ n) (h1 : n < 9223372036854775808) : zig n < 18446744073709551616 := by unfold zig; split <;> omega
theorem xor_ones (a : Nat) (ha : a < 18446744073709551616) : a ^^^ 18446744073709551615 = 18446744073709551615 - a := by
  have h : (BitVec.ofNat 64 a ^^^ BitVec.allOnes 64).toNat = (~~~ BitVec.ofNat 64 a).toNat := by rw [BitVec.xor_allOnes]
  rw [BitVec.toNat_xor, BitVec.toNat_not] at h
  simp only [BitVec.toNat_ofNat, BitVec.toNat_allOnes] at h
  rw [Nat.mod_eq_of_lt (by omega)] at h
  simpa using h
theorem zig_bits {n : Int} (h0 : -9223372036854775808 ≤ n) (h1 : n < 9223372036854775808) :
    bits .xor .u64 (IntKind.u64.wrap (IntKind.u64.wrap n * 2)) (IntKind.u64.wrap (n / 9223372036854775808)) = ((zig n : Nat) : Int) := by
  rw [IntKind.wrap_u64, IntKind.wrap_u64, IntKind.wrap_u64]
  rw [u64_xor _ _ (by omega) (by omega) (by omega) (by omega)]
  unfold zig
  split
  · rename_i h
    rw [show n / 9223372036854775808 % 18446744073709551616 = 0 by omega]
    rw [show (0 : Int).toNat = 0 from rfl, Nat.xor_zero]
    omega
  · rename_i h
    rw [show n / 9223372036854775808 % 18446744073709551616 = 18446744073709551615 by omega]
    rw [show (18446744073709551615 : Int).toNat = 18446744073709551615 from rfl, xor_ones _ (by omega)]
    omega
theorem low_or (u : Nat) : bits .or .u8 (IntKind.u8.wrap (u : Int)) 128 = ((u % 128 + 128 : Nat) : Int) := by
  rw [IntKind.wrap_u8', u8_or _ _ (by omega) (by omega) (by omega) (by omega)]
  rw [show ((u : Int) % 256).toNat = u % 256 by omega, show (128 : Int).toNat = 128 from rfl]
  have h : ∀ x : Fin 256, x.val ||| 128 = x.val % 128 + 128 := by decide +kernel
  have := h ⟨u % 256, by omega⟩
  simp only at this
  rw [this]
  omega
theorem encI_len {n : Int} (h0 : -9223372036854775808 ≤ n) (h1 : n < 9223372036854775808) : (encI n).length ≤ 10 := encU_len10 (zig_lt h0 h1)
theorem encI_small {n : Int} (h0 : 0 ≤ n) (h1 : n ≤ 63) : encI n = [2 * n] := by
  unfold encI zig
  rw [if_pos h0, encU_lt (by omega)]
  congr 1; omega
def encIs (l : List Int) : List Int := encI (l.length : Int) ++ l.flatMap encI
end Go.Wire

namespace Go.Wire
/-! ### Decoding integers, plain. A result is (error, value, what is left); an error leaves nothing. -/
def rdU : Nat → Nat → List Int → Int × Nat × List Int
  | _, _, [] => (11, 0, [])
  | i, u, b :: r => if (i = 9 ∧ b ≠ 1) ∨ (0 < i ∧ b = 0) then (2, 0, []) else if b < 128 then (0, u + b.toNat * 128 ^ i, r) else rdU (i + 1) (u + (b.toNat - 128) * 128 ^ i) r
def unzig (u : Nat) : Int := if u % 2 = 0 then ((u / 2 : Nat) : Int) else -((u / 2 : Nat) : Int) - 1
def rdI (l : List Int) : Int × Int × List Int := if (rdU 0 0 l).1 = 0 then (0, unzig (rdU 0 0 l).2.1, (rdU 0 0 l).2.2) else ((rdU 0 0 l).1, 0, [])
def Bytes (l : List Int) : Prop := ∀ b ∈ l, 0 ≤ b ∧ b < 256
theorem rdU_nil (i u : Nat) : rdU i u [] = (11, 0, []) := by rw [rdU]
theorem rdU_bad {i u : Nat} {b : Int} {r : List Int} (h : (i = 9 ∧ b ≠ 1) ∨ (0 < i ∧ b = 0)) : rdU i u (b :: r) = (2, 0, []) := by rw [rdU, if_pos h]
theorem rdU_last {i u : Nat} {b : Int} {r : List Int} (h : ¬ ((i = 9 ∧ b ≠ 1) ∨ (0 < i ∧ b = 0))) (hb : b < 128) : rdU i u (b :: r) = (0, u + b.toNat * 128 ^ i, r) := by rw [rdU, if_neg h, if_pos hb]
theorem rdU_more {i u : Nat} {b : Int} {r : List Int} (h : ¬ ((i = 9 ∧ b ≠ 1) ∨ (0 < i ∧ b = 0))) (hb : ¬ b < 128) : rdU i u (b :: r) = rdU (i + 1) (u + (b.toNat - 128) * 128 ^ i) r := by rw [rdU, if_neg h, if_neg hb]
theorem rdU_err : ∀ (l : List Int) (i u : Nat), (rdU i u l).1 = 0 ∨ (((rdU i u l).1 = 2 ∨ (rdU i u l).1 = 11) ∧ (rdU i u l).2 = (0, []))
  | [], i, u => by rw [rdU_nil]; simp
  | b :: r, i, u => by
    by_cases h : (i = 9 ∧ b ≠ 1) ∨ (0 < i ∧ b = 0)
    · rw [rdU_bad h]; simp
    · by_cases hb : b < 128
      · rw [rdU_last h hb]; simp
      · rw [rdU_more h hb]; exact rdU_err r _ _
theorem rdI_err (l : List Int) : (rdI l).1 = 0 ∨ (((rdI l).1 = 2 ∨ (rdI l).1 = 11) ∧ (rdI l).2 = (0, [])) := by
  unfold rdI
  rcases rdU_err l 0 0 with h | ⟨h, _⟩
  · rw [if_pos h]; simp
  · rw [if_neg (by omega)]; simp [h]
/-- What is accepted is an encoding. -/
theorem rdU_canon : ∀ (l : List Int) (i acc : Nat), Bytes l → i ≤ 9 → (rdU i acc l).1 = 0 → ∃ v : Nat, (rdU i acc l).2.1 = acc + v * 128 ^ i ∧ l = encU v ++ (rdU i acc l).2.2 ∧ (0 < i → 0 < v) ∧ v < 128 ^ (9 - i) * 2
  | [], i, acc, _, _, h => by rw [rdU_nil] at h; simp at h
  | b :: r, i, acc, hB, hi, h => by
    have hb0 := hB b (by simp)
    by_cases hc : (i = 9 ∧ b ≠ 1) ∨ (0 < i ∧ b = 0)
    · rw [rdU_bad hc] at h; simp at h
    · by_cases hb : b < 128
      · rw [rdU_last hc hb]
        refine ⟨b.toNat, rfl, ?_, ?_, ?_⟩
        · rw [encU_lt (by omega)]; simp; omega
        · intro h0; omega
        · rcases (show i = 9 ∨ i ≤ 8 by omega) with h9 | h8
          · subst h9
            have : b = 1 := by omega
            subst this; decide
          · have : 128 ^ 1 ≤ 128 ^ (9 - i) := Nat.pow_le_pow_right (by decide) (by omega)
            omega
      · have hi8 : i ≤ 8 := by
          rcases (show i = 9 ∨ i ≤ 8 by omega) with h9 | h8
          · exfalso; apply hc; left; exact ⟨h9, by omega⟩
          · exact h8
        rw [rdU_more hc hb] at h ⊢
        obtain ⟨v, e1, e2, e3, e4⟩ := rdU_canon r (i + 1) (acc + (b.toNat - 128) * 128 ^ i) (fun x hx => hB x (by simp [hx])) (by omega) h
        have hv := e3 (by omega)
        refine ⟨b.toNat - 128 + v * 128, ?_, ?_, fun _ => by omega, ?_⟩
        · rw [e1, Nat.add_mul, Nat.pow_succ, Nat.mul_assoc v 128, Nat.mul_comm 128 (128 ^ i)]; omega
        · rw [encU_ge (by omega), show (b.toNat - 128 + v * 128) % 128 = b.toNat - 128 by omega, show (b.toNat - 128 + v * 128) / 128 = v by omega, List.cons_append, ← e2]
          congr 1; omega
        · have : 128 ^ (9 - i) = 128 ^ (9 - (i + 1)) * 128 := by rw [← Nat.pow_succ]; congr 1; omega
          rw [this]; omega
/-- An encoding is accepted. -/
theorem rdU_enc : ∀ (v : Nat) (i acc : Nat) (r : List Int), i ≤ 9 → (0 < i → 0 < v) → v < 128 ^ (9 - i) * 2 → rdU i acc (encU v ++ r) = (0, acc + v * 128 ^ i, r) := by
  intro v
  induction v using Nat.strongRecOn with
  | ind v ih =>
    intro i acc r hi h0 hv
    by_cases hl : v < 128
    · rw [encU_lt hl, List.cons_append, List.nil_append, rdU_last]
      · simp
      · rintro (⟨h9, h1⟩ | ⟨h1, h2⟩)
        · subst h9
          simp at hv
          have := h0 (by omega)
          apply h1; omega
        · have := h0 h1; omega
      · omega
    · rcases (show i = 9 ∨ i ≤ 8 by omega) with h9 | h8
      · subst h9; simp at hv; omega
      · rw [encU_ge hl, List.cons_append, rdU_more]
        · rw [ih (v / 128) (by omega) (i + 1) _ r (by omega) (fun _ => by omega) ?_]
          · refine Prod.ext rfl (Prod.ext ?_ rfl)
            simp only
            rw [show (((v % 128 + 128 : Nat) : Int)).toNat - 128 = v % 128 by omega]
            have e : v * 128 ^ i = v % 128 * 128 ^ i + v / 128 * 128 ^ (i + 1) := by
              rw [Nat.pow_succ, Nat.mul_comm (128 ^ i) 128, ← Nat.mul_assoc, ← Nat.add_mul]
              congr 1; omega
            omega
          · have : 128 ^ (9 - i) = 128 ^ (9 - (i + 1)) * 128 := by rw [← Nat.pow_succ]; congr 1; omega
            rw [this] at hv; omega
        · rintro (⟨h1, _⟩ | ⟨_, h2⟩) <;> omega
        · omega
theorem unzig_zig (n : Int) : unzig (zig n) = n := by
  unfold unzig zig
  by_cases h : 0 ≤ n
  · rw [if_pos h, if_pos (by omega)]; omega
  · rw [if_neg h, if_neg (by omega)]; omega
theorem zig_unzig (u : Nat) : zig (unzig u) = u := by
  unfold unzig zig
  by_cases h : u % 2 = 0
  · rw [if_pos h, if_pos (by omega)]; omega
  · rw [if_neg h, if_neg (by omega)]; omega
theorem unzig_range {u : Nat} (h : u < 18446744073709551616) : -9223372036854775808 ≤ unzig u ∧ unzig u < 9223372036854775808 := by unfold unzig; split <;> omega
theorem rdI_enc {n : Int} (h0 : -9223372036854775808 ≤ n) (h1 : n < 9223372036854775808) (r : List Int) : rdI (encI n ++ r) = (0, n, r) := by
  have h := rdU_enc (zig n) 0 0 r (by omega) (by omega) (by have := zig_lt h0 h1; simpa using this)
  unfold rdI encI
  rw [h]
  simp [unzig_zig]
theorem rdI_canon {l : List Int} (hB : Bytes l) (h : (rdI l).1 = 0) : l = encI (rdI l).2.1 ++ (rdI l).2.2 ∧ (-9223372036854775808 ≤ (rdI l).2.1 ∧ (rdI l).2.1 < 9223372036854775808) := by
  unfold rdI at h ⊢
  by_cases h0 : (rdU 0 0 l).1 = 0
  · obtain ⟨v, e1, e2, _, e4⟩ := rdU_canon l 0 0 hB (by omega) h0
    rw [if_pos h0]
    simp only
    rw [show (rdU 0 0 l).2.1 = v by rw [e1]; simp]
    unfold encI
    rw [zig_unzig]
    exact ⟨e2, unzig_range (by simpa using e4)⟩
  · rw [if_neg h0] at h
    exact absurd h h0
/-! ### Lists -/
def rdL (l : List Int) : Int × Int × List Int := if (rdI l).1 = 0 then (if (rdI l).2.1 < 0 then (2, 0, []) else if ((rdI l).2.2.length : Int) < (rdI l).2.1 then (11, 0, []) else rdI l) else ((rdI l).1, 0, [])
def readA : Nat → List Int → List Int → Int × List Int × List Int
  | 0, acc, l => (0, acc, l)
  | k + 1, acc, l => if (rdI l).1 = 0 then readA k (acc ++ [(rdI l).2.1]) (rdI l).2.2 else ((rdI l).1, [], [])
def rdIs (l : List Int) : Int × List Int × List Int := if (rdL l).2.1 = 0 then ((rdL l).1, [], (rdL l).2.2) else readA (rdL l).2.1.toNat [] (rdL l).2.2
theorem rdL_err (l : List Int) : (rdL l).1 = 0 ∨ (((rdL l).1 = 2 ∨ (rdL l).1 = 11) ∧ (rdL l).2 = (0, [])) := by
  unfold rdL
  rcases rdI_err l with h | ⟨h, _⟩
  · rw [if_pos h]
    split
    · simp
    · split
      · simp
      · exact .inl h
  · rw [if_neg (by omega)]; simp [h]
theorem readA_err : ∀ (k : Nat) (acc l : List Int), (readA k acc l).1 = 0 ∨ (((readA k acc l).1 = 2 ∨ (readA k acc l).1 = 11) ∧ (readA k acc l).2 = ([], []))
  | 0, acc, l => by simp [readA]
  | k + 1, acc, l => by
    rw [readA]
    rcases rdI_err l with h | ⟨h, _⟩
    · rw [if_pos h]; exact readA_err k _ _
    · rw [if_neg (by omega)]; simp [h]
theorem rdIs_err (l : List Int) : (rdIs l).1 = 0 ∨ (((rdIs l).1 = 2 ∨ (rdIs l).1 = 11) ∧ (rdIs l).2 = ([], [])) := by
  unfold rdIs
  rcases rdL_err l with h | ⟨h, h2⟩
  · split
    · exact .inl h
    · exact readA_err _ _ _
  · rw [h2]; simp [h]
theorem Bytes.right {a b : List Int} (h : Bytes (a ++ b)) : Bytes b := fun x hx => h x (by simp [hx])
theorem readA_canon : ∀ (k : Nat) (acc l : List Int), Bytes l → (readA k acc l).1 = 0 → ∃ xs : List Int, xs.length = k ∧ (readA k acc l).2.1 = acc ++ xs ∧ l = xs.flatMap encI ++ (readA k acc l).2.2
  | 0, acc, l, _, _ => ⟨[], rfl, by simp [readA], by simp [readA]⟩
  | k + 1, acc, l, hB, h => by
    rw [readA] at h ⊢
    by_cases h0 : (rdI l).1 = 0
    · rw [if_pos h0] at h ⊢
      obtain ⟨e, _⟩ := rdI_canon hB h0
      obtain ⟨xs, e1, e2, e3⟩ := readA_canon k _ _ (Bytes.right (by rw [← e]; exact hB)) h
      refine ⟨(rdI l).2.1 :: xs, by simp [e1], by rw [e2]; simp, ?_⟩
      rw [List.flatMap_cons, List.append_assoc, ← e3]; exact e
    · rw [if_neg h0] at h
      exact absurd h h0
theorem rdIs_canon {l : List Int} (hB : Bytes l) (h : (rdIs l).1 = 0) : l = encIs (rdIs l).2.1 ++ (rdIs l).2.2 := by
  have hL : (rdL l).1 = 0 := by
    rcases rdL_err l with h0 | ⟨h0, h2⟩
    · exact h0
    · unfold rdIs at h; rw [h2] at h; simp at h; omega
  have hI : (rdI l).1 = 0 := by
    unfold rdL at hL
    by_cases h0 : (rdI l).1 = 0
    · exact h0
    · rw [if_neg h0] at hL; exact absurd hL h0
  have hn : 0 ≤ (rdI l).2.1 := by
    unfold rdL at hL
    rw [if_pos hI] at hL
    split at hL
    · simp at hL
    · omega
  have hLI : rdL l = rdI l := by
    unfold rdL at hL ⊢
    rw [if_pos hI] at hL ⊢
    split at hL
    · simp at hL
    · rename_i h1
      split at hL
      · simp at hL
      · rename_i h2
        rw [if_neg h1, if_neg h2]
  obtain ⟨e, _⟩ := rdI_canon hB hI
  unfold rdIs at h ⊢
  rw [hLI] at h ⊢
  by_cases h0 : (rdI l).2.1 = 0
  · rw [if_pos h0] at h ⊢
    rw [h0] at e
    simp only [encIs, List.flatMap_nil, List.append_nil, List.length_nil]
    exact e
  · rw [if_neg h0] at h ⊢
    obtain ⟨xs, e1, e2, e3⟩ := readA_canon _ _ _ (Bytes.right (by rw [← e]; exact hB)) h
    rw [e2, List.nil_append]
    unfold encIs
    rw [e1, Int.toNat_of_nonneg hn, List.append_assoc, ← e3]
    exact e
def InR (l : List Int) : Prop := ∀ x ∈ l, -9223372036854775808 ≤ x ∧ x < 9223372036854775808
theorem readA_enc : ∀ (xs acc r : List Int), InR xs → readA xs.length acc (xs.flatMap encI ++ r) = (0, acc ++ xs, r)
  | [], acc, r, _ => by simp [readA]
  | x :: xs, acc, r, h => by
    have hx := h x (by simp)
    rw [List.flatMap_cons, List.append_assoc, List.length_cons, readA, rdI_enc hx.1 hx.2, if_pos rfl]
    simp only
    rw [readA_enc xs _ r (fun y hy => h y (by simp [hy]))]
    simp
theorem encU_pos (u : Nat) : 1 ≤ (encU u).length := by
  by_cases h : u < 128
  · rw [encU_lt h]; simp
  · rw [encU_ge h]; simp
theorem flat_ge (xs : List Int) : xs.length ≤ (xs.flatMap encI).length := by
  induction xs with
  | nil => simp
  | cons a r ih =>
    have := encU_pos (zig a)
    simp only [List.flatMap_cons, List.length_append, List.length_cons, encI] at ih ⊢
    omega
theorem rdIs_enc {xs : List Int} (h : InR xs) (hl : xs.length < 9223372036854775808) (r : List Int) : rdIs (encIs xs ++ r) = (0, xs, r) := by
  have e : rdI (encIs xs ++ r) = (0, (xs.length : Int), xs.flatMap encI ++ r) := by
    unfold encIs
    rw [List.append_assoc]
    exact rdI_enc (by omega) (by omega) _
  have hL : rdL (encIs xs ++ r) = (0, (xs.length : Int), xs.flatMap encI ++ r) := by
    unfold rdL
    rw [e]
    simp only
    have := flat_ge xs
    rw [if_pos trivial, if_neg (by omega), if_neg (by rw [List.length_append]; omega)]
  unfold rdIs
  rw [hL]
  simp only
  by_cases h0 : (xs.length : Int) = 0
  · have : xs = [] := List.eq_nil_of_length_eq_zero (by omega)
    subst this; simp
  · rw [if_neg h0, Int.toNat_natCast, readA_enc xs [] r h]; simp
end Go.Wire

namespace Go.Inc
open Go.Wire
/-! ### The encoding of an incident, plain -/
def strL (s : ByteArray) : List Int := s.data.toList.map (fun b => (b.toNat : Int))
theorem strL_len (s : ByteArray) : (strL s).length = s.size := by
  unfold strL
  rw [List.length_map, Array.length_toList]; rfl
theorem strL_inj {s t : ByteArray} (h : strL s = strL t) : s = t := by
  have hi : ∀ a b : UInt8, ((a.toNat : Int)) = b.toNat → a = b := fun a b h => UInt8.toNat_inj.1 (by omega)
  have : ∀ (l k : List UInt8), l.map (fun b => (b.toNat : Int)) = k.map (fun b => (b.toNat : Int)) → l = k := by
    intro l
    induction l with
    | nil => intro k h; cases k with
      | nil => rfl
      | cons b k => simp at h
    | cons a l ih => intro k h; cases k with
      | nil => simp at h
      | cons b k =>
        simp only [List.map_cons, List.cons.injEq] at h
        rw [hi a b h.1, ih k h.2]
  have h2 := this _ _ h
  cases s; cases t
  simp only at h2
  congr 1
  exact Array.ext' h2
theorem strCells_strL (s : ByteArray) : Lib.strCells s = (strL s).map (Value.int .u8) := by
  unfold Lib.strCells strL
  rw [List.map_map]; rfl
theorem strL_bytes (s : ByteArray) : Bytes (strL s) := by
  intro b hb
  unfold strL at hb
  obtain ⟨x, -, rfl⟩ := List.mem_map.1 hb
  have := x.toNat_lt
  omega
theorem strOfNums_strL (s : ByteArray) : strOfNums (strL s) = s := by
  apply strL_inj
  unfold strOfNums strL
  simp only [List.map_map]
  refine List.map_congr_left (fun b _ => ?_)
  simp
theorem strL_strOfNums {l : List Int} (h : Bytes l) : strL (strOfNums l) = l := by
  unfold strOfNums strL
  simp only [List.map_map]
  conv => rhs; rw [← List.map_id l]
  refine List.map_congr_left (fun b hb => ?_)
  have := h b hb
  simp only [Function.comp_apply, id_eq, UInt8.toNat_ofNat']
  omega
def encS (s : ByteArray) : List Int := encI (s.size : Int) ++ strL s
def encB (b : Bool) : List Int := [if b = true then 1 else 0]
def encX (x : Ic) : List Int := encI x.id ++ (encI x.urg ++ (encS x.code ++ (encIs x.nodes ++ (encI x.dist ++ (encI x.since ++ (encIs x.calls ++ (encIs x.units ++ (encI x.merged ++ encB x.closed))))))))
def In64 (n : Int) : Prop := -9223372036854775808 ≤ n ∧ n < 9223372036854775808
theorem encI_pre {a b : Int} {r s : List Int} (ha : In64 a) (hb : In64 b) (h : encI a ++ r = encI b ++ s) : a = b ∧ r = s := by
  have h1 := rdI_enc ha.1 ha.2 r
  have h2 := rdI_enc hb.1 hb.2 s
  rw [h, h2] at h1
  simp at h1
  exact ⟨h1.1.symm, h1.2.symm⟩
theorem encIs_pre {a b : List Int} {r s : List Int} (ha : InR a) (hb : InR b) (hla : a.length < 9223372036854775808) (hlb : b.length < 9223372036854775808) (h : encIs a ++ r = encIs b ++ s) : a = b ∧ r = s := by
  have h1 := rdIs_enc ha hla r
  have h2 := rdIs_enc hb hlb s
  rw [h, h2] at h1
  simp at h1
  exact ⟨h1.1.symm, h1.2.symm⟩
theorem encS_pre {a b : ByteArray} {r s : List Int} (ha : a.size < 9223372036854775808) (hb : b.size < 9223372036854775808) (h : encS a ++ r = encS b ++ s) : a = b ∧ r = s := by
  unfold encS at h
  rw [List.append_assoc, List.append_assoc] at h
  obtain ⟨h1, h2⟩ := encI_pre ⟨by omega, by omega⟩ ⟨by omega, by omega⟩ h
  obtain ⟨h3, h4⟩ := List.append_inj h2 (by rw [strL_len, strL_len]; omega)
  exact ⟨strL_inj h3, h4⟩
/-- all numbers fit into 64 bits, all lists are not too long -/
structure IcW (x : Ic) : Prop where
  id : In64 x.id
  urg : In64 x.urg
  code : x.code.size < 9223372036854775808
  nodes : InR x.nodes
  nodesL : x.nodes.length < 9223372036854775808
  dist : In64 x.dist
  since : In64 x.since
  calls : InR x.calls
  callsL : x.calls.length < 9223372036854775808
  units : InR x.units
  unitsL : x.units.length < 9223372036854775808
  merged : In64 x.merged
theorem encX_inj {x y : Ic} (hx : IcW x) (hy : IcW y) (h : encX x = encX y) : x = y := by
  obtain ⟨h1, h⟩ := encI_pre hx.id hy.id h
  obtain ⟨h2, h⟩ := encI_pre hx.urg hy.urg h
  obtain ⟨h3, h⟩ := encS_pre hx.code hy.code h
  obtain ⟨h4, h⟩ := encIs_pre hx.nodes hy.nodes hx.nodesL hy.nodesL h
  obtain ⟨h5, h⟩ := encI_pre hx.dist hy.dist h
  obtain ⟨h6, h⟩ := encI_pre hx.since hy.since h
  obtain ⟨h7, h⟩ := encIs_pre hx.calls hy.calls hx.callsL hy.callsL h
  obtain ⟨h8, h⟩ := encIs_pre hx.units hy.units hx.unitsL hy.unitsL h
  obtain ⟨h9, h⟩ := encI_pre hx.merged hy.merged h
  have h10 : x.closed = y.closed := by
    unfold encB at h
    cases hc : x.closed <;> cases hd : y.closed <;> rw [hc, hd] at h <;> first | rfl | simp at h
  cases x; cases y
  simp only at h1 h2 h3 h4 h5 h6 h7 h8 h9 h10
  subst h1 h2 h3 h4 h5 h6 h7 h8 h9 h10
  rfl
theorem encB_len (b : Bool) : (encB b).length = 1 := rfl
end Go.Inc

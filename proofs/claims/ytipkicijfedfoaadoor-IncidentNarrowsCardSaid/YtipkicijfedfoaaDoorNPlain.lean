import Derived.Test.YtipkicijfedfoaaDoorQPlain
namespace Go.Inc
/-! ### Sets of bits in a word -/
def bitsOf (w : Nat) : List Nat := (List.range 64).filter (fun j => w.testBit j)
theorem mem_bitsOf {w j : Nat} : j ∈ bitsOf w ↔ j < 64 ∧ w.testBit j = true := by simp [bitsOf]
/-- the lowest bit -/
theorem low_split {w : Nat} (h : w ≠ 0) : ∃ k m, w = 2 ^ (k + 1) * m + 2 ^ k := by
  induction w using Nat.strongRecOn with
  | ind w ih =>
    by_cases hw : w % 2 = 1
    · exact ⟨0, w / 2, by simp; omega⟩
    · obtain ⟨k, m, e⟩ := ih (w / 2) (by omega) (by omega)
      refine ⟨k + 1, m, ?_⟩
      have : w = 2 * (w / 2) := by omega
      rw [this, e, Nat.mul_add, Nat.pow_succ 2 (k + 1), Nat.pow_succ 2 k]
      rw [Nat.mul_comm (2 ^ k * 2) 2, Nat.mul_assoc 2, Nat.mul_comm 2 (2 ^ k)]
theorem low_bit {k m : Nat} (j : Nat) : (2 ^ (k + 1) * m + 2 ^ k).testBit j = if j < k then false else if j = k then true else m.testBit (j - (k + 1)) := by
  rw [Nat.testBit_two_pow_mul_add m (Nat.pow_lt_pow_right (by omega) (by omega))]
  by_cases h1 : j < k
  · rw [if_pos (by omega), if_pos h1, Nat.testBit_two_pow]; simp; omega
  · rw [if_neg h1]
    by_cases h2 : j = k
    · subst h2; rw [if_pos (by omega), if_pos rfl, Nat.testBit_two_pow]; simp
    · rw [if_neg (by omega), if_neg h2]
theorem low_pred {k m : Nat} (j : Nat) : (2 ^ (k + 1) * m + 2 ^ k - 1).testBit j = if j < k then true else if j = k then false else m.testBit (j - (k + 1)) := by
  have hp : 0 < 2 ^ k := Nat.two_pow_pos k
  have e : 2 ^ (k + 1) * m + 2 ^ k - 1 = 2 ^ (k + 1) * m + (2 ^ k - 1) := by omega
  have hlt : 2 ^ k - 1 < 2 ^ (k + 1) := by rw [Nat.pow_succ]; omega
  rw [e, Nat.testBit_two_pow_mul_add m hlt]
  by_cases h1 : j < k
  · rw [if_pos (by omega), if_pos h1, Nat.testBit_two_pow_sub_one]; simp [h1]
  · rw [if_neg h1]
    by_cases h2 : j = k
    · subst h2; rw [if_pos (by omega), if_pos rfl, Nat.testBit_two_pow_sub_one]; simp
    · rw [if_neg (by omega), if_neg h2]
theorem low_clear {k m : Nat} : (2 ^ (k + 1) * m + 2 ^ k) &&& (2 ^ (k + 1) * m + 2 ^ k - 1) = 2 ^ (k + 1) * m := by
  apply Nat.eq_of_testBit_eq
  intro j
  rw [Nat.testBit_and, low_bit, low_pred]
  have e : 2 ^ (k + 1) * m = 2 ^ (k + 1) * m + 0 := by omega
  rw [e, Nat.testBit_two_pow_mul_add m (Nat.two_pow_pos _)]
  by_cases h1 : j < k
  · rw [if_pos h1, if_pos h1, if_pos (by omega)]; simp
  · rw [if_neg h1, if_neg h1]
    by_cases h2 : j = k
    · subst h2; rw [if_pos rfl, if_pos rfl, if_pos (by omega)]; simp
    · rw [if_neg h2, if_neg h2, if_neg (by omega)]; simp
theorem low_iso {k m : Nat} (h : 2 ^ (k + 1) * m + 2 ^ k < 2 ^ 64) : (2 ^ (k + 1) * m + 2 ^ k) &&& (2 ^ 64 - (2 ^ (k + 1) * m + 2 ^ k)) = 2 ^ k := by
  have hk : k < 64 := by
    rcases Nat.lt_or_ge k 64 with h1 | h1
    · exact h1
    · have := Nat.pow_le_pow_right (n := 2) (by omega) h1; omega
  have hm : m < 2 ^ (63 - k) := by
    have e : 2 ^ 64 = 2 ^ (k + 1) * 2 ^ (63 - k) := by rw [← Nat.pow_add]; congr 1; omega
    rw [e] at h
    exact Nat.lt_of_mul_lt_mul_left (Nat.lt_of_le_of_lt (Nat.le_add_right _ _) h)
  have e64 : 2 ^ 64 = 2 ^ (k + 1) * 2 ^ (63 - k) := by rw [← Nat.pow_add]; congr 1; omega
  have e2 : 2 ^ 64 - (2 ^ (k + 1) * m + 2 ^ k) = 2 ^ (k + 1) * (2 ^ (63 - k) - (m + 1)) + 2 ^ k := by
    have e3 : 2 ^ (k + 1) * (2 ^ (63 - k) - (m + 1)) = 2 ^ 64 - 2 ^ (k + 1) * m - 2 ^ (k + 1) := by
      rw [Nat.mul_sub, e64, Nat.mul_add, Nat.mul_one]; omega
    have e4 : 2 ^ (k + 1) = 2 ^ k + 2 ^ k := by rw [Nat.pow_succ]; omega
    have e5 : 2 ^ (k + 1) * m + 2 ^ (k + 1) ≤ 2 ^ 64 := by
      rw [e64]
      have : 2 ^ (k + 1) * m + 2 ^ (k + 1) = 2 ^ (k + 1) * (m + 1) := by rw [Nat.mul_add, Nat.mul_one]
      rw [this]
      exact Nat.mul_le_mul_left _ hm
    rw [e3]; omega
  rw [e2]
  apply Nat.eq_of_testBit_eq
  intro j
  rw [Nat.testBit_and, low_bit, low_bit, Nat.testBit_two_pow]
  by_cases h1 : j < k
  · rw [if_pos h1]; simp; omega
  · rw [if_neg h1, if_neg h1]
    by_cases h2 : j = k
    · subst h2; simp
    · rw [if_neg h2, if_neg h2, Nat.testBit_two_pow_sub_succ hm]
      have : ¬ k = j := fun e => h2 e.symm
      simp [this]
      exact fun h _ => h
theorem bits_cons {k m : Nat} (h : 2 ^ (k + 1) * m + 2 ^ k < 2 ^ 64) : bitsOf (2 ^ (k + 1) * m + 2 ^ k) = k :: bitsOf (2 ^ (k + 1) * m) := by
  have hk : k < 64 := by
    rcases Nat.lt_or_ge k 64 with h1 | h1
    · exact h1
    · have := Nat.pow_le_pow_right (n := 2) (by omega) h1; omega
  have hb : ∀ j, (2 ^ (k + 1) * m).testBit j = if j ≤ k then false else m.testBit (j - (k + 1)) := fun j => by
    have e : 2 ^ (k + 1) * m = 2 ^ (k + 1) * m + 0 := by omega
    rw [e, Nat.testBit_two_pow_mul_add m (Nat.two_pow_pos _)]
    by_cases h1 : j ≤ k
    · rw [if_pos (by omega), if_pos h1]; simp
    · rw [if_neg (by omega), if_neg h1]
  have hs : List.range 64 = List.range k ++ k :: (List.range' (k + 1) (63 - k)) := by
    have e1 : List.range 64 = List.range' 0 64 := List.range_eq_range'
    have e2 : List.range k = List.range' 0 k := List.range_eq_range'
    rw [e1, e2]
    have e3 : k :: List.range' (k + 1) (63 - k) = List.range' k (64 - k) := by
      rw [show 64 - k = (63 - k) + 1 by omega, List.range'_succ]
    rw [e3]
    have := List.range'_append (s := 0) (m := k) (n := 64 - k) (step := 1)
    rw [show 0 + 1 * k = k by omega, show k + (64 - k) = 64 by omega] at this
    exact this.symm
  unfold bitsOf
  rw [hs, List.filter_append, List.filter_append, List.filter_cons, List.filter_cons]
  have f1 : (List.range k).filter (fun j => (2 ^ (k + 1) * m + 2 ^ k).testBit j) = [] := by
    rw [List.filter_eq_nil_iff]
    intro j hj
    rw [low_bit, if_pos (List.mem_range.1 hj)]; simp
  have f2 : (List.range k).filter (fun j => (2 ^ (k + 1) * m).testBit j) = [] := by
    rw [List.filter_eq_nil_iff]
    intro j hj
    have := List.mem_range.1 hj
    rw [hb, if_pos (by omega)]; simp
  have g1 : (2 ^ (k + 1) * m + 2 ^ k).testBit k = true := by rw [low_bit]; simp
  have g2 : (2 ^ (k + 1) * m).testBit k = false := by rw [hb]; simp
  rw [f1, f2, if_pos g1, if_neg (by rw [g2]; simp)]
  simp only [List.nil_append]
  congr 1
  refine List.filter_congr (fun j hj => ?_)
  have := (List.mem_range'.1 hj)
  obtain ⟨i, hi, e⟩ := this
  rw [low_bit, hb, if_neg (by omega), if_neg (by omega), if_neg (by omega)]
theorem bitsOf_zero : bitsOf 0 = [] := by simp [bitsOf]
/-! ### Words -/
def gw (ws : List Nat) (i : Nat) : Nat := ws.getD i 0
def hasW (ws : List Nat) (n : Nat) : Bool := (gw ws (n / 64)).testBit (n % 64)
def listW (ws : List Nat) : List Nat := (List.range ws.length).flatMap (fun i => (bitsOf (gw ws i)).map (fun j => i * 64 + j))
def addW (ws : List Nat) (n : Nat) : List Nat := ws.set (n / 64) (gw ws (n / 64) ||| 2 ^ (n % 64))
def ofW (l : List Nat) : List Nat := l.foldl addW (List.replicate 64 0)
def andW (a b : List Nat) : List Nat := List.zipWith (fun x y => x &&& y) a b
theorem gw_set (ws : List Nat) (i v j : Nat) (hi : i < ws.length) : gw (ws.set i v) j = if j = i then v else gw ws j := by
  unfold gw
  rw [List.getD_eq_getElem?_getD, List.getD_eq_getElem?_getD, List.getElem?_set]
  by_cases h : i = j
  · subst h; simp [hi]
  · rw [if_neg h, if_neg (fun e => h e.symm)]
theorem addW_len (ws : List Nat) (n : Nat) : (addW ws n).length = ws.length := by simp [addW]
theorem hasW_add {ws : List Nat} {n : Nat} (hn : n / 64 < ws.length) (j : Nat) : hasW (addW ws n) j = (hasW ws j || decide (j = n)) := by
  unfold hasW addW
  rw [gw_set _ _ _ _ hn]
  by_cases h : j / 64 = n / 64
  · rw [if_pos h, Nat.testBit_or, Nat.testBit_two_pow, h]
    congr 1
    by_cases h2 : j = n
    · subst h2; simp
    · have : ¬ n % 64 = j % 64 := by omega
      simp [h2, this]
  · rw [if_neg h]
    have : ¬ j = n := fun e => h (by rw [e])
    simp [this]
theorem ofW_aux : ∀ (l : List Nat) (ws : List Nat), ws.length = 64 → (∀ n ∈ l, n < 4096) → (l.foldl addW ws).length = 64 ∧ ∀ j, hasW (l.foldl addW ws) j = (hasW ws j || decide (j ∈ l))
  | [], ws, h, _ => ⟨h, fun j => by simp⟩
  | a :: r, ws, h, hl => by
    have ha := hl a (by simp)
    obtain ⟨h1, h2⟩ := ofW_aux r (addW ws a) (by rw [addW_len, h]) (fun n hn => hl n (by simp [hn]))
    refine ⟨h1, fun j => ?_⟩
    rw [List.foldl_cons, h2, hasW_add (by rw [h]; omega)]
    by_cases h3 : j = a <;> by_cases h4 : j ∈ r <;> simp [h3, h4, List.mem_cons]
theorem ofW_len {l : List Nat} (h : ∀ n ∈ l, n < 4096) : (ofW l).length = 64 := (ofW_aux l _ (by simp) h).1
theorem hasW_of {l : List Nat} (h : ∀ n ∈ l, n < 4096) (j : Nat) : hasW (ofW l) j = decide (j ∈ l) := by
  have := (ofW_aux l (List.replicate 64 0) (by simp) h).2 j
  unfold ofW
  rw [this]
  have : hasW (List.replicate 64 0) j = false := by
    unfold hasW gw
    rw [List.getD_eq_getElem?_getD, List.getElem?_replicate]
    split <;> simp
  rw [this]; simp
theorem gw_and {a b : List Nat} (h : a.length = b.length) (i : Nat) : gw (andW a b) i = gw a i &&& gw b i := by
  unfold gw andW
  rw [List.getD_eq_getElem?_getD, List.getD_eq_getElem?_getD, List.getD_eq_getElem?_getD, List.getElem?_zipWith]
  by_cases hi : i < a.length
  · rw [List.getElem?_eq_getElem hi, List.getElem?_eq_getElem (by omega)]; rfl
  · rw [List.getElem?_eq_none (by omega), List.getElem?_eq_none (by omega)]; simp
theorem hasW_and {a b : List Nat} (h : a.length = b.length) (j : Nat) : hasW (andW a b) j = (hasW a j && hasW b j) := by
  unfold hasW; rw [gw_and h, Nat.testBit_and]
theorem mem_listW {ws : List Nat} {n : Nat} : n ∈ listW ws ↔ n / 64 < ws.length ∧ hasW ws n = true := by
  unfold listW hasW
  rw [List.mem_flatMap]
  constructor
  · rintro ⟨i, hi, hn⟩
    obtain ⟨j, hj, rfl⟩ := List.mem_map.1 hn
    obtain ⟨h1, h2⟩ := mem_bitsOf.1 hj
    have e1 : (i * 64 + j) / 64 = i := by omega
    have e2 : (i * 64 + j) % 64 = j := by omega
    rw [e1, e2]
    exact ⟨List.mem_range.1 hi, h2⟩
  · rintro ⟨h1, h2⟩
    exact ⟨n / 64, List.mem_range.2 h1, List.mem_map.2 ⟨n % 64, mem_bitsOf.2 ⟨by omega, h2⟩, by omega⟩⟩
theorem listW_sorted (ws : List Nat) : (listW ws).Pairwise (fun a b => a < b) := by
  unfold listW
  rw [List.pairwise_flatMap]
  refine ⟨fun i hi => ?_, ?_⟩
  · rw [List.pairwise_map]
    unfold bitsOf
    exact (List.pairwise_lt_range.filter _).imp (fun h => by omega)
  · refine List.pairwise_lt_range.imp (fun {a b} hab => ?_)
    intro x hx y hy
    obtain ⟨j, hj, rfl⟩ := List.mem_map.1 hx
    obtain ⟨j', hj', rfl⟩ := List.mem_map.1 hy
    have h1 := (mem_bitsOf.1 hj).1
    omega
/-- What two increasing lists have in common. -/
theorem common_eq {a b : List Nat} (ha : a.Pairwise (fun x y => x < y)) (h1 : ∀ n ∈ a, n < 4096) (h2 : ∀ n ∈ b, n < 4096) : listW (andW (ofW a) (ofW b)) = a.filter (fun n => decide (n ∈ b)) := by
  have hl : (ofW a).length = (ofW b).length := by rw [ofW_len h1, ofW_len h2]
  have hl2 : (andW (ofW a) (ofW b)).length = 64 := by unfold andW; rw [List.length_zipWith, ofW_len h1, ofW_len h2]; rfl
  have hs : (a.filter (fun n => decide (n ∈ b))).Pairwise (fun x y => x < y) := ha.filter _
  refine List.Perm.eq_of_pairwise (le := fun x y : Nat => x < y) (fun x y _ _ h1 h2 => by omega) (listW_sorted _) hs ?_
  rw [List.perm_ext_iff_of_nodup ((listW_sorted _).imp (fun h => by omega)) (hs.imp (fun h => by omega))]
  intro n
  rw [mem_listW, hl2, hasW_and hl, hasW_of h1, hasW_of h2, List.mem_filter]
  simp
  intro hn _
  have := h1 n hn
  omega
end Go.Inc

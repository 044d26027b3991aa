import Derived.Test.YtnmmiiajcjcccaaAid3
namespace Go.Aid
open Go.Quo (gd gd_get)
/-! ### Mutual aid, plain: what is fair -/
def lentN (l : List (Int × Int)) (i : Nat) : Nat := l.countP (fun p => p.1 == (i : Int))
def gotN (l : List (Int × Int)) (i : Nat) : Nat := l.countP (fun p => p.2 == (i : Int))
def sF (L : List Int) (l : List (Int × Int)) (i : Nat) : Int := max (gd L i) 0 - lentN l i
def tF (L : List Int) (l : List (Int × Int)) (i : Nat) : Int := max (-gd L i) 0 - gotN l i
def stepOk (n : Nat) (p : Int × Int) : Prop := 0 ≤ p.1 ∧ p.1 < n ∧ 0 ≤ p.2 ∧ p.2 < n ∧ p.1 ≠ p.2
structure FairP (n : Nat) (L : List Int) (l : List (Int × Int)) : Prop where
  ok : ∀ p ∈ l, stepOk n p
  lent : ∀ i, i < n → (lentN l i : Int) ≤ max (gd L i) 0
  got : ∀ i, i < n → (gotN l i : Int) ≤ max (-gd L i) 0
  stop : (∀ i, i < n → sF L l i ≤ 0) ∨ (∀ i, i < n → tF L l i ≤ 0)
  et : ∀ d, d < n → 0 < gotN l d → ∀ k, k < n → tF L l k ≤ tF L l d + 1
  es : ∀ d, d < n → 0 < lentN l d → ∀ k, k < n → sF L l k ≤ sF L l d + 1
theorem take_snoc {α : Type} {l : List α} {k : Nat} {p : α} (hp : l[k]? = some p) : l.take (k + 1) = l.take k ++ [p] := by rw [List.take_add_one, hp]; rfl
theorem lentN_snoc (l : List (Int × Int)) (p : Int × Int) (i : Nat) : lentN (l ++ [p]) i = lentN l i + if p.1 = (i : Int) then 1 else 0 := by
  unfold lentN
  rw [List.countP_append, List.countP_singleton]
  by_cases h : p.1 = (i : Int) <;> simp [h]
theorem gotN_snoc (l : List (Int × Int)) (p : Int × Int) (i : Nat) : gotN (l ++ [p]) i = gotN l i + if p.2 = (i : Int) then 1 else 0 := by
  unfold gotN
  rw [List.countP_append, List.countP_singleton]
  by_cases h : p.2 = (i : Int) <;> simp [h]
theorem lentN_le (l : List (Int × Int)) (k i : Nat) : lentN (l.take k) i ≤ lentN l i := (List.take_sublist k l).countP_le
theorem gotN_le (l : List (Int × Int)) (k i : Nat) : gotN (l.take k) i ≤ gotN l i := (List.take_sublist k l).countP_le
/-- After k steps, none of which failed. -/
structure FSt (n : Nat) (L : List Int) (l : List (Int × Int)) (k : Nat) (s t : List Int) (p q : List Bool) : Prop where
  sl : s.length = n
  tl : t.length = n
  pl : p.length = n
  ql : q.length = n
  sv : ∀ i, i < n → gd s i = sF L (l.take k) i ∧ 0 ≤ gd s i
  tv : ∀ i, i < n → gd t i = tF L (l.take k) i ∧ 0 ≤ gd t i
  pv : ∀ i, i < n → p[i]? = some (decide (0 < lentN (l.take k) i))
  qv : ∀ i, i < n → q[i]? = some (decide (0 < gotN (l.take k) i))
  ok : ∀ x ∈ l.take k, stepOk n x
theorem FSt.start {n : Nat} {L : List Int} (l : List (Int × Int)) (hL : L.length = n) : FSt n L l 0 (surF L) (shoF L) (List.replicate n false) (List.replicate n false) :=
  ⟨by simpa [surF] using hL, by simpa [shoF] using hL, by simp, by simp, fun i _ => ⟨by rw [gd_sur]; simp [sF, lentN], by rw [gd_sur]; omega⟩, fun i _ => ⟨by rw [gd_sho]; simp [tF, gotN], by rw [gd_sho]; omega⟩,
    fun i hi => by simp [hi, lentN], fun i hi => by simp [hi, gotN], by simp⟩
theorem FSt.next {n : Nat} {L : List Int} {l : List (Int × Int)} {k : Nat} {s t : List Int} {p q : List Bool} (h : FSt n L l k s t p q) {a b : Nat} (hk : l[k]? = some ((a : Int), (b : Int))) (ha : a < n) (hb : b < n) (hab : a ≠ b) (hs : gd s a ≠ 0) (ht : gd t b ≠ 0) :
    FSt n L l (k + 1) (s.set a (gd s a - 1)) (t.set b (gd t b - 1)) (p.set a true) (q.set b true) := by
  have e := take_snoc hk
  refine ⟨by simp [h.sl], by simp [h.tl], by simp [h.pl], by simp [h.ql], fun i hi => ?_, fun i hi => ?_, fun i hi => ?_, fun i hi => ?_, ?_⟩
  · rw [gd_set _ _ _ _ (by rw [h.sl]; exact ha), e]
    unfold sF
    rw [lentN_snoc]
    have h1 := h.sv i hi
    unfold sF at h1
    by_cases hi2 : i = a
    · subst hi2; simp; omega
    · rw [if_neg hi2, if_neg (by simpa using fun e : (a : Int) = i => hi2 (by omega))]; simpa using h1
  · rw [gd_set _ _ _ _ (by rw [h.tl]; exact hb), e]
    unfold tF
    rw [gotN_snoc]
    have h1 := h.tv i hi
    unfold tF at h1
    by_cases hi2 : i = b
    · subst hi2; simp; omega
    · rw [if_neg hi2, if_neg (by simpa using fun e : (b : Int) = i => hi2 (by omega))]; simpa using h1
  · rw [e, lentN_snoc, List.getElem?_set]
    by_cases hi2 : a = i
    · subst hi2; simp [h.pl, ha]
    · rw [if_neg hi2, if_neg (by simpa using fun e : (a : Int) = i => hi2 (by omega)), h.pv i hi]; simp
  · rw [e, gotN_snoc, List.getElem?_set]
    by_cases hi2 : b = i
    · subst hi2; simp [h.ql, hb]
    · rw [if_neg hi2, if_neg (by simpa using fun e : (b : Int) = i => hi2 (by omega)), h.qv i hi]; simp
  · rw [e]
    intro x hx
    rcases List.mem_append.1 hx with hx | hx
    · exact h.ok x hx
    · obtain rfl : x = ((a : Int), (b : Int)) := by simpa using hx
      exact ⟨by simp, by simp; omega, by simp, by simp; omega, by simp; omega⟩
theorem FSt.bad {n : Nat} {L : List Int} {l : List (Int × Int)} {k : Nat} {x : Int × Int} (hk : l[k]? = some x) (hx : ¬ stepOk n x) : ¬ FairP n L l := fun h => hx (h.ok x (List.mem_of_getElem? hk))
theorem FSt.out_s {n : Nat} {L : List Int} {l : List (Int × Int)} {k : Nat} {s t : List Int} {p q : List Bool} (h : FSt n L l k s t p q) {a : Nat} {b : Int} (hk : l[k]? = some ((a : Int), b)) (ha : a < n) (hs : gd s a = 0) : ¬ FairP n L l := fun hf => by
  have h1 := h.sv a ha
  have h2 := hf.lent a ha
  have h3 := lentN_le l (k + 1) a
  rw [take_snoc hk, lentN_snoc] at h3
  simp only [if_true] at h3
  unfold sF at h1
  omega
theorem FSt.out_t {n : Nat} {L : List Int} {l : List (Int × Int)} {k : Nat} {s t : List Int} {p q : List Bool} (h : FSt n L l k s t p q) {b : Nat} {a : Int} (hk : l[k]? = some (a, (b : Int))) (hb : b < n) (ht : gd t b = 0) : ¬ FairP n L l := fun hf => by
  have h1 := h.tv b hb
  have h2 := hf.got b hb
  have h3 := gotN_le l (k + 1) b
  rw [take_snoc hk, gotN_snoc] at h3
  simp only [if_true] at h3
  unfold tF at h1
  omega
theorem gr_neg {l : List Int} : grF l < 0 ↔ ∀ i, i < l.length → gd l i ≤ 0 := by
  rcases gr_cases l with ⟨e, h⟩ | ⟨k, e, hk, hp⟩
  · exact ⟨fun _ => h, fun _ => by omega⟩
  · exact ⟨fun h => by omega, fun h => by have := h k hk; omega⟩
def evenP (l : List Int) (q : List Bool) : Prop := ∀ d, d < l.length → q[d]? = some true → ∀ k, k < l.length → gd l k ≤ gd l d + 1
theorem FSt.end_ {n : Nat} {L : List Int} {l : List (Int × Int)} {s t : List Int} {p q : List Bool} (h : FSt n L l l.length s t p q) :
    FairP n L l ↔ (grF s < 0 ∨ grF t < 0) ∧ evenP t q ∧ evenP s p := by
  have ok := h.ok
  have sv := h.sv
  have tv := h.tv
  have pv := h.pv
  have qv := h.qv
  rw [List.take_length] at ok sv tv pv qv
  rw [gr_neg, gr_neg, h.sl, h.tl]
  unfold evenP
  rw [h.sl, h.tl]
  constructor
  · intro f
    refine ⟨f.stop.imp (fun g i hi => by rw [(sv i hi).1]; exact g i hi) (fun g i hi => by rw [(tv i hi).1]; exact g i hi), fun d hd hq k hk => ?_, fun d hd hq k hk => ?_⟩
    · rw [(tv k hk).1, (tv d hd).1]
      rw [qv d hd] at hq
      exact f.et d hd (by simpa using hq) k hk
    · rw [(sv k hk).1, (sv d hd).1]
      rw [pv d hd] at hq
      exact f.es d hd (by simpa using hq) k hk
  · rintro ⟨g1, g2, g3⟩
    refine ⟨ok, fun i hi => ?_, fun i hi => ?_, g1.imp (fun g i hi => by rw [← (sv i hi).1]; exact g i hi) (fun g i hi => by rw [← (tv i hi).1]; exact g i hi), fun d hd hq k hk => ?_, fun d hd hq k hk => ?_⟩
    · have := sv i hi; unfold sF at this; omega
    · have := tv i hi; unfold tF at this; omega
    · rw [← (tv k hk).1, ← (tv d hd).1]
      exact g2 d hd (by rw [qv d hd]; simpa using hq) k hk
    · rw [← (sv k hk).1, ← (sv d hd).1]
      exact g3 d hd (by rw [pv d hd]; simpa using hq) k hk
end Go.Aid

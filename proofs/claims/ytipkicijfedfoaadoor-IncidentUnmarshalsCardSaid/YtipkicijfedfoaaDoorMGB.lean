import Derived.Test.YtipkicijfedfoaaDoorMGA
import Derived.OpenShut
import Derived.ProofKit
namespace Go.Own
open Go.RowKit

/-! ### Opening an argument: what can be read as data lies in memory so -/
theorem flat_get {α : Type} (f : α → List Value) (s : Nat) (hs : ∀ x, (f x).length = s) : ∀ (l : List α) (k j : Nat) (x : α), l[k]? = some x → j < s → (l.flatMap f)[k * s + j]? = (f x)[j]?
  | [], k, j, x, hx, _ => by simp at hx
  | a :: r, 0, j, x, hx, hj => by
    simp at hx; subst hx
    rw [List.flatMap_cons, List.getElem?_append_left (by rw [hs]; omega)]; simp
  | a :: r, k + 1, j, x, hx, hj => by
    have := flat_get f s hs r k j x (by simpa using hx) hj
    rw [List.flatMap_cons, List.getElem?_append_right (by rw [hs, Nat.add_mul]; omega), hs, ← this]
    congr 1
    rw [Nat.add_mul]; omega
theorem flat_length {α : Type} (f : α → List Value) (s : Nat) (hs : ∀ x, (f x).length = s) : ∀ l : List α, (l.flatMap f).length = l.length * s
  | [] => by simp
  | a :: r => by rw [List.flatMap_cons, List.length_append, hs, flat_length f s hs r, List.length_cons, Nat.add_mul]; omega
theorem flat_one (k : IntKind) : ∀ l : List Int, l.flatMap (fun n : Int => [Value.int k n]) = l.map (Value.int k)
  | [] => rfl
  | a :: r => by rw [List.flatMap_cons, flat_one k r]; rfl
theorem list_of_all {α : Type} {R : Nat → α → Prop} : ∀ n : Nat, (∀ i, i < n → ∃ a, R i a) → ∃ l : List α, l.length = n ∧ ∀ (i : Nat) (a : α), l[i]? = some a → R i a
  | 0, _ => ⟨[], rfl, fun i a h => by simp at h⟩
  | n + 1, h => by
    obtain ⟨l, hl, hr⟩ := list_of_all n (fun i hi => h i (by omega))
    obtain ⟨a, ha⟩ := h n (by omega)
    refine ⟨l ++ [a], by simp [hl], fun i b hb => ?_⟩
    by_cases hi : i < l.length
    · rw [List.getElem?_append_left hi] at hb; exact hr i b hb
    · rw [List.getElem?_append_right (by omega)] at hb
      have h0 : i - l.length = 0 := by
        have := (List.getElem?_eq_some_iff.1 hb).1
        simp at this; omega
      rw [h0] at hb
      simp at hb; subst hb
      have : i = n := by omega
      subst this; exact ha
section
variable {H : Type} {enc : TypeId × Value → H} {P : Program} {w : World}
def Rdy (enc : TypeId × Value → H) (P : Program) (w : World) (t : TypeId) (cs : List Value) : Prop := ∃ fuel x, DataW.trod enc P w 0 (fun _ => true) true fuel t cs = some x
theorem Rdy.of_trod {t : TypeId} {v : Value} {d : DataW H} {p : List MemPlace} (h : DataW.Trod enc P w 0 (fun _ => true) true t v d p) : Rdy enc P w t v.cells.toList := by
  obtain ⟨fuel, h⟩ := h
  exact ⟨fuel, _, h⟩
theorem Rdy.int {t : TypeId} {cs : List Value} (h : Rdy enc P w t cs) {k : IntKind} (ht : P.underlying t = some (.int k)) : ∃ n, cs = [.int k n] ∧ (Lit.int k n).wf = true := by
  obtain ⟨fuel, x, h⟩ := h
  obtain ⟨n, h1, -, h2⟩ := DataW.trod_int ht h
  exact ⟨n, h1, h2⟩
theorem Rdy.string {t : TypeId} {cs : List Value} (h : Rdy enc P w t cs) (ht : P.underlying t = some .string) : ∃ s : ByteArray, cs = [.string s] ∧ s.size ≤ maxLen := by
  obtain ⟨fuel, x, h⟩ := h
  obtain ⟨n, h1, -, h2⟩ := DataW.trod_string ht h
  exact ⟨n, h1, h2⟩
theorem Rdy.bool {t : TypeId} {cs : List Value} (h : Rdy enc P w t cs) (ht : P.underlying t = some .bool) : ∃ b, cs = [.bool b] := by
  obtain ⟨fuel, x, h⟩ := h
  cases fuel with
  | zero => simp [DataW.trod] at h
  | succ n =>
    unfold DataW.trod at h
    rw [ht] at h
    split at h <;> simp_all
theorem Rdy.struct {t : TypeId} {cs : List Value} (h : Rdy enc P w t cs) {fs : Array Field} (ht : P.underlying t = some (.struct fs)) :
    cs.length = P.cellsOf t ∧ ∀ (i : Nat) (f : Field), fs[i]? = some f → Rdy enc P w f.type ((cs.drop f.offset).take (P.cellsOf f.type)) := by
  obtain ⟨fuel, x, h⟩ := h
  obtain ⟨xs, n, rfl, rfl, h1, h2, h3⟩ := DataW.trod_struct ht h
  refine ⟨h1, fun i f hf => ?_⟩
  have hi : i < xs.length := by
    rw [h2]
    obtain ⟨hi, -⟩ := Array.getElem?_eq_some_iff.1 hf
    exact hi
  exact ⟨n, xs[i], (h3 i f hf).trans (List.getElem?_eq_getElem hi)⟩
theorem Rdy.array {t : TypeId} {cs : List Value} (h : Rdy enc P w t cs) {n : Nat} {e : TypeId} (ht : P.underlying t = some (.array n e)) :
    cs.length = P.cellsOf t ∧ ∀ (i : Nat), i < n → Rdy enc P w e ((cs.drop (i * P.cellsOf e)).take (P.cellsOf e)) := by
  obtain ⟨fuel, x, h⟩ := h
  obtain ⟨xs, m, rfl, rfl, h1, h2, h3⟩ := DataW.trod_array ht h
  exact ⟨h1, fun i hi => ⟨m, xs[i]'(by omega), (h3 i hi).trans (List.getElem?_eq_getElem (by omega))⟩⟩
theorem cells_get {a : Addr} {n : Nat} {es : List Value} (h : w.cells? 0 a n = some es) : es.length = n ∧ ∀ i, i < n → w.cell? (a.add i) = es[i]? := by
  unfold World.cells? at h
  rw [if_pos (Nat.zero_le _)] at h
  exact ⟨by simpa using mapM_some_length h, fun i hi => mapM_some_get h i i (by simp [hi])⟩
theorem Rdy.slice {t : TypeId} {cs : List Value} (h : Rdy enc P w t cs) {e : TypeId} (ht : P.underlying t = some (.slice e)) :
    ∃ A n c, cs = [.slice A n c] ∧ n ≤ c ∧ c ≤ maxLen ∧ (A = none → c = 0) ∧ ∀ a, A = some a → ∀ i, i < n → ∃ es, w.cells? 0 (a.add (i * P.cellsOf e)) (P.cellsOf e) = some es ∧ Rdy enc P w e es := by
  obtain ⟨fuel, x, h⟩ := h
  rcases DataW.trod_slice ht h with ⟨h1, -⟩ | ⟨a, len, cap, elems, rest, n, rfl, rfl, rfl, hb, hl, hm, hlen, hel, -, -⟩
  · exact ⟨none, 0, 0, h1, Nat.le_refl _, Nat.zero_le _, fun _ => rfl, fun a h => by cases h⟩
  · refine ⟨some a, len, cap, rfl, hl, hm, (fun h => by cases h), fun a' ha i hi => ?_⟩
    cases ha
    have h1 := hel i hi
    rw [List.getElem?_eq_getElem (by omega), Option.bind_eq_some_iff] at h1
    obtain ⟨es, h2, h3⟩ := h1
    exact ⟨es, h2, n, _, h3⟩
/-- A slice whose elements can all be opened: the list of what they are. -/
theorem Rdy.rows {α : Type} {t : TypeId} {cs : List Value} (h : Rdy enc P w t cs) {e : TypeId} (ht : P.underlying t = some (.slice e)) {size : Nat} (hsz : P.cellsOf e = size) (hpos : 0 < size) (f : α → List Value) (hf : ∀ x, (f x).length = size) (Q : α → Prop)
    (hel : ∀ es, Rdy enc P w e es → ∃ a, es = f a ∧ Q a) :
    ∃ A c, ∃ l : List α, cs = [.slice A l.length c] ∧ l.length ≤ c ∧ c ≤ maxLen ∧ Reads w (· < w.heap.size) size A l.length (l.flatMap f) ∧ ∀ a ∈ l, Q a := by
  obtain ⟨A, n, c, rfl, hnc, hcm, hA, hx⟩ := h.slice ht
  rw [hsz] at hx
  cases A with
  | none =>
    have : n = 0 := by have := hA rfl; omega
    subst this
    exact ⟨none, c, [], rfl, by simp, hcm, Reads.none_, by simp⟩
  | some ad =>
    obtain ⟨l, hl, hr⟩ := list_of_all (R := fun i a => w.cells? 0 (ad.add (i * size)) size = some (f a) ∧ Q a) n (fun i hi => by
      obtain ⟨es, h1, h2⟩ := hx ad rfl i hi
      obtain ⟨a, rfl, h3⟩ := hel es h2
      exact ⟨a, h1, h3⟩)
    have hcell : ∀ j u, (l.flatMap f)[j]? = some u → w.cell? (ad.add j) = some u := by
      intro j u hu
      have hj : j < l.length * size := by
        have := (List.getElem?_eq_some_iff.1 hu).1
        rw [flat_length f size hf] at this; exact this
      have hk : j / size < l.length := Nat.div_lt_of_lt_mul (by rw [Nat.mul_comm]; exact hj)
      have hm : j % size < size := Nat.mod_lt _ hpos
      have hjj : j / size * size + j % size = j := by rw [Nat.mul_comm]; exact Nat.div_add_mod j size
      have h1 := hr (j / size) _ (List.getElem?_eq_getElem hk)
      obtain ⟨-, h2⟩ := cells_get h1.1
      have h3 := h2 (j % size) hm
      rw [add_of_add, hjj] at h3
      rw [h3, ← flat_get f size hf l (j / size) (j % size) _ (List.getElem?_eq_getElem hk) hm, hjj]
      exact hu
    refine ⟨some ad, c, l, by rw [hl], by omega, hcm, ⟨by rw [flat_length f size hf], fun hn => ⟨ad, rfl, ?_, hcell⟩⟩, fun a ha => ?_⟩
    · have h0 : 0 < (l.flatMap f).length := by rw [flat_length f size hf]; exact Nat.mul_pos hn hpos
      have := block_lt_of_cell (hcell 0 _ (List.getElem?_eq_getElem h0))
      rwa [block_of_add] at this
    · obtain ⟨i, hi⟩ := List.mem_iff_getElem?.1 ha
      exact (hr i a hi).2
/-- A slice of integers. -/
theorem Rdy.ints {t : TypeId} {cs : List Value} (h : Rdy enc P w t cs) {e : TypeId} (ht : P.underlying t = some (.slice e)) {k : IntKind} (he : P.underlying e = some (.int k)) (hc : P.cellsOf e = 1) :
    ∃ A c, ∃ l : List Int, cs = [.slice A l.length c] ∧ l.length ≤ c ∧ c ≤ maxLen ∧ Reads w (· < w.heap.size) 1 A l.length (l.map (Value.int k)) ∧ ∀ n ∈ l, (Lit.int k n).wf = true := by
  obtain ⟨A, c, l, h1, h2, h3, h4, h5⟩ := h.rows ht hc (by omega) (fun n : Int => [Value.int k n]) (fun _ => rfl) (fun n => (Lit.int k n).wf = true) (fun es hes => by
    obtain ⟨n, rfl, hw⟩ := hes.int he
    exact ⟨n, rfl, hw⟩)
  refine ⟨A, c, l, h1, h2, h3, ?_, h5⟩
  rw [flat_one] at h4; exact h4
end
end Go.Own

namespace Go.Quo
/-! ### Member lists and quorums, plain -/
def gd (l : List Int) (k : Nat) : Int := l.getD k 0
theorem gd_get {l : List Int} {k : Nat} (h : k < l.length) : gd l k = l[k] := by simp [gd, List.getD, List.getElem?_eq_getElem h]
def okAt (l : List Int) (i : Nat) : Bool := decide (0 ≤ gd l i) && decide (gd l i ≤ 63) && (decide (i = 0) || decide (gd l (i - 1) < gd l i))
def ascB (l : List Int) : Bool := (List.range l.length).all (okAt l)
def mlB (l : List Int) : Bool := decide (1 ≤ l.length) && decide (l.length ≤ 9) && ascB l
theorem asc_bad {l : List Int} {k : Nat} (hk : k < l.length) (h : okAt l k = false) : ascB l = false := by
  unfold ascB
  rw [List.all_eq_false]
  exact ⟨k, by simpa using hk, by simp [h]⟩
theorem asc_all {l : List Int} (h : ∀ j, j < l.length → okAt l j = true) : ascB l = true := by
  unfold ascB
  rw [List.all_eq_true]
  intro k hk
  exact h k (by simpa using hk)
def hasB (l : List Int) (x : Int) : Bool := l.contains x
def cnt (l yes : List Int) : Nat := (l.filter (hasB yes)).length
theorem cnt_le (l yes : List Int) : cnt l yes ≤ l.length := List.length_filter_le _ _
theorem cnt_step (l yes : List Int) (k : Nat) (hk : k < l.length) : cnt (l.take (k + 1)) yes = cnt (l.take k) yes + if hasB yes (gd l k) = true then 1 else 0 := by
  unfold cnt
  rw [List.take_succ_eq_append_getElem hk, List.filter_append, List.length_append]
  rw [gd_get hk]
  cases h : hasB yes l[k] with
  | true => rw [List.filter_cons_of_pos (by simpa using h)]; simp
  | false => rw [List.filter_cons_of_neg (by simp only [h]; exact Bool.false_ne_true)]; simp
def conQ (l yes : List Int) : Bool := decide (l.length / 2 + 1 ≤ cnt l yes)
def vB (o n : List Int) : Bool := mlB o && (decide (n.length = 0) || mlB n)
def reachB (o n yes : List Int) : Bool := vB o n && conQ o yes && (decide (n.length = 0) || conQ n yes)
theorem has_iff (yes : List Int) (x : Int) : hasB yes x = true ↔ ∃ j, j < yes.length ∧ gd yes j = x := by
  unfold hasB
  rw [List.contains_iff_mem, List.mem_iff_getElem]
  constructor
  · rintro ⟨j, hj, e⟩
    exact ⟨j, hj, by rw [gd_get hj, e]⟩
  · rintro ⟨j, hj, e⟩
    exact ⟨j, hj, by rw [gd_get hj] at e; exact e⟩
theorem has_no {yes : List Int} {x : Int} (h : ∀ j, j < yes.length → gd yes j ≠ x) : hasB yes x = false := by
  cases hc : hasB yes x with
  | false => rfl
  | true =>
    obtain ⟨j, hj, e⟩ := (has_iff yes x).1 hc
    exact absurd e (h j hj)
end Go.Quo

namespace Go.Inc
open Go.Quo (gd gd_get)
/-! ### Incident, plain: what is valid -/
def maxT : Int := 1099511627776
def numB (n lo : Int) : Bool := decide (lo ≤ n) && decide (n ≤ maxT)
/-- place i of a list is within bounds and above the one before -/
def incAt (l : List Int) (lo hi : Int) (i : Nat) : Bool := decide (lo ≤ gd l i) && decide (gd l i ≤ hi) && (decide (i = 0) || decide (gd l (i - 1) < gd l i))
def incB (l : List Int) (lo hi : Int) : Bool := (List.range l.length).all (incAt l lo hi)
def chB (b : UInt8) : Bool := decide (33 ≤ b.toNat) && decide (b.toNat ≤ 126)
def codeB (s : ByteArray) : Bool := decide (1 ≤ s.size) && decide (s.size ≤ 40) && (List.range s.size).all (fun i => chB (s.get! i))
def reportB (urg : Int) (code : ByteArray) (nodes : List Int) (dist since : Int) : Bool :=
  decide (1 ≤ urg) && decide (urg ≤ 5) && codeB code && decide (0 < nodes.length) && incB nodes 0 4095 && decide (0 ≤ dist) && decide (dist < 9) && decide (0 ≤ since) && decide (since ≤ maxT)
structure Cr where
  call : Int
  inc : Int
  urg : Int
  code : ByteArray
  nodes : List Int
  dist : Int
  since : Int
  closed : Bool
structure Ic where
  id : Int
  urg : Int
  code : ByteArray
  nodes : List Int
  dist : Int
  since : Int
  calls : List Int
  units : List Int
  merged : Int
  closed : Bool
def crB (c : Cr) : Bool := numB c.call 1 && numB c.inc 0 && reportB c.urg c.code c.nodes c.dist c.since
def icB (x : Ic) : Bool := numB x.id 1 && reportB x.urg x.code x.nodes x.dist x.since && decide (x.calls.length ≤ 1000) && incB x.calls 1 maxT && incB x.units 0 255 &&
  (decide (x.merged = 0) || (numB x.merged 1 && decide (x.merged ≠ x.id) && decide (x.calls.length = 0) && decide (x.units.length = 0)))
def openB (x : Ic) : Bool := decide (x.merged = 0) && !x.closed
theorem incB_iff {l : List Int} {lo hi : Int} : incB l lo hi = true ↔ ∀ i, i < l.length → incAt l lo hi i = true := by
  unfold incB; rw [List.all_eq_true]; simp
theorem incB_false {l : List Int} {lo hi : Int} {i : Nat} (hi' : i < l.length) (h : incAt l lo hi i = false) : incB l lo hi = false := by
  cases hb : incB l lo hi with
  | false => rfl
  | true => have := incB_iff.1 hb i hi'; rw [h] at this; cases this
theorem incB_lt {l : List Int} {lo hi : Int} (h : incB l lo hi = true) : ∀ i j, i < j → j < l.length → gd l i < gd l j := by
  intro i j hij hj
  induction j with
  | zero => omega
  | succ j ih =>
    have h1 := incB_iff.1 h (j + 1) hj
    unfold incAt at h1
    simp at h1
    rcases (by omega : i < j ∨ i = j) with h2 | h2
    · have := ih h2 (by omega); omega
    · subst h2; exact h1.2
theorem incB_le {l : List Int} {lo hi : Int} (h : incB l lo hi = true) {i : Nat} (hi' : i < l.length) : lo ≤ gd l i ∧ gd l i ≤ hi := by
  have h1 := incB_iff.1 h i hi'
  unfold incAt at h1
  simp at h1
  omega
end Go.Inc

namespace Go.Inc
/-! ### Sets of bits in a word -/
def bitsOf (w : Nat) : List Nat := (List.range 64).filter (fun j => w.testBit j)
theorem mem_bitsOf {w j : Nat} : j ∈ bitsOf w ↔ j < 64 ∧ w.testBit j = true := by simp [bitsOf]
/-- the lowest bit -/
theorem low_split {w : Nat} (h : w ≠ 0) : ∃ k m, w = 2 ^ (k + 1) * m + 2 ^ k := by
  induction w using Nat.strongRecOn with
  | ind w ih =>
    by_cases hw : w % 2 = 1
    · exact ⟨0, w / 2, by simp; omega⟩
    · obtain ⟨k, m, e⟩ := ih (w / 2) (by omega) (by omega)
      refine ⟨k + 1, m, ?_⟩
      have : w = 2 * (w / 2) := by omega
      rw [this, e, Nat.mul_add, Nat.pow_succ 2 (k + 1), Nat.pow_succ 2 k]
      rw [Nat.mul_comm (2 ^ k * 2) 2, Nat.mul_assoc 2, Nat.mul_comm 2 (2 ^ k)]
theorem low_bit {k m : Nat} (j : Nat) : (2 ^ (k + 1) * m + 2 ^ k).testBit j = if j < k then false else if j = k then true else m.testBit (j - (k + 1)) := by
  rw [Nat.testBit_two_pow_mul_add m (Nat.pow_lt_pow_right (by omega) (by omega))]
  by_cases h1 : j < k
  · rw [if_pos (by omega), if_pos h1, Nat.testBit_two_pow]; simp; omega
  · rw [if_neg h1]
    by_cases h2 : j = k
    · subst h2; rw [if_pos (by omega), if_pos rfl, Nat.testBit_two_pow]; simp
    · rw [if_neg (by omega), if_neg h2]
theorem low_pred {k m : Nat} (j : Nat) : (2 ^ (k + 1) * m + 2 ^ k - 1).testBit j = if j < k then true else if j = k then false else m.testBit (j - (k + 1)) := by
  have hp : 0 < 2 ^ k := Nat.two_pow_pos k
  have e : 2 ^ (k + 1) * m + 2 ^ k - 1 = 2 ^ (k + 1) * m + (2 ^ k - 1) := by omega
  have hlt : 2 ^ k - 1 < 2 ^ (k + 1) := by rw [Nat.pow_succ]; omega
  rw [e, Nat.testBit_two_pow_mul_add m hlt]
  by_cases h1 : j < k
  · rw [if_pos (by omega), if_pos h1, Nat.testBit_two_pow_sub_one]; simp [h1]
  · rw [if_neg h1]
    by_cases h2 : j = k
    · subst h2; rw [if_pos (by omega), if_pos rfl, Nat.testBit_two_pow_sub_one]; simp
    · rw [if_neg (by omega), if_neg h2]
theorem low_clear {k m : Nat} : (2 ^ (k + 1) * m + 2 ^ k) &&& (2 ^ (k + 1) * m + 2 ^ k - 1) = 2 ^ (k + 1) * m := by
  apply Nat.eq_of_testBit_eq
  intro j
  rw [Nat.testBit_and, low_bit, low_pred]
  have e : 2 ^ (k + 1) * m = 2 ^ (k + 1) * m + 0 := by omega
  rw [e, Nat.testBit_two_pow_mul_add m (Nat.two_pow_pos _)]
  by_cases h1 : j < k
  · rw [if_pos h1, if_pos h1, if_pos (by omega)]; simp
  · rw [if_neg h1, if_neg h1]
    by_cases h2 : j = k
    · subst h2; rw [if_pos rfl, if_pos rfl, if_pos (by omega)]; simp
    · rw [if_neg h2, if_neg h2, if_neg (by omega)]; simp
theorem low_iso {k m : Nat} (h : 2 ^ (k + 1) * m + 2 ^ k < 2 ^ 64) : (2 ^ (k + 1) * m + 2 ^ k) &&& (2 ^ 64 - (2 ^ (k + 1) * m + 2 ^ k)) = 2 ^ k := by
  have hk : k < 64 := by
    rcases Nat.lt_or_ge k 64 with h1 | h1
    · exact h1
    · have := Nat.pow_le_pow_right (n := 2) (by omega) h1; omega
  have hm : m < 2 ^ (63 - k) := by
    have e : 2 ^ 64 = 2 ^ (k + 1) * 2 ^ (63 - k) := by rw [← Nat.pow_add]; congr 1; omega
    rw [e] at h
    exact Nat.lt_of_mul_lt_mul_left (Nat.lt_of_le_of_lt (Nat.le_add_right _ _) h)
  have e64 : 2 ^ 64 = 2 ^ (k + 1) * 2 ^ (63 - k) := by rw [← Nat.pow_add]; congr 1; omega
  have e2 : 2 ^ 64 - (2 ^ (k + 1) * m + 2 ^ k) = 2 ^ (k + 1) * (2 ^ (63 - k) - (m + 1)) + 2 ^ k := by
    have e3 : 2 ^ (k + 1) * (2 ^ (63 - k) - (m + 1)) = 2 ^ 64 - 2 ^ (k + 1) * m - 2 ^ (k + 1) := by
      rw [Nat.mul_sub, e64, Nat.mul_add, Nat.mul_one]; omega
    have e4 : 2 ^ (k + 1) = 2 ^ k + 2 ^ k := by rw [Nat.pow_succ]; omega
    have e5 : 2 ^ (k + 1) * m + 2 ^ (k + 1) ≤ 2 ^ 64 := by
      rw [e64]
      have : 2 ^ (k + 1) * m + 2 ^ (k + 1) = 2 ^ (k + 1) * (m + 1) := by rw [Nat.mul_add, Nat.mul_one]
      rw [this]
      exact Nat.mul_le_mul_left _ hm
    rw [e3]; omega
  rw [e2]
  apply Nat.eq_of_testBit_eq
  intro j
  rw [Nat.testBit_and, low_bit, low_bit, Nat.testBit_two_pow]
  by_cases h1 : j < k
  · rw [if_pos h1]; simp; omega
  · rw [if_neg h1, if_neg h1]
    by_cases h2 : j = k
    · subst h2; simp
    · rw [if_neg h2, if_neg h2, Nat.testBit_two_pow_sub_succ hm]
      have : ¬ k = j := fun e => h2 e.symm
      simp [this]
      exact fun h _ => h
theorem bits_cons {k m : Nat} (h : 2 ^ (k + 1) * m + 2 ^ k < 2 ^ 64) : bitsOf (2 ^ (k + 1) * m + 2 ^ k) = k :: bitsOf (2 ^ (k + 1) * m) := by
  have hk : k < 64 := by
    rcases Nat.lt_or_ge k 64 with h1 | h1
    · exact h1
    · have := Nat.pow_le_pow_right (n := 2) (by omega) h1; omega
  have hb : ∀ j, (2 ^ (k + 1) * m).testBit j = if j ≤ k then false else m.testBit (j - (k + 1)) := fun j => by
    have e : 2 ^ (k + 1) * m = 2 ^ (k + 1) * m + 0 := by omega
    rw [e, Nat.testBit_two_pow_mul_add m (Nat.two_pow_pos _)]
    by_cases h1 : j ≤ k
    · rw [if_pos (by omega), if_pos h1]; simp
    · rw [if_neg (by omega), if_neg h1]
  have hs : List.range 64 = List.range k ++ k :: (List.range' (k + 1) (63 - k)) := by
    have e1 : List.range 64 = List.range' 0 64 := List.range_eq_range'
    have e2 : List.range k = List.range' 0 k := List.range_eq_range'
    rw [e1, e2]
    have e3 : k :: List.range' (k + 1) (63 - k) = List.range' k (64 - k) := by
      rw [show 64 - k = (63 - k) + 1 by omega, List.range'_succ]
    rw [e3]
    have := List.range'_append (s := 0) (m := k) (n := 64 - k) (step := 1)
    rw [show 0 + 1 * k = k by omega, show k + (64 - k) = 64 by omega] at this
    exact this.symm
  unfold bitsOf
  rw [hs, List.filter_append, List.filter_append, List.filter_cons, List.filter_cons]
  have f1 : (List.range k).filter (fun j => (2 ^ (k + 1) * m + 2 ^ k).testBit j) = [] := by
    rw [List.filter_eq_nil_iff]
    intro j hj
    rw [low_bit, if_pos (List.mem_range.1 hj)]; simp
  have f2 : (List.range k).filter (fun j => (2 ^ (k + 1) * m).testBit j) = [] := by
    rw [List.filter_eq_nil_iff]
    intro j hj
    have := List.mem_range.1 hj
    rw [hb, if_pos (by omega)]; simp
  have g1 : (2 ^ (k + 1) * m + 2 ^ k).testBit k = true := by rw [low_bit]; simp
  have g2 : (2 ^ (k + 1) * m).testBit k = false := by rw [hb]; simp
  rw [f1, f2, if_pos g1, if_neg (by rw [g2]; simp)]
  simp only [List.nil_append]
  congr 1
  refine List.filter_congr (fun j hj => ?_)
  have := (List.mem_range'.1 hj)
  obtain ⟨i, hi, e⟩ := this
  rw [low_bit, hb, if_neg (by omega), if_neg (by omega), if_neg (by omega)]
theorem bitsOf_zero : bitsOf 0 = [] := by simp [bitsOf]
/-! ### Words -/
def gw (ws : List Nat) (i : Nat) : Nat := ws.getD i 0
def hasW (ws : List Nat) (n : Nat) : Bool := (gw ws (n / 64)).testBit (n % 64)
def listW (ws : List Nat) : List Nat := (List.range ws.length).flatMap (fun i => (bitsOf (gw ws i)).map (fun j => i * 64 + j))
def addW (ws : List Nat) (n : Nat) : List Nat := ws.set (n / 64) (gw ws (n / 64) ||| 2 ^ (n % 64))
def ofW (l : List Nat) : List Nat := l.foldl addW (List.replicate 64 0)
def andW (a b : List Nat) : List Nat := List.zipWith (fun x y => x &&& y) a b
theorem gw_set (ws : List Nat) (i v j : Nat) (hi : i < ws.length) : gw (ws.set i v) j = if j = i then v else gw ws j := by
  unfold gw
  rw [List.getD_eq_getElem?_getD, List.getD_eq_getElem?_getD, List.getElem?_set]
  by_cases h : i = j
  · subst h; simp [hi]
  · rw [if_neg h, if_neg (fun e => h e.symm)]
theorem addW_len (ws : List Nat) (n : Nat) : (addW ws n).length = ws.length := by simp [addW]
theorem hasW_add {ws : List Nat} {n : Nat} (hn : n / 64 < ws.length) (j : Nat) : hasW (addW ws n) j = (hasW ws j || decide (j = n)) := by
  unfold hasW addW
  rw [gw_set _ _ _ _ hn]
  by_cases h : j / 64 = n / 64
  · rw [if_pos h, Nat.testBit_or, Nat.testBit_two_pow, h]
    congr 1
    by_cases h2 : j = n
    · subst h2; simp
    · have : ¬ n % 64 = j % 64 := by omega
      simp [h2, this]
  · rw [if_neg h]
    have : ¬ j = n := fun e => h (by rw [e])
    simp [this]
theorem ofW_aux : ∀ (l : List Nat) (ws : List Nat), ws.length = 64 → (∀ n ∈ l, n < 4096) → (l.foldl addW ws).length = 64 ∧ ∀ j, hasW (l.foldl addW ws) j = (hasW ws j || decide (j ∈ l))
  | [], ws, h, _ => ⟨h, fun j => by simp⟩
  | a :: r, ws, h, hl => by
    have ha := hl a (by simp)
    obtain ⟨h1, h2⟩ := ofW_aux r (addW ws a) (by rw [addW_len, h]) (fun n hn => hl n (by simp [hn]))
    refine ⟨h1, fun j => ?_⟩
    rw [List.foldl_cons, h2, hasW_add (by rw [h]; omega)]
    by_cases h3 : j = a <;> by_cases h4 : j ∈ r <;> simp [h3, h4, List.mem_cons]
theorem ofW_len {l : List Nat} (h : ∀ n ∈ l, n < 4096) : (ofW l).length = 64 := (ofW_aux l _ (by simp) h).1
theorem hasW_of {l : List Nat} (h : ∀ n ∈ l, n < 4096) (j : Nat) : hasW (ofW l) j = decide (j ∈ l) := by
  have := (ofW_aux l (List.replicate 64 0) (by simp) h).2 j
  unfold ofW
  rw [this]
  have : hasW (List.replicate 64 0) j = false := by
    unfold hasW gw
    rw [List.getD_eq_getElem?_getD, List.getElem?_replicate]
    split <;> simp
  rw [this]; simp
theorem gw_and {a b : List Nat} (h : a.length = b.length) (i : Nat) : gw (andW a b) i = gw a i &&& gw b i := by
  unfold gw andW
  rw [List.getD_eq_getElem?_getD, List.getD_eq_getElem?_getD, List.getD_eq_getElem?_getD, List.getElem?_zipWith]
  by_cases hi : i < a.length
  · rw [List.getElem?_eq_getElem hi, List.getElem?_eq_getElem (by omega)]; rfl
  · rw [List.getElem?_eq_none (by omega), List.getElem?_eq_none (by omega)]; simp
theorem hasW_and {a b : List Nat} (h : a.length = b.length) (j : Nat) : hasW (andW a b) j = (hasW a j && hasW b j) := by
  unfold hasW; rw [gw_and h, Nat.testBit_and]
theorem mem_listW {ws : List Nat} {n : Nat} : n ∈ listW ws ↔ n / 64 < ws.length ∧ hasW ws n = true := by
  unfold listW hasW
  rw [List.mem_flatMap]
  constructor
  · rintro ⟨i, hi, hn⟩
    obtain ⟨j, hj, rfl⟩ := List.mem_map.1 hn
    obtain ⟨h1, h2⟩ := mem_bitsOf.1 hj
    have e1 : (i * 64 + j) / 64 = i := by omega
    have e2 : (i * 64 + j) % 64 = j := by omega
    rw [e1, e2]
    exact ⟨List.mem_range.1 hi, h2⟩
  · rintro ⟨h1, h2⟩
    exact ⟨n / 64, List.mem_range.2 h1, List.mem_map.2 ⟨n % 64, mem_bitsOf.2 ⟨by omega, h2⟩, by omega⟩⟩
theorem listW_sorted (ws : List Nat) : (listW ws).Pairwise (fun a b => a < b) := by
  unfold listW
  rw [List.pairwise_flatMap]
  refine ⟨fun i hi => ?_, ?_⟩
  · rw [List.pairwise_map]
    unfold bitsOf
    exact (List.pairwise_lt_range.filter _).imp (fun h => by omega)
  · refine List.pairwise_lt_range.imp (fun {a b} hab => ?_)
    intro x hx y hy
    obtain ⟨j, hj, rfl⟩ := List.mem_map.1 hx
    obtain ⟨j', hj', rfl⟩ := List.mem_map.1 hy
    have h1 := (mem_bitsOf.1 hj).1
    omega
/-- What two increasing lists have in common. -/
theorem common_eq {a b : List Nat} (ha : a.Pairwise (fun x y => x < y)) (h1 : ∀ n ∈ a, n < 4096) (h2 : ∀ n ∈ b, n < 4096) : listW (andW (ofW a) (ofW b)) = a.filter (fun n => decide (n ∈ b)) := by
  have hl : (ofW a).length = (ofW b).length := by rw [ofW_len h1, ofW_len h2]
  have hl2 : (andW (ofW a) (ofW b)).length = 64 := by unfold andW; rw [List.length_zipWith, ofW_len h1, ofW_len h2]; rfl
  have hs : (a.filter (fun n => decide (n ∈ b))).Pairwise (fun x y => x < y) := ha.filter _
  refine List.Perm.eq_of_pairwise (le := fun x y : Nat => x < y) (fun x y _ _ h1 h2 => by omega) (listW_sorted _) hs ?_
  rw [List.perm_ext_iff_of_nodup ((listW_sorted _).imp (fun h => by omega)) (hs.imp (fun h => by omega))]
  intro n
  rw [mem_listW, hl2, hasW_and hl, hasW_of h1, hasW_of h2, List.mem_filter]
  simp
  intro hn _
  have := h1 n hn
  omega
end Go.Inc

import Derived.Test.YtipkicijfedfoaaDoorBase3
import Derived.OpenShut
import Derived.ProofKit
namespace Go.Own
open Go.RowKit

/-! ### Opening an argument: what can be read as data lies in memory so -/
theorem flat_get {α : Type} (f : α → List Value) (s : Nat) (hs : ∀ x, (f x).length = s) : ∀ (l : List α) (k j : Nat) (x : α), l[k]? = some x → j < s → (l.flatMap f)[k * s + j]? = (f x)[j]?
  | [], k, j, x, hx, _ => by simp at hx
  | a :: r, 0, j, x, hx, hj => by
    simp at hx; subst hx
    rw [List.flatMap_cons, List.getElem?_append_left (by rw [hs]; omega)]; simp
  | a :: r, k + 1, j, x, hx, hj => by
    have := flat_get f s hs r k j x (by simpa using hx) hj
    rw [List.flatMap_cons, List.getElem?_append_right (by rw [hs, Nat.add_mul]; omega), hs, ← this]
    congr 1
    rw [Nat.add_mul]; omega
theorem flat_length {α : Type} (f : α → List Value) (s : Nat) (hs : ∀ x, (f x).length = s) : ∀ l : List α, (l.flatMap f).length = l.length * s
  | [] => by simp
  | a :: r => by rw [List.flatMap_cons, List.length_append, hs, flat_length f s hs r, List.length_cons, Nat.add_mul]; omega
theorem flat_one (k : IntKind) : ∀ l : List Int, l.flatMap (fun n : Int => [Value.int k n]) = l.map (Value.int k)
  | [] => rfl
  | a :: r => by rw [List.flatMap_cons, flat_one k r]; rfl
theorem list_of_all {α : Type} {R : Nat → α → Prop} : ∀ n : Nat, (∀ i, i < n → ∃ a, R i a) → ∃ l : List α, l.length = n ∧ ∀ (i : Nat) (a : α), l[i]? = some a → R i a
  | 0, _ => ⟨[], rfl, fun i a h => by simp at h⟩
  | n + 1, h => by
    obtain ⟨l, hl, hr⟩ := list_of_all n (fun i hi => h i (by omega))
    obtain ⟨a, ha⟩ := h n (by omega)
    refine ⟨l ++ [a], by simp [hl], fun i b hb => ?_⟩
    by_cases hi : i < l.length
    · rw [List.getElem?_append_left hi] at hb; exact hr i b hb
    · rw [List.getElem?_append_right (by omega)] at hb
      have h0 : i - l.length = 0 := by
        have := (List.getElem?_eq_some_iff.1 hb).1
        simp at this; omega
      rw [h0] at hb
      simp at hb; subst hb
      have : i = n := by omega
      subst this; exact ha
section
variable {H : Type} {enc : TypeId × Value → H} {P : Program} {w : World}
def Rdy (enc : TypeId × Value → H) (P : Program) (w : World) (t : TypeId) (cs : List Value) : Prop := ∃ fuel x, DataW.trod enc P w 0 (fun _ => true) true fuel t cs = some x
theorem Rdy.of_trod {t : TypeId} {v : Value} {d : DataW H} {p : List MemPlace} (h : DataW.Trod enc P w 0 (fun _ => true) true t v d p) : Rdy enc P w t v.cells.toList := by
  obtain ⟨fuel, h⟩ := h
  exact ⟨fuel, _, h⟩
theorem Rdy.int {t : TypeId} {cs : List Value} (h : Rdy enc P w t cs) {k : IntKind} (ht : P.underlying t = some (.int k)) : ∃ n, cs = [.int k n] ∧ (Lit.int k n).wf = true := by
  obtain ⟨fuel, x, h⟩ := h
  obtain ⟨n, h1, -, h2⟩ := DataW.trod_int ht h
  exact ⟨n, h1, h2⟩
theorem Rdy.string {t : TypeId} {cs : List Value} (h : Rdy enc P w t cs) (ht : P.underlying t = some .string) : ∃ s : ByteArray, cs = [.string s] ∧ s.size ≤ maxLen := by
  obtain ⟨fuel, x, h⟩ := h
  obtain ⟨n, h1, -, h2⟩ := DataW.trod_string ht h
  exact ⟨n, h1, h2⟩
theorem Rdy.bool {t : TypeId} {cs : List Value} (h : Rdy enc P w t cs) (ht : P.underlying t = some .bool) : ∃ b, cs = [.bool b] := by
  obtain ⟨fuel, x, h⟩ := h
  cases fuel with
  | zero => simp [DataW.trod] at h
  | succ n =>
    unfold DataW.trod at h
    rw [ht] at h
    split at h <;> simp_all
theorem Rdy.struct {t : TypeId} {cs : List Value} (h : Rdy enc P w t cs) {fs : Array Field} (ht : P.underlying t = some (.struct fs)) :
    cs.length = P.cellsOf t ∧ ∀ (i : Nat) (f : Field), fs[i]? = some f → Rdy enc P w f.type ((cs.drop f.offset).take (P.cellsOf f.type)) := by
  obtain ⟨fuel, x, h⟩ := h
  obtain ⟨xs, n, rfl, rfl, h1, h2, h3⟩ := DataW.trod_struct ht h
  refine ⟨h1, fun i f hf => ?_⟩
  have hi : i < xs.length := by
    rw [h2]
    obtain ⟨hi, -⟩ := Array.getElem?_eq_some_iff.1 hf
    exact hi
  exact ⟨n, xs[i], (h3 i f hf).trans (List.getElem?_eq_getElem hi)⟩
theorem Rdy.array {t : TypeId} {cs : List Value} (h : Rdy enc P w t cs) {n : Nat} {e : TypeId} (ht : P.underlying t = some (.array n e)) :
    cs.length = P.cellsOf t ∧ ∀ (i : Nat), i < n → Rdy enc P w e ((cs.drop (i * P.cellsOf e)).take (P.cellsOf e)) := by
  obtain ⟨fuel, x, h⟩ := h
  obtain ⟨xs, m, rfl, rfl, h1, h2, h3⟩ := DataW.trod_array ht h
  exact ⟨h1, fun i hi => ⟨m, xs[i]'(by omega), (h3 i hi).trans (List.getElem?_eq_getElem (by omega))⟩⟩
theorem cells_get {a : Addr} {n : Nat} {es : List Value} (h : w.cells? 0 a n = some es) : es.length = n ∧ ∀ i, i < n → w.cell? (a.add i) = es[i]? := by
  unfold World.cells? at h
  rw [if_pos (Nat.zero_le _)] at h
  exact ⟨by simpa using mapM_some_length h, fun i hi => mapM_some_get h i i (by simp [hi])⟩
theorem Rdy.slice {t : TypeId} {cs : List Value} (h : Rdy enc P w t cs) {e : TypeId} (ht : P.underlying t = some (.slice e)) :
    ∃ A n c, cs = [.slice A n c] ∧ n ≤ c ∧ c ≤ maxLen ∧ (A = none → c = 0) ∧ ∀ a, A = some a → ∀ i, i < n → ∃ es, w.cells? 0 (a.add (i * P.cellsOf e)) (P.cellsOf e) = some es ∧ Rdy enc P w e es := by
  obtain ⟨fuel, x, h⟩ := h
  rcases DataW.trod_slice ht h with ⟨h1, -⟩ | ⟨a, len, cap, elems, rest, n, rfl, rfl, rfl, hb, hl, hm, hlen, hel, -, -⟩
  · exact ⟨none, 0, 0, h1, Nat.le_refl _, Nat.zero_le _, fun _ => rfl, fun a h => by cases h⟩
  · refine ⟨some a, len, cap, rfl, hl, hm, (fun h => by cases h), fun a' ha i hi => ?_⟩
    cases ha
    have h1 := hel i hi
    rw [List.getElem?_eq_getElem (by omega), Option.bind_eq_some_iff] at h1
    obtain ⟨es, h2, h3⟩ := h1
    exact ⟨es, h2, n, _, h3⟩
/-- A slice whose elements can all be opened: the list of what they are. -/
theorem Rdy.rows {α : Type} {t : TypeId} {cs : List Value} (h : Rdy enc P w t cs) {e : TypeId} (ht : P.underlying t = some (.slice e)) {size : Nat} (hsz : P.cellsOf e = size) (hpos : 0 < size) (f : α → List Value) (hf : ∀ x, (f x).length = size) (Q : α → Prop)
    (hel : ∀ es, Rdy enc P w e es → ∃ a, es = f a ∧ Q a) :
    ∃ A c, ∃ l : List α, cs = [.slice A l.length c] ∧ l.length ≤ c ∧ c ≤ maxLen ∧ Reads w (· < w.heap.size) size A l.length (l.flatMap f) ∧ ∀ a ∈ l, Q a := by
  obtain ⟨A, n, c, rfl, hnc, hcm, hA, hx⟩ := h.slice ht
  rw [hsz] at hx
  cases A with
  | none =>
    have : n = 0 := by have := hA rfl; omega
    subst this
    exact ⟨none, c, [], rfl, by simp, hcm, Reads.none_, by simp⟩
  | some ad =>
    obtain ⟨l, hl, hr⟩ := list_of_all (R := fun i a => w.cells? 0 (ad.add (i * size)) size = some (f a) ∧ Q a) n (fun i hi => by
      obtain ⟨es, h1, h2⟩ := hx ad rfl i hi
      obtain ⟨a, rfl, h3⟩ := hel es h2
      exact ⟨a, h1, h3⟩)
    have hcell : ∀ j u, (l.flatMap f)[j]? = some u → w.cell? (ad.add j) = some u := by
      intro j u hu
      have hj : j < l.length * size := by
        have := (List.getElem?_eq_some_iff.1 hu).1
        rw [flat_length f size hf] at this; exact this
      have hk : j / size < l.length := Nat.div_lt_of_lt_mul (by rw [Nat.mul_comm]; exact hj)
      have hm : j % size < size := Nat.mod_lt _ hpos
      have hjj : j / size * size + j % size = j := by rw [Nat.mul_comm]; exact Nat.div_add_mod j size
      have h1 := hr (j / size) _ (List.getElem?_eq_getElem hk)
      obtain ⟨-, h2⟩ := cells_get h1.1
      have h3 := h2 (j % size) hm
      rw [add_of_add, hjj] at h3
      rw [h3, ← flat_get f size hf l (j / size) (j % size) _ (List.getElem?_eq_getElem hk) hm, hjj]
      exact hu
    refine ⟨some ad, c, l, by rw [hl], by omega, hcm, ⟨by rw [flat_length f size hf], fun hn => ⟨ad, rfl, ?_, hcell⟩⟩, fun a ha => ?_⟩
    · have h0 : 0 < (l.flatMap f).length := by rw [flat_length f size hf]; exact Nat.mul_pos hn hpos
      have := block_lt_of_cell (hcell 0 _ (List.getElem?_eq_getElem h0))
      rwa [block_of_add] at this
    · obtain ⟨i, hi⟩ := List.mem_iff_getElem?.1 ha
      exact (hr i a hi).2
/-- A slice of integers. -/
theorem Rdy.ints {t : TypeId} {cs : List Value} (h : Rdy enc P w t cs) {e : TypeId} (ht : P.underlying t = some (.slice e)) {k : IntKind} (he : P.underlying e = some (.int k)) (hc : P.cellsOf e = 1) :
    ∃ A c, ∃ l : List Int, cs = [.slice A l.length c] ∧ l.length ≤ c ∧ c ≤ maxLen ∧ Reads w (· < w.heap.size) 1 A l.length (l.map (Value.int k)) ∧ ∀ n ∈ l, (Lit.int k n).wf = true := by
  obtain ⟨A, c, l, h1, h2, h3, h4, h5⟩ := h.rows ht hc (by omega) (fun n : Int => [Value.int k n]) (fun _ => rfl) (fun n => (Lit.int k n).wf = true) (fun es hes => by
    obtain ⟨n, rfl, hw⟩ := hes.int he
    exact ⟨n, rfl, hw⟩)
  refine ⟨A, c, l, h1, h2, h3, ?_, h5⟩
  rw [flat_one] at h4; exact h4
end
end Go.Own

import Derived.Test.YtbhbamgnapcbaaaOpen
import Derived.SizedLaws
namespace Go.Own
open Go.RowKit
/-! ### Opening an argument whose parts are of the form's own reach -/
theorem weightsAll_mem {H : Type} {P : Program} {e : TypeId} : ∀ {l : List (DataW H)} {d : DataW H}, d ∈ l → ∀ n ∈ d.weights P e, n ∈ DataW.weightsAll P e l
  | x :: r, d, hd, n, hn => by
    simp only [DataW.weightsAll, List.mem_append]
    rcases List.mem_cons.1 hd with e | e
    · subst e; exact .inl hn
    · exact .inr (weightsAll_mem e n hn)
section
variable {H : Type} {enc : TypeId × Value → H} {P : Program} {w : World}
def RdyW (enc : TypeId × Value → H) (P : Program) (w : World) (t : TypeId) (cs : List Value) : Prop := ∃ fuel x, DataW.trod enc P w 0 (fun _ => true) true fuel t cs = some x ∧ ∀ n ∈ x.1.weights P t, n ≤ reachBytes
theorem RdyW.rdy {t : TypeId} {cs : List Value} (h : RdyW enc P w t cs) : Rdy enc P w t cs := by
  obtain ⟨fuel, x, h, -⟩ := h
  exact ⟨fuel, x, h⟩
theorem RdyW.of_trod {t : TypeId} {v : Value} {d : DataW H} {p : List MemPlace} (h : DataW.Trod enc P w 0 (fun _ => true) true t v d p) (hw : ∀ n ∈ d.weights P t, n ≤ reachBytes) : RdyW enc P w t v.cells.toList := by
  obtain ⟨fuel, h⟩ := h
  exact ⟨fuel, _, h, hw⟩
theorem RdyW.struct {t : TypeId} {cs : List Value} (h : RdyW enc P w t cs) {fs : Array Field} (ht : P.underlying t = some (.struct fs)) :
    cs.length = P.cellsOf t ∧ ∀ (i : Nat) (f : Field), fs[i]? = some f → RdyW enc P w f.type ((cs.drop f.offset).take (P.cellsOf f.type)) := by
  obtain ⟨fuel, x, h, hw⟩ := h
  obtain ⟨xs, n, rfl, rfl, h1, h2, h3⟩ := DataW.trod_struct ht h
  refine ⟨h1, fun i f hf => ?_⟩
  have hi : i < xs.length := by
    rw [h2]
    obtain ⟨hi, -⟩ := Array.getElem?_eq_some_iff.1 hf
    exact hi
  refine ⟨n, xs[i], (h3 i f hf).trans (List.getElem?_eq_getElem hi), fun m hm => hw m ?_⟩
  simp only [DataW.weights, ht]
  exact DataW.weights_mem_each (j := i) (t := f.type) (d := xs[i].1) (by rw [List.getElem?_map, Array.getElem?_toList, hf]; rfl) (by rw [List.getElem?_map, List.getElem?_eq_getElem hi]; rfl) m hm
theorem RdyW.array {t : TypeId} {cs : List Value} (h : RdyW enc P w t cs) {n : Nat} {e : TypeId} (ht : P.underlying t = some (.array n e)) :
    cs.length = P.cellsOf t ∧ ∀ (i : Nat), i < n → RdyW enc P w e ((cs.drop (i * P.cellsOf e)).take (P.cellsOf e)) := by
  obtain ⟨fuel, x, h, hw⟩ := h
  obtain ⟨xs, m, rfl, rfl, h1, h2, h3⟩ := DataW.trod_array ht h
  refine ⟨h1, fun i hi => ⟨m, xs[i]'(by omega), (h3 i hi).trans (List.getElem?_eq_getElem (by omega)), fun q hq => hw q ?_⟩⟩
  simp only [DataW.weights, ht]
  exact weightsAll_mem (List.mem_map_of_mem (List.getElem_mem (by omega))) q hq
theorem RdyW.slice {t : TypeId} {cs : List Value} (h : RdyW enc P w t cs) {e : TypeId} (ht : P.underlying t = some (.slice e)) :
    ∃ A n c, cs = [.slice A n c] ∧ n ≤ c ∧ c ≤ maxLen ∧ n * P.bytesOf e ≤ reachBytes ∧ (A = none → c = 0) ∧ ∀ a, A = some a → ∀ i, i < n → ∃ es, w.cells? 0 (a.add (i * P.cellsOf e)) (P.cellsOf e) = some es ∧ RdyW enc P w e es := by
  obtain ⟨fuel, x, h, hw⟩ := h
  rcases DataW.trod_slice ht h with ⟨h1, -⟩ | ⟨a, len, cap, elems, rest, n, rfl, rfl, rfl, hb, hl, hm, hlen, hel, -, -⟩
  · exact ⟨none, 0, 0, h1, Nat.le_refl _, Nat.zero_le _, by simp, fun _ => rfl, fun a h => by cases h⟩
  · have hw1 := hw ((elems.length + rest.length) * P.bytesOf e) (by simp [DataW.weights, ht])
    refine ⟨some a, len, cap, rfl, hl, hm, Nat.le_trans (Nat.mul_le_mul_right _ (by omega)) hw1, (fun h => by cases h), fun a' ha i hi => ?_⟩
    cases ha
    have h1 := hel i hi
    rw [List.getElem?_eq_getElem (by omega), Option.bind_eq_some_iff] at h1
    obtain ⟨es, h2, h3⟩ := h1
    refine ⟨es, h2, n, _, h3, fun q hq => hw q ?_⟩
    simp only [DataW.weights, ht, List.mem_cons, List.mem_append]
    exact .inr (.inl (weightsAll_mem (List.mem_map_of_mem (List.getElem_mem (by omega))) q hq))
/-- A slice whose elements can all be opened: the list of what they are. -/
theorem RdyW.rows {α : Type} {t : TypeId} {cs : List Value} (h : RdyW enc P w t cs) {e : TypeId} (ht : P.underlying t = some (.slice e)) {size : Nat} (hsz : P.cellsOf e = size) (hpos : 0 < size) (f : α → List Value) (hf : ∀ x, (f x).length = size) (Q : α → Prop)
    (hel : ∀ es, RdyW enc P w e es → ∃ a, es = f a ∧ Q a) :
    ∃ A c, ∃ l : List α, cs = [.slice A l.length c] ∧ l.length ≤ c ∧ c ≤ maxLen ∧ l.length * P.bytesOf e ≤ reachBytes ∧ Reads w (· < w.heap.size) size A l.length (l.flatMap f) ∧ ∀ a ∈ l, Q a := by
  obtain ⟨A, n, c, rfl, hnc, hcm, hrb, hA, hx⟩ := h.slice ht
  rw [hsz] at hx
  cases A with
  | none =>
    have : n = 0 := by have := hA rfl; omega
    subst this
    exact ⟨none, c, [], rfl, by simp, hcm, by simp, Reads.none_, by simp⟩
  | some ad =>
    obtain ⟨l, hl, hr⟩ := list_of_all (R := fun i a => w.cells? 0 (ad.add (i * size)) size = some (f a) ∧ Q a) n (fun i hi => by
      obtain ⟨es, h1, h2⟩ := hx ad rfl i hi
      obtain ⟨a, rfl, h3⟩ := hel es h2
      exact ⟨a, h1, h3⟩)
    have hcell : ∀ j u, (l.flatMap f)[j]? = some u → w.cell? (ad.add j) = some u := by
      intro j u hu
      have hj : j < l.length * size := by
        have := (List.getElem?_eq_some_iff.1 hu).1
        rw [flat_length f size hf] at this; exact this
      have hk : j / size < l.length := Nat.div_lt_of_lt_mul (by rw [Nat.mul_comm]; exact hj)
      have hm : j % size < size := Nat.mod_lt _ hpos
      have hjj : j / size * size + j % size = j := by rw [Nat.mul_comm]; exact Nat.div_add_mod j size
      have h1 := hr (j / size) _ (List.getElem?_eq_getElem hk)
      obtain ⟨-, h2⟩ := cells_get h1.1
      have h3 := h2 (j % size) hm
      rw [add_of_add, hjj] at h3
      rw [h3, ← flat_get f size hf l (j / size) (j % size) _ (List.getElem?_eq_getElem hk) hm, hjj]
      exact hu
    refine ⟨some ad, c, l, by rw [hl], by omega, hcm, by rw [hl]; exact hrb, ⟨by rw [flat_length f size hf], fun hn => ⟨ad, rfl, ?_, hcell⟩⟩, fun a ha => ?_⟩
    · have h0 : 0 < (l.flatMap f).length := by rw [flat_length f size hf]; exact Nat.mul_pos hn hpos
      have := block_lt_of_cell (hcell 0 _ (List.getElem?_eq_getElem h0))
      rwa [block_of_add] at this
    · obtain ⟨i, hi⟩ := List.mem_iff_getElem?.1 ha
      exact (hr i a hi).2
/-- A slice of integers. -/
theorem RdyW.ints {t : TypeId} {cs : List Value} (h : RdyW enc P w t cs) {e : TypeId} (ht : P.underlying t = some (.slice e)) {k : IntKind} (he : P.underlying e = some (.int k)) (hc : P.cellsOf e = 1) :
    ∃ A c, ∃ l : List Int, cs = [.slice A l.length c] ∧ l.length ≤ c ∧ c ≤ maxLen ∧ l.length * P.bytesOf e ≤ reachBytes ∧ Reads w (· < w.heap.size) 1 A l.length (l.map (Value.int k)) ∧ ∀ n ∈ l, (Lit.int k n).wf = true := by
  obtain ⟨A, c, l, h1, h2, h3, h3', h4, h5⟩ := h.rows ht hc (by omega) (fun n : Int => [Value.int k n]) (fun _ => rfl) (fun n => (Lit.int k n).wf = true) (fun es hes => by
    obtain ⟨n, rfl, hw⟩ := hes.rdy.int he
    exact ⟨n, rfl, hw⟩)
  refine ⟨A, c, l, h1, h2, h3, h3', ?_, h5⟩
  rw [flat_one] at h4; exact h4
end
end Go.Own

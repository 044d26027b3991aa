import Derived.Test.YtipkicijfedfoaaDoorMRb2
import Derived.Test.YtipkicijfedfoaaDoorMItr
import Derived.Test.YtipkicijfedfoaaDoorMGB
import Derived.Shelf.GgSortFunc.RowK
import Derived.Sort.OwnSortedInts
namespace Go.Proofs.YtipkicijfedfoaaDoor
set_option linter.unusedVariables false
set_option linter.unusedSimpArgs false
open Go.RowKit Go.Own Go.Quo Go.Inc Go.Sort Go.Shelf
section
variable {α : Type} [Inhabited α]
theorem flatK_list (enc : α → List Value) (k : Nat) (hk : ∀ x, (enc x).length = k) (k0 : 0 < k) (ts : List α) : (flatK enc k ts.toArray).toList = ts.flatMap enc := by
  apply List.ext_getElem?
  intro j
  by_cases hj : j < ts.length * k
  · have h1 : j / k < ts.length := Nat.div_lt_of_lt_mul (by rw [Nat.mul_comm]; exact hj)
    have h2 : j % k < k := Nat.mod_lt _ k0
    have h3 : (ts.flatMap enc)[j]? = (enc ts[j / k])[j % k]? := by
      have := flat_get enc k hk ts (j / k) (j % k) _ (List.getElem?_eq_getElem h1) h2
      rwa [Nat.div_add_mod' j k] at this
    rw [h3, Array.getElem?_toList]
    have hs : j < (flatK enc k ts.toArray).size := by simp; exact hj
    rw [Array.getElem?_eq_getElem hs]
    have h4 := get_flatK enc k ts.toArray j (by simpa using hj)
    rw [getElem!_pos _ j hs] at h4
    rw [h4, getElem!_pos ts.toArray (j / k) (by simpa using h1)]
    have hs2 : j % k < (enc ts[j / k]).length := by rw [hk]; exact h2
    rw [List.getElem?_eq_getElem hs2]
    simp [hs2]
  · rw [List.getElem?_eq_none (by simp; omega), List.getElem?_eq_none (by rw [flat_length enc k hk]; omega)]
theorem flatK_arr (enc : α → List Value) (k : Nat) (hk : ∀ x, (enc x).length = k) (k0 : 0 < k) (ts : List α) : flatK enc k ts.toArray = (ts.flatMap enc).toArray := by
  apply Array.ext'; rw [flatK_list enc k hk k0]
end
theorem holds_of_blockV {w : World} {g : Nat} {cur : Array Value} {e : TypeId} {ss : List Value} (hb : w.heap[g]? = some (.cells cur e (0, 0))) (ht : cur.toList.take ss.length = ss) : Holds (α := Value) id w g 0 ss.toArray := by
  intro j hj
  have hj' : j < ss.length := by simpa using hj
  refine ⟨?_, by simp [World.frozen?, hb]⟩
  have h1 : (cur.toList.take ss.length)[j]? = ss[j]? := by rw [ht]
  rw [List.getElem?_take_of_lt hj'] at h1
  simp only [World.cell?, hb, Nat.zero_add]
  simp only [Option.isSome_none, Bool.false_eq_true, if_false]
  rw [← Array.getElem?_toList, h1]
  simp [hj']
theorem heap_sortedV {w : World} {g n : Nat} {os : Array Obj} {cur : Array Value} {e : TypeId} {fr : Nat × Nat} (d : Array Value) (hb : w.heap[g]? = some (.cells cur e fr)) :
    (grow (putRow (α := Value) id (Sort.ahead w n) g 0 d) os).heap[g]? = some (.cells (putCells (α := Value) id 0 d cur) e fr) := by
  have hg : g < w.heap.size := (Array.getElem?_eq_some_iff.1 hb).1
  rw [heap_grow_old _ _ (by simpa using hg)]
  simp [putRow, mapBlock, Sort.ahead, Array.getElem?_modify, hb, onCells]
theorem grownBy_sortedV {w : World} {g n : Nat} {os : Array Obj} (d : Array Value) : w.grownBy (grow (putRow (α := Value) id (Sort.ahead w n) g 0 d) os) (some g) := by
  refine ⟨rfl, rfl, rfl, by simp, fun k hk hne => ?_⟩
  rw [heap_grow_old _ _ (by simpa using hk)]
  have : g ≠ k := fun e => hne (by rw [e])
  simp [putRow, mapBlock, Sort.ahead, Array.getElem?_modify, this]
theorem take_putCellsV (cur : Array Value) (ts : List Value) (h : ts.length ≤ cur.size) : (putCells (α := Value) id 0 ts.toArray cur).toList.take ts.length = ts := by
  apply List.ext_getElem?
  intro j
  by_cases hj : j < ts.length
  · rw [List.getElem?_take_of_lt hj, Array.getElem?_toList]
    simp [putCells, hj, show j < cur.size by omega]
  · rw [List.getElem?_take_eq_none (by omega), List.getElem?_eq_none (by omega)]
theorem ltOf_cfC (x y : Ca) : ltOf cfC x y = decide (ltC x.c y.c) := by
  unfold ltOf cfC
  rw [Bool.eq_iff_iff]
  simp only [decide_eq_true_eq, firstNZ, cmpI, ltC]
  by_cases h1 : x.c.since < y.c.since
  · simp [h1]
  · by_cases h2 : y.c.since < x.c.since
    · have : ¬ x.c.since = y.c.since := by omega
      simp [h1, h2, this]
    · have h3 : x.c.since = y.c.since := by omega
      by_cases h4 : x.c.call < y.c.call
      · simp [h1, h2, h3, h4]
      · by_cases h5 : y.c.call < x.c.call <;> simp [h1, h2, h3, h4, h5]
theorem swo_cfC : SWO (ltOf cfC) where
  irrefl x := by rw [ltOf_cfC]; simp [ltC]
  trans x y z h1 h2 := by rw [ltOf_cfC] at *; simp only [decide_eq_true_eq] at *; unfold ltC at *; omega
  ntrans x y z h1 h2 := by rw [ltOf_cfC] at *; simp only [decide_eq_false_iff_not] at *; unfold ltC at *; omega
instance : Inhabited Cr := ⟨⟨0, 0, 0, ⟨#[]⟩, [], 0, 0, false⟩⟩
instance : Inhabited Ca := ⟨⟨default, none, 0⟩⟩
def SortCPost (base : Nat) (A : Option Addr) (n c : Nat) (ts : List Ca) (w : World) (e : Ending) (w' : World) : Prop :=
  e = .returned (.tuple #[]) ∧ ∃ ss : List Ca, ss.Perm ts ∧ ss.Pairwise (fun a b => leC a.c b.c) ∧ w'.ownsRow base 27 8 (.slice A n c) n (ss.flatMap caL) ∧ w.grownBy w' (Value.slice A n c).ownBlock
theorem sort63 (base : Nat) (A : Option Addr) (n c : Nat) (ts : List Ca) (w : World) (hown : w.ownsRow base 27 8 (.slice A n c) n (ts.flatMap caL)) (hn : ts.length = n) (h0 : 0 < n) (hnb : n ≤ 1000000) :
    Calls Tryd.prog 63 #[.slice A n c, .func (.func 64) #[] #[]] w (SortCPost base A n c ts w) := by
  subst hn
  rcases hown.2 with ⟨_, hv⟩ | ⟨g, cap, cur, hv, hb, hg, hnc, hcm, hsz, htk⟩
  · omega
  injection hv with h1 h2 h3
  subst h1 h3
  have hk : ∀ x : Ca, (caL x).length = 8 := fun _ => rfl
  have hL : (ts.flatMap caL).length = ts.length * 8 := flat_length caL 8 hk ts
  have hH : HoldsK caL 8 w g 0 ts.toArray := by
    unfold HoldsK
    rw [flatK_arr caL 8 hk (by omega)]
    exact holds_of_blockV hg (by rw [hL]; exact htk)
  have eg : ∀ args w, (callFunc 64 args).run Tryd.prog w = .ok (.enter 64 args) w := enters_of Tryd.func64 (by kernel_rfl) rfl
  have hcmp : CmpLays Tryd.prog 64 #[] caL 8 cfC g 0 ts.toArray.size w := fun m os dk _ x y => clos64 x y _
  have hcon := AnyQ.slices_SortFunc Tryd.sortF 8 Tryd.isAgg27 Tryd.sizeOf27 caL hk (fun x v hv => by simp [caL] at hv; rcases hv with rfl | rfl | rfl | rfl | rfl | rfl | rfl | rfl <;> rfl) cfC swo_cfC 64 #[] g 0 c ts.toArray w eg hcmp hH ((Array.getElem?_eq_some_iff.1 hg).1) (by simp; omega)
  change Calls Tryd.prog 63 _ _ _ at hcon
  have hsz2 : ts.toArray.size = ts.length := by simp
  rw [hsz2] at hcon
  refine hcon.mono ?_
  rintro e w' ⟨rfl, d', q, os, hp, hst, rfl⟩
  obtain ⟨p1, -, p3⟩ := hp
  have hds : d'.size = ts.length := by rw [p1]; simp
  have hperm : d'.toList.Perm ts := by
    have e1 : d'.extract 0 ts.length = d' := by rw [← hds]; exact Array.extract_size
    have e2 : ts.toArray.extract 0 ts.length = ts.toArray := by rw [← hsz2]; exact Array.extract_size
    rw [e1, e2] at p3
    exact p3
  refine ⟨rfl, d'.toList, hperm, ?_, ?_, grownBy_sortedV _⟩
  · rw [List.pairwise_iff_getElem]
    intro i j hi hj hij
    have hi' : i < d'.size := by simpa using hi
    have hj' : j < d'.size := by simpa using hj
    have h := hst i j (Nat.zero_le _) hij (by omega)
    rw [ltOf_cfC] at h
    simp only [decide_eq_false_iff_not] at h
    rw [getElem!_pos d' i hi', getElem!_pos d' j hj'] at h
    have := not_ltC.1 h
    simpa using this
  · have hd : d' = d'.toList.toArray := by simp
    have hl2 : (d'.toList.flatMap caL).length = ts.length * 8 := by rw [flat_length caL 8 hk]; simp [hds]
    unfold sortWorldK putRowK
    rw [hd, flatK_arr caL 8 hk (by omega)]
    refine ⟨by simpa using hl2, .inr ⟨g, c, _, rfl, hb, heap_sortedV _ hg, hnc, hcm, by simp [putCells, hsz], ?_⟩⟩
    rw [← hl2]
    simp only [List.toList_toArray]
    exact take_putCellsV cur _ (by rw [hl2, hsz]; exact Nat.mul_le_mul_right 8 hnc)
end Go.Proofs.YtipkicijfedfoaaDoor

import Derived.Test.YtnmmiiajcjcccaaIterF
import Derived.Shelf.SlSortCmp.NoneTotal
import Derived.Test.YtnmmiiajcjcccaaCm2
namespace Go.Proofs.Ytnmmiiajcjcccaa
set_option linter.unusedVariables false
open Go.RowKit Go.Own Go.Quo Go.Aid Go.Shelf Go.Sort
theorem fr_sortWorld {α : Type} [Inhabited α] (enc : α → Value) (w : World) (blk off m : Nat) (dk : Array α) (os : Array Obj) : Fr (fun k => k = blk) w (sortWorld enc w blk off m dk os) := by
  refine ⟨rfl, rfl, rfl, ?_, fun k hk hn => ?_⟩
  · unfold sortWorld; rw [size_grow]; simp [putRow, mapBlock]
  · unfold sortWorld
    rw [heap_grow_old _ _ (by simp [putRow, mapBlock]; exact hk)]
    have : blk ≠ k := fun e => hn e.symm
    simp [putRow, mapBlock, Array.getElem?_modify, this]
def leF {n : Nat} (D sp : List Int) (x y : Fin n) : Int := askC D sp x.val y.val
theorem ltOf_leF {n : Nat} (D sp : List Int) (x y : Fin n) : ltOf (leF D sp) x y = decide (askLt D sp x.val y.val) := by
  unfold ltOf leF
  rw [Bool.eq_iff_iff]
  simp only [decide_eq_true_eq]
  exact askC_lt D sp x.val y.val
theorem swo_leF {n : Nat} (D sp : List Int) : SWO (ltOf (leF (n := n) D sp)) where
  irrefl x := by rw [ltOf_leF]; simp [askLt_irrefl]
  trans x y z h1 h2 := by rw [ltOf_leF] at *; simp only [decide_eq_true_eq] at *; exact askLt_trans h1 h2
  ntrans x y z h1 h2 := by rw [ltOf_leF] at *; simp only [decide_eq_false_iff_not] at *; exact askLt_ntrans h1 h2
theorem to_fin {n : Nat} : ∀ (xs : List Nat), (∀ x ∈ xs, x < n) → ∃ L : List (Fin n), L.map (·.val) = xs
  | [], _ => ⟨[], rfl⟩
  | x :: r, h => by
    obtain ⟨L, hL⟩ := to_fin r (fun y hy => h y (by simp [hy]))
    exact ⟨⟨x, h x (by simp)⟩ :: L, by simp [hL]⟩
theorem sort_unique {n : Nat} {D sp : List Int} {L L' : List (Fin n)} (hp : L'.Perm L) (hs : ∀ i j, i < j → j < L'.length → ∀ a b, L'[i]? = some a → L'[j]? = some b → ¬ askLt D sp b.val a.val) :
    L'.map (·.val) = (L.map (·.val)).mergeSort (askLe D sp) := by
  have hs2 : ((L.map (·.val)).mergeSort (askLe D sp)).Pairwise (fun a b => askLe D sp a b = true) := by
    refine List.pairwise_mergeSort (fun a b c h1 h2 => ?_) (fun a b => ?_) _
    · unfold askLe at *
      simp only [Bool.not_eq_true', decide_eq_false_iff_not] at *
      exact askLt_ntrans h2 h1
    · unfold askLe
      by_cases h : askLt D sp b a
      · have : ¬ askLt D sp a b := fun h' => askLt_irrefl D sp a (askLt_trans h' h)
        simp [this]
      · simp [h]
  refine List.Perm.eq_of_pairwise (le := fun a b => askLe D sp a b = true) (fun a b _ _ h1 h2 => ?_) ?_ hs2 ?_
  · unfold askLe at *
    simp only [Bool.not_eq_true', decide_eq_false_iff_not] at *
    exact askLt_total h2 h1
  · rw [List.pairwise_map, List.pairwise_iff_getElem]
    intro i j hi hj hij
    unfold askLe
    simp only [Bool.not_eq_true', decide_eq_false_iff_not]
    exact hs i j hij hj _ _ (List.getElem?_eq_getElem hi) (List.getElem?_eq_getElem hj)
  · exact (hp.map _).trans (List.mergeSort_perm _ _).symm
set_option maxHeartbeats 4000000 in
theorem sort_some (B : Nat → Prop) (p g bb bs : Nat) (v0 : Value) (D sp : List Int) (A : Option Addr) (c n : Nat) (blk cap base : Nat) (xs : List Nat) (W : World) (h1 : Blk W bb 32 #[.pointer (some ⟨p, 0, none⟩)]) (h2 : Blk W p 72 #[v0, .slice (some ⟨g, 0, none⟩) n n]) (h3 : IB W g 2 D) (hD : D.length = n)
    (h4 : Blk W bs 22 #[.slice A n c]) (h5 : Reads W B 1 A sp.length (sp.map (Value.int .i64))) (hs : sp.length = n) (hxs : ∀ x ∈ xs, x < n) (hn : 0 < n) (hl : xs.length ≤ 1000)
    (hb1 : bb ≠ blk) (hb2 : p ≠ blk) (hb3 : g ≠ blk) (hb4 : bs ≠ blk) (hB : ∀ k, B k → k ≠ blk) (ho : W.ownsRow base 3 1 (.slice (some ⟨blk, 0, none⟩) xs.length cap) xs.length (xs.map (fun x => Value.int .i64 (Int.ofNat x)))) :
    Calls Try.prog 37 #[.slice (some ⟨blk, 0, none⟩) xs.length cap, .func (.func 38) #[] #[.pointer (some ⟨bb, 0, none⟩), .pointer (some ⟨bs, 0, none⟩)]] W (fun e w' => e = .returned (.tuple #[]) ∧ Fr (fun k => k = blk) W w' ∧ Reads w' (fun k => k = blk) 1 (some ⟨blk, 0, none⟩) xs.length ((xs.mergeSort (askLe D sp)).map (fun x => Value.int .i64 (Int.ofNat x)))) := by
  obtain ⟨L, rfl⟩ := to_fin xs hxs
  haveI : Inhabited (Fin n) := ⟨⟨0, hn⟩⟩
  have eg : ∀ args w, (callFunc 38 args).run Try.prog w = .ok (.enter 38 args) w := enters_of Try.func38 (by kernel_rfl) rfl
  have hsz : L.toArray.size = (L.map (·.val)).length := by simp
  have hcells : Holds (fun x : Fin n => Value.int .i64 (x.val : Int)) W blk 0 L.toArray := fun j hj => by
    have hj' : j < L.length := by simpa using hj
    refine ⟨?_, ?_⟩
    · rw [Nat.zero_add, ho.cellAt j (by simpa using hj')]
      rw [getElem!_pos L.toArray j hj]
      simp [hj']
    · rcases ho.2 with ⟨e, _⟩ | ⟨g', cap', cur, e, _, hh, _⟩
      · cases e
      · injection e with e _ _
        injection e with e
        injection e with e _ _
        subst e
        exact Blk.frozen (cs := cur) (t := 3) hh _
  have hblk : blk < W.heap.size := (ho.lt blk rfl).2
  have hcmp : CmpLays1 Try.prog 38 #[.pointer (some ⟨bb, 0, none⟩), .pointer (some ⟨bs, 0, none⟩)] (fun x : Fin n => Value.int .i64 (x.val : Int)) (leF D sp) blk 0 L.toArray.size W := fun m os dk hdk x y => by
    have hf := fr_sortWorld (fun x : Fin n => Value.int .i64 (x.val : Int)) W blk 0 m dk os
    exact clos38 B p g bb bs v0 D sp A c n x.val y.val _ (h1.fr hf hb1) (h2.fr hf hb2) (h3.fr hf hb3) hD (h4.fr hf hb4) (h5.fr hf (fun k hk => hB k hk)) hs x.isLt y.isLt
  have hcon := Any.slices_SortFunc Try.sortF (fun x : Fin n => Value.int .i64 (x.val : Int)) (fun _ => rfl) (leF D sp) (swo_leF D sp) 38 #[.pointer (some ⟨bb, 0, none⟩), .pointer (some ⟨bs, 0, none⟩)] blk 0 cap L.toArray W eg hcmp hcells hblk (by rw [hsz]; omega)
  change Calls Try.prog 37 _ _ _ at hcon
  rw [hsz] at hcon
  refine hcon.mono ?_
  rintro e w' ⟨rfl, d', q, os, hp, hst, rfl⟩
  obtain ⟨p1, -, p3⟩ := hp
  have hds : d'.size = L.length := by rw [p1]; simp
  have hperm : d'.toList.Perm L := by
    have e1 : d'.extract 0 (L.map (·.val)).length = d' := by rw [List.length_map, ← hds]; exact Array.extract_size
    have e2 : L.toArray.extract 0 (L.map (·.val)).length = L.toArray := by rw [← hsz]; exact Array.extract_size
    rw [e1, e2] at p3
    exact p3
  have hsu := sort_unique (D := D) (sp := sp) hperm (fun i j hij hj a b ha hb => by
    have hj' : j < d'.size := by simpa using hj
    have h := hst i j (Nat.zero_le _) hij (by rw [List.length_map, ← hds]; exact hj')
    rw [ltOf_leF] at h
    simp only [decide_eq_false_iff_not] at h
    have ea : d'[i]! = a := by rw [getElem!_pos d' i (by omega)]; have := (List.getElem?_eq_some_iff.1 ha).2; simpa using this
    have eb : d'[j]! = b := by rw [getElem!_pos d' j hj']; have := (List.getElem?_eq_some_iff.1 hb).2; simpa using this
    rw [ea, eb] at h
    exact h)
  have hH := holds_sortWorld (fun x : Fin n => Value.int .i64 (x.val : Int)) W blk 0 q L.toArray d' os hblk hcells (by rw [hds]; simp)
  refine ⟨rfl, fr_sortWorld _ _ _ _ _ _ _, ⟨by simp, fun _ => ⟨⟨blk, 0, none⟩, rfl, rfl, fun j u hu => ?_⟩⟩⟩
  rw [← hsu] at hu
  have hj : j < d'.size := by
    have := (List.getElem?_eq_some_iff.1 hu).1
    simpa using this
  rw [Addr.add_lit]
  have hc := (hH j hj).1
  rw [hc, getElem!_pos d' j hj]
  have := (List.getElem?_eq_some_iff.1 hu).2
  simp at this
  rw [← this]
theorem sort_none (A : Option Addr) (cap : Nat) (fv : Value) (W : World) : Calls Try.prog 37 #[.slice A 0 cap, fv] W (fun e w' => e = .returned (.tuple #[]) ∧ w' = W) :=
  AnyF.slices_SortFunc_none (P := Try.prog) (ρ := Try.sortF_ren) { Try.sortF with } A cap fv W
end Go.Proofs.Ytnmmiiajcjcccaa

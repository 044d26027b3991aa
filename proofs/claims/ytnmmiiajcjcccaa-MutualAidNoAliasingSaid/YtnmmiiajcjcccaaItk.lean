import Derived.Test.YtnmmiiajcjcccaaIter
import Derived.Test.YtnmmiiajcjcccaaLed3
namespace Go.Proofs.Ytnmmiiajcjcccaa
set_option linter.unusedVariables false
open Go.RowKit Go.Own Go.Quo Go.Maps Go.Sort Go.Shelf
open Go.WideElems (Fit rd rg)
/-- slices.Sort's two contracts at this dump. -/
theorem sortsA (m : Nat) : AnyZI.SortsIn Try.prog Try.sortedA_ren Fence.wide m :=
  ⟨fun blk off cap ss W hH hblk hsz => callsIn_wide.2 (AnyM.slices_Sort_int Try.sortA blk off cap ss W hH hblk hsz),
   fun p cap W => callsIn_wide.2 (AnyM.slices_Sort_int_none Try.sortA p cap W)⟩
theorem keys_call (mb : Option Nat) (W : World) : Calls Try.prog 44 #[.map mb] W fun e w' => e = .returned (.func (.func 54) #[] #[.pointer (some ⟨W.heap.size, 0, none⟩)]) ∧ w' = W.alloc (.cells #[.map mb] 70) :=
  callsIn_wide.1 (AnyZI.keys_in Try.keysA Fence.wide 5 trivial rfl mb W)
def RU : Value → Option (DataW Unit × List MemPlace) := fun _ => some (.nil, [])
theorem insert_perm (x : Lit × DataW Unit) : ∀ l, (DataW.insert x l).Perm (x :: l)
  | [] => List.Perm.refl _
  | y :: r => by
    unfold DataW.insert
    split
    · exact List.Perm.refl _
    · exact ((insert_perm x r).cons y).trans (List.Perm.swap x y r)
theorem foldr_perm : ∀ l : List (Lit × DataW Unit), (l.foldr DataW.insert []).Perm l
  | [] => List.Perm.refl _
  | x :: r => (insert_perm x _).trans ((foldr_perm r).cons x)
theorem owns_of_mapB {P : Program} {kt : TypeId} (hP : P.underlying kt = some (.int .i64)) {w : World} {m : Nat} {kvs : List (Int × Value)} (h : MapB w m .i64 kvs) (hnd : (kvs.map (·.1)).Nodup) (hwf : ∀ p ∈ kvs, (Lit.int .i64 p.1).wf = true) (hl : kvs.length ≤ maxLen) :
    ∃ D0 : DataW Unit, w.ownsMap P kt RU m kvs.length D0 ∧ (intKeys D0).Perm (kvs.map (·.1)) ∧ Maps.size D0 = kvs.length := by
  obtain ⟨es, clock, hm, he, hb, hlt⟩ := h
  have hkey : ∀ p ∈ kvs, keyOf P kt (.int .i64 p.1) = some (.int .i64 p.1) := fun p hp => keyOf_int_mk hP (hwf p hp)
  have hks : es.toList.map (·.key) = kvs.map (fun p => Value.int .i64 p.1) := by
    have := congrArg (List.map Prod.fst) he
    simpa [List.map_map, Function.comp_def] using this
  have hrg : es.toList.map (rg P kt RU) = kvs.map (fun p => (Lit.int .i64 p.1, (DataW.nil : DataW Unit))) := by
    have e1 : es.toList.map (rg P kt RU) = (es.toList.map (·.key)).map (fun k => ((keyOf P kt k).bind fun key => some (key, (DataW.nil : DataW Unit))).getD (.bool false, .nil)) := by
      rw [List.map_map]
      rfl
    rw [e1, hks, List.map_map]
    refine List.map_congr_left (fun p hp => ?_)
    show ((keyOf P kt (.int .i64 p.1)).bind fun key => some (key, (DataW.nil : DataW Unit))).getD (.bool false, .nil) = _
    rw [hkey p hp]; rfl
  have hsz : es.size = kvs.length := by
    have := congrArg List.length hks
    simpa using this
  have hF : Fit P kt RU es clock := by
    refine ⟨by omega, ⟨hlt, hb, ?_⟩, fun x hx => ?_⟩
    · rw [hks]
      rw [List.Nodup, List.pairwise_map] at hnd ⊢
      exact hnd.imp (fun hne e => hne (by simpa using e))
    · have hk : x.key ∈ es.toList.map (·.key) := List.mem_map_of_mem hx
      rw [hks] at hk
      obtain ⟨p, hp, e⟩ := List.mem_map.1 hk
      refine ⟨(.int .i64 p.1, .nil), ?_⟩
      unfold WideElems.rd
      rw [← e, hkey p hp]; rfl
  refine ⟨.map ((es.toList.map (rg P kt RU)).foldr DataW.insert []), ⟨es, clock, hm, hF, by omega, rfl⟩, ?_, ?_⟩
  · rw [hrg]
    unfold intKeys
    refine ((foldr_perm _).map _).trans ?_
    rw [List.map_map]
    exact List.Perm.refl _
  · rw [hrg]
    have := (foldr_perm (kvs.map (fun p => (Lit.int .i64 p.1, (DataW.nil : DataW Unit))))).length_eq
    show List.length _ = _
    rw [this]; simp
theorem sorted_call {w : World} {m : Nat} {kvs : List (Int × Value)} (h : MapB w m .i64 kvs) (hnd : (kvs.map (·.1)).Nodup) (hwf : ∀ p ∈ kvs, (Lit.int .i64 p.1).wf = true) (hl : kvs.length ≤ 1000) :
    Calls Try.prog 43 #[.func (.func 54) #[] #[.pointer (some ⟨w.heap.size, 0, none⟩)]] (w.alloc (.cells #[.map (some m)] 70)) fun e w' => ∃ (v : Value) (ss : List Int), e = .returned v ∧ ss.Perm (kvs.map (·.1)) ∧
      w'.ownsRow (w.heap.size + 1) 3 1 v ss.length ((ss.mergeSort (fun x y => decide (x ≤ y))).map (Value.int .i64)) ∧ Below (w.heap.size + 1) (w.alloc (.cells #[.map (some m)] 70)) w' := by
  obtain ⟨D0, hown, hp, hs⟩ := owns_of_mapB (P := Try.prog) Try.underlying3 h hnd hwf (by simp only [maxLen]; omega)
  have hbl := hown.lt
  have hseq : SeqGives Fence.wide 2 Try.prog 54 #[.pointer (some ⟨w.heap.size, 0, none⟩)] encZ (fun ss => ss.Perm (intKeys D0)) (Maps.size D0) (w.alloc (.cells #[.map (some m)] 70)) :=
    AnyZI.keys_gives (ρ := Try.keysA_ren) { Try.keysA with } Fence.wide _ trivial rfl (by omega) w.heap.size m kvs.length D0 _ (by simp) (by simp) (by
      obtain ⟨es, clock, hb, Ft, hs, hD⟩ := hown
      exact ⟨es, clock, (Below.heap_alloc _ _ m hbl).trans hb, Ft, hs, hD⟩)
  have cS := AnyZI.sorted_in Try.sortedA Fence.wide 5 trivial trivial trivial trivial rfl (by omega) (sortsA _) (enters_of Try.func53 (by kernel_rfl) rfl) 54 #[.pointer (some ⟨w.heap.size, 0, none⟩)] trivial (enters_of Try.func54 (by kernel_rfl) rfl) _ _ (by rw [hs]; simp only [maxLen]; omega) (by rw [hs]; omega) _ hseq
  change CallsIn _ _ Try.prog 43 _ _ _ at cS
  refine (callsIn_wide.1 cS).mono ?_
  rintro e w' ⟨v, ss, rfl, hS, hrow, hnil, hb⟩
  have hsz : (w.alloc (.cells #[.map (some m)] 70)).heap.size = w.heap.size + 1 := by simp
  rw [hsz] at hrow hb
  exact ⟨v, ss, rfl, hS.trans hp, hrow, hb⟩
end Go.Proofs.Ytnmmiiajcjcccaa

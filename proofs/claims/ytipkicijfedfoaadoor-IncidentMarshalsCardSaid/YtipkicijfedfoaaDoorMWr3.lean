import Derived.Test.YtipkicijfedfoaaDoorMGM
import Derived.Test.YtipkicijfedfoaaDoorMRpt
namespace Go.Proofs.YtipkicijfedfoaaDoor.Wr
set_option linter.unusedVariables false
set_option linter.unusedSimpArgs false
open Go.RowKit Go.Own Go.Quo Go.Wire Go.Inc
theorem run_copy_part {P : Program} (dT sT ty elem : TypeId) (hu : P.underlying dT = some (.slice elem)) (hs : (P.info? elem).map (·.size) = some 1)
    {w : World} {B : Nat → Prop} {A : Option Addr} {n m c d : Nat} {xs : List Value} (t : TypeId) (cur : Array Value) (hr : Reads w B 1 A m xs) (h1 : ∀ v ∈ xs, v.oneCell' = true) (hnm : n ≤ m) (h0 : 0 < n) (hc : cur.size = n) (g : Nat) (hg : g = w.heap.size) :
    (Builtin.copy_ #[dT, sT] ty #[.slice (some ⟨g, 0, none⟩) n d, .slice A m c]).run P (w.alloc (.cells cur t)) = .ok (goInt n) (w.alloc (.cells (xs.take n).toArray t)) := by
  subst hg
  have hl : xs.length = m := by simpa using hr.1
  have hl2 : (xs.take n).length = n := by rw [List.length_take]; omega
  obtain ⟨ad, rfl, hb, hcell⟩ := (hr.alloc (.cells cur t)).2 (by omega)
  have hcell2 : ∀ j v, (xs.take n)[j]? = some v → (w.alloc (.cells cur t)).cell? (ad.add j) = some v := fun j v hv => hcell j v (by
    rw [← hv]
    have hj : j < n := by have := (List.getElem?_eq_some_iff.1 hv).1; omega
    rw [List.getElem?_take_of_lt hj])
  have := run_copy_row (P := P) (w.alloc (.cells cur t)) dT sT ty elem w.heap.size 0 n d ad m c cur t (xs.take n) hu hs (heap_alloc_new w _) (by rw [hl2]; exact (Nat.min_eq_right hnm).symm) hcell2 (by omega) (fun v hv => h1 v (List.mem_of_mem_take hv))
  rw [this, hl2]
  congr 1
  have e : (List.take 0 cur.toList ++ xs.take n ++ List.drop (0 + n) cur.toList).toArray = (xs.take n).toArray := by
    simp [show List.drop n cur.toList = [] from List.drop_eq_nil_of_le (by simp; omega)]
  rw [e]
  simp only [World.setRow, World.alloc]
  congr 1
  apply Array.ext_getElem?
  intro i
  rw [Array.getElem?_modify, Array.getElem?_push, Array.getElem?_push]
  by_cases hi : w.heap.size = i
  · subst hi; simp
  · rw [if_neg hi]
    by_cases h2 : i = w.heap.size
    · exact absurd h2.symm hi
    · simp [h2]
set_option maxRecDepth 10000 in
set_option maxHeartbeats 2000000 in
theorem wbool_any (p : Nat) (b : Bool) (out : List Int) (w : World) (hw : WrP w p out) (hl : out.length ≤ 1000000000) :
    Calls Tryd.prog 58 #[.pointer (some ⟨p, 0, none⟩), .bool b] w (fun e w' => e = .returned (.tuple #[]) ∧ WrP w' p (out ++ encB b) ∧ Below p w w') := by
  obtain ⟨A, c, hk, hown⟩ := hw
  obtain ⟨q0, q1, q2⟩ := hk.facts
  cases b with
  | true =>
    go_enter Tryd.func58, Tryd.ntmps58
    go_wp2_with (at_builtin; refine wpList_append_any _ rfl _ _ _ rfl (p + 1) 5 _ 1 1 Tryd.underlying40 info5 rfl (by omega) (.slice A out.length c) out.length (bys out) rfl (hown.alloc _) _ (some ⟨w.heap.size, 0, none⟩) 1 1 [.int .u8 1] rfl (Reads.newS _ [.int .u8 1] 5 (0, 0) 1 1 rfl _ rfl) (by simp [Value.oneCell']) (by simp only [maxLen]; omega) (by omega) (by simp; omega) ?_; intro A4 c4 w4 hown4 hgr4 hat4; have hk4 := (hk.alloc _).grown hgr4 (by intro e; have := (hown.lt p e.symm).1; omega); obtain ⟨r0, r1, r2⟩ := hk4.facts)
    refine bodyPost_end (v := .tuple #[]) (by simp [results, Tryd.results58, go_sem]) rfl ⟨rfl, ?_, ?_⟩
    · refine ⟨A4, c4, ?_, ?_⟩
      · have := hk4.set_ 0 (.slice A4 (out.length + 1) c4)
        simpa [encB] using this
      · have := own_far hown4 (p := ⟨p, 0, none⟩) (by simp) (.slice A4 (out.length + 1) c4)
        simpa [encB] using this
    · exact (((Below.refl p w).alloc (Nat.le_of_lt q0) _).grown hgr4 (by simp; omega) (fun g hg => by have := (hown.lt g hg).1; omega)).setCell (by simp) _
  | false =>
    go_enter Tryd.func58, Tryd.ntmps58
    go_wp2_with (at_builtin; refine wpList_append_any _ rfl _ _ _ rfl (p + 1) 5 _ 1 1 Tryd.underlying40 info5 rfl (by omega) (.slice A out.length c) out.length (bys out) rfl (hown.alloc _) _ (some ⟨w.heap.size, 0, none⟩) 1 1 [.int .u8 0] rfl (Reads.newS _ [.int .u8 0] 5 (0, 0) 1 1 rfl _ rfl) (by simp [Value.oneCell']) (by simp only [maxLen]; omega) (by omega) (by simp; omega) ?_; intro A4 c4 w4 hown4 hgr4 hat4; have hk4 := (hk.alloc _).grown hgr4 (by intro e; have := (hown.lt p e.symm).1; omega); obtain ⟨r0, r1, r2⟩ := hk4.facts)
    refine bodyPost_end (v := .tuple #[]) (by simp [results, Tryd.results58, go_sem]) rfl ⟨rfl, ?_, ?_⟩
    · refine ⟨A4, c4, ?_, ?_⟩
      · have := hk4.set_ 0 (.slice A4 (out.length + 1) c4)
        simpa [encB] using this
      · have := own_far hown4 (p := ⟨p, 0, none⟩) (by simp) (.slice A4 (out.length + 1) c4)
        simpa [encB] using this
    · exact (((Below.refl p w).alloc (Nat.le_of_lt q0) _).grown hgr4 (by simp; omega) (fun g hg => by have := (hown.lt g hg).1; omega)).setCell (by simp) _
set_option maxRecDepth 10000 in
set_option maxHeartbeats 2000000 in
theorem wstr_any (p : Nat) (s : ByteArray) (out : List Int) (w : World) (hw : WrP w p out) (hl : out.length ≤ 900000000) (hs : s.size ≤ 1000000) :
    Calls Tryd.prog 56 #[.pointer (some ⟨p, 0, none⟩), .string s] w (fun e w' => e = .returned (.tuple #[]) ∧ WrP w' p (out ++ encS s) ∧ Below p w w') := by
  have HI := Lib.hid (int_any p (s.size : Int) out w hw (by omega) (by omega) (by omega))
  have hlen := encI_len (n := (s.size : Int)) (by omega) (by omega)
  obtain ⟨o, ho⟩ : ∃ o, o = out ++ encI (s.size : Int) := ⟨_, rfl⟩
  have hol : o.length ≤ 900000010 := by rw [ho, List.length_append]; omega
  have HO := Lib.hid ho
  rw [← ho] at HI
  clear ho hlen hw
  go_enter Tryd.func56, Tryd.ntmps56
  go_wp2_with (first
    | (go_at_call 55; ((with_reducible refine HI.out.mono ?_); rintro e w2 ⟨rfl, ⟨A, c, hk, hown⟩, hb⟩; obtain ⟨q0, q1, q2⟩ := hk.facts))
    | (at_builtin; refine wpList_append_str _ rfl _ _ _ _ rfl (p + 1) 5 Tryd.underlying40 Tryd.underlying9 info5 (.slice A o.length c) o.length (bys o) rfl hown s rfl (by simp only [maxLen]; omega) (by omega) (by omega) ?_; intro A4 c4 w4 hown4 hgr4; have hk4 := hk.grown hgr4 (by intro e; have := (hown.lt p e.symm).1; omega); obtain ⟨r0, r1, r2⟩ := hk4.facts))
  refine bodyPost_end (v := .tuple #[]) (by simp [results, Tryd.results56, go_sem]) rfl ⟨rfl, ?_, ?_⟩
  · have e1 : (out ++ encS s).length = o.length + s.size := by
      rw [HO.out]
      unfold encS
      rw [← List.append_assoc, List.length_append (bs := strL s), strL_len]
    have e2 : bys o ++ Lib.strCells s = bys (out ++ encS s) := by
      rw [strCells_strL, HO.out]
      unfold encS
      rw [← List.append_assoc]
      simp [bys]
    rw [← e1, e2] at hown4
    refine ⟨A4, c4, ?_, ?_⟩
    · have := hk4.set_ 0 (.slice A4 (out ++ encS s).length c4)
      simp only [← e1]
      simpa using this
    · simp only [← e1]
      exact own_far hown4 (p := ⟨p, 0, none⟩) (by simp) _
  · exact (hb.grown hgr4 (by omega) (fun g hg => by have := (hown.lt g hg).1; omega)).setCell (by simp) _
end Go.Proofs.YtipkicijfedfoaaDoor.Wr

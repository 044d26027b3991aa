import Derived.Test.YtnpfbpfobbadaaaQuo3
import Derived.Test.YtnpfbpfobbadaaaQMem
import Derived.Test.YtnpfbpfobbadaaaShelf
import Derived.Sort.OwnSortedInts
import Derived.Deep.RegionLaw
namespace Go.Proofs.Ytnpfbpfobbadaaa
set_option linter.unusedVariables false
open Go.RowKit Go.Own Go.Quo
def SortPost (base : Nat) (A : Option Addr) (n c : Nat) (zs : List Int) (w : World) (e : Ending) (w' : World) : Prop :=
  e = .returned (.tuple #[]) ∧ w'.ownsRow base 3 1 (.slice A n c) n ((srt zs).map (Value.int .i64)) ∧ w.grownBy w' (Value.slice A n c).ownBlock
theorem sort_own (base : Nat) (A : Option Addr) (n c : Nat) (zs : List Int) (w : World) (hown : w.ownsRow base 3 1 (.slice A n c) n (zs.map (Value.int .i64))) (hnb : n ≤ 1000000) :
    Calls Try.prog 45 #[.slice A n c] w (SortPost base A n c zs w) := by
  have hl : zs.length = n := by simpa using hown.1
  rcases Nat.eq_zero_or_pos n with h0 | h0
  · subst h0
    have hz : zs = [] := List.eq_nil_of_length_eq_zero hl
    subst hz
    refine (Try.slices_Sort_int_none A c w).mono ?_
    rintro e w' ⟨rfl, rfl⟩
    exact ⟨rfl, by simpa [srt] using hown, World.grownBy.refl _ _⟩
  · rcases hown.2 with ⟨_, hv⟩ | ⟨g, cap, cur, hv, hb, hg, hnc, hcm, hsz, htk⟩
    · omega
    · injection hv with h1 h2 h3
      subst h1 h3
      have hH := holds_of_blockI hg (by rw [hl]; simpa using htk)
      have hlen : zs.length < 4611686018427387904 := by omega
      refine (hl ▸ Try.slices_Sort_int g 0 c zs w hH ((Array.getElem?_eq_some_iff.1 hg).1) hlen).mono ?_
      rintro e w' ⟨rfl, k, os, rfl⟩
      refine ⟨rfl, ?_, grownBy_sortedI _⟩
      have := ownsRow_sortedI (n := k) (os := os) (ss := zs) (ts := srt zs) (srt_length zs) hb hg (by omega) hcm hsz
      rw [hl] at this
      exact this
def CompPost (base : Nat) (A : Option Addr) (n c : Nat) (zs : List Int) (w : World) (e : Ending) (w' : World) : Prop :=
  e = .returned (.slice A (Lib.compact zs).length c) ∧ Reads w' (base ≤ ·) 1 A (Lib.compact zs).length ((Lib.compact zs).map (Value.int .i64)) ∧ w.grownBy w' (Value.slice A n c).ownBlock ∧ (Lib.compact zs).length ≤ c
theorem compact_own (base : Nat) (A : Option Addr) (n c : Nat) (zs : List Int) (w : World) (hown : w.ownsRow base 3 1 (.slice A n c) n (zs.map (Value.int .i64))) (hnb : n ≤ 1000000) (h0 : 0 < n) :
    Calls Try.prog 46 #[.slice A n c] w (CompPost base A n c zs w) := by
  obtain rfl : zs.length = n := by simpa using hown.1
  rcases hown.2 with ⟨_, hv⟩ | ⟨g, cap, cur, hv, hb, hg, hnc, hcm, hsz, htk⟩
  · omega
  · injection hv with h1 h2 h3
    subst h1 h3
    have hH := holds_of_blockI hg (by simpa using htk)
    have hcl : (Lib.compact zs).length ≤ zs.length := by
      unfold Lib.compact Lib.compactUpTo
      rw [List.length_map]
      exact Nat.le_trans (List.length_filter_le _ _) (by simp)
    refine (Try.slices_Compact_int g 0 c zs w hH (by omega) (by omega)).mono ?_
    rintro e w' ⟨rfl, q, rfl⟩
    have hg2 : w.grownBy (Sort.grow (Sort.putRow (Value.int .i64) (Sort.ahead w q) g 0 (Lib.compact zs ++ List.replicate (zs.length - (Lib.compact zs).length) 0).toArray) #[]) (some g) := grownBy_sortedI _
    have := ownsRow_sortedI (n := q) (os := #[]) (ss := zs) (ts := Lib.compact zs ++ List.replicate (zs.length - (Lib.compact zs).length) 0) (by simp; omega) hb hg (by omega) hcm hsz
    rw [Sort.grow_empty] at this hg2
    refine ⟨rfl, ?_, hg2, by omega⟩
    have hr := Reads.of_own this
    refine ⟨by simp, fun hn => ?_⟩
    obtain ⟨ad, e1, e2, e3⟩ := hr.2 (by omega)
    refine ⟨ad, e1, ?_, fun j u hu => e3 j u ?_⟩
    · exact (this.lt _ e2).1
    · have hj : j < (Lib.compact zs).length := by
        have := (List.getElem?_eq_some_iff.1 hu).1
        simpa using this
      rw [List.map_append, List.getElem?_append_left (by simpa using hj)]
      exact hu
def MemPost (l : List Int) (w : World) (e : Ending) (w' : World) : Prop := ∃ A c, e = .returned (.slice A l.length c) ∧ RI w' (w.heap.size ≤ ·) A l ∧ Below w.heap.size w w' ∧ l.length ≤ c
theorem ints_one (l : List Int) : ∀ u ∈ l.map (Value.int .i64), u.oneCell' = true := ints_oneCell .i64 l
set_option maxRecDepth 10000 in
set_option maxHeartbeats 1000000 in
theorem members_no (B : Nat → Prop) (m : Ms) (w : World) (h : MR w B m) (hv : vB m.o m.n = false) :
    Calls Try.prog 28 #[msV m] w (MemPost [] w) := by
  have HO := Lib.hid (valid_b B m _ (h.alloc (.cells (msC m) 24)) false hv)
  clear h hv
  go_enter Try.func28, Try.ntmps28
  go_wp2_with (go_at_call 29; ((with_reducible refine HO.out.mono ?_); rintro e w1 ⟨rfl, rfl⟩))
  go_ret
  exact ⟨none, 0, rfl, Reads.none_, ((Below.refl _ _).alloc (Nat.le_refl _) _).alloc (by simp) _, Nat.le_refl _⟩
set_option maxRecDepth 10000 in
set_option maxHeartbeats 1000000 in
theorem members_yes (B : Nat → Prop) (m : Ms) (w : World) (h : MR w B m) (hv : vB m.o m.n = true) :
    Calls Try.prog 28 #[msV m] w (MemPost (memF m.o m.n) w) := by
  have HO := Lib.hid (valid_b B m _ (h.alloc (.cells (msC m) 24)) true hv)
  have HV := Lib.hid hv
  have hlen := v_lens hv
  clear hv
  go_enter Try.func28, Try.ntmps28
  go_wp2_with (go_at_call 29; ((with_reducible refine HO.out.mono ?_); rintro e w1 ⟨rfl, rfl⟩))
  generalize hW : (w.alloc (.cells (msC m) 24)).alloc (.cells (msC m) 24) = W
  have hb0 : Blk W w.heap.size 24 (msC m) := by rw [← hW]; exact (Blk.new w 24 _).alloc _
  have hmW : MR W B m := by rw [← hW]; exact (h.alloc _).alloc _
  have hbW : Below w.heap.size w W := by rw [← hW]; exact ((Below.refl _ _).alloc (Nat.le_refl _) _).alloc (by simp) _
  have hsW : w.heap.size < W.heap.size := by rw [← hW]; simp; omega
  clear hW h
  have ho := (hmW.o.old (by omega)).more (B' := (· < W.heap.size)) (fun k hk => hk.2)
  have hn := (hmW.n.old (by omega)).more (B' := (· < W.heap.size)) (fun k hk => hk.2)
  obtain ⟨q0, q1, q2⟩ := hb0.facts
  have p0 : W.cell? ⟨w.heap.size, 0, none⟩ = some (.slice m.A m.o.length m.c) := hb0.cell 0
  have p1 : W.cell? ⟨w.heap.size, 1, none⟩ = some (.slice m.A' m.n.length m.c') := hb0.cell 1
  clear q1 q2 hmW
  go_region_law (first
    | (refine step_append_any _ (by rfl) (.const (.slice none 0 0)) (.tmp 8) _ (by rfl) W.heap.size 3 (.int .i64 0) 1 8 Try.underlying22 info3 rfl (by omega) (.slice none 0 0) 0 [] (by rfl) (World.ownsRow_nil _ _ _ _) (· < W.heap.size) m.A m.o.length m.c (m.o.map (Value.int .i64)) (by rfl) ho.drew (ints_one _) (by simp only [maxLen]; omega) (by omega) (by simp) ?_
       intro A2 c2 w2 hown2 hgr2 hat2
       simp only [Nat.zero_add, List.nil_append] at hown2 hat2
       have hs2 : W.heap.size ≤ w2.heap.size := by have := hgr2.size; simpa using this
       have p1' : w2.cell? ⟨w.heap.size, 1, none⟩ = some (.slice m.A' m.n.length m.c') := by rw [grown_cell hgr2 (by simpa using hsW) (by simp [Value.ownBlock])]; exact p1
       have hn2 := hn.drew.grown hgr2 (by simp [Value.ownBlock]))
    | (refine step_append_any _ (by rfl) (.tmp 9) (.tmp 11) _ (by rfl) W.heap.size 3 (.int .i64 0) 1 8 Try.underlying22 info3 rfl (by omega) (.slice A2 m.o.length c2) m.o.length (m.o.map (Value.int .i64)) (by rfl) hown2 (· < W.heap.size) m.A' m.n.length m.c' (m.n.map (Value.int .i64)) (by rfl) hn2 (ints_one _) (by simp only [maxLen]; omega) (by omega) hs2 ?_
       intro A3 c3 w3 hown3 hgr3 hat3))
  all_goals
    rw [← List.map_append] at hown3
    have hpos : 0 < m.o.length + m.n.length := by omega
    have hrow2 : ∀ g, (Value.slice A2 m.o.length c2).ownBlock = some g → W.heap.size ≤ g := fun g hg => (hown2.lt g hg).1
    have b2 : Below w.heap.size w w2 := (hbW.drew).grown hgr2 (by simpa using hbW.size) (by simp [Value.ownBlock])
    have b3 : Below w.heap.size w w3 := b2.grown hgr3 b2.size (fun g hg => by have := hrow2 g hg; omega)
    have HSo := Lib.hid (sort_own W.heap.size A3 _ c3 (m.o ++ m.n) w3 hown3 (by omega))
    clear hown2 hgr2 hat2 hgr3 hat3 hn2 p1' hrow2 hown3 p0 p1
    go_wp2_with fail
    refine HSo.out.mono ?_
    rintro e w4 ⟨rfl, hown4, hgr4⟩
    have HCo := Lib.hid (compact_own W.heap.size A3 _ c3 (srt (m.o ++ m.n)) w4 hown4 (by omega) hpos)
    have hrow4 : ∀ g, (Value.slice A3 (m.o.length + m.n.length) c3).ownBlock = some g → W.heap.size ≤ g := fun g hg => (hown4.lt g hg).1
    have b4 : Below w.heap.size w w4 := b3.grown hgr4 b3.size (fun g hg => by have := hrow4 g hg; omega)
    clear hown4 hgr4
    go_wp2_with fail
    refine HCo.out.mono ?_
    rintro e w5 ⟨rfl, hr5, hgr5, hc5⟩
    rw [compact_mem HV.out] at hr5 hc5 ⊢
    go_wp2
    go_ret
    exact ⟨A3, c3, rfl, hr5.more (fun k hk => by omega), b4.grown hgr5 b4.size (fun g hg => by have := hrow4 g hg; omega), hc5⟩
def memV (o n : List Int) : List Int := if vB o n = true then memF o n else []
theorem members_any (B : Nat → Prop) (m : Ms) (w : World) (h : MR w B m) : Calls Try.prog 28 #[msV m] w (MemPost (memV m.o m.n) w) := by
  unfold memV
  cases hv : vB m.o m.n with
  | false => rw [if_neg (by simp)]; exact members_no B m w h hv
  | true => rw [if_pos rfl]; exact members_yes B m w h hv
end Go.Proofs.Ytnpfbpfobbadaaa

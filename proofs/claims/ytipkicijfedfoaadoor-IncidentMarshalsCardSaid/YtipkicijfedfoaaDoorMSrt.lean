import Derived.Test.YtipkicijfedfoaaDoorMShelf
import Derived.Test.YtipkicijfedfoaaDoorMGL
import Derived.Sort.OwnSortedInts
import Derived.Deep.Onto
namespace Go.Proofs.YtipkicijfedfoaaDoor
set_option linter.unusedVariables false
open Go.RowKit Go.Own Go.Quo Go.Inc
def srt (zs : List Int) : List Int := zs.mergeSort fun x y => decide (x ≤ y)
theorem srt_length (zs : List Int) : (srt zs).length = zs.length := by simp [srt]
theorem srt_perm (zs : List Int) : (srt zs).Perm zs := List.mergeSort_perm zs _
theorem srt_up (zs : List Int) : (srt zs).Pairwise (fun a b => a ≤ b) := by
  have := List.pairwise_mergeSort (le := fun x y : Int => decide (x ≤ y)) (fun a b c => by simp; omega) (fun a b => by simp; omega) zs
  exact this.imp (fun h => by simpa using h)
def SortPost (base : Nat) (A : Option Addr) (n c : Nat) (zs : List Int) (w : World) (e : Ending) (w' : World) : Prop :=
  e = .returned (.tuple #[]) ∧ w'.ownsRow base 2 1 (.slice A n c) n ((srt zs).map (Value.int .i64)) ∧ w.grownBy w' (Value.slice A n c).ownBlock
theorem sort_own (base : Nat) (A : Option Addr) (n c : Nat) (zs : List Int) (w : World) (hown : w.ownsRow base 2 1 (.slice A n c) n (zs.map (Value.int .i64))) (hnb : n ≤ 1000000) :
    Calls Tryd.prog 44 #[.slice A n c] w (SortPost base A n c zs w) := by
  have hl : zs.length = n := by simpa using hown.1
  rcases Nat.eq_zero_or_pos n with h0 | h0
  · subst h0
    have hz : zs = [] := List.eq_nil_of_length_eq_zero hl
    subst hz
    refine (Tryd.slices_Sort_int_none A c w).mono ?_
    rintro e w' ⟨rfl, rfl⟩
    exact ⟨rfl, by simpa [srt] using hown, World.grownBy.refl _ _⟩
  · rcases hown.2 with ⟨_, hv⟩ | ⟨g, cap, cur, hv, hb, hg, hnc, hcm, hsz, htk⟩
    · omega
    · injection hv with h1 h2 h3
      subst h1 h3
      have hH := holds_of_blockI hg (by rw [hl]; simpa using htk)
      have hlen : zs.length < 4611686018427387904 := by omega
      refine (hl ▸ Tryd.slices_Sort_int g 0 c zs w hH ((Array.getElem?_eq_some_iff.1 hg).1) hlen).mono ?_
      rintro e w' ⟨rfl, k, os, rfl⟩
      refine ⟨rfl, ?_, grownBy_sortedI _⟩
      have := ownsRow_sortedI (n := k) (os := os) (ss := zs) (ts := srt zs) (srt_length zs) hb hg (by omega) hcm hsz
      rw [hl] at this
      exact this
/-- two orders of the same numbers -/
theorem srt_eq {l k : List Int} (hp : l.Perm k) (hk : k.Pairwise (fun a b => a ≤ b)) : srt l = k := pw_le_unique ((srt_perm l).trans hp) (srt_up l) hk
theorem srt_append {l : List Int} {n : Int} (h : l.Pairwise (fun a b => a < b)) (hn : n ∉ l) : srt (l ++ [n]) = putL l n :=
  srt_eq (putL_perm l n).symm ((putL_sorted h hn).imp (fun h => by omega))
end Go.Proofs.YtipkicijfedfoaaDoor

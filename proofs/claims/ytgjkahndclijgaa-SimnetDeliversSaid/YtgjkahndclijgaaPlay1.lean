import Derived.Test.YtgjkahndclijgaaDo4
import Derived.Test.YtgjkahndclijgaaOpen
namespace Go.Proofs.Ytgjkahndclijgaa
open Go.RowKit Go.Own
theorem info52 : (Try.prog.info? 52).map (fun i => (i.zero, i.size, i.bytes)) = some (some (.agg #[.int .i64 0, .int .i64 0, .int .i64 0, .slice none 0 0, .int .i64 0, .slice none 0 0]), 6, 80) := by kernel_rfl
theorem i52 : ∃ i, Try.prog.info? 52 = some i ∧ i.size = 6 := by obtain ⟨i, h, _, h2, _⟩ := info_parts info52; exact ⟨i, h, h2⟩
def acC (a : ActS) : List Value := (actC a).toList
def acs (l : List ActS) : List Value := l.flatMap acC
theorem acC_length (a : ActS) : (acC a).length = 6 := rfl
theorem acs_get (l : List ActS) (k j : Nat) (x : ActS) (hx : l[k]? = some x) (hj : j < 6) : (acs l)[k * 6 + j]? = (acC x)[j]? := flat_get acC 6 acC_length l k j x hx hj
def small (a : ActS) : Bool := decide (a.n ≤ 200) && decide (a.gn ≤ 40)
def fewB (l : List ActS) : Bool := l.all small && decide (l.length ≤ 60)
structure Cells6 (w : World) (b o : Nat) (a : ActS) : Prop where
  c0 : w.cell? ⟨b, o, none⟩ = some (.int .i64 a.kind)
  c1 : w.cell? ⟨b, o + 1, none⟩ = some (.int .i64 a.frm)
  c2 : w.cell? ⟨b, o + 2, none⟩ = some (.int .i64 a.tgt)
  c3 : w.cell? ⟨b, o + 3, none⟩ = some (.slice a.A a.n a.c)
  c4 : w.cell? ⟨b, o + 4, none⟩ = some (.int .i64 a.id)
  c5 : w.cell? ⟨b, o + 5, none⟩ = some (.slice a.GA a.gn a.gc)
theorem acs_cells {w : World} {B : Nat → Prop} {A : Option Addr} {l : List ActS} (h : Reads w B 6 A l.length (acs l)) {k : Nat} {x : ActS} (hx : l[k]? = some x) : Cells6 w (bk A) (ofs A + k * 6) x := by
  have hk : k < l.length := (List.getElem?_eq_some_iff.1 hx).1
  exact ⟨(h.cell2 (k * 6 + 0) (by omega) (by omega)).trans (acs_get _ _ _ _ hx (by omega)), (h.cell2 (k * 6 + 1) (by omega) (by omega)).trans (acs_get _ _ _ _ hx (by omega)),
    (h.cell2 (k * 6 + 2) (by omega) (by omega)).trans (acs_get _ _ _ _ hx (by omega)), (h.cell2 (k * 6 + 3) (by omega) (by omega)).trans (acs_get _ _ _ _ hx (by omega)),
    (h.cell2 (k * 6 + 4) (by omega) (by omega)).trans (acs_get _ _ _ _ hx (by omega)), (h.cell2 (k * 6 + 5) (by omega) (by omega)).trans (acs_get _ _ _ _ hx (by omega))⟩
theorem few_bad {l : List ActS} {k : Nat} {x : ActS} (hx : l[k]? = some x) (hs : small x = false) : fewB l = false := by
  unfold fewB
  rw [Bool.and_eq_false_iff]; left
  rw [List.all_eq_false]
  exact ⟨x, List.mem_of_getElem? hx, by simp [hs]⟩
theorem few_end {l : List ActS} (h : ∀ (j : Nat) (y : ActS), j < l.length → l[j]? = some y → small y = true) : fewB l = decide (l.length ≤ 60) := by
  unfold fewB
  have : l.all small = true := by
    rw [List.all_eq_true]
    intro x hx
    obtain ⟨j, hj⟩ := List.mem_iff_getElem?.1 hx
    exact h j x (List.getElem?_eq_some_iff.1 hj).1 hj
  rw [this, Bool.true_and]
set_option maxRecDepth 10000 in
set_option maxHeartbeats 1000000 in
theorem few_any (B : Nat → Prop) (A : Option Addr) (c : Nat) (l : List ActS) (w : World) (h : Reads w B 6 A l.length (acs l)) (hm : l.length ≤ 9223372036854775807) :
    Calls Try.prog 19 #[.slice A l.length c] w fun e w' => e = .returned (.bool (fewB l)) ∧ Below w.heap.size w w' := by
  have hits := (h.old (by omega)).more (B' := (· < w.heap.size)) (fun k hk => hk.2)
  have hsm := hits.plain (by omega)
  obtain ⟨i52, hi52, hi521⟩ := i52
  clear h
  go_enter Try.func19, Try.ntmps19
  go_wp2
  go_loopw [7] (fun i wr => ∃ k : Nat, k ≤ l.length ∧ i = .int .i64 k ∧ (∀ (j : Nat) (y : ActS), j < k → l[j]? = some y → small y = true) ∧ Below w.heap.size w wr) (fun i _ => l.length - (intOf i).toNat)
  case atStart => exact ⟨0, Nat.zero_le _, rfl, fun j y hj => by omega, Below.refl _ _⟩
  case round =>
    obtain ⟨k, hk, rfl, hall, hbel⟩ := hrel
    have hsz := hbel.size
    have HA := Lib.hid hall; clear hall
    by_cases hlt : k < l.length
    · have hlt' : (k : Int) < l.length := by omega
      obtain ⟨x, hgx⟩ : ∃ x, l[k]? = some x := ⟨_, List.getElem?_eq_getElem hlt⟩
      have hR := hits.below hbel (fun _ h => h)
      have hix := fun W => run_indexAt2 (P := Try.prog) Try.underlying36 hi52 hi521 hsm c k hlt W
      obtain ⟨c0, c1, c2, c3, c4, c5⟩ := acs_cells hR hgx
      have HG := Lib.hid hgx
      clear hits hgx hR
      by_cases h1 : 200 < x.n
      · have h1' : (200 : Int) < x.n := by omega
        go_wp2
        go_ret
        exact ⟨by rw [few_bad HG.out (by simp [small]; omega)]; rfl, hbel.alloc hsz _⟩
      · have h1' : ¬ (200 : Int) < x.n := by omega
        have h1d : decide (200 < x.n) = false := by simpa using h1
        by_cases h2 : 40 < x.gn
        · have h2' : (40 : Int) < x.gn := by omega
          go_wp2
          go_ret
          exact ⟨by rw [few_bad HG.out (by simp [small]; omega)]; rfl, hbel.alloc hsz _⟩
        · have h2' : ¬ (40 : Int) < x.gn := by omega
          have h2d : decide (40 < x.gn) = false := by simpa using h2
          go_wp2
          go_roundw
          case rel =>
            refine ⟨k + 1, by omega, by go_num, fun j y hj hy => ?_, hbel.alloc hsz _⟩
            by_cases hjk : j < k
            · exact HA.out j y hjk hy
            · have e : j = k := by omega
              subst e
              have := HG.out
              rw [hy] at this
              obtain rfl := Option.some.inj this
              simp [small]; omega
          case measure => simp [intOf]; omega
    · have hge : ¬ ((k : Int) < l.length) := by omega
      have hkl : k = l.length := by omega
      have HK := Lib.hid hkl
      clear hits hkl
      go_wp2
      go_ret
      refine ⟨?_, hbel⟩
      have := HK.out
      subst this
      rw [few_end HA.out]
      congr 2
      simp; omega
end Go.Proofs.Ytgjkahndclijgaa

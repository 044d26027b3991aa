import Derived.Test.YtgjkahndclijgaaSim3
import Derived.Test.YtgjkahndclijgaaBase3
import Derived.Test.YtgjkahndclijgaaShelf
import Derived.Sort.OwnSortedInts
namespace Go.Proofs.Ytgjkahndclijgaa
open Go.RowKit Go.Own

def srt (zs : List Int) : List Int := zs.mergeSort fun x y => decide (x ≤ y)
theorem srt_length (zs : List Int) : (srt zs).length = zs.length := by simp [srt]
theorem srt_perm (zs : List Int) : (srt zs).Perm zs := List.mergeSort_perm zs _
def SortPost (base : Nat) (A : Option Addr) (n c : Nat) (zs : List Int) (w : World) (e : Ending) (w' : World) : Prop :=
  e = .returned (.tuple #[]) ∧ w'.ownsRow base 2 1 (.slice A n c) n ((srt zs).map (Value.int .i64)) ∧ w.grownBy w' (Value.slice A n c).ownBlock
theorem sort_own (base : Nat) (A : Option Addr) (n c : Nat) (zs : List Int) (w : World) (hown : w.ownsRow base 2 1 (.slice A n c) n (zs.map (Value.int .i64))) (hnb : n ≤ 1000000) :
    Calls Try.prog 33 #[.slice A n c] w (SortPost base A n c zs w) := by
  have hl : zs.length = n := by simpa using hown.1
  rcases Nat.eq_zero_or_pos n with h0 | h0
  · subst h0
    have hz : zs = [] := List.eq_nil_of_length_eq_zero hl
    subst hz
    refine (Try.slices_Sort_int_none A c w).mono ?_
    rintro e w' ⟨rfl, rfl⟩
    exact ⟨rfl, by simpa [srt] using hown, World.grownBy.refl _ _⟩
  · rcases hown.2 with ⟨_, hv⟩ | ⟨g, cap, cur, hv, hb, hg, hnc, hcm, hsz, htk⟩
    · omega
    · injection hv with h1 h2 h3
      subst h1 h3
      have hH := holds_of_blockI hg (by rw [hl]; simpa using htk)
      have hlen : zs.length < 4611686018427387904 := by omega
      refine (hl ▸ Try.slices_Sort_int g 0 c zs w hH ((Array.getElem?_eq_some_iff.1 hg).1) hlen).mono ?_
      rintro e w' ⟨rfl, k, os, rfl⟩
      refine ⟨rfl, ?_, grownBy_sortedI _⟩
      have := ownsRow_sortedI (n := k) (os := os) (ss := zs) (ts := srt zs) (srt_length zs) hb hg (by omega) hcm hsz
      rw [hl] at this
      exact this

theorem info2 : (Try.prog.info? 2).map (fun i => (i.zero, i.size, i.bytes)) = some (some (.int .i64 0), 1, 8) := by kernel_rfl
def fI (x : Int × Pk) : Int × Value := (x.1, pv x.2)
theorem itemsV_eq (l : List (Int × Pk)) : itemsV l = l.map fI := rfl
def idsV (d : List (Int × Pk)) : List Value := d.map fun x => Value.int .i64 x.1
def PendPost (p : Nat) (N : NetS) (w : World) (e : Ending) (w' : World) : Prop :=
  ∃ A c d, e = .returned (.slice A N.items.length c) ∧ d.Perm (N.items.map (·.1)) ∧ w'.ownsRow w.heap.size 2 1 (.slice A N.items.length c) N.items.length ((srt d).map (Value.int .i64)) ∧ Net w' p N ∧ Below w.heap.size w w'
set_option maxRecDepth 10000 in
set_option maxHeartbeats 1000000 in
theorem pending_any (p : Nat) (N : NetS) (w : World) (h : Net w p N) (hl : N.items.length ≤ 1000) :
    Calls Try.prog 18 #[.pointer (some ⟨p, 0, none⟩)] w (PendPost p N w) := by
  obtain ⟨hlt, hc, -⟩ := h.blk.facts
  have hmap := h.map
  have hmlt := hmap.lt
  have hln := fun (W : World) (ty : TypeId) (h : MapB W N.m .i64 (itemsV N.items)) => MapB.length (P := Try.prog) h Try.underlying50 ty
  have hlen : (itemsV N.items).length = N.items.length := by simp [itemsV]
  simp only [hlen] at hln
  have hmk := run_make0 (P := Try.prog) 46 2 (.int .i64 0) 8 Try.underlying46 info2 rfl N.items.length (by omega) (by omega)
  have hrg := fun (W : World) (h : MapB W N.m .i64 (itemsV N.items)) => run_rangeB (P := Try.prog) h Try.underlying50
  have HL := Lib.hid hlen; clear hlen
  go_enter Try.func18, Try.ntmps18
  go_wp2
  go_loopw [3] (fun v wr => ∃ (d : List (Int × Pk)) (A : Option Addr) (c n : Nat), n = d.length ∧ v = .slice A n c ∧ wr.ownsRow w.heap.size 2 1 (.slice A n c) n (idsV d) ∧ (Value.slice A n c).ownBlock ≠ some (w.heap.size + 1) ∧ IterA wr N.m (w.heap.size + 1) .i64 fI N.items d ∧ Net wr p N ∧ Below w.heap.size w wr) (fun v _ => N.items.length - slen v)
  case atStart =>
    refine ⟨[], _, _, 0, rfl, rfl, ?_, by simp [Value.ownBlock], ?_, (h.alloc _).alloc _, ((Below.refl _ _).alloc (Nat.le_refl _) _).alloc (by simp) _⟩
    · have := World.ownsRow_made (base := w.heap.size) (e := 2) (size := 1) w (zrow (.int .i64 0) N.items.length) N.items.length (Nat.le_refl _) (by simp only [maxLen]; omega) (by simp [zrow])
      exact this.alloc _
    · have := IterA.start (w := w.alloc (.cells (zrow (.int .i64 0) N.items.length) 2)) (m := N.m) (q := .i64) (f := fI) (l := N.items) (hmap.alloc _)
      simpa using this
  case round =>
    obtain ⟨d, A, c, n, hn, rfl, hown, hob, hit, hNr, hbel⟩ := hrel
    have hsz := hbel.size
    have hle := hit.le
    have HN := Lib.hid hn; clear hn
    have hn1 : n ≤ 1000 := by have := HN.out; omega
    clear hmap hln hrg hmk
    go_wp2_with (at_next; refine wpList_nextB rfl _ rfl N.m (w.heap.size + 1) .i64 fI N.items d rfl hit ?_ ?_)
    · intro hperm
      have hdn : n = N.items.length := by
        have := hperm.length_eq
        have h2 := HN.out
        simp at this; omega
      have hidsd : idsV d = (d.map (·.1)).map (Value.int .i64) := by simp [idsV]
      have hp2 : (d.map (·.1)).Perm (N.items.map (·.1)) := hperm
      have HD := Lib.hid hdn; clear hdn hperm
      have HP := Lib.hid hp2; clear hp2
      rw [hidsd] at hown
      have HI := Lib.hid hidsd; clear hidsd
      go_wp2_with fail
      refine (sort_own w.heap.size A n c _ wr hown (by omega)).mono ?_
      rintro e w1 ⟨rfl, hown1, hgr1⟩
      have hrow : ∀ g, (Value.slice A n c).ownBlock = some g → w.heap.size ≤ g := fun g hg => (hown.lt g hg).1
      go_wp2
      go_ret
      refine ⟨A, c, d.map (·.1), ?_, HP.out, ?_, ?_, ?_⟩
      · rw [← HD.out]; rfl
      · rw [← HD.out]; exact hown1
      · exact hNr.fr (S := (w.heap.size ≤ ·)) ⟨hgr1.os, hgr1.tape, hgr1.output, hgr1.size, fun k hk hn => hgr1.block k hk (fun e => hn (hrow k e.symm))⟩ (by have := h.blk.lt; omega) (by have := h.grp.lt; omega) (by omega) (fun x hx => by have := (h.body x hx).lt; omega)
      · exact hbel.grown hgr1 hsz hrow
    · intro xi xp w1 hx hit1 hfr hsz1 hen
      simp only [fI] at hen ⊢
      have hown1 : w1.ownsRow w.heap.size 2 1 (.slice A n c) n (idsV d) := hown.kept (row := some (w.heap.size + 1)) ⟨hfr.os, hfr.tape, hfr.output, hfr.size, fun k hk hn => hfr.block k hk (fun e => hn (by rw [e]))⟩ (.inr hob)
      have hN1 : Net w1 p N := hNr.fr hfr (by have := h.blk.lt; omega) (by have := h.grp.lt; omega) (by omega) (fun x hx => by have := (h.body x hx).lt; omega)
      have hb1 : Below w.heap.size w w1 := hbel.trans (hfr.below (by omega) (fun k hk => by omega))
      have hle1 := hit1.le
      have hrow : ∀ g, (Value.slice A n c).ownBlock = some g → w.heap.size ≤ g := fun g hg => (hown.lt g hg).1
      have HR := Lib.hid hrow; clear hrow
      have HF := Lib.hid hfr; clear hfr
      have HS := Lib.hid hsz1; clear hsz1
      have hw1 : w.heap.size ≤ w1.heap.size := hb1.size
      have hr1 := hit1.lt
      go_wp2_with (at_builtin; refine wpList_append_any _ rfl _ _ _ rfl w.heap.size 2 (.int .i64 0) 1 8 Try.underlying46 info2 rfl (by omega) (.slice A n c) n (idsV d) rfl (hown1.alloc _) _ (some ⟨w1.heap.size, 0, none⟩) 1 1 [.int .i64 xi] rfl (Reads.newS _ [.int .i64 xi] 2 (0, 0) 1 1 rfl _ rfl) (by simp [Value.oneCell']) (by simp only [maxLen]; omega) (by omega) (by simp; omega) ?_; intro A2 c2 w2 hown2 hgr hat)
      go_roundw
      case rel =>
        have hrow := HR.out
        refine ⟨d ++ [(xi, xp)], A2, c2, n + 1, by simp [HN.out], rfl, by simpa [idsV] using hown2, ?_, ?_, ?_, ?_⟩
        · rcases hat with e | e
          · rw [e]; exact hob
          · rw [e]; simp; omega
        · exact (hit1.alloc _).grown hgr (fun e => by have := hrow _ e.symm; omega) (fun e => hob e.symm)
        · exact (hN1.alloc _).fr (S := (w.heap.size ≤ ·)) ⟨hgr.os, hgr.tape, hgr.output, hgr.size, fun k hk hn => hgr.block k hk (fun e => hn (hrow k e.symm))⟩ (by have := h.blk.lt; omega) (by have := h.grp.lt; omega) (by omega) (fun x hx => by have := (h.body x hx).lt; omega)
        · exact (hb1.alloc hw1 _).grown hgr (by simp; omega) hrow
      case measure =>
        have := HN.out
        simp [slen] at hle1 ⊢
        omega
end Go.Proofs.Ytgjkahndclijgaa

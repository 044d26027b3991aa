import Derived.Test.YtgjkahndclijgaaRef1
namespace Go.Proofs.Ytgjkahndclijgaa
open Go.RowKit Go.Own

def rdel (l : List It) (id : Int) : List It := l.filter fun x => !(x.id == id)
theorem rdel_le (l : List It) (id : Int) : (rdel l id).length ≤ l.length := List.length_filter_le _ _
theorem rdel_step (l : List It) (id : Int) (k : Nat) (x : It) (h : l[k]? = some x) : rdel (l.take (k + 1)) id = rdel (l.take k) id ++ (if (x.id == id) = true then [] else [x]) := by
  obtain ⟨hk, rfl⟩ := List.getElem?_eq_some_iff.1 h
  rw [List.take_succ_eq_append_getElem hk]
  unfold rdel
  rw [List.filter_append]
  congr 1
  cases hh : (l[k].id == id) <;> simp [hh]
def withoutR (R : RefS) (A : Option Addr) (c : Nat) (id : Int) : RefS := { R with ia := A, ic := c, items := rdel R.items id }
def WithoutPost (R : RefS) (id : Int) (w : World) (e : Ending) (w' : World) : Prop := ∃ A c, e = .returned (rv (withoutR R A c id)) ∧ Reads w' (w.heap.size ≤ ·) 4 A (rdel R.items id).length (itcs (rdel R.items id)) ∧ Below w.heap.size w w'
set_option maxRecDepth 10000 in
set_option maxHeartbeats 1000000 in
theorem without_any (R : RefS) (B : Nat → Prop) (id : Int) (w : World) (h : Ref w B R) (hl : R.items.length ≤ 1000) :
    Calls Try.prog 43 #[rv R, .int .i64 id] w (WithoutPost R id w) := by
  have hits := (h.its.old (by omega)).more (B' := (· < w.heap.size)) (fun k hk => hk.2)
  have hsm := hits.plain (by omega)
  obtain ⟨i63, hi63, hi631⟩ := i63
  go_enter Try.func43, Try.ntmps43
  go_wp2
  go_loopw [5, 11] (fun v i wr => ∃ (k m : Nat) (A : Option Addr) (c : Nat), k ≤ R.items.length ∧ i = .int .i64 k ∧ m = (rdel (R.items.take k) id).length ∧ v = .slice A m c ∧ wr.ownsRow (w.heap.size + 2) 63 4 (.slice A m c) m (itcs (rdel (R.items.take k) id)) ∧
    Blk wr w.heap.size 40 #[.int .i64 R.n, .slice R.ga R.n R.gc, .slice R.ia R.items.length R.ic, .int .i64 R.next, .int .i64 R.sent, .int .i64 R.came, .int .i64 R.lost, .int .i64 R.dbl] ∧
    Blk wr (w.heap.size + 1) 40 #[.int .i64 0, .slice none 0 0, .slice none 0 0, .int .i64 0, .int .i64 0, .int .i64 0, .int .i64 0, .int .i64 0] ∧ Below w.heap.size w wr) (fun _ i _ => R.items.length - (intOf i).toNat)
  case atStart => exact ⟨0, 0, none, 0, Nat.zero_le _, rfl, rfl, rfl, World.ownsRow_nil _ _ _ _, (by simpa using (Blk.new w 40 _).alloc _), (by simpa using Blk.new (w.alloc _) 40 _), ((Below.refl _ _).alloc (Nat.le_refl _) _).alloc (by simp) _⟩
  case round =>
    obtain ⟨k, m, A, c, hk, rfl, hm, rfl, hown, hb0, hb1, hbel⟩ := hrel
    have hsz := hbel.size
    have hml : m ≤ 1000 := by rw [hm]; exact Nat.le_trans (rdel_le _ _) (by simp; omega)
    have HM := Lib.hid hm; clear hm
    obtain ⟨b0lt, b0c, b0f⟩ := hb0.facts
    obtain ⟨b1lt, b1c, b1f⟩ := hb1.facts
    by_cases hlt : k < R.items.length
    · have hlt' : (k : Int) < R.items.length := by omega
      obtain ⟨x, hgx⟩ : ∃ x, R.items[k]? = some x := ⟨_, List.getElem?_eq_getElem hlt⟩
      have hR := hits.below hbel (fun _ h => h)
      have hix := fun W => run_indexAt2 (P := Try.prog) Try.underlying38 hi63 hi631 hsm R.ic k hlt W
      have c0 : wr.cell? ⟨bk R.ia, ofs R.ia + k * 4, none⟩ = some (.int .i64 x.id) := (hR.cell2 (k * 4 + 0) (by omega) (by omega)).trans (itcs_get _ _ _ _ hgx (by omega))
      have c1 : wr.cell? ⟨bk R.ia, ofs R.ia + k * 4 + 1, none⟩ = some (.int .i64 x.frm) := (hR.cell2 (k * 4 + 1) (by omega) (by omega)).trans (itcs_get _ _ _ _ hgx (by omega))
      have c2 : wr.cell? ⟨bk R.ia, ofs R.ia + k * 4 + 2, none⟩ = some (.int .i64 x.to) := (hR.cell2 (k * 4 + 2) (by omega) (by omega)).trans (itcs_get _ _ _ _ hgx (by omega))
      have c3 : wr.cell? ⟨bk R.ia, ofs R.ia + k * 4 + 3, none⟩ = some (.slice x.A x.n x.c) := (hR.cell2 (k * 4 + 3) (by omega) (by omega)).trans (itcs_get _ _ _ _ hgx (by omega))
      have hstep := Lib.hid (rdel_step R.items id k x hgx)
      cases hne : (x.id == id) with
      | true =>
        have hne2 : (x.id != id) = false := by simp [bne, hne]
        have HS := Lib.hid (show rdel (R.items.take (k + 1)) id = rdel (R.items.take k) id by have := hstep.out; rw [hne] at this; simpa using this)
        clear hits hgx h hR hstep
        go_wp2
        go_roundw
        case rel => exact ⟨k + 1, m, A, c, by omega, by go_num, by rw [HS.out]; exact HM.out, rfl, by rw [HS.out]; exact hown.alloc _, hb0.alloc _, hb1.alloc _, hbel.alloc hsz _⟩
        case measure => simp [intOf]; omega
      | false =>
        have hne2 : (x.id != id) = true := by simp [bne, hne]
        have HS := Lib.hid (show rdel (R.items.take (k + 1)) id = rdel (R.items.take k) id ++ [x] by have := hstep.out; rw [hne] at this; simpa using this)
        clear hits hgx h hR hstep
        go_wp2_with (at_builtin; refine wpList_append_any _ rfl _ _ _ rfl (w.heap.size + 2) 63 _ 4 48 Try.underlying38 info63 rfl (by omega) (.slice A m c) m (itcs (rdel (R.items.take k) id)) rfl ((hown.alloc _).alloc _) _ (some ⟨wr.heap.size + 1, 0, none⟩) 1 1 (itc x) rfl (Reads.newS _ (itc x) 63 (0, 0) 1 4 rfl _ (by simp)) (by intro u hu; exact itcs_one [x] u (by simpa [itcs] using hu)) (by simp only [maxLen]; omega) (by omega) (by simp; omega) ?_; intro A2 c2 w2 hown2 hgr hat)
        go_roundw
        case rel =>
          have hrow : ∀ g, (Value.slice A m c).ownBlock = some g → w.heap.size + 2 ≤ g := fun g hg => (hown.lt g hg).1
          refine ⟨k + 1, m + 1, A2, c2, by omega, by go_num, ?_, rfl, ?_, ?_, ?_, ?_⟩
          · rw [HS.out, List.length_append, ← HM.out]; rfl
          · rw [HS.out, itcs_append]; simpa [itcs] using hown2
          · exact ((hb0.alloc _).alloc _).grown hgr (fun e => by have := hrow _ e.symm; omega)
          · exact ((hb1.alloc _).alloc _).grown hgr (fun e => by have := hrow _ e.symm; omega)
          · exact ((hbel.alloc hsz _).alloc (by simp; omega) _).grown hgr (by simp; omega) (fun g hg => by have := hrow g hg; omega)
        case measure => simp [intOf]; omega
    · have hge : ¬ ((k : Int) < R.items.length) := by omega
      have hkk : k = R.items.length := by omega
      have HT := Lib.hid (show R.items.take k = R.items from List.take_of_length_le (by omega))
      clear hits h hkk
      go_wp2
      have hm' := HM.out
      rw [HT.out] at hown hm'
      subst hm'
      refine bodyPost_ret (v := rv (withoutR R A c id)) (by simp [results, Try.results43, go_sem, b1c, withoutR]) rfl ⟨A, c, rfl, ?_, ?_⟩
      · have hr := (Reads.of_own hown).more (B' := fun k => w.heap.size + 2 ≤ k) (fun k hk => (hown.lt k hk).1)
        have n0 : ∀ i u W, Reads W (fun k => w.heap.size + 2 ≤ k) 4 A (rdel R.items id).length (itcs (rdel R.items id)) → Reads (W.setCell ⟨w.heap.size, i, none⟩ u) (fun k => w.heap.size + 2 ≤ k) 4 A (rdel R.items id).length (itcs (rdel R.items id)) := fun i u W h => h.setCell (by simp) u
        have n1 : ∀ i u W, Reads W (fun k => w.heap.size + 2 ≤ k) 4 A (rdel R.items id).length (itcs (rdel R.items id)) → Reads (W.setCell ⟨w.heap.size + 1, i, none⟩ u) (fun k => w.heap.size + 2 ≤ k) 4 A (rdel R.items id).length (itcs (rdel R.items id)) := fun i u W h => h.setCell (by simp) u
        exact Reads.more (n1 _ _ _ (n1 _ _ _ (n1 _ _ _ (n1 _ _ _ (n1 _ _ _ (n1 _ _ _ (n1 _ _ _ (n1 _ _ _ (n0 _ _ _ hr))))))))) (fun k hk => by omega)
      · exact (((((((((hbel.setCell (by simp) _).setCell (by simp) _).setCell (by simp) _).setCell (by simp) _).setCell (by simp) _).setCell (by simp) _).setCell (by simp) _).setCell (by simp) _).setCell (by simp) _)
end Go.Proofs.Ytgjkahndclijgaa

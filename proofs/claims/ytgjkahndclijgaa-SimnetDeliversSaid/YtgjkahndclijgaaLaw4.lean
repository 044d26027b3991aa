import Derived.Test.YtgjkahndclijgaaLaw3
import Derived.Deep.LoopGhost
namespace Go.Proofs.Ytgjkahndclijgaa
set_option linter.unusedVariables false
open Go.RowKit Go.Own
theorem le_of_lt_up : ∀ {l : List Int}, l.Pairwise (· < ·) → l.Pairwise (fun a b => decide (a ≤ b) = true)
  | [], _ => List.Pairwise.nil
  | x :: r, h => by
    rw [List.pairwise_cons] at h ⊢
    exact ⟨fun y hy => by have := h.1 y hy; simp; omega, le_of_lt_up h.2⟩
theorem srt_eq {d l : List Int} (h : d.Perm l) (hl : l.Pairwise (· < ·)) : srt d = l := by
  have h1 : (srt d).Pairwise (fun a b => decide (a ≤ b) = true) := List.pairwise_mergeSort (fun a b c => by simp; omega) (fun a b => by simp; omega) d
  have h2 : l.Pairwise (fun a b => decide (a ≤ b) = true) := by
    exact le_of_lt_up hl
  exact List.Perm.eq_of_pairwise (fun a b _ _ hab hba => by simp at hab hba; omega) h1 h2 ((srt_perm d).trans h)
def delI (N : NetS) (l : List (Int × Pk)) : List (Int × Pk) := l.filter fun x => conB N.groups x.2.frm x.2.to
def NetIds (p : Nat) (N : NetS) (xs : List Int) (w : World) (e : Ending) (w' : World) : Prop := ∃ A c, e = .returned (.slice A xs.length c) ∧ Reads w' (w.heap.size ≤ ·) 1 A xs.length (xs.map (Value.int .i64)) ∧ Net w' p N ∧ Below w.heap.size w w'
theorem pending_ids (p : Nat) (N : NetS) (w : World) (h : Net w p N) (hl : N.items.length ≤ 1000) (hup : (N.items.map (·.1)).Pairwise (· < ·)) :
    Calls Try.prog 18 #[.pointer (some ⟨p, 0, none⟩)] w (NetIds p N (N.items.map (·.1)) w) := by
  refine (pending_any p N w h hl).mono ?_
  rintro e w' ⟨A, c, d, rfl, hp, hown, hn, hb⟩
  rw [srt_eq hp hup] at hown
  have e1 : (N.items.map (·.1)).length = N.items.length := by simp
  refine ⟨A, c, by rw [e1], ?_, hn, hb⟩
  rw [e1]
  exact (Reads.of_own hown).more (fun k hk => (hown.lt k hk).1)
theorem netFr {w W W' : World} {p : Nat} {N : NetS} (h : Net w p N) (hN : Net W p N) {S : Nat → Prop} (hf : Fr S W W') (hS : ∀ k, S k → w.heap.size ≤ k) : Net W' p N :=
  hN.fr hf (fun hs => by have := hS _ hs; have := h.blk.lt; omega) (fun hs => by have := hS _ hs; have := h.grp.lt; omega) (fun hs => by have := hS _ hs; have := h.map.lt; omega) (fun x hx hs => by have := hS _ hs; have := (h.body x hx).lt; omega)
theorem own_drewN {w : World} {base : Nat} {e : TypeId} {size n : Nat} {v : Value} {xs : List Value} (h : w.ownsRow base e size v n xs) (j : Nat) : (w.drewN j).ownsRow base e size v n xs := h
def DelPost (p : Nat) (N : NetS) (w : World) (e : Ending) (w' : World) : Prop :=
  ∃ A c n d, e = .returned (.slice A n c) ∧ n = d.length ∧ d.Perm ((delI N N.items).map (·.1)) ∧ Reads w' (w.heap.size ≤ ·) 1 A n ((srt d).map (Value.int .i64)) ∧ Net w' p N ∧ Below w.heap.size w w'
theorem connected_b (p : Nat) (a b : Int) (N : NetS) (w : World) (h : Net w p N) (q : Bool) (hq : conB N.groups a b = q) :
    Calls Try.prog 16 #[.pointer (some ⟨p, 0, none⟩), .int .i64 a, .int .i64 b] w fun e w' => e = .returned (.bool q) ∧ ∃ n, w' = w.drewN n := hq ▸ connected_any p a b N w h
abbrev pkA (x : Pk) : Array Value := #[.int .i64 x.frm, .int .i64 x.to, .slice (some ⟨x.bb, 0, none⟩) x.body.length x.body.length]
set_option maxRecDepth 10000 in
set_option maxHeartbeats 1000000 in
theorem deliverable_any (p : Nat) (N : NetS) (w : World) (h : Net w p N) (hl : N.items.length ≤ 1000) (hnd : (N.items.map (·.1)).Nodup) :
    Calls Try.prog 26 #[.pointer (some ⟨p, 0, none⟩)] w (DelPost p N w) := by
  obtain ⟨hlt, hc, -⟩ := h.blk.facts
  have hmap := h.map
  have hmlt := hmap.lt
  have hrg := fun (W : World) (h : MapB W N.m .i64 (itemsV N.items)) => run_rangeB (P := Try.prog) h Try.underlying50
  have HND := Lib.hid hnd; clear hnd
  go_enter Try.func26, Try.ntmps26
  go_wp2
  go_loopg [3] N.items.length (fun gk v wr => ∃ (d : List (Int × Pk)) (A : Option Addr) (c n : Nat), gk + d.length = N.items.length ∧ n = (delI N d).length ∧ v = Value.slice A n c ∧ wr.ownsRow (w.heap.size + 1) 2 1 (Value.slice A n c) n (idsV (delI N d)) ∧ IterA wr N.m w.heap.size .i64 fI N.items d ∧ Net wr p N ∧ Below w.heap.size w wr ∧ w.heap.size + 1 ≤ wr.heap.size)
  case atStart =>
    refine ⟨[], none, 0, 0, by simp, rfl, rfl, World.ownsRow_nil _ _ _ _, ?_, h.alloc _, (Below.refl _ _).alloc (Nat.le_refl _) _, by simp⟩
    exact IterA.start (w := w) (m := N.m) (q := .i64) (f := fI) (l := N.items) hmap
  case round =>
    obtain ⟨d, A, c, n, hgk, hn, rfl, hown, hit, hNr, hbel, hsz1⟩ := hrel
    have hsz := hbel.size
    have hle := hit.le
    have hn1 : n ≤ 1000 := by rw [hn]; exact Nat.le_trans (List.length_filter_le _ _) (by omega)
    have HN := Lib.hid hn; clear hn
    have HG := Lib.hid hgk; clear hgk
    have hrow : ∀ g, (Value.slice A n c).ownBlock = some g → w.heap.size + 1 ≤ g := fun g hg => (hown.lt g hg).1
    have HR := Lib.hid hrow; clear hrow
    clear hmap hrg
    go_wp2_with (at_next; refine wpList_nextB rfl _ rfl N.m w.heap.size .i64 fI N.items d rfl hit ?_ ?_)
    · intro hperm
      have hpd := hit.perm hperm HND.out
      have hp2 : ((delI N d).map (·.1)).Perm ((delI N N.items).map (·.1)) := ((hpd.filter _).map _)
      have hidsd : idsV (delI N d) = ((delI N d).map (·.1)).map (Value.int .i64) := by simp [idsV]
      have hnl : n = ((delI N d).map (·.1)).length := by rw [HN.out]; simp
      have HP := Lib.hid hp2; clear hp2 hperm hpd
      rw [hidsd] at hown
      have HI := Lib.hid hidsd; clear hidsd
      have HL := Lib.hid hnl; clear hnl
      go_wp2_with fail
      refine (sort_own (w.heap.size + 1) A n c _ wr hown (by omega)).mono ?_
      rintro e w1 ⟨rfl, hown1, hgr1⟩
      have hrow := HR.out
      go_wp2
      go_ret
      refine ⟨A, c, n, (delI N d).map (·.1), rfl, HL.out, HP.out, (Reads.of_own hown1).more (fun k hk => by have := (hown1.lt k hk).1; omega), ?_, ?_⟩
      · exact netFr h hNr (S := (w.heap.size ≤ ·)) ⟨hgr1.os, hgr1.tape, hgr1.output, hgr1.size, fun k hk hn => hgr1.block k hk (fun e => hn (by have := hrow k e.symm; omega))⟩ (fun _ h => h)
      · exact hbel.grown hgr1 hsz (fun g hg => by have := hrow g hg; omega)
    · intro xi xp w1 hx hit1 hfr hsz1 hen
      simp only [fI, pv] at hen ⊢
      have hown1 : w1.ownsRow (w.heap.size + 1) 2 1 (.slice A n c) n (idsV (delI N d)) := hown.kept (row := some w.heap.size) ⟨hfr.os, hfr.tape, hfr.output, hfr.size, fun k hk hn => hfr.block k hk (fun e => hn (by rw [e]))⟩ (.inr (fun e => by have := HR.out _ e; omega))
      have hN1 : Net w1 p N := netFr h hNr hfr (fun k hk => by omega)
      have hb1 : Below w.heap.size w w1 := hbel.trans (hfr.below (by omega) (fun k hk => by omega))
      have hle1 := hit1.le
      have HF := Lib.hid hfr; clear hfr
      have HS := Lib.hid hsz1; clear hsz1
      have hw1 : w.heap.size ≤ w1.heap.size := hb1.size
      have hr1 := hit1.lt
      cases hcb : conB N.groups xp.frm xp.to with
      | true =>
        have HC := Lib.hid (connected_b p xp.frm xp.to N (w1.alloc (.cells (pkA xp) 31)) (hN1.alloc _) true hcb)
        have HD : Hid (delI N (d ++ [(xi, xp)]) = delI N d ++ [(xi, xp)]) := by
          show _ = _
          simp [delI, hcb]
        clear hcb
        go_wp2_with (first
          | (go_at_call 16; ((with_reducible refine HC.out.mono ?_); rintro e w2 ⟨rfl, j, rfl⟩))
          | (at_builtin; refine wpList_append_any _ rfl _ _ _ rfl (w.heap.size + 1) 2 (.int .i64 0) 1 8 Try.underlying46 info2 rfl (by omega) (.slice A n c) n (idsV (delI N d)) rfl (own_drewN ((hown1.alloc _).alloc _) j) _ (some ⟨w1.heap.size + 1, 0, none⟩) 1 1 [.int .i64 xi] rfl (Reads.drewN (Reads.newS _ [.int .i64 xi] 2 (0, 0) 1 1 rfl _ (by simp)) j) (by simp [Value.oneCell']) (by simp only [maxLen]; omega) (by omega) (by simp; omega) ?_; intro A2 c2 w2 hown2 hgr hat))
        have hgk := HG.out
        have hlen1 : d.length + 1 ≤ N.items.length := by simpa using hle1
        go_roundg (gk - 1)
        case measure => omega
        case rel =>
          have hrow := HR.out
          refine ⟨d ++ [(xi, xp)], A2, c2, n + 1, by simp; omega, by rw [HD.out, List.length_append, ← HN.out]; rfl, rfl, by rw [HD.out]; simpa [idsV] using hown2, ?_, ?_, ?_, ?_⟩
          · exact (((hit1.alloc _).alloc _).drewN j).grown hgr (fun e => by have := hrow _ e.symm; omega) (fun e => by have := hrow _ e.symm; omega)
          · exact netFr h (((hN1.alloc _).alloc _).drewN j) (S := (w.heap.size ≤ ·)) ⟨hgr.os, hgr.tape, hgr.output, hgr.size, fun k hk hn => hgr.block k hk (fun e => hn (by have := hrow k e.symm; omega))⟩ (fun _ h => h)
          · exact (below_drewN ((hb1.alloc hw1 _).alloc (by simp; omega) _) j).grown hgr (by simp; omega) (fun g hg => by have := hrow g hg; omega)
          · have := hgr.size; simp at this; omega
      | false =>
        have HC := Lib.hid (connected_b p xp.frm xp.to N (w1.alloc (.cells (pkA xp) 31)) (hN1.alloc _) false hcb)
        have HD : Hid (delI N (d ++ [(xi, xp)]) = delI N d) := by
          show _ = _
          simp [delI, hcb]
        clear hcb
        go_wp2_with (
          (go_at_call 16; ((with_reducible refine HC.out.mono ?_); rintro e w2 ⟨rfl, j, rfl⟩)))
        have hgk := HG.out
        have hlen1 : d.length + 1 ≤ N.items.length := by simpa using hle1
        go_roundg (gk - 1)
        case measure => omega
        case rel =>
          refine ⟨d ++ [(xi, xp)], A, c, n, by simp; omega, by rw [HD.out]; exact HN.out, rfl, by rw [HD.out]; exact own_drewN (hown1.alloc _) j, (hit1.alloc _).drewN j, (hN1.alloc _).drewN j, below_drewN (hb1.alloc hw1 _) j, ?_⟩
          simp; omega
theorem nodup_up : ∀ {l : List Int}, l.Pairwise (· < ·) → l.Nodup
  | [], _ => List.nodup_nil
  | x :: r, h => by
    rw [List.pairwise_cons] at h
    rw [List.nodup_cons]
    exact ⟨fun hx => by have := h.1 x hx; omega, nodup_up h.2⟩
theorem deliverable_ids (p : Nat) (N : NetS) (w : World) (h : Net w p N) (hl : N.items.length ≤ 1000) (hup : (N.items.map (·.1)).Pairwise (· < ·)) :
    Calls Try.prog 26 #[.pointer (some ⟨p, 0, none⟩)] w (NetIds p N ((delI N N.items).map (·.1)) w) := by
  refine (deliverable_any p N w h hl (nodup_up hup)).mono ?_
  rintro e w' ⟨A, c, n, d, rfl, hn, hp, hr, hN, hb⟩
  have hup2 : ((delI N N.items).map (·.1)).Pairwise (· < ·) := hup.sublist (List.Sublist.map (fun x : Int × Pk => x.1) List.filter_sublist)
  rw [srt_eq hp hup2] at hr
  have e1 : n = ((delI N N.items).map (·.1)).length := by rw [hn, hp.length_eq]
  subst e1
  exact ⟨A, c, rfl, hr, hN, hb⟩
end Go.Proofs.Ytgjkahndclijgaa

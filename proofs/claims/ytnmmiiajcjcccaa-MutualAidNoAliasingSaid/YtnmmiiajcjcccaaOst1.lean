import Derived.Test.YtnmmiiajcjcccaaItk
import Derived.Test.YtnmmiiajcjcccaaBk5
namespace Go.Proofs.Ytnmmiiajcjcccaa
set_option linter.unusedVariables false
open Go.RowKit Go.Own Go.Quo Go.Aid
theorem info56 : (Try.prog.info? 56).map (fun i => (i.zero, i.size, i.bytes)) = some (some (.agg #[.int .i64 0, .int .i64 0, .int .i64 0]), 3, 24) := by kernel_rfl
theorem own_shape {w : World} {base : Nat} {e : TypeId} {size n : Nat} {v : Value} {xs : List Value} (h : w.ownsRow base e size v n xs) : ∃ A c, v = .slice A n c := by
  rcases h.2 with ⟨e1, e2⟩ | ⟨g, cap, cur, e1, _⟩
  · subst e2; exact ⟨none, 0, e1⟩
  · exact ⟨_, _, e1⟩
theorem own_base {w : World} {base base' : Nat} {e : TypeId} {size n : Nat} {v : Value} {xs : List Value} (h : w.ownsRow base e size v n xs) (hb : base' ≤ base) : w.ownsRow base' e size v n xs := by
  refine ⟨h.1, ?_⟩
  rcases h.2 with h | ⟨g, cap, cur, e1, e2, e3⟩
  · exact .inl h
  · exact .inr ⟨g, cap, cur, e1, Nat.le_trans hb e2, e3⟩
def OutPost (l : List Ln) (w : World) (e : Ending) (w' : World) : Prop :=
  ∃ A c, e = .returned (.slice A l.length c) ∧ w'.ownsRow w.heap.size 56 3 (.slice A l.length c) l.length (l.flatMap lnL) ∧ Below w.heap.size w w'
theorem sorted_keys {ls now : List Ln} (hp : ls.Perm now) (hs : now.Pairwise (fun a b => a.u < b.u)) {ss : List Int} (hss : ss.Perm ((ls.map lnKV).map (·.1))) :
    ss.mergeSort (fun x y => decide (x ≤ y)) = now.map (·.u) := by
  have h1 : (ls.map lnKV).map (·.1) = ls.map (·.u) := by rw [List.map_map]; rfl
  rw [h1] at hss
  have hsrt : (ss.mergeSort (fun x y => decide (x ≤ y))).Pairwise (fun a b => a ≤ b) := by
    have := List.pairwise_mergeSort (le := fun x y : Int => decide (x ≤ y)) (fun a b c h1 h2 => by simp only [decide_eq_true_eq] at *; omega) (fun a b => by simp only [Bool.or_eq_true, decide_eq_true_eq]; omega) ss
    exact this.imp (fun h => by simpa using h)
  refine List.Perm.eq_of_pairwise (le := fun a b : Int => a ≤ b) (fun a b _ _ h1 h2 => by omega) hsrt ?_ ?_
  · rw [List.pairwise_map]; exact hs.imp (fun h => by omega)
  · exact (List.mergeSort_perm _ _).trans (hss.trans (hp.map _))
theorem kget_at {ls now : List Ln} (hp : ls.Perm now) (hnd : (now.map (·.u)).Nodup) {x : Ln} (hx : x ∈ now) : kget (ls.map lnKV) x.u = some (lnV x) := by
  have hxl : x ∈ ls := hp.mem_iff.2 hx
  obtain ⟨l, hl, hlu, hk⟩ := kget_some (hasU_iff.2 ⟨x, hxl, rfl⟩)
  have : l = x := by
    have hl' := hp.mem_iff.1 hl
    obtain ⟨i, hi, rfl⟩ := List.mem_iff_getElem.1 hl'
    obtain ⟨j, hj, rfl⟩ := List.mem_iff_getElem.1 hx
    have h3 : (now.map (·.u))[i]'(by simpa using hi) = (now.map (·.u))[j]'(by simpa using hj) := by simpa using hlu
    have hij : i = j := by
      rw [List.Nodup, List.pairwise_iff_getElem] at hnd
      rcases (by omega : i < j ∨ i = j ∨ j < i) with h1 | h1 | h1
      · exact absurd h3 (hnd i j (by simpa using hi) (by simpa using hj) h1)
      · exact h1
      · exact absurd h3.symm (hnd j i (by simpa using hj) (by simpa using hi) h1)
    subst hij; rfl
  rw [hk, this]
set_option maxRecDepth 10000 in
set_option maxHeartbeats 4000000 in
theorem out_any (p m g : Nat) (s : LSt) (ls : List Ln) (w : World) (h : Led w p m g s ls) (hsr : s.now.Pairwise (fun a b => a.u < b.u)) (hwf : ∀ x ∈ s.now, (Lit.int .i64 x.u).wf = true) (hl : s.now.length ≤ 1000) :
    Calls Try.prog 28 #[.pointer (some ⟨p, 0, none⟩)] w (OutPost s.now w) := by
  obtain ⟨npm, npg, nmg, hpl, hml, hgl⟩ := h.ne
  obtain ⟨q0, q1, q2⟩ := h.pb.facts
  have hnd : (s.now.map (·.u)).Nodup := by
    rw [List.Nodup, List.pairwise_map]
    exact hsr.imp (fun hab e => by omega)
  have hpm := h.pm
  have hmb := h.mb
  have hpb := h.pb
  clear h
  generalize s.now = now at *
  have HPm := Lib.hid hpm
  have HMb := Lib.hid hmb
  have HPb := Lib.hid hpb
  have HNd := Lib.hid hnd
  have HSr := Lib.hid hsr
  have HS := Lib.hid (sorted_call hmb (by rw [List.map_map]; exact (hpm.map _).nodup_iff.2 hnd) (fun q hq => by
    obtain ⟨x, hx, rfl⟩ := List.mem_map.1 hq
    exact hwf x (hpm.mem_iff.1 hx)) (by have := hpm.length_eq; simp; omega))
  have HK := Lib.hid fun W => keys_call (some m) W
  clear hpm hmb hpb hnd hsr hwf
  go_enter Try.func28, Try.ntmps28
  go_wp2_with (first
    | (go_at_call 44; ((with_reducible refine (HK.out _).mono ?_); rintro e w3 ⟨rfl, rfl⟩))
    | (go_at_call 43; ((with_reducible refine HS.out.mono ?_); rintro e w3 ⟨v, ss, rfl, hss, hown, hB3⟩; obtain ⟨A9, c9, rfl⟩ := own_shape hown)))
  have hsl : ss.length = now.length := by have e1 : ss.length = ls.length := by simpa using hss.length_eq
                                          exact e1.trans (HPm.out.length_eq)
  rw [sorted_keys HPm.out HSr.out hss, hsl] at hown
  rw [hsl]
  have hF3 : Fr (fun _ => False) w w3 := ((Fr.refl (fun _ => False) w).alloc (.cells #[.map (some m)] 70)).trans (Fr.of_below ((show Below (w.alloc (.cells #[.map (some m)] 70)).heap.size _ _ by simpa using hB3)))
  have b3 : Below w.heap.size w w3 := hF3.below (Nat.le_refl _) (fun _ _ => id)
  have rms3 := Lib.hid (((Reads.of_own hown).old (by omega)).more (B' := fun k => k < w3.heap.size) (fun k hk => hk.2))
  have hpl9 := rms3.out.plain (by omega)
  have HP3 := Lib.hid (HPb.out.below b3 hpl)
  have HM3 := Lib.hid (HMb.out.fr hF3 id)
  have hgl3 := b3.size
  clear hss HS HK hown HPb HMb hB3 hF3 q0 q1 q2
  go_loopw [3, 13] (fun va vi wr => ∃ (k : Nat) (A : Option Addr) (c : Nat), k ≤ now.length ∧ vi = .int .i64 k ∧ va = .slice A k c ∧ wr.ownsRow w3.heap.size 56 3 (.slice A k c) k ((now.take k).flatMap lnL) ∧ Below w3.heap.size w3 wr) (fun _ vi _ => now.length - (intOf vi).toNat)
  case atStart => exact ⟨0, none, 0, Nat.zero_le _, rfl, rfl, by simpa using World.ownsRow_nil _ _ _ _, Below.refl _ _⟩
  case round =>
    obtain ⟨k, A, c, hk, rfl, rfl, hown, hbel⟩ := hrel
    by_cases hlt : k < now.length
    · have hlt' : (k : Int) < now.length := by omega
      obtain ⟨x, hx⟩ : ∃ x, now[k]? = some x := ⟨_, List.getElem?_eq_getElem hlt⟩
      have hix := fun W => ix22 hpl9 c9 k hlt W
      have hcell : wr.cell? ⟨bk A9, ofs A9 + k, none⟩ = some (.int .i64 x.u) := by
        have := (rms3.out.below hbel (fun _ h => h)).cell2 k (by omega) (by omega)
        rw [this]; simp [hx]
      have hkg := kget_at HPm.out HNd.out (List.mem_of_getElem? hx)
      obtain ⟨kv, hkv⟩ : ∃ kv, ls.map lnKV = kv := ⟨_, rfl⟩
      have hm5 := HM3.out.fr (Fr.of_below hbel) (S := fun _ => False) id
      rw [hkv] at hm5 hkg
      have hlk : ∀ W : World, MapB W m .i64 kv → (Instr.lookup 70 (.map (some m)) (.int .i64 x.u) false).run Try.prog W = .ok (.agg #[.int .i64 x.f, .int .i64 x.t, .int .i64 x.u]) W := fun W h => by
        have := MapB.lookup (P := Try.prog) h Try.underlying70 Try.underlying3 zero56 x.u false
        rw [hkg] at this
        simpa [lnV] using this
      obtain ⟨q0, q1, q2⟩ := (HP3.out.below hbel (by omega)).facts
      have HTk := Lib.hid (take_snoc hx)
      have HO := Lib.hid hown
      have HB := Lib.hid hbel
      have hsz := hbel.size
      clear hown hkg hkv hx hbel
      go_wp2_with (at_builtin; refine wpList_append_any _ rfl _ _ _ rfl w3.heap.size 56 _ 3 24 Try.underlying59 info56 rfl (by omega) (.slice A k c) k ((now.take k).flatMap lnL) rfl (HO.out.alloc _) _ (some ⟨wr.heap.size, 0, none⟩) 1 1 [.int .i64 x.f, .int .i64 x.t, .int .i64 x.u] rfl (Reads.newS wr [.int .i64 x.f, .int .i64 x.t, .int .i64 x.u] 56 (0, 0) 1 3 rfl _ rfl) (by simp [Value.oneCell']) (by simp only [maxLen]; omega) (by omega) (by simp; omega) ?_; intro A2 c2 w2 hown hgr hat)
      refine ⟨⟨k + 1, A2, c2, by omega, by go_num, rfl, ?_, ?_⟩, by simp [intOf]; omega⟩
      · rw [HTk.out, List.flatMap_append]; exact hown
      · exact Below.grown (HB.out.alloc hsz _) hgr (by simp; omega) (fun j hj => (HO.out.lt j hj).1)
    · have hlt' : ¬ (k : Int) < now.length := by omega
      have he : k = now.length := by omega
      subst he
      rw [List.take_length] at hown
      go_wp2_with fail
      go_ret
      exact ⟨A, c, rfl, own_base hown (by omega), b3.trans (hbel.mono hgl3)⟩
end Go.Proofs.Ytnmmiiajcjcccaa

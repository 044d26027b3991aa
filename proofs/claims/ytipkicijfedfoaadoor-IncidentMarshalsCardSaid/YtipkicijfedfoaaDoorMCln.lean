import Derived.Test.YtipkicijfedfoaaDoorMGD
import Derived.Test.YtipkicijfedfoaaDoorMGF
namespace Go.Proofs.YtipkicijfedfoaaDoor
set_option linter.unusedVariables false
open Go.RowKit Go.Own Go.Quo Go.Inc
set_option maxRecDepth 10000 in
set_option maxHeartbeats 2000000 in
theorem clone68 (B : Nat → Prop) (A : Option Addr) (c : Nat) (l : List Int) (w : World) (h : RI w B A l) (hl : l.length ≤ 100000) : Calls Tryd.prog 68 #[.slice A l.length c] w (RowPost l 3 w) := by
  have HR := Lib.hid h
  have hnil1 : ∀ (n c : Nat) (W : World), (binOp .eql 22 (.slice none n c) (.slice none 0 0)).run Tryd.prog W = .ok (.bool true) W := fun _ _ _ => by rfl
  have hnil2 : ∀ (a : Addr) (n c : Nat) (W : World), (binOp .eql 22 (.slice (some a) n c) (.slice none 0 0)).run Tryd.prog W = .ok (.bool false) W := fun _ _ _ _ => by rfl
  have ho := World.ownsRow_made (base := w.heap.size) (e := 3) (size := 1) w #[] 0 (Nat.le_refl _) (by simp) (by simp)
  have HO := Lib.hid ho
  have HB := Lib.hid ((Below.refl w.heap.size w).alloc (Nat.le_refl _) (.cells #[] 3))
  clear ho
  cases A with
  | none =>
    have h0 : l = [] := by
      rcases Nat.eq_zero_or_pos l.length with h0 | h0
      · exact List.eq_nil_of_length_eq_zero h0
      · obtain ⟨ad, e, _⟩ := h.2 h0; cases e
    subst h0
    clear h
    go_enter Tryd.func68, Tryd.ntmps68
    go_wp2_with fail
    go_ret
    exact ⟨none, 0, rfl, World.ownsRow_nil _ _ _ _, Below.refl _ _⟩
  | some ad =>
    have HR1 := Lib.hid (HR.out.alloc (.cells #[] 3))
    clear h
    go_enter Tryd.func68, Tryd.ntmps68
    go_wp2_with (at_builtin; refine wpList_append_any _ rfl _ _ _ rfl w.heap.size 3 _ 1 8 Tryd.underlying22 info3 rfl (by omega) (.slice (some ⟨w.heap.size, 0, none⟩) 0 0) 0 [] rfl HO.out _ (some ad) l.length c (l.map (Value.int .i64)) rfl HR1.out (by intro u hu; obtain ⟨x, -, rfl⟩ := List.mem_map.1 hu; rfl) (by simp only [maxLen]; omega) (by omega) (by simp) ?_; intro A2 c2 w2 hown hgr hat)
    go_ret
    have hown2 : w2.ownsRow w.heap.size 3 1 (.slice A2 l.length c2) l.length (l.map (Value.int .i64)) := by simpa using hown
    refine ⟨A2, c2, by simp, hown2, ?_⟩
    exact Below.grown HB.out hgr (by simp) (fun j hj => by simp [Value.ownBlock] at hj; omega)
set_option maxRecDepth 10000 in
set_option maxHeartbeats 2000000 in
theorem clone74 (B : Nat → Prop) (A : Option Addr) (c : Nat) (l : List Int) (w : World) (h : RI w B A l) (hl : l.length ≤ 100000) : Calls Tryd.prog 74 #[.slice A l.length c] w (RowPost l 2 w) := by
  have HR := Lib.hid h
  have hnil1 : ∀ (n c : Nat) (W : World), (binOp .eql 23 (.slice none n c) (.slice none 0 0)).run Tryd.prog W = .ok (.bool true) W := fun _ _ _ => by rfl
  have hnil2 : ∀ (a : Addr) (n c : Nat) (W : World), (binOp .eql 23 (.slice (some a) n c) (.slice none 0 0)).run Tryd.prog W = .ok (.bool false) W := fun _ _ _ _ => by rfl
  have ho := World.ownsRow_made (base := w.heap.size) (e := 2) (size := 1) w #[] 0 (Nat.le_refl _) (by simp) (by simp)
  have HO := Lib.hid ho
  have HB := Lib.hid ((Below.refl w.heap.size w).alloc (Nat.le_refl _) (.cells #[] 2))
  clear ho
  cases A with
  | none =>
    have h0 : l = [] := by
      rcases Nat.eq_zero_or_pos l.length with h0 | h0
      · exact List.eq_nil_of_length_eq_zero h0
      · obtain ⟨ad, e, _⟩ := h.2 h0; cases e
    subst h0
    clear h
    go_enter Tryd.func74, Tryd.ntmps74
    go_wp2_with fail
    go_ret
    exact ⟨none, 0, rfl, World.ownsRow_nil _ _ _ _, Below.refl _ _⟩
  | some ad =>
    have HR1 := Lib.hid (HR.out.alloc (.cells #[] 2))
    clear h
    go_enter Tryd.func74, Tryd.ntmps74
    go_wp2_with (at_builtin; refine wpList_append_any _ rfl _ _ _ rfl w.heap.size 2 _ 1 8 Tryd.underlying23 info2 rfl (by omega) (.slice (some ⟨w.heap.size, 0, none⟩) 0 0) 0 [] rfl HO.out _ (some ad) l.length c (l.map (Value.int .i64)) rfl HR1.out (by intro u hu; obtain ⟨x, -, rfl⟩ := List.mem_map.1 hu; rfl) (by simp only [maxLen]; omega) (by omega) (by simp) ?_; intro A2 c2 w2 hown hgr hat)
    go_ret
    have hown2 : w2.ownsRow w.heap.size 2 1 (.slice A2 l.length c2) l.length (l.map (Value.int .i64)) := by simpa using hown
    refine ⟨A2, c2, by simp, hown2, ?_⟩
    exact Below.grown HB.out hgr (by simp) (fun j hj => by simp [Value.ownBlock] at hj; omega)
/-- where a number first is -/
def idxI (l : List Int) (n : Int) : Int := match l.findIdx? (fun x => x == n) with | some k => (k : Int) | none => -1
theorem idxI_some {l : List Int} {n : Int} {k : Nat} (hk : k < l.length) (h : gd l k = n) (hb : ∀ i, i < k → gd l i ≠ n) : idxI l n = k := by
  unfold idxI
  have : l.findIdx? (fun x => x == n) = some k := by
    rw [List.findIdx?_eq_some_iff_getElem]
    refine ⟨hk, ?_, fun i hi => ?_⟩
    · rw [gd_get hk] at h; simpa using h
    · have := hb i hi; rw [gd_get (by omega)] at this; simpa using this
  rw [this]
theorem idxI_none {l : List Int} {n : Int} (hb : ∀ i, i < l.length → gd l i ≠ n) : idxI l n = -1 := by
  unfold idxI
  have : l.findIdx? (fun x => x == n) = none := by
    rw [List.findIdx?_eq_none_iff]
    intro x hx
    obtain ⟨i, hi, rfl⟩ := List.mem_iff_getElem.1 hx
    have := hb i hi; rw [gd_get hi] at this; simpa using this
  rw [this]
theorem idxI_has (l : List Int) (n : Int) : decide (0 ≤ idxI l n) = hasB l n := by
  cases h : l.findIdx? (fun x => x == n) with
  | none =>
    have e : idxI l n = -1 := by unfold idxI; rw [h]
    rw [e]
    have : ∀ j, j < l.length → gd l j ≠ n := fun j hj => by
      rw [List.findIdx?_eq_none_iff] at h
      have := h (l[j]) (List.getElem_mem hj)
      rw [gd_get hj]; simpa using this
    rw [has_no this]; rfl
  | some k =>
    have e : idxI l n = k := by unfold idxI; rw [h]
    rw [e]
    rw [List.findIdx?_eq_some_iff_getElem] at h
    obtain ⟨h1, h2, -⟩ := h
    have : hasB l n = true := (has_iff l n).2 ⟨k, h1, by rw [gd_get h1]; simpa using h2⟩
    rw [this]; simp
set_option maxHeartbeats 2000000 in
theorem index73 (B : Nat → Prop) (A : Option Addr) (c : Nat) (l : List Int) (n : Int) (w : World) (h : RI w B A l) (hl : l.length ≤ 100000) : Calls Tryd.prog 73 #[.slice A l.length c, .int .i64 n] w (fun e w' => e = .returned (.int .i64 (idxI l n)) ∧ w' = w) := by
  have hp := h.plain (by omega)
  have HR := Lib.hid h
  clear h
  go_enter Tryd.func73, Tryd.ntmps73
  go_wp2_with fail
  go_loopw [8] (fun vi wr => ∃ (k : Nat), k ≤ l.length ∧ vi = .int .i64 k ∧ (∀ i, i < k → gd l i ≠ n) ∧ wr = w) (fun vi _ => l.length - (intOf vi).toNat)
  case atStart => exact ⟨0, Nat.zero_le _, rfl, fun i hi => by omega, rfl⟩
  case round =>
    obtain ⟨k, hk, rfl, hz, rfl⟩ := hrel
    have HZ := Lib.hid hz
    clear hz
    by_cases hlt : k < l.length
    · have hlt' : (k : Int) < l.length := by omega
      have hix := fun W => ix23 hp c k hlt W
      have hc := ri_cell HR.out hlt
      by_cases h0 : gd l k = n
      · have HF := Lib.hid (idxI_some hlt h0 HZ.out)
        rw [h0] at hc
        clear h0
        go_wp2_with fail
        go_ret
        exact ⟨by rw [HF.out]; rfl, rfl⟩
      · have HF := Lib.hid (show ∀ i, i < k + 1 → gd l i ≠ n from fun i hi => by
          rcases (by omega : i < k ∨ i = k) with e | rfl
          · exact HZ.out i e
          · exact h0)
        generalize gd l k = v at *
        have d0 : (n == v) = false := by simpa using fun e : n = v => h0 e.symm
        clear h0
        go_wp2_with fail
        exact ⟨⟨k + 1, by omega, by go_num, HF.out, (by first | rfl | trivial)⟩, by simp [intOf]; omega⟩
    · have hlt' : ¬ (k : Int) < l.length := by omega
      obtain rfl : k = l.length := by omega
      have HF := Lib.hid (idxI_none HZ.out)
      go_wp2_with fail
      go_ret
      exact ⟨by rw [HF.out]; rfl, rfl⟩
set_option maxHeartbeats 1000000 in
theorem contains41 (B : Nat → Prop) (A : Option Addr) (c : Nat) (l : List Int) (n : Int) (w : World) (h : RI w B A l) (hl : l.length ≤ 100000) : Calls Tryd.prog 41 #[.slice A l.length c, .int .i64 n] w (BoolIs (hasB l n) w) := by
  have HI := Lib.hid (index73 B A c l n w h hl)
  rw [← idxI_has]
  clear h
  generalize idxI l n = v at *
  go_enter Tryd.func41, Tryd.ntmps41
  go_wp2_with (go_at_call 73; ((with_reducible refine HI.out.mono ?_); rintro e w3 ⟨rfl, rfl⟩))
  go_ret
  exact ⟨rfl, rfl⟩
set_option maxHeartbeats 2000000 in
theorem has45 (B : Nat → Prop) (A : Option Addr) (c : Nat) (l : List Int) (n : Int) (w : World) (h : RI w B A l) (hl : l.length ≤ 100000) : Calls Tryd.prog 45 #[.slice A l.length c, .int .i64 n] w (BoolIs (hasB l n) w) := by
  have hp := h.plain (by omega)
  have HR := Lib.hid h
  clear h
  go_enter Tryd.func45, Tryd.ntmps45
  go_wp2_with fail
  go_loopw [9] (fun vi wr => ∃ (k : Nat), k ≤ l.length ∧ vi = .int .i64 k ∧ (∀ i, i < k → gd l i ≠ n) ∧ wr = w) (fun vi _ => l.length - (intOf vi).toNat)
  case atStart => exact ⟨0, Nat.zero_le _, rfl, fun i hi => by omega, rfl⟩
  case round =>
    obtain ⟨k, hk, rfl, hz, rfl⟩ := hrel
    have HZ := Lib.hid hz
    clear hz
    by_cases hlt : k < l.length
    · have hlt' : (k : Int) < l.length := by omega
      have hix := fun W => ix22 hp c k hlt W
      have hc := ri_cell HR.out hlt
      by_cases h0 : gd l k = n
      · have HF := Lib.hid ((has_iff l n).2 ⟨k, hlt, h0⟩)
        rw [h0] at hc
        clear h0
        go_wp2_with fail
        go_ret
        exact ⟨by rw [HF.out]; rfl, rfl⟩
      · have HF := Lib.hid (show ∀ i, i < k + 1 → gd l i ≠ n from fun i hi => by
          rcases (by omega : i < k ∨ i = k) with e | rfl
          · exact HZ.out i e
          · exact h0)
        generalize gd l k = v at *
        have d0 : (v == n) = false := by simpa using h0
        clear h0
        go_wp2_with fail
        exact ⟨⟨k + 1, by omega, by go_num, HF.out, (by first | rfl | trivial)⟩, by simp [intOf]; omega⟩
    · have hlt' : ¬ (k : Int) < l.length := by omega
      obtain rfl : k = l.length := by omega
      have HF := Lib.hid (has_no HZ.out)
      go_wp2_with fail
      go_ret
      exact ⟨by rw [HF.out]; rfl, rfl⟩
theorem bothL_take (a b : List Int) {k : Nat} (hk : k < a.length) : bothL (a.take (k + 1)) b = if hasB b (gd a k) = true then bothL (a.take k) b ++ [gd a k] else bothL (a.take k) b := by
  unfold bothL
  rw [List.take_succ_eq_append_getElem hk, List.filter_append, gd_get hk]
  cases h : hasB b a[k] with
  | true => rw [List.filter_cons_of_pos (by simpa using h)]; simp
  | false => rw [List.filter_cons_of_neg (by simp only [h]; exact Bool.false_ne_true)]; simp
theorem bothL_len (a b : List Int) : (bothL a b).length ≤ a.length := List.length_filter_le _ _
set_option maxRecDepth 10000 in
set_option maxHeartbeats 4000000 in
theorem both20 (B : Nat → Prop) (A A2 : Option Addr) (c c2 : Nat) (a b : List Int) (w : World) (h : RI w B A a) (h2 : RI w B A2 b) (hla : a.length ≤ 100000) (hlb : b.length ≤ 100000) :
    Calls Tryd.prog 20 #[.slice A a.length c, .slice A2 b.length c2] w (RowPost (bothL a b) 3 w) := by
  have hp := h.plain (by omega)
  have HR := Lib.hid ((h.old (by omega)).more (B' := fun k => k < w.heap.size) (fun k hk => hk.2))
  have HR2 := Lib.hid ((h2.old (by omega)).more (B' := fun k => k < w.heap.size) (fun k hk => hk.2))
  clear h h2
  go_enter Tryd.func20, Tryd.ntmps20
  go_wp2_with fail
  go_loopw [5, 10] (fun va vi wr => ∃ (k : Nat) (A' : Option Addr) (c' n : Nat), k ≤ a.length ∧ vi = .int .i64 k ∧ n = (bothL (a.take k) b).length ∧ va = .slice A' n c' ∧ wr.ownsRow w.heap.size 3 1 (.slice A' n c') n ((bothL (a.take k) b).map (Value.int .i64)) ∧ Below w.heap.size w wr) (fun _ vi _ => a.length - (intOf vi).toNat)
  case atStart => exact ⟨0, none, 0, 0, Nat.zero_le _, rfl, rfl, rfl, World.ownsRow_nil _ _ _ _, Below.refl _ _⟩
  case round =>
    obtain ⟨k, A', c', n, hk, rfl, hn, rfl, hown, hbel⟩ := hrel
    have HO := Lib.hid hown
    have HB := Lib.hid hbel
    have HN := Lib.hid hn
    have hnk : n ≤ 100000 := by have := bothL_len (a.take k) b; rw [List.length_take] at this; omega
    by_cases hlt : k < a.length
    · have hlt' : (k : Int) < a.length := by omega
      have hix := fun W => ix22 hp c k hlt W
      have hc := ri_cell (HR.out.below hbel (fun _ h => h)) hlt
      have HTk := Lib.hid (bothL_take a b hlt)
      have hsz := hbel.size
      have HH := Lib.hid (has45 _ A2 c2 b (gd a k) wr (HR2.out.below hbel (fun _ h => h)) hlb)
      clear hown hbel hn
      generalize gd a k = v at *
      cases hq : hasB b v with
      | true =>
        rw [hq] at HH HTk
        go_wp2_with (first | (go_at_call 45; ((with_reducible refine HH.out.mono ?_); rintro e w3 ⟨rfl, rfl⟩)) | (at_builtin; refine wpList_append_any _ rfl _ _ _ rfl w.heap.size 3 _ 1 8 Tryd.underlying22 info3 rfl (by omega) (.slice A' n c') n ((bothL (a.take k) b).map (Value.int .i64)) rfl (HO.out.alloc _) _ (some ⟨w3.heap.size, 0, none⟩) 1 1 [.int .i64 v] rfl (Reads.newS w3 [.int .i64 v] 3 (0, 0) 1 1 rfl _ rfl) (by simp [Value.oneCell']) (by simp only [maxLen]; omega) (by omega) (by simp; omega) ?_; intro A3 c3 w4 hown hgr hat))
        refine ⟨⟨k + 1, A3, c3, n + 1, by omega, by go_num, by rw [HTk.out]; simp [HN.out], rfl, ?_, ?_⟩, by simp [intOf]; omega⟩
        · rw [HTk.out]; simpa using hown
        · exact Below.grown (HB.out.alloc hsz _) hgr (by simp; omega) (fun j hj => (HO.out.lt j hj).1)
      | false =>
        rw [hq] at HH HTk
        go_wp2_with (go_at_call 45; ((with_reducible refine HH.out.mono ?_); rintro e w3 ⟨rfl, rfl⟩))
        refine ⟨⟨k + 1, A', c', n, by omega, by go_num, by rw [HTk.out]; simpa using HN.out, rfl, ?_, HB.out⟩, by simp [intOf]; omega⟩
        rw [HTk.out]; simpa using HO.out
    · have hlt' : ¬ (k : Int) < a.length := by omega
      have he : k = a.length := by omega
      subst he
      rw [List.take_length] at hown hn
      subst hn
      clear HO HN
      have HO := Lib.hid hown
      clear hown
      go_wp2_with fail
      go_ret
      exact ⟨A', c', rfl, HO.out, HB.out⟩
end Go.Proofs.YtipkicijfedfoaaDoor

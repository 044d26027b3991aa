import Derived.Test.YtipkicijfedfoaaDoorMGH
import Derived.Deep.DeepCutAuto
namespace Go.Proofs.YtipkicijfedfoaaDoor
set_option linter.unusedVariables false
set_option linter.unusedSimpArgs false
open Go.RowKit Go.Own Go.Quo Go.Inc
theorem putK_eq {l : List Int} {n : Int} {k : Nat} (hk : k ≤ l.length) (h1 : ∀ i, i < k → gd l i < n) (h2 : k < l.length → ¬ gd l k < n) : putK l n = k := by
  unfold putK
  have e : (l.take k ++ l.drop k) = l := List.take_append_drop k l
  rw [← e, List.takeWhile_append_of_pos (fun a ha => by
    obtain ⟨i, hi, rfl⟩ := List.mem_iff_getElem.1 ha
    have hi2 : i < k := by rw [List.length_take] at hi; omega
    have := h1 i hi2
    rw [gd_get (by omega)] at this
    simpa using this)]
  have h3 : (l.drop k).takeWhile (fun a => decide (a < n)) = [] := by
    rcases Nat.lt_or_ge k l.length with h | h
    · rw [List.drop_eq_getElem_cons h]
      have := h2 h
      rw [gd_get h] at this
      rw [List.takeWhile_cons, if_neg (by simpa using this)]
    · rw [List.drop_eq_nil_of_le h]; rfl
  rw [h3, List.append_nil, List.length_take]
  omega
theorem run_hi23 {A : Option Addr} {n c k : Nat} (hk : k ≤ c) (W : World) : (Instr.slice 23 (.slice A n c) none (some (.int .i64 (k : Int))) none).run Tryd.prog W = .ok (.slice A k c) W := by
  have hu : Tryd.prog.underlying 23 = some (.slice (Tryd.prog.elem 23)) := by kernel_rfl
  have he : Tryd.prog.elem 23 = 2 := by kernel_rfl
  rw [run_slice_h W 23 A n c hu .i64 (k : Int) (by omega) (by omega), he, Tryd.sizeOf2]
  cases A with
  | none => simp [sliced, Result.andThen]
  | some a => simp [sliced, Result.andThen, Addr.add]
theorem run_hi23b {A : Option Addr} {n c k : Nat} (hk : k ≤ c) (W : World) : (Instr.sliceAt 23 (.slice A n c) none (some (.int .i64 (k : Int))) none).run Tryd.prog W = .ok (.slice A k c) W := by
  have hu : Tryd.prog.underlying 23 = some (.slice (Tryd.prog.elem 23)) := by kernel_rfl
  rw [run_sliceAt_slice W 23 _ _ _ _ hu]
  exact run_hi23 hk W
def cutA (A : Option Addr) (c k : Nat) : Option Addr := if c = k then A else A.map (·.add (k * 1))
theorem run_lo23 {A : Option Addr} {n c k : Nat} (hk : k ≤ n) (W : World) : (Instr.slice 23 (.slice A n c) (some (.int .i64 (k : Int))) none none).run Tryd.prog W = .ok (.slice (cutA A c k) (n - k) (c - k)) W := by
  have hu : Tryd.prog.underlying 23 = some (.slice (Tryd.prog.elem 23)) := by kernel_rfl
  have he : Tryd.prog.elem 23 = 2 := by kernel_rfl
  rw [run_slice_l W 23 A n c hu .i64 (k : Int) (by omega) (by omega), he, Tryd.sizeOf2]
  simp [sliced, cutA, Result.andThen]
theorem run_lo23b {A : Option Addr} {n c k : Nat} (hk : k ≤ n) (W : World) : (Instr.sliceAt 23 (.slice A n c) (some (.int .i64 (k : Int))) none none).run Tryd.prog W = .ok (.slice (cutA A c k) (n - k) (c - k)) W := by
  have hu : Tryd.prog.underlying 23 = some (.slice (Tryd.prog.elem 23)) := by kernel_rfl
  rw [run_sliceAt_slice W 23 _ _ _ _ hu]
  exact run_lo23 hk W
theorem putL_length (l : List Int) (n : Int) : (putL l n).length = l.length + 1 := by
  have := (putL_perm l n).length_eq; simpa using this
theorem Reads.front1 {w : World} {B : Nat → Prop} {A : Option Addr} {l : List Int} (h : RI w B A l) {k : Nat} (hk : k ≤ l.length) : RI w B A (l.take k) := by
  refine ⟨by simp, fun h0 => ?_⟩
  have h1 : 0 < l.length := by rw [List.length_take] at h0; omega
  obtain ⟨ad, e, hb, hc⟩ := h.2 h1
  refine ⟨ad, e, hb, fun j u hu => hc j u ?_⟩
  rw [← hu]
  have hj : j < k := by
    have := (List.getElem?_eq_some_iff.1 hu).1
    simp at this; omega
  rw [List.map_take, List.getElem?_take_of_lt hj]
def PutPost (l : List Int) (n : Int) (A : Option Addr) (c : Nat) (w : World) (e : Ending) (w' : World) : Prop :=
  if putK l n < l.length ∧ gd l (putK l n) = n then e = .returned (.tuple #[.slice A l.length c, .bool false]) ∧ w' = w
  else ∃ A' c', e = .returned (.tuple #[.slice A' (putL l n).length c', .bool true]) ∧ w'.ownsRow w.heap.size 2 1 (.slice A' (putL l n).length c') (putL l n).length ((putL l n).map (Value.int .i64)) ∧ Below w.heap.size w w'
set_option maxRecDepth 10000 in
set_option maxHeartbeats 4000000 in
theorem put87 (B : Nat → Prop) (A : Option Addr) (c : Nat) (l : List Int) (n : Int) (w : World) (h : RI w B A l) (hc : l.length ≤ c) (hl : l.length ≤ 100000) :
    Calls Tryd.prog 87 #[.slice A l.length c, .int .i64 n] w (PutPost l n A c w) := by
  have hp := h.plain (by omega)
  have HR := Lib.hid h
  clear h
  go_enter Tryd.func87, Tryd.ntmps87
  go_wp2_with fail
  go_loopw [6] (fun vi wr => ∃ (k : Nat), k ≤ l.length ∧ vi = .int .i64 (k : Int) ∧ (∀ i, i < k → gd l i < n) ∧ wr = w) (fun vi _ => l.length - (intOf vi).toNat)
  case atStart => exact ⟨0, Nat.zero_le _, rfl, fun i hi => by omega, rfl⟩
  case round =>
    obtain ⟨k, hk, rfl, hv, rfl⟩ := hrel
    have HV := Lib.hid hv
    clear hv
    by_cases hlt : k < l.length
    · have hlt' : (k : Int) < l.length := by omega
      have dlt : decide ((k : Int) < l.length) = true := by simpa using hlt
      have hix := fun W => ix23 hp c k hlt W
      have hc1 : wr.cell? ⟨bk A, ofs A + k, none⟩ = some (.int .i64 (gd l k)) := by
        have := HR.out.cell2 k (by omega) (by omega); rw [this]; simp [gd_get hlt, hlt]
      by_cases hq : gd l k < n
      · have dq : decide (gd l k < n) = true := by simpa using hq
        have HV2 := Lib.hid (show ∀ i, i < k + 1 → gd l i < n from fun i hi => by
          rcases (by omega : i < k ∨ i = k) with e | rfl
          · exact HV.out i e
          · exact hq)
        go_wp2_with fail
        exact ⟨⟨k + 1, by omega, by go_num, HV2.out, by first | rfl | trivial⟩, by simp [intOf]; omega⟩
      · have dq : decide (gd l k < n) = false := by simpa using hq
        have HK := Lib.hid (putK_eq hk HV.out (fun _ => hq))
        by_cases he : gd l k = n
        · have de : (gd l k == n) = true := by simpa using he
          go_wp2_with fail
          go_ret2
          unfold PutPost
          rw [if_pos (by rw [HK.out]; exact ⟨hlt, he⟩)]
          exact ⟨rfl, rfl⟩
        · have de : (gd l k == n) = false := by simpa using he
          have hne := he
          have ho := World.ownsRow_made (base := wr.heap.size) (e := 2) (size := 1) wr #[] 0 (Nat.le_refl _) (by simp) (by simp)
          have HO0 := Lib.hid ho
          have HB1 := Lib.hid ((Below.refl wr.heap.size wr).alloc (Nat.le_refl _) (.cells #[] 2))
          have HR0 := Lib.hid ((HR.out.old (by omega)).more (B' := fun j => j < wr.heap.size) (fun j hj => hj.2))
          have HRf := Lib.hid (show Reads (wr.alloc (.cells #[] 2)) (fun j => j < wr.heap.size) 1 A k ((l.take k).map (Value.int .i64)) by
            have := Reads.front1 (HR0.out.alloc (.cells #[] 2)) hk
            unfold RI at this
            rw [List.length_take, Nat.min_eq_left hk] at this
            exact this)
          have hh1 := fun W => run_hi23 (A := A) (n := l.length) (k := k) (c := c) (by omega) W
          have hh2 := fun W => run_hi23b (A := A) (n := l.length) (k := k) (c := c) (by omega) W
          have hl1 := fun W => run_lo23 (A := A) (n := l.length) (k := k) (c := c) hk W
          have hl2 := fun W => run_lo23b (A := A) (n := l.length) (k := k) (c := c) hk W
          have HKK := Lib.hid HK.out
          clear ho HK
          go_upto_region 7 with (at_builtin; refine wpList_append_any _ rfl _ _ _ rfl wr.heap.size 2 _ 1 8 Tryd.underlying23 info2 rfl (by omega) (.slice (some ⟨wr.heap.size, 0, none⟩) 0 0) 0 [] rfl HO0.out _ A k c ((l.take k).map (Value.int .i64)) rfl HRf.out (by intro u hu; obtain ⟨x, -, rfl⟩ := List.mem_map.1 hu; rfl) (by simp only [maxLen]; omega) (by omega) (by simp) ?_; intro A7 c7 w7 hown hgr hat; rw [Nat.zero_add] at hown ⊢; rw [List.nil_append] at hown; have HB7 := Lib.hid (Below.grown HB1.out hgr (by simp) (fun j hj => by simp [Value.ownBlock] at hj; omega)); have HR7 := Lib.hid (HR0.out.below HB7.out (fun j hj => hj)); have HB8 := Lib.hid (HB7.out.alloc HB7.out.size (.cells #[.int .i64 n] 2)); have HO8 := Lib.hid (own_below hown ((Below.refl w7.heap.size w7).alloc (Nat.le_refl _) (.cells #[.int .i64 n] 2)) (fun g hg => (hown.lt g hg).2)); have HN8 := Lib.hid (Reads.newS w7 [.int .i64 n] 2 (0, 0) 1 1 rfl _ rfl); have hz8 := HB8.out.size; clear hown hgr hat HO0 HRf)
          go_upto_region 8 with (at_builtin; refine wpList_append_any _ rfl _ _ _ rfl wr.heap.size 2 _ 1 8 Tryd.underlying23 info2 rfl (by omega) (.slice A7 k c7) k ((l.take k).map (Value.int .i64)) rfl HO8.out _ (some ⟨w7.heap.size, 0, none⟩) 1 1 [.int .i64 n] rfl HN8.out (by simp [Value.oneCell']) (by simp only [maxLen]; omega) (by omega) hz8 ?_; intro A8 c8 w8 hown hgr hat; have HB9 := Lib.hid (Below.grown HB8.out hgr HB8.out.size (fun j hj => (HO8.out.lt j hj).1)); have HO9 := Lib.hid hown; have HC9 := Lib.hid ((HR7.out.alloc (.cells #[.int .i64 n] 2)).below (w' := w8) (Below.grown (Below.refl wr.heap.size _) hgr hz8 (fun j hj => (HO8.out.lt j hj).1)) (fun j hj => hj) |>.cut (k := k) (cap := c) hk hc); have hz9 := HB9.out.size; clear hown hgr hat)
          go_wp2_with (at_builtin; refine wpList_append_any _ rfl _ _ _ rfl wr.heap.size 2 _ 1 8 Tryd.underlying23 info2 rfl (by omega) (.slice A8 (k + 1) c8) (k + 1) _ rfl HO9.out _ (cutA A c k) (l.length - k) (c - k) ((l.map (Value.int .i64)).drop (k * 1)) rfl HC9.out (by intro u hu; obtain ⟨x, -, rfl⟩ := List.mem_map.1 (List.mem_of_mem_drop hu); rfl) (by simp only [maxLen]; omega) (by omega) hz9 ?_; intro A9 c9 w9 hown hgr hat; have HBz := Lib.hid (Below.grown HB9.out hgr HB9.out.size (fun j hj => (HO9.out.lt j hj).1)); have HOz := Lib.hid hown; clear hown hgr hat)
          go_ret2
          unfold PutPost
          rw [if_neg (by rw [HKK.out]; intro h; first | exact absurd h.1 hlt | exact hne h.2)]
          have hlen : k + 1 + (l.length - k) = (putL l n).length := by rw [putL_length]; omega
          have hlst : List.map (Value.int .i64) (List.take k l) ++ [Value.int .i64 n] ++ List.drop (k * 1) (List.map (Value.int .i64) l) = (putL l n).map (Value.int .i64) := by
            unfold putL; rw [HKK.out]; simp
          rw [← hlen]
          refine ⟨A9, c9, rfl, ?_, HBz.out⟩
          rw [← hlst]
          exact HOz.out
    · have hlt' : ¬ (k : Int) < l.length := by omega
      have dlt : decide ((k : Int) < l.length) = false := by simpa using hlt
      have HK := Lib.hid (putK_eq hk HV.out (fun h => absurd h hlt))
      have ho := World.ownsRow_made (base := wr.heap.size) (e := 2) (size := 1) wr #[] 0 (Nat.le_refl _) (by simp) (by simp)
      have HO0 := Lib.hid ho
      have HB1 := Lib.hid ((Below.refl wr.heap.size wr).alloc (Nat.le_refl _) (.cells #[] 2))
      have HR0 := Lib.hid ((HR.out.old (by omega)).more (B' := fun j => j < wr.heap.size) (fun j hj => hj.2))
      have HRf := Lib.hid (show Reads (wr.alloc (.cells #[] 2)) (fun j => j < wr.heap.size) 1 A k ((l.take k).map (Value.int .i64)) by
        have := Reads.front1 (HR0.out.alloc (.cells #[] 2)) hk
        unfold RI at this
        rw [List.length_take, Nat.min_eq_left hk] at this
        exact this)
      have hh1 := fun W => run_hi23 (A := A) (n := l.length) (k := k) (c := c) (by omega) W
      have hh2 := fun W => run_hi23b (A := A) (n := l.length) (k := k) (c := c) (by omega) W
      have hl1 := fun W => run_lo23 (A := A) (n := l.length) (k := k) (c := c) hk W
      have hl2 := fun W => run_lo23b (A := A) (n := l.length) (k := k) (c := c) hk W
      have HKK := Lib.hid HK.out
      clear ho HK
      go_upto_region 7 with (at_builtin; refine wpList_append_any _ rfl _ _ _ rfl wr.heap.size 2 _ 1 8 Tryd.underlying23 info2 rfl (by omega) (.slice (some ⟨wr.heap.size, 0, none⟩) 0 0) 0 [] rfl HO0.out _ A k c ((l.take k).map (Value.int .i64)) rfl HRf.out (by intro u hu; obtain ⟨x, -, rfl⟩ := List.mem_map.1 hu; rfl) (by simp only [maxLen]; omega) (by omega) (by simp) ?_; intro A7 c7 w7 hown hgr hat; rw [Nat.zero_add] at hown ⊢; rw [List.nil_append] at hown; have HB7 := Lib.hid (Below.grown HB1.out hgr (by simp) (fun j hj => by simp [Value.ownBlock] at hj; omega)); have HR7 := Lib.hid (HR0.out.below HB7.out (fun j hj => hj)); have HB8 := Lib.hid (HB7.out.alloc HB7.out.size (.cells #[.int .i64 n] 2)); have HO8 := Lib.hid (own_below hown ((Below.refl w7.heap.size w7).alloc (Nat.le_refl _) (.cells #[.int .i64 n] 2)) (fun g hg => (hown.lt g hg).2)); have HN8 := Lib.hid (Reads.newS w7 [.int .i64 n] 2 (0, 0) 1 1 rfl _ rfl); have hz8 := HB8.out.size; clear hown hgr hat HO0 HRf)
      go_upto_region 8 with (at_builtin; refine wpList_append_any _ rfl _ _ _ rfl wr.heap.size 2 _ 1 8 Tryd.underlying23 info2 rfl (by omega) (.slice A7 k c7) k ((l.take k).map (Value.int .i64)) rfl HO8.out _ (some ⟨w7.heap.size, 0, none⟩) 1 1 [.int .i64 n] rfl HN8.out (by simp [Value.oneCell']) (by simp only [maxLen]; omega) (by omega) hz8 ?_; intro A8 c8 w8 hown hgr hat; have HB9 := Lib.hid (Below.grown HB8.out hgr HB8.out.size (fun j hj => (HO8.out.lt j hj).1)); have HO9 := Lib.hid hown; have HC9 := Lib.hid ((HR7.out.alloc (.cells #[.int .i64 n] 2)).below (w' := w8) (Below.grown (Below.refl wr.heap.size _) hgr hz8 (fun j hj => (HO8.out.lt j hj).1)) (fun j hj => hj) |>.cut (k := k) (cap := c) hk hc); have hz9 := HB9.out.size; clear hown hgr hat)
      go_wp2_with (at_builtin; refine wpList_append_any _ rfl _ _ _ rfl wr.heap.size 2 _ 1 8 Tryd.underlying23 info2 rfl (by omega) (.slice A8 (k + 1) c8) (k + 1) _ rfl HO9.out _ (cutA A c k) (l.length - k) (c - k) ((l.map (Value.int .i64)).drop (k * 1)) rfl HC9.out (by intro u hu; obtain ⟨x, -, rfl⟩ := List.mem_map.1 (List.mem_of_mem_drop hu); rfl) (by simp only [maxLen]; omega) (by omega) hz9 ?_; intro A9 c9 w9 hown hgr hat; have HBz := Lib.hid (Below.grown HB9.out hgr HB9.out.size (fun j hj => (HO9.out.lt j hj).1)); have HOz := Lib.hid hown; clear hown hgr hat)
      go_ret2
      unfold PutPost
      rw [if_neg (by rw [HKK.out]; intro h; first | exact absurd h.1 hlt | exact hne h.2)]
      have hlen : k + 1 + (l.length - k) = (putL l n).length := by rw [putL_length]; omega
      have hlst : List.map (Value.int .i64) (List.take k l) ++ [Value.int .i64 n] ++ List.drop (k * 1) (List.map (Value.int .i64) l) = (putL l n).map (Value.int .i64) := by
        unfold putL; rw [HKK.out]; simp
      rw [← hlen]
      refine ⟨A9, c9, rfl, ?_, HBz.out⟩
      rw [← hlst]
      exact HOz.out
end Go.Proofs.YtipkicijfedfoaaDoor

namespace Go.Proofs.YtipkicijfedfoaaDoor
set_option linter.unusedVariables false
set_option linter.unusedSimpArgs false
open Go.RowKit Go.Own Go.Quo Go.Inc
theorem own_cap {w : World} {base : Nat} {t : TypeId} {A : Option Addr} {n c : Nat} {xs : List Value} (h : w.ownsRow base t 1 (.slice A n c) n xs) : n ≤ c := by
  rcases h.2 with ⟨hv, h0⟩ | ⟨g, cap, cur, hv, hb, hg, hnc, _⟩
  · omega
  · injection hv with _ _ h3; omega
def moreI (x : Ic) (c : Cr) : Ic := { furP x c with calls := putL x.calls c.call }
def hitB (l : List Int) (n : Int) : Prop := putK l n < l.length ∧ gd l (putK l n) = n
def MorePost (B : Nat → Prop) (x : Ic) (An Ac Au : Option Addr) (cn cc cu : Nat) (c : Cr) (w : World) (e : Ending) (w' : World) : Prop :=
  (hitB x.calls c.call ∧ e = .returned (.tuple #[.agg #[.int .i64 x.id, .int .i64 x.urg, .string x.code, .slice An x.nodes.length cn, .int .i64 x.dist, .int .i64 x.since, .slice Ac x.calls.length cc, .slice Au x.units.length cu, .int .i64 x.merged, .bool x.closed], .bool false]) ∧ Below w.heap.size w w') ∨
  (¬ hitB x.calls c.call ∧ ∃ (y : Ic) (An2 Ac2 : Option Addr) (cn2 cc2 : Nat), y = moreI x c ∧ e = .returned (.tuple #[.agg #[.int .i64 x.id, .int .i64 y.urg, .string y.code, .slice An2 y.nodes.length cn2, .int .i64 x.dist, .int .i64 y.since, .slice Ac2 y.calls.length cc2, .slice Au x.units.length cu, .int .i64 x.merged, .bool x.closed], .bool true]) ∧ RI w' (fun k => (B k ∨ w.heap.size ≤ k) ∧ k < w'.heap.size) An2 y.nodes ∧ RI w' (fun k => (B k ∨ w.heap.size ≤ k) ∧ k < w'.heap.size) Ac2 y.calls ∧ y.calls.length ≤ cc2 ∧ Below w.heap.size w w')
set_option maxRecDepth 10000 in
set_option maxHeartbeats 8000000 in
theorem more67 (B : Nat → Prop) (x : Ic) (An Ac Au : Option Addr) (cn cc cu : Nat) (t : Ca) (w : World) (hn : RI w B An x.nodes) (hc : RI w B Ac x.calls) (ht : RI w B t.A t.c.nodes) (hcap : x.calls.length ≤ cc) (ln : x.nodes.length ≤ 100000) (lc : x.calls.length ≤ 100000) (lt : t.c.nodes.length ≤ 100000) :
    Calls Tryd.prog 67 #[.agg #[.int .i64 x.id, .int .i64 x.urg, .string x.code, .slice An x.nodes.length cn, .int .i64 x.dist, .int .i64 x.since, .slice Ac x.calls.length cc, .slice Au x.units.length cu, .int .i64 x.merged, .bool x.closed], .agg #[.int .i64 t.c.call, .int .i64 t.c.inc, .int .i64 t.c.urg, .string t.c.code, .slice t.A t.c.nodes.length t.k, .int .i64 t.c.dist, .int .i64 t.c.since, .bool t.c.closed]] w (MorePost B x An Ac Au cn cc cu t.c w) := by
  have HN := Lib.hid ((hn.old (by omega)).more (B' := fun k => B k ∧ k < w.heap.size) (fun k hk => hk))
  have HC := Lib.hid ((hc.old (by omega)).more (B' := fun k => B k ∧ k < w.heap.size) (fun k hk => hk))
  have HR := Lib.hid ((ht.old (by omega)).more (B' := fun k => B k ∧ k < w.heap.size) (fun k hk => hk))
  have HB := Lib.hid ((((Below.refl w.heap.size w).alloc (Nat.le_refl _) (.cells #[.int .i64 x.id, .int .i64 x.urg, .string x.code, .slice An x.nodes.length cn, .int .i64 x.dist, .int .i64 x.since, .slice Ac x.calls.length cc, .slice Au x.units.length cu, .int .i64 x.merged, .bool x.closed] 25)).alloc (by simp) (.cells #[.int .i64 t.c.call, .int .i64 t.c.inc, .int .i64 t.c.urg, .string t.c.code, .slice t.A t.c.nodes.length t.k, .int .i64 t.c.dist, .int .i64 t.c.since, .bool t.c.closed] 27)).alloc (by simp; omega) (.cells #[.int .i64 0, .int .i64 0, .string ⟨#[]⟩, .slice none 0 0, .int .i64 0, .int .i64 0, .slice none 0 0, .slice none 0 0, .int .i64 0, .bool false] 25))
  have HX := Lib.hid (((Blk.new w 25 #[.int .i64 x.id, .int .i64 x.urg, .string x.code, .slice An x.nodes.length cn, .int .i64 x.dist, .int .i64 x.since, .slice Ac x.calls.length cc, .slice Au x.units.length cu, .int .i64 x.merged, .bool x.closed]).alloc (.cells #[.int .i64 t.c.call, .int .i64 t.c.inc, .int .i64 t.c.urg, .string t.c.code, .slice t.A t.c.nodes.length t.k, .int .i64 t.c.dist, .int .i64 t.c.since, .bool t.c.closed] 27)).alloc (.cells #[.int .i64 0, .int .i64 0, .string ⟨#[]⟩, .slice none 0 0, .int .i64 0, .int .i64 0, .slice none 0 0, .slice none 0 0, .int .i64 0, .bool false] 25))
  have HT := Lib.hid (show Blk (((w.alloc (.cells #[.int .i64 x.id, .int .i64 x.urg, .string x.code, .slice An x.nodes.length cn, .int .i64 x.dist, .int .i64 x.since, .slice Ac x.calls.length cc, .slice Au x.units.length cu, .int .i64 x.merged, .bool x.closed] 25)).alloc (.cells #[.int .i64 t.c.call, .int .i64 t.c.inc, .int .i64 t.c.urg, .string t.c.code, .slice t.A t.c.nodes.length t.k, .int .i64 t.c.dist, .int .i64 t.c.since, .bool t.c.closed] 27)).alloc (.cells #[.int .i64 0, .int .i64 0, .string ⟨#[]⟩, .slice none 0 0, .int .i64 0, .int .i64 0, .slice none 0 0, .slice none 0 0, .int .i64 0, .bool false] 25)) (w.heap.size + 1) 27 #[.int .i64 t.c.call, .int .i64 t.c.inc, .int .i64 t.c.urg, .string t.c.code, .slice t.A t.c.nodes.length t.k, .int .i64 t.c.dist, .int .i64 t.c.since, .bool t.c.closed] by
    have := (Blk.new (w.alloc (.cells #[.int .i64 x.id, .int .i64 x.urg, .string x.code, .slice An x.nodes.length cn, .int .i64 x.dist, .int .i64 x.since, .slice Ac x.calls.length cc, .slice Au x.units.length cu, .int .i64 x.merged, .bool x.closed] 25)) 27 #[.int .i64 t.c.call, .int .i64 t.c.inc, .int .i64 t.c.urg, .string t.c.code, .slice t.A t.c.nodes.length t.k, .int .i64 t.c.dist, .int .i64 t.c.since, .bool t.c.closed]).alloc (.cells #[.int .i64 0, .int .i64 0, .string ⟨#[]⟩, .slice none 0 0, .int .i64 0, .int .i64 0, .slice none 0 0, .slice none 0 0, .int .i64 0, .bool false] 25)
    simpa using this)
  have HY := Lib.hid (show Blk (((w.alloc (.cells #[.int .i64 x.id, .int .i64 x.urg, .string x.code, .slice An x.nodes.length cn, .int .i64 x.dist, .int .i64 x.since, .slice Ac x.calls.length cc, .slice Au x.units.length cu, .int .i64 x.merged, .bool x.closed] 25)).alloc (.cells #[.int .i64 t.c.call, .int .i64 t.c.inc, .int .i64 t.c.urg, .string t.c.code, .slice t.A t.c.nodes.length t.k, .int .i64 t.c.dist, .int .i64 t.c.since, .bool t.c.closed] 27)).alloc (.cells #[.int .i64 0, .int .i64 0, .string ⟨#[]⟩, .slice none 0 0, .int .i64 0, .int .i64 0, .slice none 0 0, .slice none 0 0, .int .i64 0, .bool false] 25)) (w.heap.size + 2) 25 #[.int .i64 0, .int .i64 0, .string ⟨#[]⟩, .slice none 0 0, .int .i64 0, .int .i64 0, .slice none 0 0, .slice none 0 0, .int .i64 0, .bool false] by
    have := Blk.new ((w.alloc (.cells #[.int .i64 x.id, .int .i64 x.urg, .string x.code, .slice An x.nodes.length cn, .int .i64 x.dist, .int .i64 x.since, .slice Ac x.calls.length cc, .slice Au x.units.length cu, .int .i64 x.merged, .bool x.closed] 25)).alloc (.cells #[.int .i64 t.c.call, .int .i64 t.c.inc, .int .i64 t.c.urg, .string t.c.code, .slice t.A t.c.nodes.length t.k, .int .i64 t.c.dist, .int .i64 t.c.since, .bool t.c.closed] 27)) 25 #[.int .i64 0, .int .i64 0, .string ⟨#[]⟩, .slice none 0 0, .int .i64 0, .int .i64 0, .slice none 0 0, .slice none 0 0, .int .i64 0, .bool false]
    simpa using this)
  have H87 := Lib.hid (put87 _ Ac cc x.calls t.c.call (((w.alloc (.cells #[.int .i64 x.id, .int .i64 x.urg, .string x.code, .slice An x.nodes.length cn, .int .i64 x.dist, .int .i64 x.since, .slice Ac x.calls.length cc, .slice Au x.units.length cu, .int .i64 x.merged, .bool x.closed] 25)).alloc (.cells #[.int .i64 t.c.call, .int .i64 t.c.inc, .int .i64 t.c.urg, .string t.c.code, .slice t.A t.c.nodes.length t.k, .int .i64 t.c.dist, .int .i64 t.c.since, .bool t.c.closed] 27)).alloc (.cells #[.int .i64 0, .int .i64 0, .string ⟨#[]⟩, .slice none 0 0, .int .i64 0, .int .i64 0, .slice none 0 0, .slice none 0 0, .int .i64 0, .bool false] 25)) (HC.out.below HB.out (fun j hj => hj.2)) hcap lc)
  obtain ⟨x0, x1, x2⟩ := HX.out.facts
  obtain ⟨y0, y1, y2⟩ := HT.out.facts
  clear hn hc ht
  by_cases hh : hitB x.calls t.c.call
  · have H := Lib.hid (show Calls Tryd.prog 87 #[.slice Ac x.calls.length cc, .int .i64 t.c.call] (((w.alloc (.cells #[.int .i64 x.id, .int .i64 x.urg, .string x.code, .slice An x.nodes.length cn, .int .i64 x.dist, .int .i64 x.since, .slice Ac x.calls.length cc, .slice Au x.units.length cu, .int .i64 x.merged, .bool x.closed] 25)).alloc (.cells #[.int .i64 t.c.call, .int .i64 t.c.inc, .int .i64 t.c.urg, .string t.c.code, .slice t.A t.c.nodes.length t.k, .int .i64 t.c.dist, .int .i64 t.c.since, .bool t.c.closed] 27)).alloc (.cells #[.int .i64 0, .int .i64 0, .string ⟨#[]⟩, .slice none 0 0, .int .i64 0, .int .i64 0, .slice none 0 0, .slice none 0 0, .int .i64 0, .bool false] 25)) (fun e w' => e = .returned (.tuple #[.slice Ac x.calls.length cc, .bool false]) ∧ w' = (((w.alloc (.cells #[.int .i64 x.id, .int .i64 x.urg, .string x.code, .slice An x.nodes.length cn, .int .i64 x.dist, .int .i64 x.since, .slice Ac x.calls.length cc, .slice Au x.units.length cu, .int .i64 x.merged, .bool x.closed] 25)).alloc (.cells #[.int .i64 t.c.call, .int .i64 t.c.inc, .int .i64 t.c.urg, .string t.c.code, .slice t.A t.c.nodes.length t.k, .int .i64 t.c.dist, .int .i64 t.c.since, .bool t.c.closed] 27)).alloc (.cells #[.int .i64 0, .int .i64 0, .string ⟨#[]⟩, .slice none 0 0, .int .i64 0, .int .i64 0, .slice none 0 0, .slice none 0 0, .int .i64 0, .bool false] 25))) from H87.out.mono (fun e w' h => by
      unfold PutPost at h
      rw [if_pos (show putK x.calls t.c.call < x.calls.length ∧ gd x.calls (putK x.calls t.c.call) = t.c.call from hh)] at h
      exact h))
    clear H87
    go_enter Tryd.func67, Tryd.ntmps67
    go_wp2_with (first
      | (go_at_call 87; ((with_reducible refine H.out.mono ?_); rintro e w4 ⟨rfl, rfl⟩))
      | (refine wpList_storeBlk rfl (.tmp 4) (.tmp 19) 25 rfl (w.heap.size + 2) 25 _ #[.int .i64 x.id, .int .i64 x.urg, .string x.code, .slice An x.nodes.length cn, .int .i64 x.dist, .int .i64 x.since, .slice Ac x.calls.length cc, .slice Au x.units.length cu, .int .i64 x.merged, .bool x.closed] _ 10 136 info25 rfl rfl rfl HY.out rfl (ten_one (by simp [Value.oneCell'])) ?_; intro w8 hb8 hf8 hs8))
    refine bodyPost_ret (results_ct (p := 4) (u := 5) (ty := 25) Tryd.results67 _ _ (w.heap.size + 2) 25 #[.int .i64 x.id, .int .i64 x.urg, .string x.code, .slice An x.nodes.length cn, .int .i64 x.dist, .int .i64 x.since, .slice Ac x.calls.length cc, .slice Au x.units.length cu, .int .i64 x.merged, .bool x.closed] (0, 0) _ rfl hb8 Tryd.underlying25 rfl size25) rfl ?_
    exact .inl ⟨hh, rfl, HB.out.trans (hf8.below HB.out.size (fun k hk e => by omega))⟩
  · have H := Lib.hid (show Calls Tryd.prog 87 #[.slice Ac x.calls.length cc, .int .i64 t.c.call] (((w.alloc (.cells #[.int .i64 x.id, .int .i64 x.urg, .string x.code, .slice An x.nodes.length cn, .int .i64 x.dist, .int .i64 x.since, .slice Ac x.calls.length cc, .slice Au x.units.length cu, .int .i64 x.merged, .bool x.closed] 25)).alloc (.cells #[.int .i64 t.c.call, .int .i64 t.c.inc, .int .i64 t.c.urg, .string t.c.code, .slice t.A t.c.nodes.length t.k, .int .i64 t.c.dist, .int .i64 t.c.since, .bool t.c.closed] 27)).alloc (.cells #[.int .i64 0, .int .i64 0, .string ⟨#[]⟩, .slice none 0 0, .int .i64 0, .int .i64 0, .slice none 0 0, .slice none 0 0, .int .i64 0, .bool false] 25)) (fun e w' => ∃ A' c', e = .returned (.tuple #[.slice A' (putL x.calls t.c.call).length c', .bool true]) ∧ w'.ownsRow (((w.alloc (.cells #[.int .i64 x.id, .int .i64 x.urg, .string x.code, .slice An x.nodes.length cn, .int .i64 x.dist, .int .i64 x.since, .slice Ac x.calls.length cc, .slice Au x.units.length cu, .int .i64 x.merged, .bool x.closed] 25)).alloc (.cells #[.int .i64 t.c.call, .int .i64 t.c.inc, .int .i64 t.c.urg, .string t.c.code, .slice t.A t.c.nodes.length t.k, .int .i64 t.c.dist, .int .i64 t.c.since, .bool t.c.closed] 27)).alloc (.cells #[.int .i64 0, .int .i64 0, .string ⟨#[]⟩, .slice none 0 0, .int .i64 0, .int .i64 0, .slice none 0 0, .slice none 0 0, .int .i64 0, .bool false] 25)).heap.size 2 1 (.slice A' (putL x.calls t.c.call).length c') (putL x.calls t.c.call).length ((putL x.calls t.c.call).map (Value.int .i64)) ∧ Below (((w.alloc (.cells #[.int .i64 x.id, .int .i64 x.urg, .string x.code, .slice An x.nodes.length cn, .int .i64 x.dist, .int .i64 x.since, .slice Ac x.calls.length cc, .slice Au x.units.length cu, .int .i64 x.merged, .bool x.closed] 25)).alloc (.cells #[.int .i64 t.c.call, .int .i64 t.c.inc, .int .i64 t.c.urg, .string t.c.code, .slice t.A t.c.nodes.length t.k, .int .i64 t.c.dist, .int .i64 t.c.since, .bool t.c.closed] 27)).alloc (.cells #[.int .i64 0, .int .i64 0, .string ⟨#[]⟩, .slice none 0 0, .int .i64 0, .int .i64 0, .slice none 0 0, .slice none 0 0, .int .i64 0, .bool false] 25)).heap.size (((w.alloc (.cells #[.int .i64 x.id, .int .i64 x.urg, .string x.code, .slice An x.nodes.length cn, .int .i64 x.dist, .int .i64 x.since, .slice Ac x.calls.length cc, .slice Au x.units.length cu, .int .i64 x.merged, .bool x.closed] 25)).alloc (.cells #[.int .i64 t.c.call, .int .i64 t.c.inc, .int .i64 t.c.urg, .string t.c.code, .slice t.A t.c.nodes.length t.k, .int .i64 t.c.dist, .int .i64 t.c.since, .bool t.c.closed] 27)).alloc (.cells #[.int .i64 0, .int .i64 0, .string ⟨#[]⟩, .slice none 0 0, .int .i64 0, .int .i64 0, .slice none 0 0, .slice none 0 0, .int .i64 0, .bool false] 25)) w') from H87.out.mono (fun e w' h => by
      unfold PutPost at h
      rw [if_neg (show ¬ (putK x.calls t.c.call < x.calls.length ∧ gd x.calls (putK x.calls t.c.call) = t.c.call) from hh)] at h
      exact h))
    clear H87
    go_enter Tryd.func67, Tryd.ntmps67
    go_upto_region 5 with (go_at_call 87; ((with_reducible refine H.out.mono ?_); rintro e w4 ⟨A4, c4, rfl, ho4, hb4⟩; have HO4 := Lib.hid ho4; have HX4 := Lib.hid (HX.out.below hb4 HX.out.lt); have HT4 := Lib.hid (HT.out.below hb4 HT.out.lt); have HY4 := Lib.hid (HY.out.below hb4 HY.out.lt); have HB4 := Lib.hid (HB.out.trans (hb4.mono HB.out.size)); clear ho4 hb4 x0 x1 x2 y0 y1 y2; obtain ⟨x0, x1, x2⟩ := HX4.out.facts; obtain ⟨y0, y1, y2⟩ := HT4.out.facts))
    have HX5 := Lib.hid (show Blk (w4.setCell ⟨w.heap.size, 6, none⟩ (.slice A4 (putL x.calls t.c.call).length c4)) w.heap.size 25 #[.int .i64 x.id, .int .i64 x.urg, .string x.code, .slice An x.nodes.length cn, .int .i64 x.dist, .int .i64 x.since, .slice A4 (putL x.calls t.c.call).length c4, .slice Au x.units.length cu, .int .i64 x.merged, .bool x.closed] by have := HX4.out.set_ 6 (.slice A4 (putL x.calls t.c.call).length c4); simpa using this)
    have HT5 := Lib.hid (HT4.out.far (p := ⟨w.heap.size, 6, none⟩) (by simp) (.slice A4 (putL x.calls t.c.call).length c4))
    have HY5 := Lib.hid (HY4.out.far (p := ⟨w.heap.size, 6, none⟩) (by simp) (.slice A4 (putL x.calls t.c.call).length c4))
    have HB5 := Lib.hid (HB4.out.setCell (p := ⟨w.heap.size, 6, none⟩) (Nat.le_refl _) (.slice A4 (putL x.calls t.c.call).length c4))
    have HN5 := Lib.hid (HN.out.below HB5.out (fun j hj => hj.2))
    have HR5 := Lib.hid (HR.out.below HB5.out (fun j hj => hj.2))
    have HL := Lib.hid (putL_length x.calls t.c.call)
    have HS4 := Lib.hid (show w.heap.size + 3 ≤ w4.heap.size by have := HY4.out.lt; omega)
    have HC4 := Lib.hid (own_cap HO4.out)
    have HO5 := Lib.hid ((ri_own HO4.out).more (B' := fun k => w.heap.size + 3 ≤ k) (fun k hk => by have h2 : (((w.alloc (.cells #[.int .i64 x.id, .int .i64 x.urg, .string x.code, .slice An x.nodes.length cn, .int .i64 x.dist, .int .i64 x.since, .slice Ac x.calls.length cc, .slice Au x.units.length cu, .int .i64 x.merged, .bool x.closed] 25)).alloc (.cells #[.int .i64 t.c.call, .int .i64 t.c.inc, .int .i64 t.c.urg, .string t.c.code, .slice t.A t.c.nodes.length t.k, .int .i64 t.c.dist, .int .i64 t.c.since, .bool t.c.closed] 27)).alloc (.cells #[.int .i64 0, .int .i64 0, .string ⟨#[]⟩, .slice none 0 0, .int .i64 0, .int .i64 0, .slice none 0 0, .slice none 0 0, .int .i64 0, .bool false] 25)).heap.size ≤ k := hk; simp at h2; omega) |>.setCell (p := ⟨w.heap.size, 6, none⟩) (by simp) (.slice A4 (putL x.calls t.c.call).length c4))
    have HS5 := Lib.hid (show w.heap.size + 3 ≤ (w4.setCell ⟨w.heap.size, 6, none⟩ (.slice A4 (putL x.calls t.c.call).length c4)).heap.size by have := HS4.out; simp; omega)
    clear HX4 HT4 HY4 HB4 HO4 HS4 x0 x1 x2 y0 y1 y2 HX HT HY HB H HN HR HC
    generalize w4.setCell _ _ = W5 at *
    obtain ⟨x0, x1, x2⟩ := HX5.out.facts
    obtain ⟨y0, y1, y2⟩ := HT5.out.facts
    go_upto_if 26 with (fail)
    go_cut [] (fun wx => Blk wx w.heap.size 25 #[.int .i64 x.id, .int .i64 (if t.c.urg < x.urg then t.c.urg else x.urg), .string (if t.c.urg < x.urg then t.c.code else x.code), .slice An x.nodes.length cn, .int .i64 x.dist, .int .i64 x.since, .slice A4 (putL x.calls t.c.call).length c4, .slice Au x.units.length cu, .int .i64 x.merged, .bool x.closed] ∧ Blk wx (w.heap.size + 1) 27 #[.int .i64 t.c.call, .int .i64 t.c.inc, .int .i64 t.c.urg, .string t.c.code, .slice t.A t.c.nodes.length t.k, .int .i64 t.c.dist, .int .i64 t.c.since, .bool t.c.closed] ∧ Fr (fun k => k = w.heap.size) W5 wx)
    case first =>
      by_cases hq : t.c.urg < x.urg
      · rw [decide_eq_true hq]
        have HU := Lib.hid hq
        have H1 := Lib.hid (show Blk ((W5.setCell ⟨w.heap.size, 1, none⟩ (.int .i64 t.c.urg)).setCell ⟨w.heap.size, 2, none⟩ (.string t.c.code)) w.heap.size 25 #[.int .i64 x.id, .int .i64 t.c.urg, .string t.c.code, .slice An x.nodes.length cn, .int .i64 x.dist, .int .i64 x.since, .slice A4 (putL x.calls t.c.call).length c4, .slice Au x.units.length cu, .int .i64 x.merged, .bool x.closed] by have := (HX5.out.set_ 1 (.int .i64 t.c.urg)).set_ 2 (.string t.c.code); simpa using this)
        have H2 := Lib.hid ((HT5.out.far (p := ⟨w.heap.size, 1, none⟩) (by simp) (.int .i64 t.c.urg)).far (p := ⟨w.heap.size, 2, none⟩) (by simp) (.string t.c.code))
        have H3 := Lib.hid (((Fr.refl (fun k => k = w.heap.size) W5).setCell (p := ⟨w.heap.size, 1, none⟩) (.inl rfl) (.int .i64 t.c.urg)).setCell (p := ⟨w.heap.size, 2, none⟩) (.inl rfl) (.string t.c.code))
        clear hq
        go_upto_region 6 with (fail)
        go_region_law (fail)
        all_goals
          go_wp2_with fail
          go_meet
          case rel => exact ⟨by rw [if_pos HU.out, if_pos HU.out]; exact H1.out, H2.out, H3.out.drew⟩
      · rw [decide_eq_false hq]
        have HU := Lib.hid hq
        clear hq
        go_wp2_with fail
        go_meet
        case rel => exact ⟨by rw [if_neg (by have := HU.out; omega), if_neg (by have := HU.out; omega)]; exact HX5.out, HT5.out, Fr.refl _ _⟩
    case rest =>
      obtain ⟨hx1, ht1, hf1⟩ := hcut
      have HF0 := Lib.hid (show (moreI x t.c).urg = (if t.c.urg < x.urg then t.c.urg else x.urg) from rfl)
      have HF1 := Lib.hid (show (moreI x t.c).code = (if t.c.urg < x.urg then t.c.code else x.code) from rfl)
      generalize huu : (if t.c.urg < x.urg then t.c.urg else x.urg) = uu at *
      generalize hss : (if t.c.urg < x.urg then t.c.code else x.code) = ss at *
      clear huu hss
      have HX6 := Lib.hid hx1
      have HT6 := Lib.hid ht1
      have HY6 := Lib.hid (HY5.out.fr hf1 (by omega))
      have HB6 := Lib.hid (HB5.out.trans (hf1.below (B := w.heap.size) (by have := HS5.out; omega) (fun k hk => by omega)))
      have HN6 := Lib.hid (HN5.out.fr hf1 (fun k hk => by omega))
      have HR6 := Lib.hid (HR5.out.fr hf1 (fun k hk => by omega))
      have HO6 := Lib.hid (HO5.out.fr hf1 (fun k hk => by omega))
      have HS6 := Lib.hid (show w.heap.size + 3 ≤ wc.heap.size from Nat.le_trans HS5.out hf1.size)
      clear hx1 ht1 hf1 HX5 HT5 HY5 HB5 HN5 HR5 HO5 HS5 x0 x1 x2 y0 y1 y2
      obtain ⟨x0, x1, x2⟩ := HX6.out.facts
      obtain ⟨y0, y1, y2⟩ := HT6.out.facts
      have HBo := Lib.hid (both20 _ An t.A cn t.k x.nodes t.c.nodes wc HN6.out HR6.out ln lt)
      go_upto_if 40 with (go_at_call 20; ((with_reducible refine HBo.out.mono ?_); rintro e w7 ⟨A7, c7, rfl, ho7, hb7⟩; have HX7 := Lib.hid (HX6.out.below hb7 HX6.out.lt); have HT7 := Lib.hid (HT6.out.below hb7 HT6.out.lt); have HY7 := Lib.hid (HY6.out.below hb7 HY6.out.lt); have HB7 := Lib.hid (HB6.out.trans (hb7.mono HB6.out.size)); have HN7 := Lib.hid (HN6.out.below hb7 (fun k hk => Nat.lt_of_lt_of_le hk.2 HB6.out.size)); have HO7 := Lib.hid ((HO6.out.old (by omega)).below hb7 (fun k hk => hk.2) |>.more (B' := fun k => w.heap.size + 3 ≤ k) (fun k hk => hk.1)); have HQ7 := Lib.hid ((ri_own ho7).more (B' := fun k => w.heap.size + 3 ≤ k) (fun k hk => Nat.le_trans HS6.out hk)); have HS7 := Lib.hid (Nat.le_trans HS6.out hb7.size); clear ho7 hb7 x0 x1 x2 y0 y1 y2; obtain ⟨x0, x1, x2⟩ := HX7.out.facts; obtain ⟨y0, y1, y2⟩ := HT7.out.facts))
      clear HX6 HT6 HY6 HB6 HN6 HR6 HO6 HS6 HBo
      have HF2 := Lib.hid (show (moreI x t.c).nodes = (if 0 < (bothL x.nodes t.c.nodes).length then bothL x.nodes t.c.nodes else x.nodes) from rfl)
      generalize bothL x.nodes t.c.nodes = L at *
      go_cut [] (fun wx => ∃ A8 c8, Blk wx w.heap.size 25 #[.int .i64 x.id, .int .i64 uu, .string ss, .slice A8 (if 0 < L.length then L else x.nodes).length c8, .int .i64 x.dist, .int .i64 x.since, .slice A4 (putL x.calls t.c.call).length c4, .slice Au x.units.length cu, .int .i64 x.merged, .bool x.closed] ∧ Blk wx (w.heap.size + 1) 27 #[.int .i64 t.c.call, .int .i64 t.c.inc, .int .i64 t.c.urg, .string t.c.code, .slice t.A t.c.nodes.length t.k, .int .i64 t.c.dist, .int .i64 t.c.since, .bool t.c.closed] ∧ RI wx (fun k => (B k ∧ k < w.heap.size) ∨ w.heap.size + 3 ≤ k) A8 (if 0 < L.length then L else x.nodes) ∧ Fr (fun k => k = w.heap.size) w7 wx)
      case first =>
        by_cases h0 : 0 < L.length
        · have h0' : (0 : Int) < L.length := by omega
          have E1 := Lib.hid (show Blk (w7.setCell ⟨w.heap.size, 3, none⟩ (.slice A7 L.length c7)) w.heap.size 25 #[.int .i64 x.id, .int .i64 uu, .string ss, .slice A7 L.length c7, .int .i64 x.dist, .int .i64 x.since, .slice A4 (putL x.calls t.c.call).length c4, .slice Au x.units.length cu, .int .i64 x.merged, .bool x.closed] by have := HX7.out.set_ 3 (.slice A7 L.length c7); simpa using this)
          have E2 := Lib.hid (HT7.out.far (p := ⟨w.heap.size, 3, none⟩) (by simp) (.slice A7 L.length c7))
          have E0 := Lib.hid ((Fr.refl (fun k => k = w.heap.size) w7).setCell (p := ⟨w.heap.size, 3, none⟩) (.inl rfl) (.slice A7 L.length c7))
          have E3 := Lib.hid (HQ7.out.fr E0.out (fun k hk => by omega) |>.more (B' := fun k => (B k ∧ k < w.heap.size) ∨ w.heap.size + 3 ≤ k) (fun k hk => .inr hk))
          go_wp2_with fail
          go_meet
          case rel => exact ⟨A7, c7, by rw [if_pos (by omega)]; exact E1.out, E2.out, by rw [if_pos (by omega)]; exact E3.out, E0.out⟩
        · have h0' : ¬ (0 : Int) < L.length := by omega
          go_wp2_with fail
          go_meet
          case rel => exact ⟨An, cn, by rw [if_neg (by omega)]; exact HX7.out, HT7.out, by rw [if_neg (by omega)]; exact HN7.out.more (fun k hk => .inl hk), Fr.refl _ _⟩
      case rest =>
        obtain ⟨A8, c8, hx8, ht8, hn8, hf8⟩ := hcut
        generalize (if 0 < L.length then L else x.nodes) = NN at *
        have HX8 := Lib.hid hx8
        have HT8 := Lib.hid ht8
        have HN8 := Lib.hid hn8
        have HY8 := Lib.hid (HY7.out.fr hf8 (by omega))
        have HB8 := Lib.hid (HB7.out.trans (hf8.below (B := w.heap.size) (by have := HS7.out; omega) (fun k hk => by omega)))
        have HO8 := Lib.hid (HO7.out.fr hf8 (fun k hk => by omega))
        have HS8 := Lib.hid (show w.heap.size + 3 ≤ wc.heap.size from Nat.le_trans HS7.out hf8.size)
        clear hx8 ht8 hn8 hf8 HX7 HT7 HY7 HB7 HN7 HO7 HS7 HQ7 x0 x1 x2 y0 y1 y2
        obtain ⟨x0, x1, x2⟩ := HX8.out.facts
        obtain ⟨y0, y1, y2⟩ := HT8.out.facts
        go_upto_region 10 with (fail)
        go_cut [] (fun wx => wx = (wc.setCell ⟨w.heap.size, 5, none⟩ (.int .i64 (min x.since t.c.since))))
        case first =>
          go_wp2_with fail
          all_goals
            go_meet
            case rel => rfl
        case rest =>
          subst hcut
          have HX9 := Lib.hid (show Blk (wc.setCell ⟨w.heap.size, 5, none⟩ (.int .i64 (min x.since t.c.since))) w.heap.size 25 #[.int .i64 x.id, .int .i64 uu, .string ss, .slice A8 NN.length c8, .int .i64 x.dist, .int .i64 (min x.since t.c.since), .slice A4 (putL x.calls t.c.call).length c4, .slice Au x.units.length cu, .int .i64 x.merged, .bool x.closed] by have := HX8.out.set_ 5 (.int .i64 (min x.since t.c.since)); exact (by simpa using this : Blk (wc.setCell ⟨w.heap.size, 5, none⟩ (.int .i64 (min x.since t.c.since))) w.heap.size 25 #[.int .i64 x.id, .int .i64 uu, .string ss, .slice A8 NN.length c8, .int .i64 x.dist, .int .i64 (min x.since t.c.since), .slice A4 (putL x.calls t.c.call).length c4, .slice Au x.units.length cu, .int .i64 x.merged, .bool x.closed]))
          have HY9 := Lib.hid (show Blk (wc.setCell ⟨w.heap.size, 5, none⟩ (.int .i64 (min x.since t.c.since))) (w.heap.size + 2) 25 #[.int .i64 0, .int .i64 0, .string ⟨#[]⟩, .slice none 0 0, .int .i64 0, .int .i64 0, .slice none 0 0, .slice none 0 0, .int .i64 0, .bool false] from HY8.out.far (p := ⟨w.heap.size, 5, none⟩) (by simp) (.int .i64 (min x.since t.c.since)))
          have E0 := Lib.hid (show Fr (fun k => k = w.heap.size) wc (wc.setCell ⟨w.heap.size, 5, none⟩ (.int .i64 (min x.since t.c.since))) from ((Fr.refl (fun k => k = w.heap.size) wc).setCell (p := ⟨w.heap.size, 5, none⟩) (.inl rfl) (.int .i64 (min x.since t.c.since))))
          have HN9 := Lib.hid (HN8.out.fr E0.out (fun k hk => by omega))
          have HO9 := Lib.hid (HO8.out.fr E0.out (fun k hk => by omega))
          have HB9 := Lib.hid (HB8.out.trans (E0.out.below (B := w.heap.size) (by have := HS8.out; omega) (fun k hk => by omega)))
          have HF3 := Lib.hid (show (moreI x t.c).since = min x.since t.c.since from rfl)
          have HF4 := Lib.hid (show (moreI x t.c).calls = putL x.calls t.c.call from rfl)
          clear HX8 HT8 HN8 HY8 HB8 HO8 E0 x0 x1 x2 y0 y1 y2
          generalize wc.setCell _ _ = W9 at *
          obtain ⟨x0, x1, x2⟩ := HX9.out.facts
          go_wp2_with (refine wpList_storeBlk rfl (.tmp 4) (.tmp 49) 25 rfl (w.heap.size + 2) 25 _ #[.int .i64 x.id, .int .i64 uu, .string ss, .slice A8 NN.length c8, .int .i64 x.dist, .int .i64 (min x.since t.c.since), .slice A4 (putL x.calls t.c.call).length c4, .slice Au x.units.length cu, .int .i64 x.merged, .bool x.closed] _ 10 136 info25 rfl rfl rfl HY9.out rfl (ten_one (by simp [Value.oneCell'])) ?_; intro w10 hb10 hf10 hs10)
          refine bodyPost_ret (results_ct (p := 4) (u := 5) (ty := 25) Tryd.results67 _ _ (w.heap.size + 2) 25 #[.int .i64 x.id, .int .i64 uu, .string ss, .slice A8 NN.length c8, .int .i64 x.dist, .int .i64 (min x.since t.c.since), .slice A4 (putL x.calls t.c.call).length c4, .slice Au x.units.length cu, .int .i64 x.merged, .bool x.closed] (0, 0) _ rfl hb10 Tryd.underlying25 rfl size25) rfl ?_
          refine .inr ⟨hh, moreI x t.c, A8, A4, c8, c4, rfl, ?_, ?_, ?_, ?_, ?_⟩
          · rw [HF0.out, HF1.out, HF2.out, HF3.out, HF4.out]; rfl
          · rw [HF2.out]; exact ((HN9.out.fr hf10 (fun k hk => by omega)).old (by omega)).more (fun k hk => ⟨by rcases hk.1 with h | h; · exact .inl h.1
                                                                                                                · exact .inr (by omega), hk.2⟩)
          · rw [HF4.out]; exact ((HO9.out.fr hf10 (fun k hk => by omega)).old (by omega)).more (fun k hk => ⟨.inr (by have := hk.1; omega), hk.2⟩)
          · rw [HF4.out]; exact HC4.out
          · exact HB9.out.trans (hf10.below HB9.out.size (fun k hk e => by omega))
end Go.Proofs.YtipkicijfedfoaaDoor

namespace Go.Proofs.YtipkicijfedfoaaDoor
set_option linter.unusedVariables false
set_option linter.unusedSimpArgs false
open Go.RowKit Go.Own Go.Quo Go.Inc
/-! ### Anew, plain -/
instance (l : List Int) (n : Int) : Decidable (hitB l n) := by unfold hitB; infer_instance
def anwS : Ic → List Cr → Option Ic
  | y, [] => some y
  | y, t :: r => if hitB y.calls t.call then none else anwS (moreI y t) r
theorem anwS_app : ∀ (y : Ic) (a b : List Cr), anwS y (a ++ b) = (anwS y a).bind (fun z => anwS z b)
  | y, [], b => rfl
  | y, t :: a, b => by
    show (if hitB y.calls t.call then none else anwS (moreI y t) (a ++ b)) = (if hitB y.calls t.call then none else anwS (moreI y t) a).bind (fun z => anwS z b)
    by_cases h : hitB y.calls t.call
    · rw [if_pos h, if_pos h]; rfl
    · rw [if_neg h, if_neg h]; exact anwS_app _ a b
def anwP (x : Ic) (cs : List Cr) : Ic × Int :=
  if icB x = false ∨ cs = [] then (zeroIc, 1) else if cs.all crB = false then (zeroIc, 1) else
  match sortC cs with
  | [] => (zeroIc, 1)
  | t0 :: r => match anwS (fromI x.id t0) r with
    | none => (zeroIc, 5)
    | some y => if x.merged ≠ 0 then (zeroIc, 8) else (⟨x.id, y.urg, y.code, y.nodes, x.dist, y.since, y.calls, x.units, x.merged, x.closed⟩, 0)
def RdPost (x : Ic) (err : Int) (w : World) (e : Ending) (w' : World) : Prop := ∃ An Ac Au cn cc cu, e = .returned (.tuple #[icV x An Ac Au cn cc cu, .int .i64 err]) ∧
  RI w' (· < w'.heap.size) An x.nodes ∧ RI w' (· < w'.heap.size) Ac x.calls ∧ RI w' (· < w'.heap.size) Au x.units ∧ Below w.heap.size w w'
theorem rd_zero {err : Int} {w : World} {w' : World} (hb : Below w.heap.size w w') : RdPost zeroIc err w (.returned (.tuple #[.agg #[.int .i64 0, .int .i64 0, .string ⟨#[]⟩, .slice none 0 0, .int .i64 0, .int .i64 0, .slice none 0 0, .slice none 0 0, .int .i64 0, .bool false], .int .i64 err])) w' :=
  ⟨none, none, none, 0, 0, 0, rfl, Reads.none_, Reads.none_, Reads.none_, hb⟩
def AnwPost (x : Ic) (cs : List Cr) (w : World) (e : Ending) (w' : World) : Prop := RdPost (anwP x cs).1 (anwP x cs).2 w e w'
theorem anw_bad {x : Ic} {cs : List Cr} (h : icB x = false ∨ cs = [] ∨ ∃ t ∈ cs, crB t = false) : anwP x cs = (zeroIc, 1) := by
  unfold anwP
  by_cases h2 : icB x = false ∨ cs = []
  · rw [if_pos h2]
  · rw [if_neg h2, if_pos]
    rcases h with h | h | ⟨t, ht, h⟩
    · exact absurd (.inl h) h2
    · exact absurd (.inr h) h2
    · rw [List.all_eq_false]; exact ⟨t, ht, by simp [h]⟩
theorem insK_eq {l : List Ca} {t : Cr} {k : Nat} (hk : k ≤ l.length) (h1 : ∀ i, i < k → ∀ (h : i < l.length), ltC l[i].c t) (h2 : ∀ h : k < l.length, ¬ ltC l[k].c t) : insK (l.map (·.c)) t = k := by
  unfold insK
  have e : ((l.map (·.c)).take k ++ (l.map (·.c)).drop k) = l.map (·.c) := List.take_append_drop k _
  rw [← e, List.takeWhile_append_of_pos (fun a ha => by
    obtain ⟨i, hi, rfl⟩ := List.mem_iff_getElem.1 ha
    have hi2 : i < k := by rw [List.length_take] at hi; omega
    have := h1 i hi2 (by omega)
    simpa using this)]
  have h3 : ((l.map (·.c)).drop k).takeWhile (fun a => decide (ltC a t)) = [] := by
    rcases Nat.lt_or_ge k l.length with h | h
    · rw [List.drop_eq_getElem_cons (by simpa using h)]
      have := h2 h
      rw [List.takeWhile_cons, if_neg (by simpa using this)]
    · rw [List.drop_eq_nil_of_le (by simpa using h)]; rfl
  rw [h3, List.append_nil, List.length_take, List.length_map]
  omega
def insA (l : List Ca) (k : Nat) (t : Ca) : List Ca := l.take k ++ t :: l.drop k
theorem insA_len {l : List Ca} {k : Nat} (t : Ca) (h : k ≤ l.length) : (insA l k t).length = l.length + 1 := by
  unfold insA
  simp
  omega
theorem insA_map {l : List Ca} {k : Nat} {t : Ca} (h : insK (l.map (·.c)) t.c = k) : (insA l k t).map (·.c) = insL (l.map (·.c)) t.c := by
  unfold insA insL
  rw [h]
  simp
theorem insA_mem {l : List Ca} {k : Nat} {t y : Ca} (h : y ∈ insA l k t) : y = t ∨ y ∈ l := by
  unfold insA at h
  rcases List.mem_append.1 h with h | h
  · exact .inr (List.mem_of_mem_take h)
  · rcases List.mem_cons.1 h with h | h
    · exact .inl h
    · exact .inr (List.mem_of_mem_drop h)
theorem flat_take (l : List Ca) (k : Nat) : (l.take k).flatMap caL = (l.flatMap caL).take (k * 8) := by
  induction l generalizing k with
  | nil => simp
  | cons a l ih =>
    cases k with
    | zero => simp
    | succ k =>
      rw [List.take_succ_cons, List.flatMap_cons, List.flatMap_cons, ih, Nat.succ_mul, Nat.add_comm, List.take_append]
      have e : (caL a).length = 8 := rfl
      rw [e, List.take_of_length_le (l := caL a) (by rw [e]; omega), show 8 + k * 8 - 8 = k * 8 by omega]
theorem flat_drop (l : List Ca) (k : Nat) : (l.drop k).flatMap caL = (l.flatMap caL).drop (k * 8) := by
  induction l generalizing k with
  | nil => simp
  | cons a l ih =>
    cases k with
    | zero => simp
    | succ k =>
      rw [List.drop_succ_cons, List.flatMap_cons, ih, Nat.succ_mul, Nat.add_comm, List.drop_append]
      have e : (caL a).length = 8 := rfl
      rw [e, (show (caL a).drop (8 + k * 8) = [] from List.drop_eq_nil_of_le (by rw [e]; omega)), show 8 + k * 8 - 8 = k * 8 by omega, List.nil_append]
theorem insA_flat (l : List Ca) (k : Nat) (t : Ca) : (insA l k t).flatMap caL = (l.take k).flatMap caL ++ caL t ++ (l.flatMap caL).drop (k * 8) := by
  unfold insA
  rw [List.flatMap_append, List.flatMap_cons, flat_drop, List.append_assoc]
theorem front8 {w : World} {B : Nat → Prop} {A : Option Addr} {l : List Ca} (h : Reads w B 8 A l.length (l.flatMap caL)) {k : Nat} (hk : k ≤ l.length) : Reads w B 8 A k ((l.take k).flatMap caL) := by
  refine ⟨by rw [flat_length caL 8 (fun _ => rfl), List.length_take, Nat.min_eq_left hk], fun h0 => ?_⟩
  obtain ⟨ad, e, hb, hc⟩ := h.2 (by omega)
  refine ⟨ad, e, hb, fun j u hu => hc j u ?_⟩
  rw [flat_take] at hu
  rw [← hu]
  have hj : j < k * 8 := by
    have := (List.getElem?_eq_some_iff.1 hu).1
    rw [List.length_take] at this; omega
  rw [List.getElem?_take_of_lt hj]
theorem run_hi36 {A : Option Addr} {n c k : Nat} (hk : k ≤ c) (W : World) : (Instr.slice 36 (.slice A n c) none (some (.int .i64 (k : Int))) none).run Tryd.prog W = .ok (.slice A k c) W := by
  have hu : Tryd.prog.underlying 36 = some (.slice (Tryd.prog.elem 36)) := by kernel_rfl
  have he : Tryd.prog.elem 36 = 27 := by kernel_rfl
  rw [run_slice_h W 36 A n c hu .i64 (k : Int) (by omega) (by omega), he, Tryd.sizeOf27]
  cases A with
  | none => simp [sliced, Result.andThen]
  | some a => simp [sliced, Result.andThen, Addr.add]
theorem run_hi36b {A : Option Addr} {n c k : Nat} (hk : k ≤ c) (W : World) : (Instr.sliceAt 36 (.slice A n c) none (some (.int .i64 (k : Int))) none).run Tryd.prog W = .ok (.slice A k c) W := by
  have hu : Tryd.prog.underlying 36 = some (.slice (Tryd.prog.elem 36)) := by kernel_rfl
  rw [run_sliceAt_slice W 36 _ _ _ _ hu]
  exact run_hi36 hk W
def cutK8 (A : Option Addr) (c k : Nat) : Option Addr := if c = k then A else A.map (·.add (k * 8))
theorem run_lo36 {A : Option Addr} {n c k : Nat} (hk : k ≤ n) (W : World) : (Instr.slice 36 (.slice A n c) (some (.int .i64 (k : Int))) none none).run Tryd.prog W = .ok (.slice (cutK8 A c k) (n - k) (c - k)) W := by
  have hu : Tryd.prog.underlying 36 = some (.slice (Tryd.prog.elem 36)) := by kernel_rfl
  have he : Tryd.prog.elem 36 = 27 := by kernel_rfl
  rw [run_slice_l W 36 A n c hu .i64 (k : Int) (by omega) (by omega), he, Tryd.sizeOf27]
  simp [sliced, cutK8, Result.andThen]
theorem run_lo36b {A : Option Addr} {n c k : Nat} (hk : k ≤ n) (W : World) : (Instr.sliceAt 36 (.slice A n c) (some (.int .i64 (k : Int))) none none).run Tryd.prog W = .ok (.slice (cutK8 A c k) (n - k) (c - k)) W := by
  have hu : Tryd.prog.underlying 36 = some (.slice (Tryd.prog.elem 36)) := by kernel_rfl
  rw [run_sliceAt_slice W 36 _ _ _ _ hu]
  exact run_lo36 hk W
theorem own_cap8 {w : World} {base : Nat} {A : Option Addr} {n c : Nat} {xs : List Value} (h : w.ownsRow base 27 8 (.slice A n c) n xs) : n ≤ c := by
  rcases h.2 with ⟨hv, h0⟩ | ⟨g, cap, cur, hv, hb, hg, hnc, _⟩
  · omega
  · injection hv with _ _ h3; omega
theorem sortC_snoc (l : List Cr) (t : Cr) : sortC (l ++ [t]) = insL (sortC l) t := by
  unfold sortC; rw [List.foldl_append]; rfl
end Go.Proofs.YtipkicijfedfoaaDoor

namespace Go.Proofs.YtipkicijfedfoaaDoor
set_option linter.unusedVariables false
set_option linter.unusedSimpArgs false
open Go.RowKit Go.Own Go.Quo Go.Inc
/-! ### Rebuild and Anew, plain: one answer -/
/-- what both derivations have in common on the way -/
structure Rl (a b : Ic) : Prop where
  urg : a.urg = b.urg
  code : a.code = b.code
  nodes : a.nodes = b.nodes
  since : a.since = b.since
  perm : b.calls.Perm a.calls
  pw : b.calls.Pairwise (fun a b => a < b)
theorem Rl.step {a b : Ic} (h : Rl a b) {t : Cr} (ht : t.call ∉ b.calls) : Rl (furP a t) (moreI b t) := by
  refine ⟨?_, ?_, ?_, ?_, ?_, ?_⟩
  · show (if t.urg < a.urg then t.urg else a.urg) = (if t.urg < b.urg then t.urg else b.urg); rw [h.urg]
  · show (if t.urg < a.urg then t.code else a.code) = (if t.urg < b.urg then t.code else b.code); rw [h.urg, h.code]
  · show (if 0 < (bothL a.nodes t.nodes).length then bothL a.nodes t.nodes else a.nodes) = (if 0 < (bothL b.nodes t.nodes).length then bothL b.nodes t.nodes else b.nodes); rw [h.nodes]
  · show min a.since t.since = min b.since t.since; rw [h.since]
  · show (putL b.calls t.call).Perm (a.calls ++ [t.call])
    exact (putL_perm _ _).trans (h.perm.append_right _)
  · exact putL_sorted h.pw ht
theorem hit_iff {l : List Int} (h : l.Pairwise (fun a b => a < b)) (n : Int) : hitB l n ↔ n ∈ l := by
  rw [← putK_has h n]
  unfold hitB
  constructor
  · rintro ⟨a, b⟩; exact ⟨a, b⟩
  · rintro ⟨a, b⟩; exact ⟨a, b⟩
theorem anwS_ok : ∀ (l : List Cr) (a b : Ic), Rl a b → (b.calls ++ l.map (·.call)).Nodup → ∃ y, anwS b l = some y ∧ Rl (l.foldl furP a) y
  | [], a, b, h, _ => ⟨b, rfl, h⟩
  | t :: l, a, b, h, hd => by
    have hn : t.call ∉ b.calls := by
      intro hm
      rw [List.map_cons, List.nodup_append] at hd
      exact hd.2.2 _ hm _ (by simp) rfl
    have hh : ¬ hitB b.calls t.call := by rw [hit_iff h.pw]; exact hn
    unfold anwS
    rw [if_neg hh]
    have hp : (putL b.calls t.call ++ l.map (·.call)).Perm (b.calls ++ (t :: l).map (·.call)) := by
      have := (putL_perm b.calls t.call).append_right (l.map (·.call))
      simpa using this
    exact anwS_ok l (furP a t) (moreI b t) (h.step hn) (hp.nodup_iff.2 hd)
theorem anwS_nd : ∀ (l : List Cr) (b y : Ic), b.calls.Pairwise (fun a b => a < b) → anwS b l = some y → (b.calls ++ l.map (·.call)).Nodup
  | [], b, y, h, _ => by rw [List.map_nil, List.append_nil]; exact h.imp (fun h => by omega)
  | t :: l, b, y, h, hs => by
    unfold anwS at hs
    by_cases hh : hitB b.calls t.call
    · rw [if_pos hh] at hs; cases hs
    · rw [if_neg hh] at hs
      have hn : t.call ∉ b.calls := fun hm => hh ((hit_iff h _).2 hm)
      have := anwS_nd l (moreI b t) y (putL_sorted h hn) hs
      have hp : (putL b.calls t.call ++ l.map (·.call)).Perm (b.calls ++ (t :: l).map (·.call)) := by
        have := (putL_perm b.calls t.call).append_right (l.map (·.call))
        simpa using this
      exact hp.nodup_iff.1 this
theorem fur_keep : ∀ (l : List Cr) (a : Ic), (l.foldl furP a).id = a.id ∧ (l.foldl furP a).dist = a.dist ∧ (l.foldl furP a).units = a.units ∧ (l.foldl furP a).merged = a.merged ∧ (l.foldl furP a).closed = a.closed ∧ (l.foldl furP a).calls = a.calls ++ l.map (·.call)
  | [], a => ⟨rfl, rfl, rfl, rfl, rfl, by simp⟩
  | t :: l, a => by
    obtain ⟨h1, h2, h3, h4, h5, h6⟩ := fur_keep l (furP a t)
    rw [List.foldl_cons]
    refine ⟨h1, h2, h3, h4, h5, ?_⟩
    rw [h6]
    show (a.calls ++ [t.call]) ++ _ = _
    simp
theorem incB_nodup {l : List Int} {lo hi : Int} (h : incB l lo hi = true) : l.Nodup := (incB_pw.1 h).1.imp (fun h => by omega)
theorem cr_call {t : Cr} (h : crB t = true) : 1 ≤ t.call ∧ t.call ≤ 1099511627776 := by
  unfold crB numB maxT at h
  simp at h
  omega
theorem reb_anw {x : Ic} {cs ss : List Cr} (hp : ss.Perm cs) (hs : ss.Pairwise leC) : rebP x ss = anwP x cs := by
  unfold rebP anwP
  by_cases h0 : icB x = false ∨ cs = []
  · have h1 : icB x = false ∨ ss = [] := h0.imp id (fun h => by subst h; exact List.Perm.eq_nil hp)
    rw [if_pos h0, if_pos h1]
  · have h1 : ¬ (icB x = false ∨ ss = []) := fun h => h0 (h.imp id (fun h => by subst h; exact List.Perm.eq_nil hp.symm))
    rw [if_neg h0, if_neg h1]
    have hall : ss.all crB = cs.all crB := by
      rw [Bool.eq_iff_iff, List.all_eq_true, List.all_eq_true]
      exact ⟨fun h c hc => h c (hp.mem_iff.2 hc), fun h c hc => h c (hp.mem_iff.1 hc)⟩
    rw [hall]
    by_cases hv : cs.all crB = false
    · rw [if_pos hv, if_pos hv]
    · rw [if_neg hv, if_neg hv]
      have hv2 : ∀ c ∈ ss, crB c = true := fun c hc => by
        rw [Bool.not_eq_false, List.all_eq_true] at hv
        exact hv c (hp.mem_iff.1 hc)
      have hmp : (ss.map (·.call)).Perm (cs.map (·.call)) := hp.map _
      by_cases hd : (cs.map (·.call)).Nodup
      · rw [← sortC_unique hd hp hs]
        match ss, hs, h1, hv2, hmp with
        | [], _, h1, _, _ => exact absurd (.inr rfl) h1
        | t0 :: r, hs, h1, hv2, hmp =>
          have hnd := hmp.nodup_iff.2 hd
          have hbase : Rl (firP x t0) (fromI x.id t0) := ⟨rfl, rfl, rfl, rfl, List.Perm.refl _, by
            show [t0.call].Pairwise _
            simp⟩
          obtain ⟨y, hy, hR⟩ := anwS_ok r (firP x t0) (fromI x.id t0) hbase (by
            show ([t0.call] ++ r.map (·.call)).Nodup
            exact hnd)
          dsimp only
          rw [hy]
          dsimp only
          have hk := fur_keep r (firP x t0)
          have hrs : rebS x (t0 :: r) = r.foldl furP (firP x t0) := rfl
          have hsr : srt (rebS x (t0 :: r)).calls = y.calls := srt_eq (by rw [hrs]; exact hR.perm.symm) (hR.pw.imp (fun h => by omega))
          have hin : incB y.calls 1 1099511627776 = true := by
            rw [incB_pw]
            refine ⟨hR.pw, fun n hn => ?_⟩
            have hm := hR.perm.mem_iff.1 hn
            rw [hk.2.2.2.2.2] at hm
            have hm2 : n ∈ (t0 :: r).map (·.call) := by
              rcases List.mem_append.1 hm with h | h
              · have : n = t0.call := by simpa [firP] using h
                rw [this]; simp
              · rw [List.map_cons]; exact List.mem_cons_of_mem _ h
            obtain ⟨t, ht, rfl⟩ := List.mem_map.1 hm2
            exact cr_call (hv2 t ht)
          rw [hsr, hin, if_neg (by simp)]
          have hmg : (rebS x (t0 :: r)).merged = x.merged := by rw [hrs, hk.2.2.2.1]; rfl
          rw [hmg]
          by_cases hm : x.merged ≠ 0
          · rw [if_pos hm, if_pos hm]
          · rw [if_neg hm, if_neg hm, hrs]
            congr 1
            have e1 : (r.foldl furP (firP x t0)).id = x.id := hk.1
            have e2 : (r.foldl furP (firP x t0)).dist = x.dist := hk.2.1
            have e3 : (r.foldl furP (firP x t0)).units = x.units := hk.2.2.1
            have e4 : (r.foldl furP (firP x t0)).merged = x.merged := hk.2.2.2.1
            have e5 : (r.foldl furP (firP x t0)).closed = x.closed := hk.2.2.2.2.1
            rw [Ic.mk.injEq]
            exact ⟨e1, hR.urg, hR.code, hR.nodes, e2, hR.since, rfl, e3, (by first | exact e4 | rfl), e5⟩
      · have hnd : ¬ (ss.map (·.call)).Nodup := fun h => hd (hmp.nodup_iff.1 h)
        have hl : rebP x ss = (zeroIc, 5) ∨ True := .inr trivial
        have h5 : incB (srt (rebS x ss).calls) 1 1099511627776 = false := by
          cases hq : incB (srt (rebS x ss).calls) 1 1099511627776 with
          | false => rfl
          | true =>
            exfalso
            have h6 := (srt_perm _).nodup_iff.1 (incB_nodup hq)
            match ss, h1, hnd, h6 with
            | [], h1, _, _ => exact h1 (.inr rfl)
            | t0 :: r, _, hnd, h6 =>
              have hk := fur_keep r (firP x t0)
              have hrs : rebS x (t0 :: r) = r.foldl furP (firP x t0) := rfl
              rw [hrs, hk.2.2.2.2.2] at h6
              exact hnd h6
        rw [if_pos h5]
        have hpc := (sortC_perm cs).map (·.call)
        have hne : sortC cs ≠ [] := fun e => h0 (.inr (by
          have := (sortC_perm cs).symm
          rw [e] at this; exact List.Perm.eq_nil this))
        cases hc : sortC cs with
        | nil => exact absurd hc hne
        | cons t0 r =>
          dsimp only
          cases ha : anwS (fromI x.id t0) r with
          | none => rfl
          | some y =>
            exfalso
            have := anwS_nd r (fromI x.id t0) y (by show [t0.call].Pairwise _; simp) ha
            rw [hc] at hpc
            exact hd (hpc.nodup_iff.1 this)
end Go.Proofs.YtipkicijfedfoaaDoor

import Derived.Test.YtnpfbpfobbadaaaQuo14
import Derived.Test.YtnpfbpfobbadaaaWire5
import Derived.Test.YtnpfbpfobbadaaaQCom
namespace Go.Proofs.Ytnpfbpfobbadaaa
set_option linter.unusedVariables false
open Go.RowKit Go.Own Go.Quo Go.Wire
theorem info2 : (Try.prog.info? 2).map (fun i => (i.zero, i.size, i.bytes)) = some (some (.int .i64 0), 1, 8) := by kernel_rfl
theorem i2x : ∃ i, Try.prog.info? 2 = some i ∧ i.size = 1 := by obtain ⟨i, h, _, h2, _⟩ := info_parts info2; exact ⟨i, h, h2⟩
theorem ix31 {A : Option Addr} {n : Nat} (hA : Plain A n) (c k : Nat) (hk : k < n) (w : World) : (Instr.indexAt 31 (.slice A n c) (.int .i64 (k : Int))).run Try.prog w = .ok (.pointer (some ⟨bk A, ofs A + k, none⟩)) w := by
  obtain ⟨i, h1, h2⟩ := i2x
  simpa using run_indexAt2 (P := Try.prog) Try.underlying31 h1 h2 hA c k hk w
theorem ix31b (g n c k : Nat) (hk : k < n) (w : World) : (Instr.indexAt 31 (.slice (some ⟨g, 0, none⟩) n c) (.int .i64 (k : Int))).run Try.prog w = .ok (.pointer (some ⟨g, k, none⟩)) w := by
  have := ix31 (A := some ⟨g, 0, none⟩) (n := n) (fun _ => ⟨g, 0, rfl⟩) c k hk w
  simpa [bk, ofs, adr] using this
abbrev ivs (l : List Int) : List Value := l.map (Value.int .i64)
theorem gd_set {l : List Int} {k j : Nat} {v : Int} (hk : k < l.length) : gd (l.set k v) j = if j = k then v else gd l j := by
  unfold gd
  rw [List.getD_eq_getElem?_getD, List.getD_eq_getElem?_getD, List.getElem?_set]
  by_cases h : k = j
  · subst h; rw [if_pos rfl, if_pos rfl, if_pos hk]; rfl
  · rw [if_neg h, if_neg (fun e => h e.symm)]
theorem ivs_set (l : List Int) (k : Nat) (v : Int) : (ivs l).toArray.setIfInBounds k (.int .i64 v) = (ivs (l.set k v)).toArray := by
  simp [ivs, List.map_set]
theorem ivs_get {l : List Int} {k : Nat} (hk : k < l.length) : (ivs l).toArray[k]? = some (.int .i64 (gd l k)) := by
  simp [ivs, gd_get hk, hk]
theorem gd_ext {a b : List Int} (hl : a.length = b.length) (h : ∀ j, j < b.length → gd a j = gd b j) : a = b := by
  apply List.ext_getElem hl
  intro i h1 h2
  have := h i h2
  rwa [gd_get h1, gd_get h2] at this
set_option maxRecDepth 10000 in
set_option maxHeartbeats 1000000 in
theorem closure_any (B B2 : Nat → Prop) (p5 p6 p9 : Nat) (A A2 : Option Addr) (c c2 : Nat) (al hv : List Int) (m : Int) (w : World) (h5 : Blk w p5 22 #[.slice A al.length c]) (h6 : Blk w p6 31 #[.slice A2 hv.length c2])
    (r5 : RI w B A al) (r6 : RI w B2 A2 hv) (hl1 : hv.length ≤ al.length) (hl2 : al.length ≤ hv.length) (hl : al.length ≤ 64) (hm : m ∈ al) :
    Calls Try.prog 20 #[.int .i64 m, .pointer (some ⟨p5, 0, none⟩), .pointer (some ⟨p6, 0, none⟩), .pointer (some ⟨p9, 0, none⟩)] w fun e w' => e = .returned (.int .i64 (numOf al hv m)) ∧ w = w' := by
  obtain ⟨a0, a1, a2⟩ := h5.facts
  obtain ⟨b0, b1, b2⟩ := h6.facts
  have p5' := r5.plain (by omega)
  have p6' := r6.plain (by omega)
  have HM := Lib.hid hm; clear hm
  have HN := Lib.hid fun k (hk : k < al.length) (e : gd al k = m) (hn : ∀ j, j < k → gd al j ≠ m) => numOf_at (hv := hv) hk e hn
  clear h5 h6
  go_enter Try.func20, Try.ntmps20
  go_wp2_with fail
  go_loopw [10] (fun vi wr => ∃ k : Nat, k ≤ al.length ∧ vi = .int .i64 k ∧ (∀ j, j < k → gd al j ≠ m) ∧ wr = w) (fun i _ => al.length - (intOf i).toNat)
  case atStart => exact ⟨0, Nat.zero_le _, rfl, fun j hj => absurd hj (by omega), rfl⟩
  case round =>
    obtain ⟨k, hk, rfl, hno, rfl⟩ := hrel
    have HNo := Lib.hid hno
    clear hno
    by_cases hlt : k < al.length
    · have hlt' : (k : Int) < al.length := by omega
      have hix := fun W => ix22 p5' c k hlt W
      have hc := RI.at_ r5 hlt
      by_cases hmk : gd al k = m
      · have HMk := Lib.hid hmk
        have hmkb : (gd al k == m) = true := by simpa using hmk
        have hix2 := fun W => ix31 p6' c2 k (show k < hv.length by omega) W
        have hc2 := RI.at_ r6 (show k < hv.length by omega)
        clear hmk
        go_wp2
        go_ret
        exact ⟨by rw [HN.out k hlt HMk.out HNo.out]; rfl, rfl⟩
      · have HMk := Lib.hid hmk
        have hmkb : (gd al k == m) = false := by simpa using hmk
        clear hmk
        go_wp2
        refine ⟨⟨k + 1, by omega, by go_num, fun j hj => ?_, by trivial⟩, by simp [intOf]; omega⟩
        rcases (show j < k ∨ j = k by omega) with h | h
        · exact HNo.out j h
        · subst h; exact HMk.out
    · exfalso
      obtain ⟨j, hj, e⟩ := List.mem_iff_getElem.1 HM.out
      exact HNo.out j (by omega) (by rw [gd_get hj, e])
def SortPost64 (base : Nat) (A : Option Addr) (n c : Nat) (zs : List Int) (w : World) (e : Ending) (w' : World) : Prop :=
  e = .returned (.tuple #[]) ∧ w'.ownsRow base 2 1 (.slice A n c) n ((srt zs).map (Value.int .i64)) ∧ w.grownBy w' (Value.slice A n c).ownBlock
theorem sort_own64 (base : Nat) (A : Option Addr) (n c : Nat) (zs : List Int) (w : World) (hown : w.ownsRow base 2 1 (.slice A n c) n (zs.map (Value.int .i64))) (hnb : n ≤ 1000000) :
    Calls Try.prog 53 #[.slice A n c] w (SortPost64 base A n c zs w) := by
  have hl : zs.length = n := by simpa using hown.1
  rcases Nat.eq_zero_or_pos n with h0 | h0
  · subst h0
    have hz : zs = [] := List.eq_nil_of_length_eq_zero hl
    subst hz
    refine (Try.slices_Sort_int_none_f53 A c w).mono ?_
    rintro e w' ⟨rfl, rfl⟩
    exact ⟨rfl, by simpa [srt] using hown, World.grownBy.refl _ _⟩
  · rcases hown.2 with ⟨_, hv⟩ | ⟨g, cap, cur, hv, hb, hg, hnc, hcm, hsz, htk⟩
    · omega
    · injection hv with h1 h2 h3
      subst h1 h3
      have hH := holds_of_blockI hg (by rw [hl]; simpa using htk)
      have hlen : zs.length < 4611686018427387904 := by omega
      refine (hl ▸ Try.slices_Sort_int_f53 g 0 c zs w hH ((Array.getElem?_eq_some_iff.1 hg).1) hlen).mono ?_
      rintro e w' ⟨rfl, k, os, rfl⟩
      refine ⟨rfl, ?_, grownBy_sortedI _⟩
      have := ownsRow_sortedI (n := k) (os := os) (ss := zs) (ts := srt zs) (srt_length zs) hb hg (by omega) hcm hsz
      rw [hl] at this
      exact this
/-- A whole row of numbers is an own row. -/
theorem own_of_blk {w : World} {g base : Nat} {l : List Int} (h : Blk w g 2 (ivs l).toArray) (hb : base ≤ g) (hl : l.length ≤ 1000000) : w.ownsRow base 2 1 (.slice (some ⟨g, 0, none⟩) l.length l.length) l.length (ivs l) :=
  ⟨by simp, .inr ⟨g, l.length, (ivs l).toArray, rfl, hb, h, Nat.le_refl _, by simp only [maxLen]; omega, by simp, by rw [Nat.mul_one]; exact List.take_of_length_le (by simp)⟩⟩
theorem gd_map {l : List Int} (f : Int → Int) {k : Nat} (hk : k < l.length) : gd (l.map f) k = f (gd l k) := by
  rw [gd_get (by simpa using hk), gd_get hk, List.getElem_map]
set_option maxRecDepth 10000 in
set_option maxHeartbeats 2000000 in
theorem committed_any (B : Nat → Prop) (A : Option Addr) (c g : Nat) (l nums : List Int) (w : World) (hr : RI w B A l) (hg : Blk w g 2 (ivs nums).toArray) (hn : 64 ≤ nums.length) (h0 : 0 < l.length) (hl : l.length ≤ 9) (hx : ∀ x ∈ l, 0 ≤ x ∧ x < 64) :
    Calls Try.prog 42 #[.slice A l.length c, .slice (some ⟨g, 0, none⟩) nums.length nums.length] w fun e w' => e = .returned (.int .i64 (medF (l.map fun m => gd nums m.toNat))) ∧ Below w.heap.size w w' := by
  have pA := hr.plain (by omega)
  have HX := Lib.hid hx
  clear hx
  have hgl := hg.lt
  have hmk := run_make1 (P := Try.prog) 31 2 (.int .i64 0) 8 Try.underlying31 info2 rfl l.length (by omega) (by omega)
  have HVl := Lib.hid (show (l.map fun m => gd nums m.toNat).length = l.length by simp)
  have HVg := Lib.hid fun k (hk : k < l.length) => gd_map (fun m => gd nums m.toNat) hk
  have k1 : Blk (w.alloc (.cells (zrow (.int .i64 0) l.length) 2)) w.heap.size 2 (ivs (List.replicate l.length 0)).toArray := by
    have := Blk.new w 2 (zrow (.int .i64 0) l.length)
    simpa [zrow, ivs] using this
  have b1 : Below w.heap.size w (w.alloc (.cells (zrow (.int .i64 0) l.length) 2)) := (Below.refl _ _).alloc (Nat.le_refl _) _
  have HMj := Lib.hid fun W => majority_any A l.length c W (by omega)
  generalize (l.map fun m => gd nums m.toNat) = vs at *
  go_enter Try.func42, Try.ntmps42
  go_wp2_with fail
  generalize w.alloc (.cells (zrow (.int .i64 0) l.length) 2) = W1 at *
  clear hmk
  go_loopw [13] (fun vi wr => ∃ (k : Nat) (q : List Int), k ≤ l.length ∧ vi = .int .i64 k ∧ q.length = l.length ∧ (∀ j, j < k → gd q j = gd vs j) ∧ Blk wr w.heap.size 2 (ivs q).toArray ∧ Below w.heap.size w wr) (fun i _ => l.length - (intOf i).toNat)
  case atStart => exact ⟨0, List.replicate l.length 0, Nat.zero_le _, rfl, by simp, fun j hj => absurd hj (by omega), k1, b1⟩
  case round =>
    obtain ⟨k, q, hk, rfl, hql, hqv, hkq, hb⟩ := hrel
    have HQl := Lib.hid hql
    have HQv := Lib.hid hqv
    have hq1 : q.length ≤ l.length := by omega
    have hq2 : l.length ≤ q.length := by omega
    clear hql hqv k1 b1
    have a0 := hkq.lt
    have a2 := hkq.frozen
    by_cases hlt : k < l.length
    · have hlt' : (k : Int) < l.length := by omega
      have hix := fun W => ix22 pA c k hlt W
      have hc := RI.at_ (hr.fr (S := fun _ => False) (Fr.of_below hb) (fun _ _ => id)) hlt
      have hxr := HX.out (gd l k) (by rw [gd_get hlt]; exact List.getElem_mem hlt)
      have hix2 : ∀ W : World, (Instr.indexAt 31 (.slice (some ⟨g, 0, none⟩) nums.length nums.length) (.int .i64 (gd l k))).run Try.prog W = .ok (.pointer (some ⟨g, (gd l k).toNat, none⟩)) W := by
        intro W
        have := ix31b g nums.length nums.length (gd l k).toNat (by omega) W
        rwa [Int.toNat_of_nonneg hxr.1] at this
      have hc2 : wr.cell? ⟨g, (gd l k).toNat, none⟩ = some (.int .i64 (gd nums (gd l k).toNat)) := by
        rw [(hg.below hb hgl).cell]; exact ivs_get (by omega)
      have hix3 := fun W => ix31b w.heap.size l.length l.length k hlt W
      have hcq : wr.cell? ⟨w.heap.size, k, none⟩ = some (.int .i64 (gd q k)) := by
        rw [hkq.cell]; exact ivs_get (by omega)
      have HVk := Lib.hid (HVg.out k hlt)
      generalize gd nums (gd l k).toNat = v at *
      go_wp2_with fail
      refine ⟨⟨k + 1, q.set k v, by omega, by go_num, by rw [List.length_set]; exact HQl.out, fun j hj => ?_, ?_, hb.setCell (by simp) _⟩, by simp [intOf]; omega⟩
      · rw [gd_set (by omega)]
        split
        · rename_i e; rw [e, HVk.out]
        · exact HQv.out j (by omega)
      · have := hkq.set_ k (.int .i64 v)
        rwa [ivs_set] at this
    · have hge : ¬ ((k : Int) < l.length) := by omega
      have hqe : q = vs := gd_ext (by rw [HQl.out, HVl.out]) (fun j hj => HQv.out j (by have := HVl.out; omega))
      subst hqe
      have hown := own_of_blk hkq (Nat.le_refl _) (by omega)
      have HSo := Lib.hid (sort_own64 _ _ _ _ q wr hown (by omega))
      rw [HVl.out] at HSo
      obtain ⟨i, hi⟩ : ∃ i : Nat, i = l.length - (l.length / 2 + 1) := ⟨_, rfl⟩
      have hil : i < l.length := by omega
      have hsub : (l.length : Int) - ((l.length / 2 + 1 : Nat) : Int) = (i : Int) := by omega
      have HMd := Lib.hid (show medF q = gd (srt q) i by unfold medF; rw [HVl.out, hi])
      have HMj := Lib.hid fun W => (show Calls Try.prog 37 #[.slice A l.length c] W fun e w' => e = .returned (.int .i64 ((l.length : Int) - (i : Int))) ∧ W = w' by
        have := HMj.out W
        rw [show ((l.length / 2 + 1 : Nat) : Int) = (l.length : Int) - (i : Int) by omega] at this
        exact this)
      clear hi hsub
      have hix3 := fun W => ix31b w.heap.size l.length l.length i hil W
      have hsi : (l.length : Int) - ((l.length : Int) - (i : Int)) = i := by omega
      go_wp2_with fail
      refine HSo.out.mono ?_
      rintro e w5 ⟨rfl, hown5, hgr5⟩
      have hc5 : w5.cell? ⟨w.heap.size, i, none⟩ = some (.int .i64 (gd (srt q) i)) := by
        rw [hown5.cellAt i (by omega)]
        have h5 : i < (srt q).length := by rw [srt_length, HVl.out]; exact hil
        simp [h5, gd_get h5]
      go_wp2_with (go_at_call 37; ((with_reducible refine (HMj.out _).mono ?_); rintro e w6 ⟨rfl, rfl⟩))
      go_ret
      exact ⟨by rw [HMd.out]; rfl, hb.grown hgr5 (Nat.le_of_lt a0) (fun g hg => by simp [Value.ownBlock] at hg; omega)⟩
set_option maxRecDepth 10000 in
set_option maxHeartbeats 2000000 in
theorem com_yes (B : Nat → Prop) (m : Ms) (w : World) (h : MR w B m) (hv : vB m.o m.n = true) (p5 p6 p9 : Nat) (num : Int → Int)
    (HC : ∀ W, Below w.heap.size w W → ∀ x ∈ memF m.o m.n, Calls Try.prog 20 #[.int .i64 x, .pointer (some ⟨p5, 0, none⟩), .pointer (some ⟨p6, 0, none⟩), .pointer (some ⟨p9, 0, none⟩)] W fun e w' => e = .returned (.int .i64 (num x)) ∧ W = w') :
    Calls Try.prog 19 #[msV m, .func (.func 20) #[] #[.pointer (some ⟨p5, 0, none⟩), .pointer (some ⟨p6, 0, none⟩), .pointer (some ⟨p9, 0, none⟩)]] w fun e w' => e = .returned (.int .i64 (comF m.o m.n num)) ∧ Below w.heap.size w w' := by
  obtain ⟨l1, l2, l3⟩ := v_lens hv
  have HCF := Lib.hid (show comF m.o m.n num = (if 0 < m.n.length then min (medF (m.o.map num)) (medF (m.n.map num)) else medF (m.o.map num)) by unfold comF; rw [if_pos hv])
  have HR := Lib.hid (v_range hv)
  have HMo := Lib.hid fun x (hx : x ∈ m.o ∨ x ∈ m.n) => (mem_memF m.o m.n x).2 ⟨v_range hv x hx, hx⟩
  have HMr := Lib.hid fun x (hx : x ∈ memF m.o m.n) => ((mem_memF m.o m.n x).1 hx).1
  have hml := memF_le m.o m.n
  have h0 : MR w (· < w.heap.size) m := h.old
  have h1 := h.alloc (.cells (msC m) 24)
  have HO := Lib.hid (valid_b B m _ h1 true hv)
  have HM := Lib.hid fun W' (x1 : MR W' (· < w.heap.size) m) => members_yes _ m W' x1 hv
  have hmk : ∀ W : World, (Instr.makeSlice 31 (.int .i64 64) (.int .i64 64)).run Try.prog W = .ok (.slice (some ⟨W.heap.size, 0, none⟩) 64 64) (W.alloc (.cells (zrow (.int .i64 0) 64) 2)) := fun W => run_make1 (P := Try.prog) 31 2 (.int .i64 0) 8 Try.underlying31 info2 rfl 64 (by omega) (by omega) W
  have hnil : ∀ (fn : Fn) (a b : Array Value) (W : World), (binOp .eql 33 (.func fn a b) .nilFunc).run Try.prog W = .ok (.bool false) W := fun _ _ _ _ => by rfl
  have HCl := Lib.hid HC
  clear HC hv h
  have h3 := ((h0.alloc (.cells (msC m) 24)).alloc (.cells (msC m) 24)).alloc (.cells (zrow (.int .i64 0) 64) 2)
  have g3 : Blk (((w.alloc (.cells (msC m) 24)).alloc (.cells (msC m) 24)).alloc (.cells (zrow (.int .i64 0) 64) 2)) w.heap.size 24 (msC m) := ((Blk.new w 24 (msC m)).alloc _).alloc _
  have k3 : Blk (((w.alloc (.cells (msC m) 24)).alloc (.cells (msC m) 24)).alloc (.cells (zrow (.int .i64 0) 64) 2)) (w.heap.size + 1 + 1) 2 (ivs (List.replicate 64 0)).toArray := by
    have := Blk.new ((w.alloc (.cells (msC m) 24)).alloc (.cells (msC m) 24)) 2 (zrow (.int .i64 0) 64)
    simpa [zrow, ivs] using this
  have b3 : Below w.heap.size w (((w.alloc (.cells (msC m) 24)).alloc (.cells (msC m) 24)).alloc (.cells (zrow (.int .i64 0) 64) 2)) := (((Below.refl _ _).alloc (Nat.le_refl _) _).alloc (by simp) _).alloc (by simp; omega) _
  generalize memF m.o m.n = ms at *
  go_enter Try.func19, Try.ntmps19
  go_wp2_with (go_at_call 29; ((with_reducible refine HO.out.mono ?_); rintro e w1 ⟨rfl, rfl⟩))
  generalize ((w.alloc (.cells (msC m) 24)).alloc (.cells (msC m) 24)).alloc (.cells (zrow (.int .i64 0) 64) 2) = W3 at *
  have s3 := k3.lt
  refine (HM.out W3 h3).mono ?_
  rintro e W4 ⟨A4, c4, rfl, r4, hB4, hc4⟩
  have h4 := h3.below hB4
  have g4 := g3.below hB4 g3.lt
  have k4 := k3.below hB4 k3.lt
  have b4 := b3.trans (hB4.mono b3.size)
  have p4 := r4.plain (by omega)
  clear h3 g3 k3 b3 h1 HO HM hmk
  have hs4 := hB4.size
  obtain ⟨q0, q1, q2⟩ := g4.facts
  go_wp2_with fail
  go_loopw [20] (fun vi wr => ∃ (k : Nat) (nums : List Int), k ≤ ms.length ∧ vi = .int .i64 k ∧ nums.length = 64 ∧ (∀ j, j < k → gd nums (gd ms j).toNat = num (gd ms j)) ∧ Blk wr (w.heap.size + 1 + 1) 2 (ivs nums).toArray ∧ Fr (fun b => b = w.heap.size + 1 + 1) W4 wr) (fun i _ => ms.length - (intOf i).toNat)
  case atStart => exact ⟨0, List.replicate 64 0, Nat.zero_le _, rfl, by simp, fun j hj => absurd hj (by omega), k4, Fr.refl _ _⟩
  case round =>
    obtain ⟨k, nums, hk, rfl, hnl, hnv, hkn, hfr⟩ := hrel
    have HNl := Lib.hid hnl
    have HNv := Lib.hid hnv
    have hn1 : nums.length ≤ 64 := by omega
    have hn2 : 64 ≤ nums.length := by omega
    clear hnl hnv k4
    have a0 := hkn.lt
    have a2 := hkn.frozen
    have hb := b4.trans (hfr.below (B := w.heap.size) (by omega) (fun j hj => by omega))
    have r5 := r4.fr hfr (fun j hj => by omega)
    have h5 : MR wr (· < w.heap.size) m := ⟨h4.o.fr hfr (fun j hj => by omega), h4.n.fr hfr (fun j hj => by omega), h4.ol, h4.nl⟩
    have g5 := g4.fr hfr (by omega)
    by_cases hlt : k < ms.length
    · have hlt' : (k : Int) < ms.length := by omega
      have hix := fun W => ix22 p4 c4 k hlt W
      have hc := RI.at_ r5 hlt
      have hmem : gd ms k ∈ ms := by rw [gd_get hlt]; exact List.getElem_mem hlt
      have hxr := HMr.out (gd ms k) hmem
      have HCk := Lib.hid (HCl.out wr hb (gd ms k) hmem)
      have hix2 : ∀ W : World, (Instr.indexAt 31 (.slice (some ⟨w.heap.size + 1 + 1, 0, none⟩) 64 64) (.int .i64 (gd ms k))).run Try.prog W = .ok (.pointer (some ⟨w.heap.size + 1 + 1, (gd ms k).toNat, none⟩)) W := by
        intro W
        have := ix31b (w.heap.size + 1 + 1) 64 64 (gd ms k).toNat (by omega) W
        rwa [Int.toNat_of_nonneg hxr.1] at this
      have hcq : wr.cell? ⟨w.heap.size + 1 + 1, (gd ms k).toNat, none⟩ = some (.int .i64 (gd nums (gd ms k).toNat)) := by
        rw [hkn.cell]; exact ivs_get (by omega)
      have HMr2 := Lib.hid fun j (hj : j < k) => HMr.out (gd ms j) (by rw [gd_get (by omega)]; exact List.getElem_mem _)
      have HX := Lib.hid hxr
      clear hmem
      generalize hxe : gd ms k = x at *
      have HXe := Lib.hid hxe; clear hxe
      go_wp2_with (go_at_call 20; ((with_reducible refine HCk.out.mono ?_); rintro e w6 ⟨rfl, rfl⟩))
      refine ⟨⟨k + 1, nums.set x.toNat (num x), by omega, by go_num, by rw [List.length_set]; exact HNl.out, fun j hj => ?_, ?_, hfr.setCell (.inl rfl) _⟩, by simp [intOf]; omega⟩
      · have hx0 := HX.out
        rw [gd_set (by omega)]
        rcases (show j < k ∨ j = k by omega) with hjk | hjk
        · have hj0 := HMr2.out j hjk
          split
          · rename_i e
            rw [show gd ms j = x by omega]
          · exact HNv.out j hjk
        · subst hjk
          rw [HXe.out, if_pos rfl]
      · have := hkn.set_ x.toNat (.int .i64 (num x))
        rwa [ivs_set] at this
    · have hge : ¬ ((k : Int) < ms.length) := by omega
      have HNm : Hid (∀ x ∈ ms, gd nums x.toNat = num x) := by
        intro x hx
        obtain ⟨j, hj, e⟩ := List.mem_iff_getElem.1 hx
        have := HNv.out j (by omega)
        rwa [gd_get hj, e] at this
      have HMap := Lib.hid fun (l : List Int) (hl : ∀ x ∈ l, x ∈ ms) => (show (l.map fun m => gd nums m.toNat) = l.map num from List.map_congr_left (fun x hx => HNm.out x (hl x hx)))
      have HCo := Lib.hid fun W' (A : Option Addr) (c : Nat) (l : List Int) (hr : RI W' (· < w.heap.size) A l) (hkn' : Blk W' (w.heap.size + 1 + 1) 2 (ivs nums).toArray) (hl0 : 0 < l.length) (hl9 : l.length ≤ 9) (hl : ∀ x ∈ l, x ∈ ms) => by
        have := committed_any _ A c _ l nums W' hr hkn' hn2 hl0 hl9 (fun x hx => HMr.out x (hl x hx))
        rw [HMap.out l hl, HNl.out] at this
        exact this
      have HCo1 := Lib.hid (HCo.out wr m.A m.c m.o h5.o hkn (by omega) l2 (fun x hx => HMo.out x (.inl hx)))
      obtain ⟨e0, e1, e2⟩ := g5.facts
      by_cases hn0 : 0 < m.n.length
      · have hn0' : (0 : Int) < m.n.length := by omega
        have HF := Lib.hid (show comF m.o m.n num = min (medF (m.o.map num)) (medF (m.n.map num)) by rw [HCF.out, if_pos hn0])
        generalize medF (m.o.map num) = v1 at *
        go_wp2_with fail
        refine HCo1.out.mono ?_
        rintro e w6 ⟨rfl, hB6⟩
        have b6 := hb.trans (hB6.mono hb.size)
        have HCo2 := Lib.hid (HCo.out w6 m.A' m.c' m.n (h5.below hB6).n (hkn.below hB6 a0) hn0 l3 (fun x hx => HMo.out x (.inr hx)))
        obtain ⟨f0, f1, f2⟩ := (g5.below hB6 g5.lt).facts
        generalize medF (m.n.map num) = v2 at *
        go_wp2_with (go_at_call 42; ((with_reducible refine HCo2.out.mono ?_); rintro e w7 ⟨rfl, hB7⟩))
        go_ret
        exact ⟨by rw [HF.out]; rfl, b6.trans (hB7.mono b6.size)⟩
      · have hn0' : ¬ (0 : Int) < m.n.length := by omega
        have HF := Lib.hid (show comF m.o m.n num = medF (m.o.map num) by rw [HCF.out, if_neg hn0])
        generalize medF (m.o.map num) = v1 at *
        go_wp2_with fail
        refine HCo1.out.mono ?_
        rintro e w6 ⟨rfl, hB6⟩
        have b6 := hb.trans (hB6.mono hb.size)
        obtain ⟨f0, f1, f2⟩ := (g5.below hB6 g5.lt).facts
        go_wp2
        go_ret
        exact ⟨by rw [HF.out]; rfl, b6⟩
set_option maxRecDepth 10000 in
set_option maxHeartbeats 1000000 in
theorem com_no (B : Nat → Prop) (m : Ms) (w : World) (h : MR w B m) (hv : vB m.o m.n = false) (f : Value) (num : Int → Int) :
    Calls Try.prog 19 #[msV m, f] w fun e w' => e = .returned (.int .i64 (comF m.o m.n num)) ∧ Below w.heap.size w w' := by
  have HCF := Lib.hid (show comF m.o m.n num = 0 by unfold comF; rw [if_neg (by simp [hv])])
  have HO := Lib.hid (valid_b B m _ (h.alloc (.cells (msC m) 24)) false hv)
  clear h hv
  go_enter Try.func19, Try.ntmps19
  go_wp2_with (go_at_call 29; ((with_reducible refine HO.out.mono ?_); rintro e w1 ⟨rfl, rfl⟩))
  go_ret
  exact ⟨by rw [HCF.out]; rfl, ((Below.refl _ _).alloc (Nat.le_refl _) _).alloc (by simp) _⟩
end Go.Proofs.Ytnpfbpfobbadaaa

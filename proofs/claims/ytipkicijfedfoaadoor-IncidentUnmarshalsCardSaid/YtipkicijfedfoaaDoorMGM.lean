import Derived.Test.YtipkicijfedfoaaDoorProg
import Derived.Test.YtipkicijfedfoaaDoorMGB
import Derived.Test.YtipkicijfedfoaaDoorMGC
import Derived.IntWalk
import Derived.Test.YtipkicijfedfoaaDoorMGD
import Derived.Test.YtipkicijfedfoaaDoorMGF

namespace Go.Own
open Go.RowKit
theorem own_far {w : World} {base : Nat} {e : TypeId} {size n : Nat} {v : Value} {xs : List Value} (h : w.ownsRow base e size v n xs) {p : Addr} (hp : p.block < base) (u : Value) : (w.setCell p u).ownsRow base e size v n xs :=
  h.kept (row := some p.block) ⟨rfl, rfl, rfl, by simp, fun k hk hne => Below.heap_setCell w p u k (fun e => hne (by rw [e]))⟩ (by
    cases hv : v.ownBlock with
    | none => exact .inl rfl
    | some k => right; intro e; cases e; have := (h.lt _ hv).1; omega)
end Go.Own

namespace Go.Proofs.YtipkicijfedfoaaDoor.Wr
set_option linter.unusedVariables false
set_option linter.unusedSimpArgs false
open Go.RowKit Go.Own Go.Quo Go.Wire

theorem info5 : (Tryd.prog.info? 5).map (fun i => (i.zero, i.size, i.bytes)) = some (some (.int .u8 0), 1, 1) := by kernel_rfl
abbrev bys (l : List Int) : List Value := l.map (Value.int .u8)
/-- A writer at block p that has written 'out'. -/
def WrP (w : World) (p : Nat) (out : List Int) : Prop := ∃ A c, Blk w p 72 #[.slice A out.length c] ∧ w.ownsRow (p + 1) 5 1 (.slice A out.length c) out.length (bys out)
theorem WrP.below {w w' : World} {p : Nat} {out : List Int} (h : WrP w p out) (hb : Below w.heap.size w w') : WrP w' p out := by
  obtain ⟨A, c, h1, h2⟩ := h
  exact ⟨A, c, h1.below hb h1.lt, h2.kept (row := none) ⟨hb.os, hb.tape, hb.output, hb.size, fun k hk _ => hb.block k hk⟩ (by cases (Value.slice A out.length c).ownBlock <;> simp)⟩
theorem WrP.alloc {w : World} {p : Nat} {out : List Int} (h : WrP w p out) (o : Obj) : WrP (w.alloc o) p out := by
  obtain ⟨A, c, h1, h2⟩ := h
  exact ⟨A, c, h1.alloc o, h2.alloc o⟩
theorem WrP.new (w : World) : WrP (w.alloc (.cells #[.slice none 0 0] 72)) w.heap.size [] := ⟨none, 0, Blk.new w 72 _, World.ownsRow_nil _ _ _ _⟩
set_option maxRecDepth 10000 in
set_option maxHeartbeats 1000000 in
theorem int_any (p : Nat) (n : Int) (out : List Int) (w : World) (hw : WrP w p out) (h0 : -9223372036854775808 ≤ n) (h1 : n < 9223372036854775808) (hl : out.length ≤ 1000000000) :
    Calls Tryd.prog 55 #[.pointer (some ⟨p, 0, none⟩), .int .i64 n] w (fun e w' => e = .returned (.tuple #[]) ∧ WrP w' p (out ++ encI n) ∧ Below p w w') := by
  have hz := zig_bits h0 h1
  have hlen := encI_len h0 h1
  have hzl := zig_lt h0 h1
  have HE := Lib.hid (show encI n = encU (zig n) from rfl)
  generalize encI n = en at *
  go_enter Tryd.func55, Tryd.ntmps55
  go_wp2_with fail
  generalize zig n = z at *
  clear hz
  go_loopw [4] (fun vu wr => ∃ (u : Nat) (o : List Int), vu = .int .u64 u ∧ u < 18446744073709551616 ∧ WrP wr p o ∧ o ++ encU u = out ++ en ∧ Below p w wr) (fun u _ => (intOf u).toNat)
  case atStart => exact ⟨z, out, rfl, hzl, hw, by rw [HE.out], Below.refl _ _⟩
  case round =>
    obtain ⟨u, o, rfl, hu, hwr, ho, hb⟩ := hrel
    have HO := Lib.hid ho
    have hol : o.length + (encU u).length ≤ out.length + en.length := by rw [← List.length_append, ← List.length_append, ho]; exact Nat.le_refl _
    clear ho
    obtain ⟨A, c, hk, hown⟩ := hwr
    obtain ⟨q0, q1, q2⟩ := hk.facts
    by_cases h : u < 128
    · have h' : ¬ (128 : Int) ≤ u := by omega
      have hu8 : IntKind.u8.wrap (u : Int) = u := by rw [IntKind.wrap_u8']; omega
      go_wp2_with (at_builtin; refine wpList_append_any _ rfl _ _ _ rfl (p + 1) 5 _ 1 1 Tryd.underlying40 info5 rfl (by omega) (.slice A o.length c) o.length (bys o) rfl (hown.alloc _) _ (some ⟨wr.heap.size, 0, none⟩) 1 1 [.int .u8 u] rfl (Reads.newS _ [.int .u8 u] 5 (0, 0) 1 1 rfl _ rfl) (by simp [Value.oneCell']) (by simp only [maxLen]; omega) (by omega) (by simp; omega) ?_; intro A4 c4 w4 hown4 hgr4 hat4; have hk4 := (hk.alloc _).grown hgr4 (by intro e; have := (hown.lt p e.symm).1; omega); obtain ⟨r0, r1, r2⟩ := hk4.facts)
      refine bodyPost_end (v := .tuple #[]) (by simp [results, Tryd.results55, go_sem]) rfl ⟨rfl, ?_, ?_⟩
      · rw [← HO.out, encU_lt h]
        refine ⟨A4, c4, ?_, ?_⟩
        · have := hk4.set_ 0 (.slice A4 (o.length + 1) c4)
          simpa using this
        · have := own_far hown4 (p := ⟨p, 0, none⟩) (by simp) (.slice A4 (o.length + 1) c4)
          simpa using this
      · exact ((hb.alloc (Nat.le_of_lt (Nat.lt_of_lt_of_le q0 (Nat.le_refl _))) _).grown hgr4 (by simp; omega) (fun g hg => by have := (hown.lt g hg).1; omega)).setCell (by simp) _
    · have h' : (128 : Int) ≤ u := by omega
      obtain ⟨lo, hlo⟩ : ∃ lo : Int, lo = ((u % 128 + 128 : Nat) : Int) := ⟨_, rfl⟩
      have hu8 : bits .or .u8 ((u : Int) % 256) 128 = lo := by rw [hlo, ← low_or u, IntKind.wrap_u8']
      have HLo := Lib.hid hlo; clear hlo
      go_wp2_with (at_builtin; refine wpList_append_any _ rfl _ _ _ rfl (p + 1) 5 _ 1 1 Tryd.underlying40 info5 rfl (by omega) (.slice A o.length c) o.length (bys o) rfl (hown.alloc _) _ (some ⟨wr.heap.size, 0, none⟩) 1 1 [.int .u8 lo] rfl (Reads.newS _ [.int .u8 lo] 5 (0, 0) 1 1 rfl _ rfl) (by simp [Value.oneCell']) (by simp only [maxLen]; omega) (by omega) (by simp; omega) ?_; intro A4 c4 w4 hown4 hgr4 hat4; have hk4 := (hk.alloc _).grown hgr4 (by intro e; have := (hown.lt p e.symm).1; omega); obtain ⟨r0, r1, r2⟩ := hk4.facts)
      have hsh : (u : Int) / 128 = ((u / 128 : Nat) : Int) := by omega
      refine ⟨⟨u / 128, o ++ [lo], congrArg _ hsh, by omega, ?_, ?_, ?_⟩, by simp [intOf]; omega⟩
      · refine ⟨A4, c4, ?_, ?_⟩
        · have := hk4.set_ 0 (.slice A4 (o.length + 1) c4)
          simpa using this
        · have := own_far hown4 (p := ⟨p, 0, none⟩) (by simp) (.slice A4 (o.length + 1) c4)
          simpa using this
      · rw [← HO.out, encU_ge h, HLo.out, List.append_assoc]; rfl
      · exact ((hb.alloc (Nat.le_of_lt (Nat.lt_of_lt_of_le q0 (Nat.le_refl _))) _).grown hgr4 (by simp; omega) (fun g hg => by have := (hown.lt g hg).1; omega)).setCell (by simp) _

theorem RI.at_ {w : World} {B : Nat → Prop} {A : Option Addr} {l : List Int} (h : RI w B A l) {k : Nat} (hk : k < l.length) : w.cell? ⟨bk A, ofs A + k, none⟩ = some (.int .i64 (gd l k)) :=
  (h.cell2 k (by omega) (by omega)).trans (by rw [gd_get hk]; simp [List.getElem?_eq_getElem hk])

theorem size5 : (Tryd.prog.info? 5).map (·.size) = some 1 := by kernel_rfl
theorem bys_one (l : List Int) : ∀ v ∈ bys l, v.oneCell' = true := ints_oneCell .u8 l
set_option maxRecDepth 10000 in
set_option maxHeartbeats 1000000 in
theorem encoded_any (p : Nat) (out : List Int) (w : World) (hw : WrP w p out) (hl : out.length ≤ 1000000000) :
    Calls Tryd.prog 59 #[.pointer (some ⟨p, 0, none⟩)] w (fun e w' => ∃ A c, e = .returned (.slice A out.length c) ∧ Reads w' (w.heap.size ≤ ·) 1 A out.length (bys out) ∧ Below w.heap.size w w') := by
  obtain ⟨A, c, hk, hown⟩ := hw
  have hr := Reads.of_own hown
  have hmk := run_make1 (P := Tryd.prog) 40 5 (.int .u8 0) 1 Tryd.underlying40 info5 rfl out.length (by omega) (by omega)
  have hcp1 := run_copy_new (P := Tryd.prog) 40 40 3 5 Tryd.underlying40 size5 (c := c) (d := out.length) 5 (zrow (.int .u8 0) out.length) hr (bys_one out) (size_zrow _ _) w.heap.size rfl
  obtain ⟨q0, q1, q2⟩ := hk.facts
  clear hown hr
  go_enter Tryd.func59, Tryd.ntmps59
  go_wp2
  go_ret
  refine ⟨_, _, rfl, ?_, (Below.refl _ _).alloc (Nat.le_refl _) _⟩
  have := Reads.new w (bys out) 5 (0, 0)
  simp only [List.length_map] at this
  exact this.more (fun k hk => by omega)
theorem flat_take (l : List Int) (k : Nat) (hk : k < l.length) : (l.take (k + 1)).flatMap encI = (l.take k).flatMap encI ++ encI (gd l k) := by
  rw [List.take_succ_eq_append_getElem hk, gd_get hk, List.flatMap_append, List.flatMap_cons, List.flatMap_nil, List.append_nil]
theorem flat_len (l : List Int) (h : ∀ x ∈ l, -9223372036854775808 ≤ x ∧ x < 9223372036854775808) : (l.flatMap encI).length ≤ 10 * l.length := by
  induction l with
  | nil => simp
  | cons a r ih =>
    have h1 := encI_len (h a (by simp)).1 (h a (by simp)).2
    have h2 := ih (fun x hx => h x (by simp [hx]))
    simp only [List.flatMap_cons, List.length_append, List.length_cons]; omega
set_option maxRecDepth 10000 in
set_option maxHeartbeats 1000000 in
theorem wints_any (p : Nat) (A : Option Addr) (c : Nat) (l out : List Int) (w : World) (hw : WrP w p out) (hr : RI w (· < p) A l) (hx : ∀ x ∈ l, -9223372036854775808 ≤ x ∧ x < 9223372036854775808) (hm : l.length ≤ 1000) (hl : out.length ≤ 900000000) :
    Calls Tryd.prog 57 #[.pointer (some ⟨p, 0, none⟩), .slice A l.length c] w (fun e w' => e = .returned (.tuple #[]) ∧ WrP w' p (out ++ encIs l) ∧ Below p w w') := by
  have pA := hr.plain (by omega)
  have HL := Lib.hid (int_any p (l.length : Int) out w hw (by omega) (by omega) (by omega))
  have HX := Lib.hid hx
  clear hx
  have hle : (encI (l.length : Int)).length ≤ 10 := encI_len (by omega) (by omega)
  have HE := Lib.hid (show encIs l = encI (l.length : Int) ++ l.flatMap encI from rfl)
  generalize encI (l.length : Int) = el at *
  go_enter Tryd.func57, Tryd.ntmps57
  go_wp2_with (go_at_call 55; ((with_reducible refine HL.out.mono ?_); rintro e w1 ⟨rfl, hw1, hb1⟩))
  go_loopw [12] (fun vi wr => ∃ k : Nat, k ≤ l.length ∧ vi = .int .i64 k ∧ WrP wr p (out ++ el ++ (l.take k).flatMap encI) ∧ Below p w wr) (fun i _ => l.length - (intOf i).toNat)
  case atStart => exact ⟨0, Nat.zero_le _, rfl, by simpa using hw1, hb1⟩
  case round =>
    obtain ⟨k, hk, rfl, hwr, hb⟩ := hrel
    have hrr := hr.below hb (fun _ h => h)
    by_cases hlt : k < l.length
    · have hlt' : (k : Int) < l.length := by omega
      have hix := fun W => ix22 pA c k hlt W
      have hcell := Wr.RI.at_ hrr hlt
      have hg := HX.out (gd l k) (by rw [gd_get hlt]; exact List.getElem_mem hlt)
      have hfl : ((l.take k).flatMap encI).length ≤ 10 * l.length := by
        have := flat_len (l.take k) (fun x hx => HX.out x (List.mem_of_mem_take hx))
        have h2 : (l.take k).length ≤ l.length := by simp; omega
        omega
      have HI := Lib.hid (int_any p (gd l k) _ wr hwr hg.1 hg.2 (by simp only [List.length_append]; omega))
      rw [List.append_assoc, ← flat_take l k hlt] at HI
      go_wp2_with (go_at_call 55; ((with_reducible refine HI.out.mono ?_); rintro e w2 ⟨rfl, hw2, hb2⟩))
      exact ⟨⟨k + 1, by omega, by go_num, by simpa using hw2, hb.trans hb2⟩, by simp [intOf]; omega⟩
    · have hge : ¬ ((k : Int) < l.length) := by omega
      have HK : Hid (l.take k = l) := List.take_of_length_le (by omega)
      go_wp2_with fail
      refine bodyPost_end (v := .tuple #[]) (by simp [results, Tryd.results57, go_sem]) rfl ⟨rfl, ?_, hb⟩
      rw [HK.out] at hwr
      rw [HE.out]
      simpa using hwr

end Go.Proofs.YtipkicijfedfoaaDoor.Wr


namespace Go.Wire
theorem rdU_suf : ∀ (l : List Int) (i u : Nat), ∃ pre, l = pre ++ (rdU i u l).2.2
  | [], i, u => ⟨[], by rw [rdU_nil]; rfl⟩
  | b :: r, i, u => by
    by_cases h : (i = 9 ∧ b ≠ 1) ∨ (0 < i ∧ b = 0)
    · rw [rdU_bad h]; exact ⟨b :: r, by simp⟩
    · by_cases hb : b < 128
      · rw [rdU_last h hb]; exact ⟨[b], rfl⟩
      · rw [rdU_more h hb]
        obtain ⟨pre, e⟩ := rdU_suf r (i + 1) (u + (b.toNat - 128) * 128 ^ i)
        exact ⟨b :: pre, by rw [List.cons_append, ← e]⟩
theorem rdI_suf (l : List Int) : ∃ pre, l = pre ++ (rdI l).2.2 := by
  unfold rdI
  split
  · exact rdU_suf l 0 0
  · exact ⟨l, by simp⟩
theorem rdI_bytes {l : List Int} (h : Bytes l) : Bytes (rdI l).2.2 := by
  obtain ⟨pre, e⟩ := rdI_suf l
  rw [e] at h
  exact h.right
theorem rdI_len (l : List Int) : (rdI l).2.2.length ≤ l.length := by
  obtain ⟨pre, e⟩ := rdI_suf l
  have := congrArg List.length e
  rw [List.length_append] at this; omega
end Go.Wire

namespace Go.Wire
theorem rdL_le (l : List Int) (h : (rdL l).1 = 0) : 0 ≤ (rdL l).2.1 ∧ (rdL l).2.1 ≤ (rdL l).2.2.length := by
  unfold rdL at h ⊢
  by_cases h0 : (rdI l).1 = 0
  · rw [if_pos h0] at h ⊢
    by_cases h1 : (rdI l).2.1 < 0
    · rw [if_pos h1] at h; simp at h
    · rw [if_neg h1] at h ⊢
      by_cases h2 : ((rdI l).2.2.length : Int) < (rdI l).2.1
      · rw [if_pos h2] at h; simp at h
      · rw [if_neg h2]; omega
  · rw [if_neg h0] at h; exact absurd h h0
theorem rdL_suf (l : List Int) : ∃ pre, l = pre ++ (rdL l).2.2 := by
  unfold rdL
  split
  · split
    · exact ⟨l, by simp⟩
    · split
      · exact ⟨l, by simp⟩
      · exact rdI_suf l
  · exact ⟨l, by simp⟩
theorem rdL_bytes {l : List Int} (h : Bytes l) : Bytes (rdL l).2.2 := by
  obtain ⟨pre, e⟩ := rdL_suf l
  rw [e] at h
  exact h.right
theorem rdL_len (l : List Int) : (rdL l).2.2.length ≤ l.length := by
  obtain ⟨pre, e⟩ := rdL_suf l
  have := congrArg List.length e
  rw [List.length_append] at this; omega
end Go.Wire

namespace Go.Proofs.YtipkicijfedfoaaDoor.Wr
set_option linter.unusedVariables false
set_option linter.unusedSimpArgs false
open Go.RowKit Go.Own Go.Quo Go.Wire

abbrev ivs (l : List Int) : List Value := l.map (Value.int .i64)

theorem gd_set {l : List Int} {k j : Nat} {v : Int} (hk : k < l.length) : gd (l.set k v) j = if j = k then v else gd l j := by
  unfold gd
  rw [List.getD_eq_getElem?_getD, List.getD_eq_getElem?_getD, List.getElem?_set]
  by_cases h : k = j
  · subst h; rw [if_pos rfl, if_pos rfl, if_pos hk]; rfl
  · rw [if_neg h, if_neg (fun e => h e.symm)]
theorem ivs_set (l : List Int) (k : Nat) (v : Int) : (ivs l).toArray.setIfInBounds k (.int .i64 v) = (ivs (l.set k v)).toArray := by
  simp [ivs, List.map_set]
theorem ivs_get {l : List Int} {k : Nat} (hk : k < l.length) : (ivs l).toArray[k]? = some (.int .i64 (gd l k)) := by
  simp [ivs, gd_get hk, hk]

theorem gd_ext {a b : List Int} (hl : a.length = b.length) (h : ∀ j, j < b.length → gd a j = gd b j) : a = b := by
  apply List.ext_getElem hl
  intro i h1 h2
  have := h i h2
  rwa [gd_get h1, gd_get h2] at this

def cutA (A : Option Addr) (c k : Nat) : Option Addr := if c = k then A else A.map (·.add k)

/-- A reader at block p: what is left and the error; the bytes lie in blocks of B. -/
def RdP (w : World) (p : Nat) (B : Nat → Prop) (rest : List Int) (err : Int) : Prop := ∃ A c, Blk w p 103 #[.slice A rest.length c, .int .i64 err] ∧ Reads w B 1 A rest.length (bys rest) ∧ rest.length ≤ c
theorem RdP.fr {w w' : World} {p : Nat} {B S : Nat → Prop} {rest : List Int} {err : Int} (h : RdP w p B rest err) (hf : Fr S w w') (hp : ¬ S p) (hS : ∀ k, B k → ¬ S k) : RdP w' p B rest err := by
  obtain ⟨A, c, h1, h2, h3⟩ := h
  exact ⟨A, c, h1.fr hf hp, h2.fr hf hS, h3⟩
theorem i5x : ∃ i, Tryd.prog.info? 5 = some i ∧ i.size = 1 := by obtain ⟨i, h, _, h2, _⟩ := info_parts info5; exact ⟨i, h, h2⟩
theorem ix45 {A : Option Addr} {n : Nat} (hA : Plain A n) (c k : Nat) (hk : k < n) (w : World) : (Instr.indexAt 40 (.slice A n c) (.int .i64 (k : Int))).run Tryd.prog w = .ok (.pointer (some ⟨bk A, ofs A + k, none⟩)) w := by
  obtain ⟨i, h1, h2⟩ := i5x
  simpa using run_indexAt2 (P := Tryd.prog) Tryd.underlying40 h1 h2 hA c k hk w
theorem run_cutB {A : Option Addr} {n c : Nat} (k : Nat) (hk : k ≤ n) (W : World) :
    (Instr.slice 40 (.slice A n c) (some (.int .i64 (k : Int))) none none).run Tryd.prog W = .ok (.slice (cutA A c k) (n - k) (c - k)) W := by
  have hu : Tryd.prog.underlying 40 = some (.slice (Tryd.prog.elem 40)) := by kernel_rfl
  have he : Tryd.prog.elem 40 = 5 := by kernel_rfl
  obtain ⟨i, h1, h2⟩ := i5x
  rw [run_slice_l W 40 A n c hu .i64 (k : Int) (by omega) (by omega), he]
  simp [sizeOf, typeInfo, h1, h2, sliced, cutA]
theorem run_cutB2 {A : Option Addr} {n c : Nat} (k : Nat) (hk : k ≤ n) (W : World) :
    (Instr.sliceAt 40 (.slice A n c) (some (.int .i64 (k : Int))) none none).run Tryd.prog W = .ok (.slice (cutA A c k) (n - k) (c - k)) W := by
  have hu : Tryd.prog.underlying 40 = some (.slice (Tryd.prog.elem 40)) := by kernel_rfl
  rw [run_sliceAt_slice W 40 _ _ _ _ hu]
  exact run_cutB k hk W
theorem Reads.cutB {w : World} {B : Nat → Prop} {A : Option Addr} {l : List Int} (h : Reads w B 1 A l.length (bys l)) {k c : Nat} (hk : k ≤ l.length) (hc : l.length ≤ c) : Reads w B 1 (cutA A c k) (l.drop k).length (bys (l.drop k)) := by
  have := Reads.cut h hk hc
  simp only [Nat.mul_one] at this
  rw [List.length_drop, bys, List.map_drop]
  exact this
set_option maxRecDepth 10000 in
set_option maxHeartbeats 1000000 in
theorem fail_any (p : Nat) (B : Nat → Prop) (rest : List Int) (err e' : Int) (w : World) (h : RdP w p B rest err) :
    Calls Tryd.prog 81 #[.pointer (some ⟨p, 0, none⟩), .int .i64 e'] w fun e w' => e = .returned (.tuple #[]) ∧ RdP w' p B [] e' ∧ Fr (· = p) w w' := by
  obtain ⟨A, c, hk, hr, hc⟩ := h
  obtain ⟨q0, q1, q2⟩ := hk.facts
  go_enter Tryd.func81, Tryd.ntmps81
  go_wp2
  refine bodyPost_end (v := .tuple #[]) (by simp [results, Tryd.results81, go_sem]) rfl ⟨rfl, ⟨none, 0, ?_, Reads.none_, by simp⟩, ((Fr.refl (fun x => x = p) _).setCell (.inl rfl) _).setCell (.inl rfl) _⟩
  simpa using (hk.set_ 1 (.int .i64 e')).set_ 0 (.slice none 0 0)
set_option maxRecDepth 10000 in
set_option maxHeartbeats 1000000 in
theorem next_some (p : Nat) (B : Nat → Prop) (b : Int) (rest : List Int) (w : World) (h : RdP w p B (b :: rest) 0) (hp : ¬ B p) :
    Calls Tryd.prog 80 #[.pointer (some ⟨p, 0, none⟩)] w fun e w' => e = .returned (.tuple #[.int .u8 b, .bool true]) ∧ RdP w' p B rest 0 ∧ Fr (· = p) w w' := by
  obtain ⟨A, c, hk, hr, hc⟩ := h
  obtain ⟨q0, q1, q2⟩ := hk.facts
  have pA := hr.plain (by omega)
  have hlen : (b :: rest).length = rest.length + 1 := rfl
  rw [hlen] at q1
  have hix : ∀ W : World, (Instr.indexAt 40 (.slice A (rest.length + 1) c) (.int .i64 0)).run Tryd.prog W = .ok (.pointer (some ⟨bk A, ofs A, none⟩)) W := fun W => ix45 pA c 0 (by simp) W
  have hcell : w.cell? ⟨bk A, ofs A, none⟩ = some (.int .u8 b) := by
    have := hr.cell2 0 (by simp) (by omega)
    simpa [bys] using this
  have hcut : ∀ W : World, (Instr.slice 40 (.slice A (rest.length + 1) c) (some (.int .i64 1)) none none).run Tryd.prog W = .ok (.slice (cutA A c 1) rest.length (c - 1)) W := fun W => by
    simpa using run_cutB (A := A) (n := rest.length + 1) (c := c) 1 (by omega) W
  have hcut2 : ∀ W : World, (Instr.sliceAt 40 (.slice A (rest.length + 1) c) (some (.int .i64 1)) none none).run Tryd.prog W = .ok (.slice (cutA A c 1) rest.length (c - 1)) W := fun W => by
    simpa using run_cutB2 (A := A) (n := rest.length + 1) (c := c) 1 (by omega) W
  have hne : ((rest.length : Int) + 1 == 0) = false := by simp; omega
  go_enter Tryd.func80, Tryd.ntmps80
  go_wp2
  refine bodyPost_ret (v := .tuple #[.int .u8 b, .bool true]) (by simp [results, Tryd.results80, go_sem]) rfl ⟨rfl, ⟨cutA A c 1, c - 1, ?_, ?_, by simp at hc; omega⟩, (Fr.refl (fun x => x = p) _).setCell (.inl rfl) _⟩
  · simpa using hk.set_ 0 (.slice (cutA A c 1) rest.length (c - 1))
  · have := Reads.cutB hr (k := 1) (by simp) hc
    exact (show Reads w B 1 (cutA A c 1) rest.length (bys rest) from this).setCell (by simpa using hp) _
set_option maxRecDepth 10000 in
set_option maxHeartbeats 1000000 in
theorem next_none (p : Nat) (B : Nat → Prop) (w : World) (h : RdP w p B [] 0) :
    Calls Tryd.prog 80 #[.pointer (some ⟨p, 0, none⟩)] w fun e w' => e = .returned (.tuple #[.int .u8 0, .bool false]) ∧ RdP w' p B [] 11 ∧ Fr (· = p) w w' := by
  have HF := Lib.hid (fail_any p B [] 0 11 w h)
  obtain ⟨A, c, hk, hr, hc⟩ := h
  obtain ⟨q0, q1, q2⟩ := hk.facts
  simp only [List.length_nil] at q1
  go_enter Tryd.func80, Tryd.ntmps80
  go_wp2_with (go_at_call 81; ((with_reducible refine HF.out.mono ?_); rintro e w1 ⟨rfl, h1, h2⟩))
  exact bodyPost_ret (v := .tuple #[.int .u8 0, .bool false]) (by simp [results, Tryd.results80, go_sem]) rfl ⟨rfl, h1, h2⟩
set_option maxRecDepth 10000 in
set_option maxHeartbeats 1000000 in
theorem next_err (p : Nat) (B : Nat → Prop) (rest : List Int) (err : Int) (w : World) (h : RdP w p B rest err) (he : err ≠ 0) :
    Calls Tryd.prog 80 #[.pointer (some ⟨p, 0, none⟩)] w fun e w' => e = .returned (.tuple #[.int .u8 0, .bool false]) ∧ w = w' := by
  obtain ⟨A, c, hk, hr, hc⟩ := h
  obtain ⟨q0, q1, q2⟩ := hk.facts
  have heb : (err == 0) = false := by simpa using he
  go_enter Tryd.func80, Tryd.ntmps80
  go_wp2
  exact bodyPost_ret (v := .tuple #[.int .u8 0, .bool false]) (by simp [results, Tryd.results80, go_sem]) rfl ⟨rfl, rfl⟩
set_option maxRecDepth 10000 in
set_option maxHeartbeats 1000000 in
theorem int_err (p : Nat) (B : Nat → Prop) (rest : List Int) (err : Int) (w : World) (h : RdP w p B rest err) (he : err ≠ 0) :
    Calls Tryd.prog 47 #[.pointer (some ⟨p, 0, none⟩)] w fun e w' => e = .returned (.int .i64 0) ∧ w = w' := by
  have HN := Lib.hid (next_err p B rest err w h he)
  clear h he
  go_enter Tryd.func47, Tryd.ntmps47
  go_wp2_with fail
  go_loopw [3, 7] (fun vu vi wr => vi = .int .i64 0 ∧ vu = .int .u64 0 ∧ wr = w) (fun _ _ _ => 0)
  case atStart => exact ⟨rfl, rfl, rfl⟩
  case round =>
    obtain ⟨rfl, rfl, rfl⟩ := hrel
    go_wp2_with (go_at_call 80; ((with_reducible refine HN.out.mono ?_); rintro e w1 ⟨rfl, rfl⟩))
    go_ret
    exact ⟨rfl, rfl⟩

theorem and127 {b : Int} (h0 : 0 ≤ b) (h1 : b < 256) : bits .and .u8 b 127 = ((b.toNat % 128 : Nat) : Int) := by
  rw [u8_and _ _ h0 (by omega) (by omega) (by omega), show (127 : Int).toNat = 127 from rfl, nat_mask7]
theorem pow7 (i : Nat) : (2 : Nat) ^ (7 * i) = 128 ^ i := by rw [Nat.pow_mul]
theorem or_lt {i u : Nat} {b : Int} (hu : u < 128 ^ i) (h0 : 0 ≤ b) (h1 : b < 256) (hi : i ≤ 8 ∨ (i = 9 ∧ b = 1)) : u + (b.toNat % 128) * 128 ^ i < 18446744073709551616 := by
  rcases hi with hi | ⟨rfl, rfl⟩
  · have : 128 ^ i ≤ 128 ^ 8 := Nat.pow_le_pow_right (by decide) hi
    have h7 : b.toNat % 128 ≤ 127 := by omega
    have := Nat.mul_le_mul_right (128 ^ i) h7
    have e : (128 : Nat) ^ 8 = 72057594037927936 := by decide
    omega
  · have e : (128 : Nat) ^ 9 = 9223372036854775808 := by decide
    rw [e] at hu ⊢
    have : (1 : Int).toNat % 128 = 1 := rfl
    rw [this]; omega
theorem or_step {i u : Nat} {b : Int} (hu : u < 128 ^ i) (h0 : 0 ≤ b) (h1 : b < 256) (hi : i ≤ 8 ∨ (i = 9 ∧ b = 1)) :
    bits .or .u64 (u : Int) (IntKind.u64.wrap (IntKind.u64.wrap (bits .and .u8 b 127) * 2 ^ (7 * i))) = ((u + (b.toNat % 128) * 128 ^ i : Nat) : Int) := by
  have hlt := or_lt hu h0 h1 hi
  rw [and127 h0 h1, IntKind.wrap_u64, IntKind.wrap_u64]
  have e1 : ((b.toNat % 128 : Nat) : Int) % 18446744073709551616 = ((b.toNat % 128 : Nat) : Int) := by omega
  rw [e1]
  have e2 : ((b.toNat % 128 : Nat) : Int) * 2 ^ (7 * i) = (((b.toNat % 128) * 128 ^ i : Nat) : Int) := by
    rw [← pow7]; simp
  rw [e2, show (((b.toNat % 128) * 128 ^ i : Nat) : Int) % 18446744073709551616 = (((b.toNat % 128) * 128 ^ i : Nat) : Int) by omega]
  rw [u64_or_nat _ _ (by omega) (by omega), Nat.or_comm, nat_join (7 * i) _ _ (by rw [pow7]; exact Nat.mul_mod_left _ _) (by rw [pow7]; exact hu), Nat.add_comm]
theorem xor_zero_i64 {x : Int} (h0 : 0 ≤ x) (h1 : x < 9223372036854775808) : bits .xor .i64 x 0 = x := by
  show IntKind.i64.wrap ((BitVec.ofInt 64 x ^^^ BitVec.ofInt 64 0).toNat : Int) = _
  have h2 : (BitVec.ofInt 64 x).toNat = x.toNat := by
    rw [BitVec.toNat_ofInt]
    have : ((2 ^ 64 : Nat) : Int) = 18446744073709551616 := by decide
    rw [this]; omega
  rw [show BitVec.ofInt 64 0 = 0#64 from rfl, BitVec.xor_zero, h2, IntKind.wrap_i64]
  omega
theorem bits_xor_comm (k : IntKind) (x y : Int) : bits .xor k x y = bits .xor k y x := by
  show IntKind.wrap k ((BitVec.ofInt k.bits x ^^^ BitVec.ofInt k.bits y).toNat : Int) = IntKind.wrap k ((BitVec.ofInt k.bits y ^^^ BitVec.ofInt k.bits x).toNat : Int)
  rw [BitVec.xor_comm]
theorem wrap64_in {x : Int} (h0 : -9223372036854775808 ≤ x) (h1 : x < 9223372036854775808) : wrap64 x = x := by
  unfold wrap64; omega
theorem unzig_bits {U : Nat} (h : U < 18446744073709551616) : bits .xor .i64 (wrap64 ((U : Int) / 2)) (wrap64 (-wrap64 (bits .and .u64 (U : Int) 1))) = unzig U := by
  rw [Lib.u64_and1 _ (by omega) (by omega)]
  rw [wrap64_in (x := (U : Int) / 2) (by omega) (by omega), wrap64_in (x := (U : Int) % 2) (by omega) (by omega), wrap64_in (x := -((U : Int) % 2)) (by omega) (by omega)]
  unfold unzig
  by_cases h2 : U % 2 = 0
  · rw [if_pos h2, show -((U : Int) % 2) = 0 by omega, xor_zero_i64 (by omega) (by omega)]; omega
  · rw [if_neg h2, show -((U : Int) % 2) = -1 by omega, bits_xor_comm, show (U : Int) / 2 = ((U / 2 : Nat) : Int) by omega, Lib.i64_not _ (by omega)]
set_option maxRecDepth 10000 in
set_option maxHeartbeats 2000000 in
theorem int_ok (p : Nat) (B : Nat → Prop) (rest : List Int) (w : World) (h : RdP w p B rest 0) (hp : ¬ B p) (hB : Bytes rest) :
    Calls Tryd.prog 47 #[.pointer (some ⟨p, 0, none⟩)] w fun e w' => e = .returned (.int .i64 (rdI rest).2.1) ∧ RdP w' p B (rdI rest).2.2 (rdI rest).1 ∧ Fr (· = p) w w' := by
  have HI := Lib.hid (show rdI rest = if (rdU 0 0 rest).1 = 0 then (0, unzig (rdU 0 0 rest).2.1, (rdU 0 0 rest).2.2) else ((rdU 0 0 rest).1, 0, []) from rfl)
  generalize rdI rest = RI0 at *
  have HB := Lib.hid hB
  clear hB
  go_enter Tryd.func47, Tryd.ntmps47
  go_wp2_with fail
  go_loopw [3, 7] (fun vu vi wr => ∃ (i u : Nat) (r : List Int), i ≤ 9 ∧ vi = .int .i64 i ∧ vu = .int .u64 u ∧ u < 128 ^ i ∧ rdU i u r = rdU 0 0 rest ∧ Bytes r ∧ RdP wr p B r 0 ∧ Fr (fun x => x = p) w wr) (fun _ i _ => 10 - (intOf i).toNat)
  case atStart => exact ⟨0, 0, rest, by omega, rfl, rfl, by simp, rfl, HB.out, h, Fr.refl _ _⟩
  case round =>
    obtain ⟨i, u, r, hi, rfl, rfl, hu, hru, hBr, hrd, hfr⟩ := hrel
    have HU := Lib.hid hu
    have HR := Lib.hid hru
    have HBr := Lib.hid hBr
    clear hu hru hBr h
    have hi' : (i : Int) < 10 := by omega
    cases r with
    | nil =>
      have HN := Lib.hid (next_none p B wr hrd)
      have HE := Lib.hid (show RI0 = (11, 0, []) by rw [HI.out, ← HR.out, rdU_nil]; rfl)
      clear hrd
      go_wp2_with (go_at_call 80; ((with_reducible refine HN.out.mono ?_); rintro e w1 ⟨rfl, h1, h2⟩))
      go_ret
      rw [HE.out]
      exact ⟨rfl, h1, hfr.trans h2⟩
    | cons b r =>
      have HN := Lib.hid (next_some p B b r wr hrd hp)
      have hb0 := (HBr.out b (by simp)).1
      have hb1 := (HBr.out b (by simp)).2
      clear hrd
      by_cases hbad : (i = 9 ∧ b ≠ 1) ∨ (0 < i ∧ b = 0)
      · have HE := Lib.hid (show RI0 = (2, 0, []) by rw [HI.out, ← HR.out, rdU_bad hbad]; rfl)
        have HF := Lib.hid fun W' (x : RdP W' p B r 0) => fail_any p B r 0 2 W' x
        have hcs : ((i : Int) == 9) = true ∧ (b == 1) = false ∧ b ≠ 1 ∨ (((i : Int) == 9) = false ∧ decide ((0 : Int) < i) = true ∧ (b == 0) = true ∧ 0 < i) := by
          rcases hbad with ⟨h1, h2⟩ | ⟨h1, h2⟩
          · left; exact ⟨by simpa using (show (i : Int) = 9 by omega), by simpa using h2, h2⟩
          · by_cases h9 : i = 9
            · left; exact ⟨by simpa using (show (i : Int) = 9 by omega), by simp; omega, by omega⟩
            · right; exact ⟨by simp; omega, by simpa using h1, by simpa using h2, h1⟩
        clear hbad
        rcases hcs with ⟨x1, x2, x2'⟩ | ⟨x1, x2, x3, x4⟩
        all_goals
          go_wp2_with (first
            | (go_at_call 80; ((with_reducible refine HN.out.mono ?_); rintro e w1 ⟨rfl, h1, h2⟩; have HF1 := Lib.hid (HF.out w1 h1)))
            | (go_at_call 81; ((with_reducible refine HF1.out.mono ?_); rintro e w2 ⟨rfl, h3, h4⟩)))
          go_ret
          rw [HE.out]
          exact ⟨rfl, h3, (hfr.trans h2).trans h4⟩
      · obtain ⟨U, hU⟩ : ∃ U : Nat, U = u + (b.toNat % 128) * 128 ^ i := ⟨_, rfl⟩
        have hi9 : i ≤ 8 ∨ (i = 9 ∧ b = 1) := by omega
        have hor := or_step HU.out hb0 hb1 hi9
        rw [← hU] at hor
        have hU64 := or_lt HU.out hb0 hb1 hi9
        rw [← hU] at hU64
        have HUu := Lib.hid hU
        have hxor := unzig_bits hU64
        rw [wrap64_in (x := (U : Int) / 2) (by omega) (by omega)] at hxor
        have HBd := Lib.hid hbad
        have hcs : (((i : Int) == 9) = true ∧ b = 1 ∧ 0 < i) ∨ (((i : Int) == 9) = false ∧ 0 < i ∧ (b == 0) = false) ∨ (((i : Int) == 9) = false ∧ ¬ 0 < i) := by
          by_cases h9 : i = 9
          · left; exact ⟨by simpa using (show (i : Int) = 9 by omega), by omega, by omega⟩
          · by_cases h0 : 0 < i
            · right; left; exact ⟨by simp; omega, h0, by simp; omega⟩
            · right; right; exact ⟨by simp; omega, h0⟩
        clear hbad hU hi9
        by_cases hlt : b < 128
        · have HE := Lib.hid (show RI0 = (0, unzig U, r) by rw [HI.out, ← HR.out, rdU_last HBd.out hlt, HUu.out, show b.toNat % 128 = b.toNat by omega]; rfl)
          rcases hcs with ⟨x1, rfl, x3⟩ | ⟨x1, x2, x3⟩ | ⟨x1, x2⟩
          all_goals
            go_wp2_with (first
              | (go_at_call 80; ((with_reducible refine HN.out.mono ?_); rintro e w1 ⟨rfl, h1, h2⟩)))
            go_ret
            rw [HE.out]
            exact ⟨rfl, h1, hfr.trans h2⟩
        · have HE := Lib.hid (show rdU (i + 1) U r = rdU 0 0 rest by rw [← HR.out, rdU_more HBd.out hlt, HUu.out, show b.toNat % 128 = b.toNat - 128 by omega])
          have hge : ¬ b < 128 := hlt
          rcases hcs with ⟨x1, rfl, x3⟩ | ⟨x1, x2, x3⟩ | ⟨x1, x2⟩
          · omega
          all_goals
            have hi8 : i ≤ 8 := by simp at x1; omega
            have HU8 := Lib.hid (show U < 128 ^ (i + 1) by
              rw [HUu.out, Nat.pow_succ]
              have h7 : b.toNat % 128 ≤ 127 := by omega
              have := Nat.mul_le_mul_right (128 ^ i) h7
              have := HU.out
              omega)
            go_wp2_with (first
              | (go_at_call 80; ((with_reducible refine HN.out.mono ?_); rintro e w1 ⟨rfl, h1, h2⟩)))
            exact ⟨⟨i + 1, U, r, by omega, by go_num, rfl, HU8.out, HE.out, fun x hx => HBr.out x (by simp [hx]), h1, hfr.trans h2⟩, by simp [intOf]; omega⟩

set_option maxRecDepth 10000 in
set_option maxHeartbeats 2000000 in
theorem length_ok (p : Nat) (B : Nat → Prop) (rest : List Int) (w : World) (h : RdP w p B rest 0) (hp : ¬ B p) (hB : Bytes rest) :
    Calls Tryd.prog 83 #[.pointer (some ⟨p, 0, none⟩)] w fun e w' => e = .returned (.int .i64 (rdL rest).2.1) ∧ RdP w' p B (rdL rest).2.2 (rdL rest).1 ∧ Fr (· = p) w w' := by
  have HI := Lib.hid (int_ok p B rest w h hp hB)
  have HL := Lib.hid (show rdL rest = if (rdI rest).1 = 0 then (if (rdI rest).2.1 < 0 then (2, 0, []) else if ((rdI rest).2.2.length : Int) < (rdI rest).2.1 then (11, 0, []) else rdI rest) else ((rdI rest).1, 0, []) from rfl)
  have HEr := Lib.hid (rdI_err rest)
  generalize rdL rest = RL at *
  generalize rdI rest = R0 at *
  obtain ⟨e1, n, r1⟩ := R0
  simp only at HI HL
  clear h hp hB
  go_enter Tryd.func83, Tryd.ntmps83
  go_wp2_with fail
  refine HI.out.mono ?_
  rintro e w1 ⟨rfl, hrd, hfr⟩
  have HF := Lib.hid fun er => fail_any p B r1 e1 er w1 hrd
  obtain ⟨A1, c1, hk1, hr1, hc1⟩ := id hrd
  obtain ⟨q0, q1, q2⟩ := hk1.facts
  by_cases h0 : e1 = 0
  · have h0b : (e1 == 0) = true := by simpa using h0
    by_cases hn : n < 0
    · have HE := Lib.hid (show RL = (2, 0, []) by rw [HL.out, if_pos h0, if_pos hn])
      clear h0
      go_wp2_with (go_at_call 81; ((with_reducible refine (HF.out _).mono ?_); rintro e w2 ⟨rfl, h3, h4⟩))
      go_ret
      rw [HE.out]
      exact ⟨rfl, h3, hfr.trans h4⟩
    · by_cases hlt : (r1.length : Int) < n
      · have HE := Lib.hid (show RL = (11, 0, []) by rw [HL.out, if_pos h0, if_neg hn, if_pos hlt])
        clear h0
        go_wp2_with (go_at_call 81; ((with_reducible refine (HF.out _).mono ?_); rintro e w2 ⟨rfl, h3, h4⟩))
        go_ret
        rw [HE.out]
        exact ⟨rfl, h3, hfr.trans h4⟩
      · have HE := Lib.hid (show RL = (e1, n, r1) by rw [HL.out, if_pos h0, if_neg hn, if_neg hlt])
        clear h0
        go_wp2
        go_ret
        rw [HE.out]
        exact ⟨rfl, hrd, hfr⟩
  · have h0b : (e1 == 0) = false := by simpa using h0
    obtain ⟨rfl, rfl⟩ : n = 0 ∧ r1 = [] := by
      rcases HEr.out with h | ⟨_, h⟩
      · exact absurd h h0
      · simpa using h
    have HE := Lib.hid (show RL = (e1, 0, []) by rw [HL.out, if_neg h0])
    clear h0
    go_wp2
    go_ret
    rw [HE.out]
    exact ⟨rfl, hrd, hfr⟩
set_option maxRecDepth 10000 in
set_option maxHeartbeats 2000000 in
theorem length_err (p : Nat) (B : Nat → Prop) (rest : List Int) (err : Int) (w : World) (h : RdP w p B rest err) (he : err ≠ 0) :
    Calls Tryd.prog 83 #[.pointer (some ⟨p, 0, none⟩)] w fun e w' => e = .returned (.int .i64 0) ∧ w = w' := by
  have HI := Lib.hid (int_err p B rest err w h he)
  obtain ⟨A1, c1, hk1, hr1, hc1⟩ := h
  obtain ⟨q0, q1, q2⟩ := hk1.facts
  have heb : (err == 0) = false := by simpa using he
  clear he
  go_enter Tryd.func83, Tryd.ntmps83
  go_wp2_with (go_at_call 47; ((with_reducible refine HI.out.mono ?_); rintro e w1 ⟨rfl, rfl⟩))
  go_ret
  exact ⟨rfl, rfl⟩
set_option maxRecDepth 10000 in
set_option maxHeartbeats 2000000 in
theorem finish_any (p : Nat) (B : Nat → Prop) (rest : List Int) (err : Int) (w : World) (h : RdP w p B rest err) :
    Calls Tryd.prog 51 #[.pointer (some ⟨p, 0, none⟩)] w fun e w' => e = .returned (.int .i64 (if err = 0 then (if rest.length = 0 then 0 else 2) else err)) ∧ w = w' := by
  obtain ⟨A1, c1, hk1, hr1, hc1⟩ := h
  obtain ⟨q0, q1, q2⟩ := hk1.facts
  by_cases h0 : err = 0
  · subst h0
    by_cases hl : rest.length = 0
    · rw [if_pos rfl, if_pos hl]
      have hl' : ¬ (0 : Int) < rest.length := by omega
      have HL := Lib.hid hl
      clear hl
      go_enter Tryd.func51, Tryd.ntmps51
      go_wp2
      go_ret
      exact ⟨rfl, rfl⟩
    · rw [if_pos rfl, if_neg hl]
      have hl' : (0 : Int) < rest.length := by omega
      go_enter Tryd.func51, Tryd.ntmps51
      go_wp2
      go_ret
      exact ⟨rfl, rfl⟩
  · rw [if_neg h0]
    have heb : (err == 0) = false := by simpa using h0
    clear h0
    go_enter Tryd.func51, Tryd.ntmps51
    go_wp2
    go_ret
    exact ⟨rfl, rfl⟩

set_option maxRecDepth 10000 in
set_option maxHeartbeats 1000000 in
theorem newReader_any (B : Nat → Prop) (A : Option Addr) (c : Nat) (l : List Int) (w : World) (h : Reads w B 1 A l.length (bys l)) (hl : l.length ≤ 1000000000) :
    Calls Tryd.prog 46 #[.slice A l.length c] w fun e w' => e = .returned (.pointer (some ⟨w.heap.size + 1, 0, none⟩)) ∧ RdP w' (w.heap.size + 1) (· = w.heap.size) l 0 ∧ Below w.heap.size w w' := by
  have hmk := run_make1 (P := Tryd.prog) 40 5 (.int .u8 0) 1 Tryd.underlying40 info5 rfl l.length (by omega) (by omega)
  have hcp1 := run_copy_new (P := Tryd.prog) 40 40 3 5 Tryd.underlying40 size5 (c := c) (d := l.length) 5 (zrow (.int .u8 0) l.length) h (bys_one l) (size_zrow _ _) w.heap.size rfl
  go_enter Tryd.func46, Tryd.ntmps46
  go_wp2
  go_ret
  refine ⟨rfl, ⟨some ⟨w.heap.size, 0, none⟩, l.length, by simpa using Blk.new (w.alloc (.cells (bys l).toArray 5)) 103 #[.slice (some ⟨w.heap.size, 0, none⟩) l.length l.length, .int .i64 0], ?_, Nat.le_refl _⟩, ((Below.refl _ _).alloc (Nat.le_refl _) _).alloc (by simp) _⟩
  have := Reads.new w (bys l) 5 (0, 0)
  simp only [List.length_map] at this
  exact this.alloc _
def IsPost (p : Nat) (B : Nat → Prop) (R : Int × List Int × List Int) (w : World) (e : Ending) (w' : World) : Prop :=
  ∃ A c, e = .returned (.slice A R.2.1.length c) ∧ RI w' (w.heap.size ≤ ·) A R.2.1 ∧ RdP w' p B R.2.2 R.1 ∧ Fr (· = p) w w'
set_option maxRecDepth 10000 in
set_option maxHeartbeats 1000000 in
theorem ints_err (p : Nat) (B : Nat → Prop) (rest : List Int) (err : Int) (w : World) (h : RdP w p B rest err) (he : err ≠ 0) :
    Calls Tryd.prog 49 #[.pointer (some ⟨p, 0, none⟩)] w fun e w' => e = .returned (.slice none 0 0) ∧ w = w' := by
  have HI := Lib.hid (length_err p B rest err w h he)
  clear h he
  go_enter Tryd.func49, Tryd.ntmps49
  go_wp2_with (go_at_call 83; ((with_reducible refine HI.out.mono ?_); rintro e w1 ⟨rfl, rfl⟩))
  go_ret
  exact ⟨rfl, rfl⟩
theorem RdP.alloc {w : World} {p : Nat} {B : Nat → Prop} {rest : List Int} {err : Int} (h : RdP w p B rest err) (o : Obj) : RdP (w.alloc o) p B rest err := by
  obtain ⟨A, c, h1, h2, h3⟩ := h
  exact ⟨A, c, h1.alloc o, h2.alloc o, h3⟩
set_option maxRecDepth 10000 in
set_option maxHeartbeats 2000000 in
theorem ints_ok (p : Nat) (B : Nat → Prop) (rest : List Int) (w : World) (h : RdP w p B rest 0) (hp : ¬ B p) (hBw : ∀ k, B k → k < w.heap.size) (hB : Bytes rest) (hl : rest.length ≤ 1000000) :
    Calls Tryd.prog 49 #[.pointer (some ⟨p, 0, none⟩)] w (IsPost p B (rdIs rest) w) := by
  have HI := Lib.hid (length_ok p B rest w h hp hB)
  have HR := Lib.hid (show rdIs rest = if (rdL rest).2.1 = 0 then ((rdL rest).1, [], (rdL rest).2.2) else readA (rdL rest).2.1.toNat [] (rdL rest).2.2 from rfl)
  have hLe := rdL_le rest
  have hLb := rdL_bytes hB
  have hLl := rdL_len rest
  have HEr := Lib.hid (rdL_err rest)
  generalize rdIs rest = RR at *
  generalize rdL rest = R0 at *
  obtain ⟨e1, n0, r1⟩ := R0
  simp only at HI HR hLe hLb HEr hLl
  clear h hB
  go_enter Tryd.func49, Tryd.ntmps49
  go_wp2_with fail
  refine HI.out.mono ?_
  rintro e w1 ⟨rfl, hrd, hfr⟩
  have hs1 := hfr.size
  by_cases h0 : n0 = 0
  · have h0b : (n0 == 0) = true := by simpa using h0
    have HE := Lib.hid (show RR = (e1, [], r1) by rw [HR.out, if_pos h0])
    clear h0
    go_wp2
    go_ret
    rw [HE.out]
    exact ⟨none, 0, rfl, Reads.none_, hrd, hfr⟩
  · have h0b : (n0 == 0) = false := by simpa using h0
    obtain ⟨rfl, hn0, hnr⟩ : e1 = 0 ∧ 0 ≤ n0 ∧ n0 ≤ r1.length := by
      rcases HEr.out with h | ⟨_, h⟩
      · exact ⟨h, (hLe h).1, (hLe h).2⟩
      · exfalso; apply h0; simpa using congrArg Prod.fst h
    obtain ⟨n, rfl⟩ : ∃ n : Nat, n0 = (n : Int) := ⟨n0.toNat, by omega⟩
    have HE := Lib.hid (show RR = readA n [] r1 by rw [HR.out, if_neg h0]; rfl)
    have hr1l : r1.length ≤ 1000000 := Nat.le_trans hLl hl
    clear h0 HR HI hLe HEr
    have hmk := run_make1 (P := Tryd.prog) 22 3 (.int .i64 0) 8 Tryd.underlying22 info3 rfl n (by omega) (by omega)
    have k1 : Blk (w1.alloc (.cells (zrow (.int .i64 0) n) 3)) w1.heap.size 3 (ivs (List.replicate n 0)).toArray := by
      have := Blk.new w1 3 (zrow (.int .i64 0) n)
      simpa [zrow, ivs] using this
    have hrd2 := hrd.alloc (.cells (zrow (.int .i64 0) n) 3)
    have f2 : Fr (fun x => x = p) w (w1.alloc (.cells (zrow (.int .i64 0) n) 3)) := hfr.alloc _
    have hp1 : p < w1.heap.size := by obtain ⟨A1, c1, hk1, _⟩ := hrd; exact hk1.lt
    have hBp : ¬ B w1.heap.size := fun hb => by have := hBw _ hb; omega
    clear hrd hfr
    go_wp2_with fail
    clear hmk
    generalize w1.alloc (.cells (zrow (.int .i64 0) n) 3) = W2 at *
    go_loopw [14] (fun vi wr => ∃ (k : Nat) (acc q r : List Int), k ≤ n ∧ vi = .int .i64 k ∧ acc.length = k ∧ q.length = n ∧ (∀ j, j < k → gd q j = gd acc j) ∧ readA (n - k) acc r = RR ∧ Bytes r ∧ r.length ≤ 1000000 ∧ Blk wr w1.heap.size 3 (ivs q).toArray ∧ RdP wr p B r 0 ∧ Fr (fun x => x = p) w wr) (fun i _ => n - (intOf i).toNat)
    case atStart => exact ⟨0, [], List.replicate n 0, r1, Nat.zero_le _, rfl, rfl, by simp, fun j hj => absurd hj (by omega), HE.out.symm, hLb, hr1l, k1, hrd2, f2⟩
    case round =>
      obtain ⟨k, acc, q, r, hk, rfl, hal, hql, hqv, hrr, hBr, hrl, hkq, hrd, hfr⟩ := hrel
      have HA := Lib.hid hal
      have HQl := Lib.hid hql
      have HQv := Lib.hid hqv
      have HRr := Lib.hid hrr
      have hq1 : q.length ≤ n := by omega
      have hq2 : n ≤ q.length := by omega
      clear hal hql hqv hrr k1 hrd2 f2
      by_cases hlt : k < n
      · have hlt' : (k : Int) < n := by omega
        have HI := Lib.hid (int_ok p B r wr hrd hp hBr)
        have HSt := Lib.hid (show RR = if (rdI r).1 = 0 then readA (n - (k + 1)) (acc ++ [(rdI r).2.1]) (rdI r).2.2 else ((rdI r).1, [], []) by
          rw [← HRr.out, show n - k = (n - (k + 1)) + 1 by omega, readA])
        have hIb := rdI_bytes hBr
        have hIl := rdI_len r
        have HIe := Lib.hid (rdI_err r)
        generalize rdI r = R1 at *
        obtain ⟨e', x, r'⟩ := R1
        simp only at HI HSt hIb hIl HIe
        clear hrd hBr
        have hix : ∀ W : World, (Instr.indexAt 22 (.slice (some ⟨w1.heap.size, 0, none⟩) n n) (.int .i64 (k : Int))).run Tryd.prog W = .ok (.pointer (some ⟨w1.heap.size, k, none⟩)) W := fun W => by
          have := ix22 (A := some ⟨w1.heap.size, 0, none⟩) (n := n) (fun _ => ⟨w1.heap.size, 0, rfl⟩) n k hlt W
          simpa [bk, ofs, adr] using this
        go_wp2_with fail
        refine HI.out.mono ?_
        rintro e w2 ⟨rfl, hrd, hf2⟩
        have kq2 := hkq.fr hf2 (by omega)
        have a0 := kq2.lt
        have a2 := kq2.frozen
        have hcq : w2.cell? ⟨w1.heap.size, k, none⟩ = some (.int .i64 (gd q k)) := by rw [kq2.cell]; exact ivs_get (by omega)
        have hrd3 : RdP (w2.setCell ⟨w1.heap.size, k, none⟩ (.int .i64 x)) p B r' e' := by
          obtain ⟨A3, c3, z1, z2, z3⟩ := hrd
          exact ⟨A3, c3, z1.far (by simp; omega) _, z2.setCell (by simpa using hBp) _, z3⟩
        have kq3 := kq2.set_ k (.int .i64 x)
        rw [ivs_set] at kq3
        have f3 : Fr (fun x => x = p) w (w2.setCell ⟨w1.heap.size, k, none⟩ (.int .i64 x)) := (hfr.trans hf2).setCell (.inr (by simp; omega)) _
        obtain ⟨A3, c3, z1, z2, z3⟩ := hrd
        obtain ⟨y0, y1, y2⟩ := z1.facts
        have hne : p ≠ w1.heap.size := by omega
        by_cases h0 : e' = 0
        · have h0b : (e' == 0) = true := by simpa using h0
          have HS2 := Lib.hid (show readA (n - (k + 1)) (acc ++ [x]) r' = RR by rw [HSt.out, if_pos h0])
          subst h0
          go_wp2_with fail
          refine ⟨⟨k + 1, acc ++ [x], q.set k x, r', by omega, by go_num, by rw [List.length_append, HA.out]; rfl, by rw [List.length_set]; exact HQl.out, fun j hj => ?_, HS2.out, hIb, by omega, kq3, hrd3, f3⟩, by simp [intOf]; omega⟩
          rw [gd_set (by omega)]
          have hal := HA.out
          rcases (show j < k ∨ j = k by omega) with hjk | hjk
          · rw [if_neg (by omega), HQv.out j hjk, gd_get (by omega), gd_get (by rw [List.length_append]; omega), List.getElem_append_left]
          · subst hjk
            rw [if_pos rfl, gd_get (by rw [List.length_append, hal]; simp), List.getElem_append_right (by omega)]
            simp [hal]
        · have h0b : (e' == 0) = false := by simpa using h0
          have HS2 := Lib.hid (show RR = (e', [], []) by rw [HSt.out, if_neg h0])
          obtain rfl : r' = [] := by
            rcases HIe.out with h | ⟨_, h⟩
            · exact absurd h h0
            · simpa using congrArg Prod.snd h
          clear h0
          go_wp2_with fail
          go_ret
          rw [HS2.out]
          exact ⟨none, 0, rfl, Reads.none_, hrd3, f3⟩
      · have hge : ¬ ((k : Int) < n) := by omega
        have HK := Lib.hid (show RR = (0, acc, r) by rw [← HRr.out, show n - k = 0 by omega, readA])
        have hqe : q = acc := gd_ext (by rw [HQl.out, HA.out]; omega) (fun j hj => HQv.out j (by have := HA.out; omega))
        subst hqe
        go_wp2
        go_ret
        rw [HK.out]
        refine ⟨some ⟨w1.heap.size, 0, none⟩, n, by rw [HQl.out]; rfl, ?_, hrd, hfr⟩
        have := Reads.of_blk (B := (w.heap.size ≤ ·)) (n := q.length) (size := 1) hkq (by simp) hs1
        have h2 : (ivs q).toArray.toList.take (q.length * 1) = ivs q := List.take_of_length_le (by simp)
        rw [h2] at this
        exact this

theorem rdIs_suf (l : List Int) : ∃ pre, l = pre ++ (rdIs l).2.2 := by
  have hA : ∀ (k : Nat) (acc l : List Int), ∃ pre, l = pre ++ (readA k acc l).2.2 := by
    intro k
    induction k with
    | zero => intro acc l; exact ⟨[], rfl⟩
    | succ k ih =>
      intro acc l
      rw [readA]
      split
      · obtain ⟨p1, e1⟩ := rdI_suf l
        obtain ⟨p2, e2⟩ := ih (acc ++ [(rdI l).2.1]) (rdI l).2.2
        exact ⟨p1 ++ p2, by rw [List.append_assoc, ← e2]; exact e1⟩
      · exact ⟨l, by simp⟩
  obtain ⟨p1, e1⟩ := rdL_suf l
  unfold rdIs
  split
  · exact ⟨p1, e1⟩
  · obtain ⟨p2, e2⟩ := hA (rdL l).2.1.toNat [] (rdL l).2.2
    exact ⟨p1 ++ p2, by rw [List.append_assoc, ← e2]; exact e1⟩
theorem rdIs_bytes {l : List Int} (h : Bytes l) : Bytes (rdIs l).2.2 := by
  obtain ⟨pre, e⟩ := rdIs_suf l
  rw [e] at h
  exact h.right
theorem rdIs_len (l : List Int) : (rdIs l).2.2.length ≤ l.length := by
  obtain ⟨pre, e⟩ := rdIs_suf l
  have := congrArg List.length e
  rw [List.length_append] at this; omega
theorem readA_lenL : ∀ (k : Nat) (acc l : List Int), (readA k acc l).2.1.length ≤ acc.length + k
  | 0, acc, l => by simp [readA]
  | k + 1, acc, l => by
    rw [readA]
    split
    · have := readA_lenL k (acc ++ [(rdI l).2.1]) (rdI l).2.2
      rw [List.length_append] at this
      simp at this; omega
    · simp
theorem rdIs_lenL (l : List Int) : (rdIs l).2.1.length ≤ l.length := by
  have h1 := rdL_len l
  unfold rdIs
  split
  · simp
  · have h2 := readA_lenL (rdL l).2.1.toNat [] (rdL l).2.2
    rcases rdL_err l with h | ⟨h, h3⟩
    · have := rdL_le l h
      simp at h2; omega
    · rw [h3]; simp [readA]

end Go.Proofs.YtipkicijfedfoaaDoor.Wr

namespace Go.Inc
open Go.Wire Go.Quo
/-! ### Decoding an incident, plain. A state is (error, what is left). -/
def rdS (l : List Int) : Int × List Int × List Int := ((rdL l).1, (rdL l).2.2.take (rdL l).2.1.toNat, (rdL l).2.2.drop (rdL l).2.1.toNat)
def rdB : List Int → Int × Bool × List Int
  | [] => (11, false, [])
  | b :: r => if 1 < b then (2, false, []) else (0, decide (b = 1), r)
abbrev Sd := Int × List Int
def sI (s : Sd) : Int × Sd := if s.1 = 0 then ((rdI s.2).2.1, ((rdI s.2).1, (rdI s.2).2.2)) else (0, s)
def sS (s : Sd) : List Int × Sd := if s.1 = 0 then ((rdS s.2).2.1, ((rdS s.2).1, (rdS s.2).2.2)) else ([], s)
def sL (s : Sd) : List Int × Sd := if s.1 = 0 then ((rdIs s.2).2.1, ((rdIs s.2).1, (rdIs s.2).2.2)) else ([], s)
def sB (s : Sd) : Bool × Sd := if s.1 = 0 then ((rdB s.2).2.1, ((rdB s.2).1, (rdB s.2).2.2)) else (false, s)
def endS (s : Sd) : Int := if s.1 = 0 then (if s.2.length = 0 then 0 else 2) else s.1
/-- the fields one after the other -/
def decS (b : List Int) : Ic × Sd :=
  let r1 := sI (0, b); let r2 := sI r1.2; let r3 := sS r2.2; let r4 := sL r3.2; let r5 := sI r4.2; let r6 := sI r5.2; let r7 := sL r6.2; let r8 := sL r7.2; let r9 := sI r8.2; let r10 := sB r9.2
  (⟨r1.1, r2.1, strOfNums r3.1, r4.1, r5.1, r6.1, r7.1, r8.1, r9.1, r10.1⟩, r10.2)
def zIc : Ic := ⟨0, 0, ⟨#[]⟩, [], 0, 0, [], [], 0, false⟩
def decX (b : List Int) : Ic × Int := if endS (decS b).2 = 0 ∧ icB (decS b).1 = true then ((decS b).1, 0) else (zIc, 2)
theorem rdS_suf (l : List Int) : ∃ pre, l = pre ++ (rdS l).2.2 := by
  obtain ⟨p, e⟩ := rdL_suf l
  refine ⟨p ++ (rdL l).2.2.take (rdL l).2.1.toNat, ?_⟩
  show l = _ ++ (rdL l).2.2.drop (rdL l).2.1.toNat
  rw [List.append_assoc, List.take_append_drop]
  exact e
theorem rdB_suf (l : List Int) : ∃ pre, l = pre ++ (rdB l).2.2 := by
  cases l with
  | nil => exact ⟨[], rfl⟩
  | cons b r =>
    by_cases h : 1 < b
    · exact ⟨b :: r, by simp [rdB, h]⟩
    · exact ⟨[b], by simp [rdB, h]⟩
theorem rdS_canon {l : List Int} (hB : Bytes l) (h : (rdS l).1 = 0) : l = encI ((rdS l).2.1.length : Int) ++ (rdS l).2.1 ++ (rdS l).2.2 := by
  have h1 : (rdL l).1 = 0 := h
  have h2 := rdL_le l h1
  have e1 : (rdI l).1 = 0 ∧ rdL l = rdI l := by
    unfold rdL at h1 ⊢
    by_cases a : (rdI l).1 = 0
    · rw [if_pos a] at h1 ⊢
      by_cases b : (rdI l).2.1 < 0
      · rw [if_pos b] at h1; exact absurd h1 (by decide)
      · rw [if_neg b] at h1 ⊢
        by_cases c : ((rdI l).2.2.length : Int) < (rdI l).2.1
        · rw [if_pos c] at h1; exact absurd h1 (by decide)
        · rw [if_neg c]; exact ⟨a, rfl⟩
    · rw [if_neg a] at h1; exact absurd h1 a
  obtain ⟨hc, -⟩ := rdI_canon hB e1.1
  rw [← e1.2] at hc
  show l = encI (((rdL l).2.2.take (rdL l).2.1.toNat).length : Int) ++ (rdL l).2.2.take (rdL l).2.1.toNat ++ (rdL l).2.2.drop (rdL l).2.1.toNat
  rw [List.append_assoc, List.take_append_drop]
  have hl : (((rdL l).2.2.take (rdL l).2.1.toNat).length : Int) = (rdL l).2.1 := by
    rw [List.length_take]; omega
  rw [hl]
  exact hc
theorem rdB_canon {l : List Int} (hB : Bytes l) (h : (rdB l).1 = 0) : l = encB (rdB l).2.1 ++ (rdB l).2.2 := by
  cases l with
  | nil => simp [rdB] at h
  | cons b r =>
    have hb := hB b (by simp)
    by_cases h1 : 1 < b
    · simp [rdB, h1] at h
    · have e : rdB (b :: r) = (0, decide (b = 1), r) := by simp [rdB, h1]
      rw [e]
      show b :: r = [if decide (b = 1) = true then 1 else 0] ++ r
      rw [List.singleton_append]
      congr 1
      by_cases hb1 : b = 1
      · rw [if_pos (by simpa using hb1)]; exact hb1
      · rw [if_neg (by simpa using hb1)]; omega
theorem rdL_enc {n : Nat} (hn : n < 9223372036854775808) {r : List Int} (hl : n ≤ r.length) : rdL (encI (n : Int) ++ r) = (0, (n : Int), r) := by
  have h1 := rdI_enc (n := (n : Int)) (by omega) (by omega) r
  unfold rdL
  rw [h1]
  dsimp only
  rw [if_pos rfl, if_neg (by omega), if_neg (by omega)]
theorem rdS_enc {xs : List Int} (hl : xs.length < 9223372036854775808) (r : List Int) : rdS (encI (xs.length : Int) ++ (xs ++ r)) = (0, xs, r) := by
  unfold rdS
  rw [rdL_enc hl (by simp)]
  simp
theorem rdB_enc (b : Bool) (r : List Int) : rdB (encB b ++ r) = (0, b, r) := by
  cases b <;> simp [encB, rdB]
theorem decX_enc {x : Ic} (h : IcW x) (hi : icB x = true) : decX (encX x) = (x, 0) := by
  have e1 : sI (0, encX x) = (x.id, (0, encI x.urg ++ (encS x.code ++ (encIs x.nodes ++ (encI x.dist ++ (encI x.since ++ (encIs x.calls ++ (encIs x.units ++ (encI x.merged ++ encB x.closed))))))))) := by
    unfold sI encX; rw [if_pos rfl, rdI_enc h.id.1 h.id.2]
  have e2 : ∀ r, sI (0, encI x.urg ++ r) = (x.urg, (0, r)) := fun r => by unfold sI; rw [if_pos rfl, rdI_enc h.urg.1 h.urg.2]
  have e3 : ∀ r, sS (0, encS x.code ++ r) = (strL x.code, (0, r)) := fun r => by
    unfold sS encS; rw [if_pos rfl]
    have := rdS_enc (xs := strL x.code) (by rw [strL_len]; exact h.code) r
    rw [strL_len] at this
    rw [List.append_assoc, this]
  have e4 : ∀ r, sL (0, encIs x.nodes ++ r) = (x.nodes, (0, r)) := fun r => by unfold sL; rw [if_pos rfl, rdIs_enc h.nodes h.nodesL]
  have e5 : ∀ r, sI (0, encI x.dist ++ r) = (x.dist, (0, r)) := fun r => by unfold sI; rw [if_pos rfl, rdI_enc h.dist.1 h.dist.2]
  have e6 : ∀ r, sI (0, encI x.since ++ r) = (x.since, (0, r)) := fun r => by unfold sI; rw [if_pos rfl, rdI_enc h.since.1 h.since.2]
  have e7 : ∀ r, sL (0, encIs x.calls ++ r) = (x.calls, (0, r)) := fun r => by unfold sL; rw [if_pos rfl, rdIs_enc h.calls h.callsL]
  have e8 : ∀ r, sL (0, encIs x.units ++ r) = (x.units, (0, r)) := fun r => by unfold sL; rw [if_pos rfl, rdIs_enc h.units h.unitsL]
  have e9 : ∀ r, sI (0, encI x.merged ++ r) = (x.merged, (0, r)) := fun r => by unfold sI; rw [if_pos rfl, rdI_enc h.merged.1 h.merged.2]
  have e10 : sB (0, encB x.closed) = (x.closed, (0, [])) := by
    have := rdB_enc x.closed []
    rw [List.append_nil] at this
    unfold sB; rw [if_pos rfl, this]
  have hd : decS (encX x) = (x, (0, [])) := by
    unfold decS
    simp only [e1, e2, e3, e4, e5, e6, e7, e8, e9, e10, strOfNums_strL]
  unfold decX
  rw [hd, if_pos ⟨rfl, hi⟩]
/-- one step of a state that is well in the end was well before -/
theorem sI_ok {s : Sd} (h : (sI s).2.1 = 0) : s.1 = 0 := by
  unfold sI at h
  by_cases h0 : s.1 = 0
  · exact h0
  · rw [if_neg h0] at h; exact h
theorem sS_ok {s : Sd} (h : (sS s).2.1 = 0) : s.1 = 0 := by
  unfold sS at h
  by_cases h0 : s.1 = 0
  · exact h0
  · rw [if_neg h0] at h; exact h
theorem sL_ok {s : Sd} (h : (sL s).2.1 = 0) : s.1 = 0 := by
  unfold sL at h
  by_cases h0 : s.1 = 0
  · exact h0
  · rw [if_neg h0] at h; exact h
theorem sB_ok {s : Sd} (h : (sB s).2.1 = 0) : s.1 = 0 := by
  unfold sB at h
  by_cases h0 : s.1 = 0
  · exact h0
  · rw [if_neg h0] at h; exact h
theorem Bytes.left_ {a b : List Int} (h : Bytes (a ++ b)) : Bytes b := fun x hx => h x (List.mem_append_right a hx)
theorem sI_by {s : Sd} (h : Bytes s.2) : Bytes (sI s).2.2 := by
  unfold sI
  split
  · exact rdI_bytes h
  · exact h
theorem sS_by {s : Sd} (h : Bytes s.2) : Bytes (sS s).2.2 := by
  unfold sS
  split
  · obtain ⟨p, e⟩ := rdS_suf s.2
    rw [e] at h; exact Bytes.left_ h
  · exact h
theorem sS_by1 {s : Sd} (h : Bytes s.2) : Bytes (sS s).1 := by
  unfold sS
  split
  · obtain ⟨p, e⟩ := rdL_suf s.2
    rw [e] at h
    exact fun x hx => Bytes.left_ h x (List.mem_of_mem_take hx)
  · exact fun x hx => by simp at hx
theorem sL_by {s : Sd} (h : Bytes s.2) : Bytes (sL s).2.2 := by
  unfold sL
  split
  · exact Proofs.YtipkicijfedfoaaDoor.Wr.rdIs_bytes h
  · exact h
theorem sI_can {s : Sd} (hB : Bytes s.2) (h : (sI s).2.1 = 0) : s.2 = encI (sI s).1 ++ (sI s).2.2 ∧ In64 (sI s).1 := by
  have h0 := sI_ok h
  unfold sI at h ⊢
  rw [if_pos h0] at h ⊢
  exact rdI_canon hB h
theorem sS_can {s : Sd} (hB : Bytes s.2) (h : (sS s).2.1 = 0) : s.2 = encS (strOfNums (sS s).1) ++ (sS s).2.2 := by
  have h0 := sS_ok h
  have hb := sS_by1 hB
  have hs : strL (strOfNums (sS s).1) = (sS s).1 := strL_strOfNums hb
  unfold encS
  rw [← strL_len, hs]
  unfold sS at h ⊢
  rw [if_pos h0] at h ⊢
  exact rdS_canon hB h
theorem sL_can {s : Sd} (hB : Bytes s.2) (h : (sL s).2.1 = 0) : s.2 = encIs (sL s).1 ++ (sL s).2.2 := by
  have h0 := sL_ok h
  unfold sL at h ⊢
  rw [if_pos h0] at h ⊢
  exact rdIs_canon hB h
theorem sB_can {s : Sd} (hB : Bytes s.2) (h : (sB s).2.1 = 0) : s.2 = encB (sB s).1 ++ (sB s).2.2 := by
  have h0 := sB_ok h
  unfold sB at h ⊢
  rw [if_pos h0] at h ⊢
  exact rdB_canon hB h
/-- what is decoded is encoded so -/
theorem decX_can {b : List Int} (hB : Bytes b) (h : (decX b).2 = 0) : encX (decX b).1 = b ∧ icB (decX b).1 = true := by
  unfold decX at h ⊢
  by_cases hc : endS (decS b).2 = 0 ∧ icB (decS b).1 = true
  · rw [if_pos hc]
    refine ⟨?_, hc.2⟩
    obtain ⟨he, -⟩ := hc
    unfold decS at he ⊢
    dsimp only at he ⊢
    have b1 := sI_by (s := (0, b)) hB
    generalize h1 : sI (0, b) = r1 at *
    have b2 := sI_by b1
    generalize h2 : sI r1.2 = r2 at *
    have b3 := sS_by b2
    generalize h3 : sS r2.2 = r3 at *
    have b4 := sL_by b3
    generalize h4 : sL r3.2 = r4 at *
    have b5 := sI_by b4
    generalize h5 : sI r4.2 = r5 at *
    have b6 := sI_by b5
    generalize h6 : sI r5.2 = r6 at *
    have b7 := sL_by b6
    generalize h7 : sL r6.2 = r7 at *
    have b8 := sL_by b7
    generalize h8 : sL r7.2 = r8 at *
    have b9 := sI_by b8
    generalize h9 : sI r8.2 = r9 at *
    generalize h10 : sB r9.2 = r10 at *
    have k10 : r10.2.1 = 0 ∧ r10.2.2 = [] := by
      unfold endS at he
      by_cases a : r10.2.1 = 0
      · rw [if_pos a] at he
        refine ⟨a, ?_⟩
        by_cases l0 : r10.2.2.length = 0
        · exact List.eq_nil_of_length_eq_zero l0
        · rw [if_neg l0] at he; exact absurd he (by decide)
      · rw [if_neg a] at he; exact absurd he a
    have k9 : r9.2.1 = 0 := sB_ok (by rw [h10]; exact k10.1)
    have k8 : r8.2.1 = 0 := sI_ok (by rw [h9]; exact k9)
    have k7 : r7.2.1 = 0 := sL_ok (by rw [h8]; exact k8)
    have k6 : r6.2.1 = 0 := sL_ok (by rw [h7]; exact k7)
    have k5 : r5.2.1 = 0 := sI_ok (by rw [h6]; exact k6)
    have k4 : r4.2.1 = 0 := sI_ok (by rw [h5]; exact k5)
    have k3 : r3.2.1 = 0 := sL_ok (by rw [h4]; exact k4)
    have k2 : r2.2.1 = 0 := sS_ok (by rw [h3]; exact k3)
    have k1 : r1.2.1 = 0 := sI_ok (by rw [h2]; exact k2)
    have c1 := sI_can (s := (0, b)) hB (by rw [h1]; exact k1); rw [h1] at c1
    have c2 := sI_can b1 (by rw [h2]; exact k2); rw [h2] at c2
    have c3 := sS_can b2 (by rw [h3]; exact k3); rw [h3] at c3
    have c4 := sL_can b3 (by rw [h4]; exact k4); rw [h4] at c4
    have c5 := sI_can b4 (by rw [h5]; exact k5); rw [h5] at c5
    have c6 := sI_can b5 (by rw [h6]; exact k6); rw [h6] at c6
    have c7 := sL_can b6 (by rw [h7]; exact k7); rw [h7] at c7
    have c8 := sL_can b7 (by rw [h8]; exact k8); rw [h8] at c8
    have c9 := sI_can b8 (by rw [h9]; exact k9); rw [h9] at c9
    have c10 := sB_can b9 (by rw [h10]; exact k10.1); rw [h10, k10.2, List.append_nil] at c10
    unfold encX
    dsimp only
    rw [← c10, ← c9.1, ← c8, ← c7, ← c6.1, ← c5.1, ← c4, ← c3, ← c2.1]
    exact c1.1.symm
  · rw [if_neg hc] at h; exact absurd h (by decide)
end Go.Inc

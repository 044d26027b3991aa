import Derived.Test.YtipkicijfedfoaaDoorMGM
import Derived.Deep.Cut
import Derived.Deep.CutBlock
import Derived.Deep.DeepCutAuto
namespace Go.Proofs.YtipkicijfedfoaaDoor.Wr
set_option linter.unusedVariables false
set_option linter.unusedSimpArgs false
open Go.RowKit Go.Own Go.Quo Go.Wire Go.Inc
/-- The reference's reader at block p, in state s: without an error what is left is s.2. -/
def RfP (w : World) (p : Nat) (B : Nat → Prop) (s : Sd) : Prop := ∃ (rest : List Int) (A : Option Addr) (c : Nat), Blk w p 67 #[.slice A rest.length c, .int .i64 s.1] ∧ Reads w B 1 A rest.length (bys rest) ∧ rest.length ≤ c ∧ (s.1 = 0 → rest = s.2)
theorem RfP.fr {w w' : World} {p : Nat} {B S : Nat → Prop} {s : Sd} (h : RfP w p B s) (hf : Fr S w w') (hp : ¬ S p) (hS : ∀ k, B k → ¬ S k) : RfP w' p B s := by
  obtain ⟨rest, A, c, h1, h2, h3, h4⟩ := h
  exact ⟨rest, A, c, h1.fr hf hp, h2.fr hf hS, h3, h4⟩
theorem RfP.lt {w : World} {p : Nat} {B : Nat → Prop} {s : Sd} (h : RfP w p B s) : p < w.heap.size := by
  obtain ⟨rest, A, c, h1, -⟩ := h; exact h1.lt
theorem RfP.alloc {w : World} {p : Nat} {B : Nat → Prop} {s : Sd} (h : RfP w p B s) (o : Obj) : RfP (w.alloc o) p B s := by
  obtain ⟨rest, A, c, h1, h2, h3, h4⟩ := h
  exact ⟨rest, A, c, h1.alloc o, h2.alloc o, h3, h4⟩
set_option maxRecDepth 10000 in
set_option maxHeartbeats 1000000 in
theorem rf_int_err (p : Nat) (B : Nat → Prop) (s : Sd) (w : World) (h : RfP w p B s) (he : s.1 ≠ 0) :
    Calls Tryd.prog 52 #[.pointer (some ⟨p, 0, none⟩)] w fun e w' => e = .returned (.int .i64 0) ∧ w = w' := by
  obtain ⟨rest, A, c, hk, -⟩ := h
  obtain ⟨q0, q1, q2⟩ := hk.facts
  have heb : (s.1 != 0) = true := by simpa [bne] using he
  clear he
  go_enter Tryd.func52, Tryd.ntmps52
  go_wp2_with fail
  go_ret
  exact ⟨rfl, rfl⟩
theorem ref_step {i u : Nat} {b : Int} (hu : u < 128 ^ i) (h0 : 0 ≤ b) (h1 : b < 256) (hi : i ≤ 8 ∨ (i = 9 ∧ b = 1)) :
    IntKind.u64.wrap (↑u + IntKind.u64.wrap (b % 128 * 128 ^ i)) = ((u + (b.toNat % 128) * 128 ^ i : Nat) : Int) := by
  have hlt := or_lt hu h0 h1 hi
  have e1 : b % 128 * 128 ^ i = (((b.toNat % 128) * 128 ^ i : Nat) : Int) := by
    rw [Int.natCast_mul, Int.natCast_pow, Int.natCast_emod, Int.toNat_of_nonneg h0]; rfl
  rw [e1, IntKind.wrap_u64, IntKind.wrap_u64]
  generalize (b.toNat % 128) * 128 ^ i = z at *
  omega
theorem drop_cons_gd {l : List Int} {i : Nat} (h : i < l.length) : l.drop i = gd l i :: l.drop (i + 1) := by
  rw [List.drop_eq_getElem_cons h, gd_get h]
set_option maxRecDepth 10000 in
set_option maxHeartbeats 2000000 in
theorem rf_int_ok (p : Nat) (B : Nat → Prop) (rest : List Int) (w : World) (h : RfP w p B (0, rest)) (hp : ¬ B p) (hB : Bytes rest) :
    Calls Tryd.prog 52 #[.pointer (some ⟨p, 0, none⟩)] w fun e w' => e = .returned (.int .i64 (rdI rest).2.1) ∧ RfP w' p B ((rdI rest).1, (rdI rest).2.2) ∧ Fr (· = p) w w' := by
  obtain ⟨r0, A, c, hk, hr, hc, hr0⟩ := h
  have hr0 := hr0 rfl
  simp only at hr0
  subst hr0
  have HI := Lib.hid (show rdI r0 = if (rdU 0 0 r0).1 = 0 then (0, unzig (rdU 0 0 r0).2.1, (rdU 0 0 r0).2.2) else ((rdU 0 0 r0).1, 0, []) from rfl)
  have HBy := Lib.hid hB
  have HK := Lib.hid hk
  have HR := Lib.hid hr
  have HC := Lib.hid hc
  obtain ⟨q0, q1, q2⟩ := hk.facts
  have hW2 : ∀ (e' : Int), e' ≠ 0 → RfP (w.setCell ⟨p, 1, none⟩ (.int .i64 e')) p B (e', []) := fun e' he => ⟨r0, A, c, by simpa using HK.out.set_ 1 (.int .i64 e'), HR.out.setCell (by simpa using hp) _, HC.out, fun h => absurd h he⟩
  have HW2 := Lib.hid hW2
  clear hW2 hB hk hr hc
  generalize rdI r0 = RI0 at *
  generalize hn : r0.length = n at *
  go_enter Tryd.func52, Tryd.ntmps52
  go_wp2_with fail
  go_loopw [3, 4, 5] (fun vu vb vi wr => ∃ (i u : Nat), i ≤ 9 ∧ i ≤ n ∧ vi = .int .i64 i ∧ vb = .int .u64 ((128 : Int) ^ i) ∧ vu = .int .u64 u ∧ u < 128 ^ i ∧ rdU i u (r0.drop i) = rdU 0 0 r0 ∧ wr = w) (fun _ _ i _ => 10 - (intOf i).toNat)
  case atStart => exact ⟨0, 0, by omega, by omega, rfl, rfl, rfl, by simp, rfl, rfl⟩
  case round =>
    obtain ⟨i, u, hi, hin, rfl, rfl, rfl, hu, hru, rfl⟩ := hrel
    have HU := Lib.hid hu
    have HRU := Lib.hid hru
    clear hu hru
    have hi' : (i : Int) < 10 := by omega
    by_cases hend : n ≤ i
    · have hge : (n : Int) ≤ (i : Int) := by omega
      have HE := Lib.hid (show RI0 = (11, 0, []) by
        have e0 : r0.drop i = [] := List.drop_eq_nil_of_le (by omega)
        have := HRU.out
        rw [e0, rdU_nil] at this
        rw [HI.out, ← this]; rfl)
      clear hend
      go_wp2_with fail
      go_ret
      rw [HE.out]
      exact ⟨rfl, HW2.out 11 (by decide), (Fr.refl (fun x => x = p) _).setCell (.inl rfl) _⟩
    · have hge : ¬ (n : Int) ≤ (i : Int) := by omega
      have hlt : i < r0.length := by omega
      have hd := drop_cons_gd hlt
      obtain ⟨b, hbd⟩ : ∃ b, b = gd r0 i := ⟨_, rfl⟩
      have hmem : b ∈ r0 := by rw [hbd, gd_get hlt]; exact List.getElem_mem _
      have hb0 := (HBy.out b hmem).1
      have hb1 := (HBy.out b hmem).2
      have pA := HR.out.plain (by omega)
      have hix : ∀ W : World, (Instr.indexAt 40 (.slice A n c) (.int .i64 (i : Int))).run Tryd.prog W = .ok (.pointer (some ⟨bk A, ofs A + i, none⟩)) W := fun W => ix45 pA c i (by omega) W
      have hcell : wr.cell? ⟨bk A, ofs A + i, none⟩ = some (.int .u8 b) := by
        have := HR.out.cell2 i (by omega) (by omega)
        rw [hbd]
        simpa [bys, gd_get hlt, hlt] using this
      rw [← hbd] at hd
      have hru2 := HRU.out
      rw [hd] at hru2
      have HR2 := Lib.hid hru2
      clear hru2 hd hbd hmem hlt hend
      by_cases hbad : (i = 9 ∧ b ≠ 1) ∨ (0 < i ∧ b = 0)
      · have HE := Lib.hid (show RI0 = (2, 0, []) by
          have := HR2.out
          rw [rdU_bad hbad] at this
          rw [HI.out, ← this]; rfl)
        have hcs : ((i : Int) == 9) = true ∧ (b != 1) = true ∨ (((i : Int) == 9) = false ∧ decide ((0 : Int) < i) = true ∧ (b == 0) = true ∧ 0 < i) ∨ (((i : Int) == 9) = true ∧ (b != 1) = false ∧ decide ((0 : Int) < i) = true ∧ (b == 0) = true ∧ 0 < i) := by
          rcases hbad with ⟨h1, h2⟩ | ⟨h1, h2⟩
          · left; exact ⟨by simpa using (show (i : Int) = 9 by omega), by simpa using h2⟩
          · by_cases h9 : i = 9
            · left; exact ⟨by simpa using (show (i : Int) = 9 by omega), by simp; omega⟩
            · right; left; exact ⟨by simp; omega, by simpa using h1, by simpa using h2, h1⟩
        clear hbad
        rcases hcs with ⟨x1, x2⟩ | ⟨x1, x2, x3, x4⟩ | ⟨x1, x2, x3, x4, x5⟩
        all_goals
          go_wp2_with fail
          go_ret
          rw [HE.out]
          exact ⟨rfl, HW2.out 2 (by decide), (Fr.refl (fun x => x = p) _).setCell (.inl rfl) _⟩
      · have hnb : ((i : Int) == 9) = true ∧ (b != 1) = false ∧ (b == 0) = false ∨ ((i : Int) == 9) = false ∧ (b == 0) = false ∨ ((i : Int) == 9) = false ∧ (b == 0) = true ∧ ¬ 0 < i := by
          by_cases h9 : i = 9
          · left; exact ⟨by simpa using (show (i : Int) = 9 by omega), by simp; omega, by simp; omega⟩
          · by_cases h0 : b = 0
            · right; right; exact ⟨by simp; omega, by simpa using h0, by omega⟩
            · right; left; exact ⟨by simp; omega, by simpa using h0⟩
        have HBd := Lib.hid hbad
        clear hbad
        obtain ⟨U, hU⟩ : ∃ U : Nat, U = u + (b.toNat % 128) * 128 ^ i := ⟨_, rfl⟩
        have hi9 : i ≤ 8 ∨ (i = 9 ∧ b = 1) := by have := HBd.out; omega
        have hU64 := or_lt HU.out hb0 hb1 hi9
        rw [← hU] at hU64
        have hor := ref_step HU.out hb0 hb1 hi9
        rw [← hU] at hor
        have HUu := Lib.hid hU
        clear hU
        by_cases hlt : b < 128
        · have hdl : decide (b < 128) = true := decide_eq_true hlt
          have HE := Lib.hid (show RI0 = (0, unzig U, r0.drop (i + 1)) by
            have h5 := HR2.out
            rw [rdU_last HBd.out hlt] at h5
            rw [HI.out, ← h5, HUu.out, show b.toNat % 128 = b.toNat by omega]; rfl)
          have hct : ∀ W : World, (Instr.slice 40 (.slice A n c) (some (.int .i64 ((i : Int) + 1))) none none).run Tryd.prog W = .ok (.slice (cutA A c (i + 1)) (n - (i + 1)) (c - (i + 1))) W := fun W => by
            simpa using run_cutB (A := A) (n := n) (c := c) (i + 1) (by omega) W
          have hct2 : ∀ W : World, (Instr.sliceAt 40 (.slice A n c) (some (.int .i64 ((i : Int) + 1))) none none).run Tryd.prog W = .ok (.slice (cutA A c (i + 1)) (n - (i + 1)) (c - (i + 1))) W := fun W => by
            simpa using run_cutB2 (A := A) (n := n) (c := c) (i + 1) (by omega) W
          have HFin := Lib.hid (show RfP (wr.setCell ⟨p, 0, none⟩ (.slice (cutA A c (i + 1)) (n - (i + 1)) (c - (i + 1)))) p B (0, r0.drop (i + 1)) from by
            have h5 := Reads.cutB (hn ▸ HR.out) (k := i + 1) (c := c) (by omega) (by have := HC.out; omega)
            have hl5 : (r0.drop (i + 1)).length = n - (i + 1) := by rw [List.length_drop, hn]
            refine ⟨r0.drop (i + 1), cutA A c (i + 1), c - (i + 1), ?_, ?_, by have := HC.out; omega, fun _ => rfl⟩
            · rw [hl5]; simpa using HK.out.set_ 0 (.slice (cutA A c (i + 1)) (n - (i + 1)) (c - (i + 1)))
            · exact h5.setCell (by simpa using hp) _)
          by_cases hodd : U % 2 = 0
          · have hm : ((U : Int) % 2 == 1) = false := by simp; omega
            have HW := Lib.hid (show unzig U = (U : Int) / 2 by unfold unzig; rw [if_pos hodd]; omega)
            rcases hnb with ⟨x1, x2, x3⟩ | ⟨x1, x2⟩ | ⟨x1, x2, x3⟩
            all_goals
              go_wp2_with fail
              go_ret
              rw [HE.out, HW.out]
              exact ⟨rfl, HFin.out, (Fr.refl (fun x => x = p) _).setCell (.inl rfl) _⟩
          · have hm : ((U : Int) % 2 == 1) = true := by simp; omega
            have HW := Lib.hid (show unzig U = -((U : Int) / 2) - 1 by unfold unzig; rw [if_neg hodd]; omega)
            rcases hnb with ⟨x1, x2, x3⟩ | ⟨x1, x2⟩ | ⟨x1, x2, x3⟩
            all_goals
              go_wp2_with fail
              go_ret
              rw [HE.out, HW.out]
              exact ⟨rfl, HFin.out, (Fr.refl (fun x => x = p) _).setCell (.inl rfl) _⟩
        · have hdl : decide (b < 128) = false := decide_eq_false hlt
          have hi8 : i ≤ 8 := by omega
          have HE := Lib.hid (show rdU (i + 1) U (r0.drop (i + 1)) = rdU 0 0 r0 by rw [← HR2.out, rdU_more HBd.out hlt, HUu.out, show b.toNat % 128 = b.toNat - 128 by omega])
          have hby : IntKind.u64.wrap (128 ^ i * 128) = (128 : Int) ^ (i + 1) := by
            have h5 : 128 ^ i ≤ 128 ^ 8 := Nat.pow_le_pow_right (by decide) hi8
            have e8 : (128 : Nat) ^ 8 = 72057594037927936 := by decide
            rw [IntKind.wrap_u64, ← Int.pow_succ]
            have e9 : ((128 : Int) ^ (i + 1)) = ((128 ^ (i + 1) : Nat) : Int) := by simp
            rw [e9, Nat.pow_succ]; omega
          have HU8 := Lib.hid (show U < 128 ^ (i + 1) by
            rw [HUu.out, Nat.pow_succ]
            have h7 : b.toNat % 128 ≤ 127 := by omega
            have := Nat.mul_le_mul_right (128 ^ i) h7
            have := HU.out
            omega)
          have hin8 : i + 1 ≤ n := by omega
          rcases hnb with ⟨x1, x2, x3⟩ | ⟨x1, x2⟩ | ⟨x1, x2, x3⟩
          all_goals
            go_wp2_with fail
            exact ⟨⟨i + 1, U, by omega, hin8, by go_num, rfl, rfl, HU8.out, HE.out, trivial⟩, by simp [intOf]; omega⟩
end Go.Proofs.YtipkicijfedfoaaDoor.Wr

namespace Go.Inc
open Go.Wire
/-- a length is read, over states -/
def mS (s : Sd) : Int × Sd := if (sI s).2.1 = 0 then (if (sI s).1 < 0 then (0, (2, [])) else if ((sI s).2.2.length : Int) < (sI s).1 then (0, (11, [])) else sI s) else (0, (sI s).2)
theorem mS_rdL {l : List Int} : mS (0, l) = ((rdL l).2.1, ((rdL l).1, (rdL l).2.2)) := by
  unfold mS rdL sI
  rw [if_pos rfl]
  dsimp only
  by_cases h0 : (rdI l).1 = 0
  · rw [if_pos h0, if_pos h0]
    by_cases h1 : (rdI l).2.1 < 0
    · rw [if_pos h1, if_pos h1]
    · rw [if_neg h1, if_neg h1]
      by_cases h2 : ((rdI l).2.2.length : Int) < (rdI l).2.1
      · rw [if_pos h2, if_pos h2]
      · rw [if_neg h2, if_neg h2]
  · rw [if_neg h0, if_neg h0]
    rcases rdI_err l with h | ⟨_, h⟩
    · exact absurd h h0
    · rw [h]
theorem mS_bad {s : Sd} (h : s.1 ≠ 0) : mS s = (0, s) := by
  have e : sI s = (0, s) := by unfold sI; rw [if_neg h]
  unfold mS
  rw [e, if_neg h]
theorem sS_mS (s : Sd) : sS s = if (mS s).2.1 = 0 then ((mS s).2.2.take (mS s).1.toNat, (0, (mS s).2.2.drop (mS s).1.toNat)) else ([], (mS s).2) := by
  obtain ⟨e, l⟩ := s
  by_cases h0 : e = 0
  · subst h0
    rw [mS_rdL]
    unfold sS rdS
    rw [if_pos rfl]
    dsimp only
    by_cases h1 : (rdL l).1 = 0
    · rw [if_pos h1, h1]
    · rw [if_neg h1]
      rcases rdL_err l with h | ⟨_, h⟩
      · exact absurd h h1
      · rw [h]; rfl
  · rw [mS_bad h0, if_neg h0]
    unfold sS
    rw [if_neg h0]
theorem sL_mS (s : Sd) : sL s = if (mS s).2.1 = 0 then ((readA (mS s).1.toNat [] (mS s).2.2).2.1, ((readA (mS s).1.toNat [] (mS s).2.2).1, (readA (mS s).1.toNat [] (mS s).2.2).2.2)) else ([], (mS s).2) := by
  obtain ⟨e, l⟩ := s
  by_cases h0 : e = 0
  · subst h0
    rw [mS_rdL]
    unfold sL rdIs
    rw [if_pos rfl]
    dsimp only
    by_cases h1 : (rdL l).1 = 0
    · rw [if_pos h1]
      by_cases h2 : (rdL l).2.1 = 0
      · rw [if_pos h2, h2, h1]; rfl
      · rw [if_neg h2]
    · rw [if_neg h1]
      rcases rdL_err l with h | ⟨_, h⟩
      · exact absurd h h1
      · rw [h]; rfl
  · rw [mS_bad h0, if_neg h0]
    unfold sL
    rw [if_neg h0]
theorem mS_by {s : Sd} (h : Bytes s.2) : Bytes (mS s).2.2 := by
  unfold mS
  have h1 := sI_by h
  split
  · split
    · exact fun x hx => by simp at hx
    · split
      · exact fun x hx => by simp at hx
      · exact h1
  · exact h1
theorem mS_le (s : Sd) (h : (mS s).2.1 = 0) : 0 ≤ (mS s).1 ∧ (mS s).1 ≤ (mS s).2.2.length := by
  unfold mS at h ⊢
  by_cases a : (sI s).2.1 = 0
  · rw [if_pos a] at h ⊢
    by_cases b : (sI s).1 < 0
    · rw [if_pos b] at h; exact absurd h (by decide)
    · rw [if_neg b] at h ⊢
      by_cases c : ((sI s).2.2.length : Int) < (sI s).1
      · rw [if_pos c] at h; exact absurd h (by decide)
      · rw [if_neg c]; omega
  · rw [if_neg a] at h; exact absurd h a
end Go.Inc
namespace Go.Proofs.YtipkicijfedfoaaDoor.Wr
set_option linter.unusedVariables false
set_option linter.unusedSimpArgs false
open Go.RowKit Go.Own Go.Quo Go.Wire Go.Inc
theorem rf_int (p : Nat) (B : Nat → Prop) (s : Sd) (w : World) (h : RfP w p B s) (hp : ¬ B p) (hB : Bytes s.2) :
    Calls Tryd.prog 52 #[.pointer (some ⟨p, 0, none⟩)] w fun e w' => e = .returned (.int .i64 (sI s).1) ∧ RfP w' p B (sI s).2 ∧ Fr (· = p) w w' := by
  obtain ⟨err, l⟩ := s
  by_cases h0 : err = 0
  · subst h0
    exact rf_int_ok p B l w h hp hB
  · have e : sI (err, l) = (0, (err, l)) := by unfold sI; rw [if_neg h0]
    rw [e]
    exact (rf_int_err p B (err, l) w h h0).mono (fun e w' ⟨h1, h2⟩ => ⟨h1, h2 ▸ h, h2 ▸ Fr.refl _ _⟩)
set_option maxRecDepth 10000 in
set_option maxHeartbeats 2000000 in
theorem rf_many (p : Nat) (B : Nat → Prop) (s : Sd) (w : World) (h : RfP w p B s) (hp : ¬ B p) (hB : Bytes s.2) :
    Calls Tryd.prog 84 #[.pointer (some ⟨p, 0, none⟩)] w fun e w' => e = .returned (.int .i64 (mS s).1) ∧ RfP w' p B (mS s).2 ∧ Fr (· = p) w w' := by
  have HI := Lib.hid (rf_int p B s w h hp hB)
  have HM := Lib.hid (show mS s = if (sI s).2.1 = 0 then (if (sI s).1 < 0 then (0, (2, [])) else if ((sI s).2.2.length : Int) < (sI s).1 then (0, (11, [])) else sI s) else (0, (sI s).2) from rfl)
  generalize mS s = M at *
  generalize sI s = R at *
  obtain ⟨n, e1, r1⟩ := R
  simp only at HI HM
  clear h hB
  go_enter Tryd.func84, Tryd.ntmps84
  go_wp2_with fail
  refine HI.out.mono ?_
  rintro e w1 ⟨rfl, ⟨rest, A, c, hk, hr, hc, hx⟩, hf⟩
  obtain ⟨q0, q1, q2⟩ := hk.facts
  simp only at q2 hx hk
  have hW2 : ∀ (e' : Int), e' ≠ 0 → RfP (w1.setCell ⟨p, 1, none⟩ (.int .i64 e')) p B (e', []) := fun e' he => ⟨rest, A, c, by simpa using hk.set_ 1 (.int .i64 e'), hr.setCell (by simpa using hp) _, hc, fun h => absurd h he⟩
  have HW2 := Lib.hid hW2
  have HK := Lib.hid hk
  have HR := Lib.hid hr
  have HC := Lib.hid hc
  have HF := Lib.hid hf
  have HX := Lib.hid hx
  clear hW2 hk hr hc hf hx
  by_cases h0 : e1 = 0
  · subst h0
    have hx := HX.out rfl
    subst hx
    rw [if_pos rfl] at HM
    by_cases h1 : n < 0
    · rw [if_pos h1] at HM
      go_wp2_with fail
      go_ret
      rw [HM.out]
      exact ⟨rfl, HW2.out 2 (by decide), (HF.out.setCell (.inl rfl) _)⟩
    · rw [if_neg h1] at HM
      by_cases h2 : (rest.length : Int) < n
      · rw [if_pos h2] at HM
        go_wp2_with fail
        go_ret
        rw [HM.out]
        exact ⟨rfl, HW2.out 11 (by decide), (HF.out.setCell (.inl rfl) _)⟩
      · rw [if_neg h2] at HM
        go_wp2_with fail
        go_ret
        rw [HM.out]
        exact ⟨rfl, ⟨rest, A, c, HK.out, HR.out, HC.out, fun _ => rfl⟩, HF.out⟩
  · rw [if_neg h0] at HM
    have h0b : (e1 != 0) = true := by simpa [bne] using h0
    have H0 := Lib.hid h0
    clear h0
    go_wp2_with fail
    go_ret
    rw [HM.out]
    exact ⟨rfl, ⟨rest, A, c, HK.out, HR.out, HC.out, fun h => absurd h H0.out⟩, HF.out⟩
set_option maxRecDepth 10000 in
set_option maxHeartbeats 2000000 in
theorem rf_end (p : Nat) (B : Nat → Prop) (s : Sd) (w : World) (h : RfP w p B s) :
    Calls Tryd.prog 54 #[.pointer (some ⟨p, 0, none⟩)] w fun e w' => e = .returned (.int .i64 (endS s)) ∧ w = w' := by
  obtain ⟨err, l⟩ := s
  obtain ⟨rest, A, c, hk, hr, hc, hx⟩ := h
  obtain ⟨q0, q1, q2⟩ := hk.facts
  simp only at q2 hx hk
  by_cases h0 : err = 0
  · subst h0
    have hx := hx rfl
    subst hx
    by_cases h1 : rest.length = 0
    · have HE := Lib.hid (show endS (0, rest) = 0 by unfold endS; rw [if_pos rfl, if_pos h1])
      rw [h1] at q1
      clear hk hr hc h1
      go_enter Tryd.func54, Tryd.ntmps54
      go_wp2_with fail
      go_ret
      rw [HE.out]
      exact ⟨rfl, rfl⟩
    · have HE := Lib.hid (show endS (0, rest) = 2 by unfold endS; rw [if_pos rfl, if_neg h1])
      have h2 : decide ((0 : Int) < (rest.length : Int)) = true := by simp; omega
      have h3 : 0 < rest.length := by omega
      clear hk hr hc h1
      go_enter Tryd.func54, Tryd.ntmps54
      go_wp2_with fail
      go_ret
      rw [HE.out]
      exact ⟨rfl, rfl⟩
  · have HE := Lib.hid (show endS (err, l) = err by unfold endS; rw [if_neg h0])
    have h0b : (err == 0) = false := by simpa using h0
    clear hk hr hc h0 hx
    go_enter Tryd.func54, Tryd.ntmps54
    go_wp2_with fail
    go_ret
    rw [HE.out]
    exact ⟨rfl, rfl⟩
end Go.Proofs.YtipkicijfedfoaaDoor.Wr

namespace Go.Proofs.YtipkicijfedfoaaDoor.Wr
set_option linter.unusedVariables false
set_option linter.unusedSimpArgs false
open Go.RowKit Go.Own Go.Quo Go.Wire Go.Inc
theorem tinfo69 : (Tryd.prog.info? 69).map (fun i => (i.zero, i.size, i.bytes)) = some (some (.agg #[.int .i64 0, .int .i64 0, .bool false, .string ⟨#[]⟩, .slice none 0 0]), 5, 64) := by kernel_rfl
theorem tsize69 : (Tryd.prog.info? 69).map (·.size) = some 5 := by kernel_rfl
theorem five_one {v0 v1 v2 v3 v4 : Value} (h : v0.oneCell' = true ∧ v1.oneCell' = true ∧ v2.oneCell' = true ∧ v3.oneCell' = true ∧ v4.oneCell' = true) : ∀ u ∈ (#[v0, v1, v2, v3, v4] : Array Value).toList, u.oneCell' = true := by
  intro u hu
  simp at hu
  obtain ⟨h0, h1, h2, h3, h4⟩ := h
  rcases hu with rfl | rfl | rfl | rfl | rfl <;> assumption
theorem Fr.transB {S T : Nat → Prop} {a b c : World} (h : Fr S a b) (k : Fr T b c) (hT : ∀ i, T i → S i ∨ a.heap.size ≤ i) : Fr S a c :=
  ⟨k.os.trans h.os, k.tape.trans h.tape, k.output.trans h.output, Nat.le_trans h.size k.size, fun i hi hn => (k.block i (Nat.lt_of_lt_of_le hi h.size) (fun ht => by
    rcases hT i ht with h1 | h1
    · exact hn h1
    · omega)).trans (h.block i hi hn)⟩
theorem Reads.tkn {w : World} {B : Nat → Prop} {size n : Nat} {A : Option Addr} {xs : List Value} (h : Reads w B size A n xs) {k : Nat} (hk : k ≤ n) : Reads w B size A k (xs.take (k * size)) := by
  refine ⟨by rw [List.length_take, h.1]; exact Nat.min_eq_left (Nat.mul_le_mul_right _ hk), fun h0 => ?_⟩
  obtain ⟨ad, e, hb, hc⟩ := h.2 (by omega)
  refine ⟨ad, e, hb, fun j u hu => hc j u ?_⟩
  rw [List.getElem?_take] at hu
  split at hu
  · exact hu
  · cases hu
theorem Reads.cutT {w : World} {B : Nat → Prop} {A : Option Addr} {l : List Int} (h : Reads w B 1 A l.length (bys l)) {k : Nat} (hk : k ≤ l.length) : Reads w B 1 A (l.take k).length (bys (l.take k)) := by
  have hl : (l.take k).length = k := by rw [List.length_take]; omega
  rw [hl]
  have := Reads.tkn h hk
  rw [Nat.mul_one, bys, ← List.map_take] at this
  exact this
set_option maxRecDepth 10000 in
set_option maxHeartbeats 4000000 in
theorem rf_get3 (p : Nat) (B : Nat → Prop) (s : Sd) (w : World) (h : RfP w p B s) (hp : ¬ B p) (hBw : ∀ k, B k → k < w.heap.size) (hB : Bytes s.2) :
    Calls Tryd.prog 53 #[.pointer (some ⟨p, 0, none⟩), .int .i64 3] w fun e w' => e = .returned (.agg #[.int .i64 3, .int .i64 0, .bool false, .string (strOfNums (sS s).1), .slice none 0 0]) ∧ RfP w' p B (sS s).2 ∧ Fr (· = p) w w' := by
  have HM := Lib.hid fun (W : World) (h : RfP W p B s) => rf_many p B s W h hp hB
  have HS := Lib.hid (sS_mS s)
  have hle := mS_le s
  generalize sS s = R at *
  generalize mS s = M at *
  obtain ⟨n0, e1, r1⟩ := M
  simp only at HM HS hle
  have hpl := h.lt
  have HP := Lib.hid ((h.alloc (.cells #[.int .i64 0, .int .i64 0, .bool false, .string ⟨#[]⟩, .slice none 0 0] 69)).alloc (.cells #[.int .i64 3, .int .i64 0, .bool false, .string ⟨#[]⟩, .slice none 0 0] 69))
  have HZ := Lib.hid ((Blk.new w 69 #[.int .i64 0, .int .i64 0, .bool false, .string ⟨#[]⟩, .slice none 0 0]).alloc (.cells #[.int .i64 3, .int .i64 0, .bool false, .string ⟨#[]⟩, .slice none 0 0] 69))
  have HX := Lib.hid (show Blk ((w.alloc (.cells #[.int .i64 0, .int .i64 0, .bool false, .string ⟨#[]⟩, .slice none 0 0] 69)).alloc (.cells #[.int .i64 3, .int .i64 0, .bool false, .string ⟨#[]⟩, .slice none 0 0] 69)) (w.heap.size + 1) 69 #[.int .i64 3, .int .i64 0, .bool false, .string ⟨#[]⟩, .slice none 0 0] by
    have := Blk.new (w.alloc (.cells #[.int .i64 0, .int .i64 0, .bool false, .string ⟨#[]⟩, .slice none 0 0] 69)) 69 #[.int .i64 3, .int .i64 0, .bool false, .string ⟨#[]⟩, .slice none 0 0]
    simpa using this)
  have HF := Lib.hid (((Fr.refl (fun k => k = p) w).alloc (.cells #[.int .i64 0, .int .i64 0, .bool false, .string ⟨#[]⟩, .slice none 0 0] 69)).alloc (.cells #[.int .i64 3, .int .i64 0, .bool false, .string ⟨#[]⟩, .slice none 0 0] 69))
  have hz2 : ((w.alloc (.cells #[.int .i64 0, .int .i64 0, .bool false, .string ⟨#[]⟩, .slice none 0 0] 69)).alloc (.cells #[.int .i64 3, .int .i64 0, .bool false, .string ⟨#[]⟩, .slice none 0 0] 69)).heap.size = w.heap.size + 2 := by simp
  obtain ⟨x0, x1, x2⟩ := HX.out.facts
  clear h
  go_enter Tryd.func53, Tryd.ntmps53
  go_upto_region 18 with fail
  generalize (w.alloc _).alloc _ = W2 at *
  clear x0 x1 x2
  go_wp2_with fail
  refine (HM.out _ HP.out).mono ?_
  rintro e w3 ⟨rfl, ⟨rest, A, c, hk, hr, hc, hx⟩, hf⟩
  have hs3 := hf.size
  have HZ3 := Lib.hid (HZ.out.fr hf (by show ¬ (w.heap.size = p); omega))
  have HX3 := Lib.hid (HX.out.fr hf (by show ¬ (w.heap.size + 1 = p); omega))
  have HF3 := Lib.hid (HF.out.trans hf)
  obtain ⟨q0, q1, q2⟩ := hk.facts
  obtain ⟨x0, x1, x2⟩ := HX3.out.facts
  simp only at q2 hx hk
  have HK := Lib.hid hk
  have HR := Lib.hid hr
  have HC := Lib.hid hc
  have HXx := Lib.hid hx
  clear HM HP HZ HX HF hk hr hc hf hx
  by_cases h0 : e1 = 0
  · subst h0
    rw [if_pos rfl] at HS
    obtain ⟨hn1, hn2⟩ := hle rfl
    have hx := HXx.out rfl
    obtain ⟨n, rfl⟩ : ∃ n : Nat, n0 = (n : Int) := ⟨n0.toNat, by omega⟩
    subst hx
    have hn3 : n ≤ rest.length := by omega
    have hn4 : n ≤ c := Nat.le_trans hn3 HC.out
    have HL := Lib.hid (show ∃ xs : List Int, xs = rest.take n ∧ xs.length = n from ⟨_, rfl, by rw [List.length_take]; omega⟩)
    obtain ⟨xs, hxs, hxl⟩ := HL.out
    have hrx : Reads w3 B 1 A n (bys xs) := by
      have := Reads.cutT HR.out hn3
      rw [← hxs] at this
      rw [hxl] at this
      exact this
    have HRx := Lib.hid hrx
    have HS2 := Lib.hid (show R = (xs, (0, rest.drop n)) by rw [HS.out, hxs]; simp)
    have hi4 : (n : Int) ≤ (c : Int) := by omega
    have hi0 : (0 : Int) ≤ (n : Int) := by omega
    have hcv := run_convert_reads (P := Tryd.prog) Tryd.underlying40 Tryd.underlying5 Tryd.underlying9 hrx c
    have hct := fun W => run_cutB (A := A) (n := rest.length) (c := c) n hn3 W
    have hct2 := fun W => run_cutB2 (A := A) (n := rest.length) (c := c) n hn3 W
    clear hxs hxl HL hrx
    have hrl : (rest.drop n).length = rest.length - n := List.length_drop
    have HP4 := Lib.hid (show RfP ((w3.setCell ⟨w.heap.size + 1, 3, none⟩ (.string (strOfNums xs))).setCell ⟨p, 0, none⟩ (.slice (cutA A c n) (rest.length - n) (c - n))) p B (0, rest.drop n) from by
      have hB1 : ¬ B (w.heap.size + 1) := fun hb => by have := hBw _ hb; omega
      refine ⟨rest.drop n, cutA A c n, c - n, ?_, ?_, (show (rest.drop n).length ≤ c - n by have := HC.out; omega), fun _ => rfl⟩
      · rw [hrl]; simpa using (HK.out.fr ((Fr.refl (fun k => k = w.heap.size + 1) w3).setCell (p := ⟨w.heap.size + 1, 3, none⟩) (.inl rfl) (.string (strOfNums xs))) (by show ¬ (p = w.heap.size + 1); omega)).set_ 0 (.slice (cutA A c n) (rest.length - n) (c - n))
      · exact ((Reads.cutB HR.out hn3 HC.out).setCell (by simpa using hB1) _).setCell (by simpa using hp) _)
    have HX4 := Lib.hid (show Blk ((w3.setCell ⟨w.heap.size + 1, 3, none⟩ (.string (strOfNums xs))).setCell ⟨p, 0, none⟩ (.slice (cutA A c n) (rest.length - n) (c - n))) (w.heap.size + 1) 69 #[.int .i64 3, .int .i64 0, .bool false, .string (strOfNums xs), .slice none 0 0] by
      have := (HX3.out.set_ 3 (.string (strOfNums xs))).fr ((Fr.refl (fun k => k = p) _).setCell (p := ⟨p, 0, none⟩) (.inl rfl) (.slice (cutA A c n) (rest.length - n) (c - n))) (by show ¬ (w.heap.size + 1 = p); omega)
      simpa using this)
    have HZ4 := Lib.hid ((HZ3.out.fr ((Fr.refl (fun k => k = w.heap.size + 1) w3).setCell (p := ⟨w.heap.size + 1, 3, none⟩) (.inl rfl) (.string (strOfNums xs))) (by show ¬ (w.heap.size = w.heap.size + 1); omega)).fr ((Fr.refl (fun k => k = p) _).setCell (p := ⟨p, 0, none⟩) (.inl rfl) (.slice (cutA A c n) (rest.length - n) (c - n))) (by show ¬ (w.heap.size = p); omega))
    have HF4 := Lib.hid ((HF3.out.setCell (p := ⟨w.heap.size + 1, 3, none⟩) (.inr (by show w.heap.size ≤ w.heap.size + 1; omega)) (.string (strOfNums xs))).setCell (p := ⟨p, 0, none⟩) (.inl rfl) (.slice (cutA A c n) (rest.length - n) (c - n)))
    go_upto_region 30 with fail
    generalize (w3.setCell _ _).setCell _ _ = W4 at *
    clear x0 x1 x2 q0 q1 q2 hcv hct hct2 HR HK HC HXx HX3 HZ3 HF3
    obtain ⟨x0, x1, x2⟩ := HX4.out.facts
    go_wp2_with (refine wpList_storeBlk rfl (.tmp 4) (.tmp 118) 69 rfl w.heap.size 69 _ #[.int .i64 3, .int .i64 0, .bool false, .string (strOfNums xs), .slice none 0 0] _ 5 64 tinfo69 rfl rfl rfl HZ4.out rfl (five_one (by simp [Value.oneCell'])) ?_; intro w4 hb4 hf4 hs4)
    refine bodyPost_ret (results_cell_row (p := 4) (ty := 69) Tryd.results53 _ _ w.heap.size 69 #[.int .i64 3, .int .i64 0, .bool false, .string (strOfNums xs), .slice none 0 0] (0, 0) _ rfl hb4 Tryd.underlying69 rfl tsize69) rfl ?_
    rw [HS2.out]
    exact ⟨rfl, HP4.out.fr hf4 (by show ¬ (p = w.heap.size); omega) (fun k hk e => by have e2 : k = w.heap.size := e; have := hBw _ hk; omega), Fr.transB HF4.out hf4 (fun k e => .inr (by have e2 : k = w.heap.size := e; omega))⟩
  · rw [if_neg h0] at HS
    have h0b : (e1 == 0) = false := by simpa using h0
    have H0 := Lib.hid h0
    have HP3 := Lib.hid (show RfP w3 p B (e1, r1) from ⟨rest, A, c, HK.out, HR.out, HC.out, fun h => absurd h H0.out⟩)
    clear h0 HR HK HC HXx
    go_wp2_with (refine wpList_storeBlk rfl (.tmp 4) (.tmp 118) 69 rfl w.heap.size 69 _ #[.int .i64 3, .int .i64 0, .bool false, .string ⟨#[]⟩, .slice none 0 0] _ 5 64 tinfo69 rfl rfl rfl HZ3.out rfl (five_one (by simp [Value.oneCell'])) ?_; intro w4 hb4 hf4 hs4)
    refine bodyPost_ret (results_cell_row (p := 4) (ty := 69) Tryd.results53 _ _ w.heap.size 69 #[.int .i64 3, .int .i64 0, .bool false, .string ⟨#[]⟩, .slice none 0 0] (0, 0) _ rfl hb4 Tryd.underlying69 rfl tsize69) rfl ?_
    rw [HS.out]
    exact ⟨rfl, HP3.out.fr hf4 (by show ¬ (p = w.heap.size); omega) (fun k hk e => by have e2 : k = w.heap.size := e; have := hBw _ hk; omega), Fr.transB HF3.out hf4 (fun k e => .inr (by have e2 : k = w.heap.size := e; omega))⟩
end Go.Proofs.YtipkicijfedfoaaDoor.Wr

namespace Go.Proofs.YtipkicijfedfoaaDoor.Wr
set_option linter.unusedVariables false
set_option linter.unusedSimpArgs false
open Go.RowKit Go.Own Go.Quo Go.Wire Go.Inc
set_option maxRecDepth 10000 in
set_option maxHeartbeats 4000000 in
theorem rf_get1 (p : Nat) (B : Nat → Prop) (s : Sd) (w : World) (h : RfP w p B s) (hp : ¬ B p) (hBw : ∀ k, B k → k < w.heap.size) (hB : Bytes s.2) :
    Calls Tryd.prog 53 #[.pointer (some ⟨p, 0, none⟩), .int .i64 1] w fun e w' => e = .returned (.agg #[.int .i64 1, .int .i64 0, .bool (sB s).1, .string ⟨#[]⟩, .slice none 0 0]) ∧ RfP w' p B (sB s).2 ∧ Fr (· = p) w w' := by
  have hpl := h.lt
  have HP := Lib.hid ((h.alloc (.cells #[.int .i64 0, .int .i64 0, .bool false, .string ⟨#[]⟩, .slice none 0 0] 69)).alloc (.cells #[.int .i64 1, .int .i64 0, .bool false, .string ⟨#[]⟩, .slice none 0 0] 69))
  have HZ := Lib.hid ((Blk.new w 69 #[.int .i64 0, .int .i64 0, .bool false, .string ⟨#[]⟩, .slice none 0 0]).alloc (.cells #[.int .i64 1, .int .i64 0, .bool false, .string ⟨#[]⟩, .slice none 0 0] 69))
  have HX := Lib.hid (show Blk ((w.alloc (.cells #[.int .i64 0, .int .i64 0, .bool false, .string ⟨#[]⟩, .slice none 0 0] 69)).alloc (.cells #[.int .i64 1, .int .i64 0, .bool false, .string ⟨#[]⟩, .slice none 0 0] 69)) (w.heap.size + 1) 69 #[.int .i64 1, .int .i64 0, .bool false, .string ⟨#[]⟩, .slice none 0 0] by
    have := Blk.new (w.alloc (.cells #[.int .i64 0, .int .i64 0, .bool false, .string ⟨#[]⟩, .slice none 0 0] 69)) 69 #[.int .i64 1, .int .i64 0, .bool false, .string ⟨#[]⟩, .slice none 0 0]
    simpa using this)
  have HF := Lib.hid (((Fr.refl (fun k => k = p) w).alloc (.cells #[.int .i64 0, .int .i64 0, .bool false, .string ⟨#[]⟩, .slice none 0 0] 69)).alloc (.cells #[.int .i64 1, .int .i64 0, .bool false, .string ⟨#[]⟩, .slice none 0 0] 69))
  have hz2 : ((w.alloc (.cells #[.int .i64 0, .int .i64 0, .bool false, .string ⟨#[]⟩, .slice none 0 0] 69)).alloc (.cells #[.int .i64 1, .int .i64 0, .bool false, .string ⟨#[]⟩, .slice none 0 0] 69)).heap.size = w.heap.size + 2 := by simp
  obtain ⟨x0, x1, x2⟩ := HX.out.facts
  clear h
  obtain ⟨err, l⟩ := s
  obtain ⟨W2, hW2⟩ : ∃ W2, W2 = (w.alloc (.cells #[.int .i64 0, .int .i64 0, .bool false, .string ⟨#[]⟩, .slice none 0 0] 69)).alloc (.cells #[.int .i64 1, .int .i64 0, .bool false, .string ⟨#[]⟩, .slice none 0 0] 69) := ⟨_, rfl⟩
  rw [← hW2] at HP HZ HX HF hz2 x0 x1 x2
  have HW := Lib.hid hW2
  clear hW2
  obtain ⟨rest, A, c, hk, hr, hc, hx⟩ := HP.out
  obtain ⟨q0, q1, q2⟩ := hk.facts
  simp only at q2 hx hk hB
  have HK := Lib.hid hk
  have HR := Lib.hid hr
  have HC := Lib.hid hc
  have HXx := Lib.hid hx
  clear hk hr hc hx
  have f1 : ∀ e' : Int, Fr (fun k => k = p) W2 (W2.setCell ⟨p, 1, none⟩ (.int .i64 e')) := fun e' => (Fr.refl (fun k => k = p) W2).setCell (p := ⟨p, 1, none⟩) (.inl rfl) _
  have HPe := Lib.hid (fun (e' : Int) (he : e' ≠ 0) => (show RfP (W2.setCell ⟨p, 1, none⟩ (.int .i64 e')) p B (e', []) from ⟨rest, A, c, by simpa using HK.out.set_ 1 (.int .i64 e'), HR.out.setCell (by simpa using hp) _, HC.out, fun h => absurd h he⟩))
  have HZe := Lib.hid (fun (e' : Int) => HZ.out.fr (f1 e') (by show ¬ (w.heap.size = p); omega))
  have HXe := Lib.hid (fun (e' : Int) => HX.out.fr (f1 e') (by show ¬ (w.heap.size + 1 = p); omega))
  have HFe := Lib.hid (fun (e' : Int) => HF.out.trans (f1 e'))
  clear f1
  by_cases h0 : err = 0
  · subst h0
    have hx := HXx.out rfl
    subst hx
    cases rest with
    | nil =>
      have HE := Lib.hid (show sB (0, []) = (false, (11, [])) by simp [sB, rdB])
      simp only [List.length_nil] at q1
      go_enter Tryd.func53, Tryd.ntmps53
      go_upto_region 6 with fail
      rw [← HW.out]
      go_upto_region 10 with fail
      obtain ⟨y0, y1, y2⟩ := (HXe.out 11).facts
      go_wp2_with (refine wpList_storeBlk rfl (.tmp 4) (.tmp 34) 69 rfl w.heap.size 69 _ #[.int .i64 1, .int .i64 0, .bool false, .string ⟨#[]⟩, .slice none 0 0] _ 5 64 tinfo69 rfl rfl rfl (HZe.out 11) rfl (five_one (by simp [Value.oneCell'])) ?_; intro w4 hb4 hf4 hs4)
      refine bodyPost_ret (results_cell_row (p := 4) (ty := 69) Tryd.results53 _ _ w.heap.size 69 #[.int .i64 1, .int .i64 0, .bool false, .string ⟨#[]⟩, .slice none 0 0] (0, 0) _ rfl hb4 Tryd.underlying69 rfl tsize69) rfl ?_
      rw [HE.out]
      exact ⟨rfl, (HPe.out 11 (by decide)).fr hf4 (by show ¬ (p = w.heap.size); omega) (fun k hk e => by have e2 : k = w.heap.size := e; have := hBw _ hk; omega), Fr.transB (HFe.out 11) hf4 (fun k e => .inr (by have e2 : k = w.heap.size := e; omega))⟩
    | cons b r =>
      have hb := hB b (by simp)
      have pA := HR.out.plain (by simp)
      have hlen : (b :: r).length = r.length + 1 := rfl
      obtain ⟨n, hn⟩ : ∃ n : Nat, n = r.length + 1 := ⟨_, rfl⟩
      rw [hlen, ← hn] at q1
      have hix : ∀ W : World, (Instr.indexAt 40 (.slice A n c) (.int .i64 0)).run Tryd.prog W = .ok (.pointer (some ⟨bk A, ofs A, none⟩)) W := fun W => by
        rw [hn]; exact ix45 pA c 0 (by simp) W
      have hcell : W2.cell? ⟨bk A, ofs A, none⟩ = some (.int .u8 b) := by
        have := HR.out.cell2 0 (by simp) (by omega)
        simpa [bys] using this
      have hne : ((n : Int) == 0) = false := by simp; omega
      have hn1 : (1 : Int) ≤ n := by omega
      have HN := Lib.hid hn
      clear hn hlen pA
      by_cases h1 : 1 < b
      · have d1 : decide ((1 : Int) < b) = true := decide_eq_true h1
        have HE := Lib.hid (show sB (0, b :: r) = (false, (2, [])) by simp [sB, rdB, h1])
        go_enter Tryd.func53, Tryd.ntmps53
        go_upto_region 6 with fail
        rw [← HW.out]
        go_upto_region 13 with fail
        obtain ⟨y0, y1, y2⟩ := (HXe.out 2).facts
        go_wp2_with (refine wpList_storeBlk rfl (.tmp 4) (.tmp 45) 69 rfl w.heap.size 69 _ #[.int .i64 1, .int .i64 0, .bool false, .string ⟨#[]⟩, .slice none 0 0] _ 5 64 tinfo69 rfl rfl rfl (HZe.out 2) rfl (five_one (by simp [Value.oneCell'])) ?_; intro w4 hb4 hf4 hs4)
        refine bodyPost_ret (results_cell_row (p := 4) (ty := 69) Tryd.results53 _ _ w.heap.size 69 #[.int .i64 1, .int .i64 0, .bool false, .string ⟨#[]⟩, .slice none 0 0] (0, 0) _ rfl hb4 Tryd.underlying69 rfl tsize69) rfl ?_
        rw [HE.out]
        exact ⟨rfl, (HPe.out 2 (by decide)).fr hf4 (by show ¬ (p = w.heap.size); omega) (fun k hk e => by have e2 : k = w.heap.size := e; have := hBw _ hk; omega), Fr.transB (HFe.out 2) hf4 (fun k e => .inr (by have e2 : k = w.heap.size := e; omega))⟩
      · have d1 : decide ((1 : Int) < b) = false := decide_eq_false h1
        obtain ⟨bb, hbb⟩ : ∃ bb, bb = decide (b = 1) := ⟨_, rfl⟩
        have HE := Lib.hid (show sB (0, b :: r) = (bb, (0, r)) by rw [hbb]; simp [sB, rdB, h1])
        have hd : (b == 1) = bb := by rw [hbb]; rfl
        have hl2 : ((b :: r).drop 1).length = n - 1 := by rw [HN.out]; simp
        have hct : ∀ W : World, (Instr.slice 40 (.slice A n c) (some (.int .i64 1)) none none).run Tryd.prog W = .ok (.slice (cutA A c 1) (n - 1) (c - 1)) W := fun W => by
          simpa using run_cutB (A := A) (n := n) (c := c) 1 (by omega) W
        have hct2 : ∀ W : World, (Instr.sliceAt 40 (.slice A n c) (some (.int .i64 1)) none none).run Tryd.prog W = .ok (.slice (cutA A c 1) (n - 1) (c - 1)) W := fun W => by
          simpa using run_cutB2 (A := A) (n := n) (c := c) 1 (by omega) W
        have HP4 := Lib.hid (show RfP ((W2.setCell ⟨w.heap.size + 1, 2, none⟩ (.bool bb)).setCell ⟨p, 0, none⟩ (.slice (cutA A c 1) (n - 1) (c - 1))) p B (0, r) from by
          have hB1 : ¬ B (w.heap.size + 1) := fun hb => by have := hBw _ hb; omega
          refine ⟨r, cutA A c 1, c - 1, ?_, ?_, by have := HC.out; simp only [List.length_cons] at this; omega, fun _ => rfl⟩
          · have e1 : r.length = n - 1 := by rw [HN.out]; rfl
            rw [e1]; simpa using (HK.out.fr ((Fr.refl (fun k => k = w.heap.size + 1) W2).setCell (p := ⟨w.heap.size + 1, 2, none⟩) (.inl rfl) (.bool bb)) (by show ¬ (p = w.heap.size + 1); omega)).set_ 0 (.slice (cutA A c 1) (n - 1) (c - 1))
          · exact ((show Reads W2 B 1 (cutA A c 1) r.length (bys r) from Reads.cutB HR.out (k := 1) (by simp) HC.out).setCell (by simpa using hB1) _).setCell (by simpa using hp) _)
        have HX4 := Lib.hid (show Blk ((W2.setCell ⟨w.heap.size + 1, 2, none⟩ (.bool bb)).setCell ⟨p, 0, none⟩ (.slice (cutA A c 1) (n - 1) (c - 1))) (w.heap.size + 1) 69 #[.int .i64 1, .int .i64 0, .bool bb, .string ⟨#[]⟩, .slice none 0 0] by
          have := (HX.out.set_ 2 (.bool bb)).fr ((Fr.refl (fun k => k = p) _).setCell (p := ⟨p, 0, none⟩) (.inl rfl) (.slice (cutA A c 1) (n - 1) (c - 1))) (by show ¬ (w.heap.size + 1 = p); omega)
          simpa using this)
        have HZ4 := Lib.hid ((HZ.out.fr ((Fr.refl (fun k => k = w.heap.size + 1) W2).setCell (p := ⟨w.heap.size + 1, 2, none⟩) (.inl rfl) (.bool bb)) (by show ¬ (w.heap.size = w.heap.size + 1); omega)).fr ((Fr.refl (fun k => k = p) _).setCell (p := ⟨p, 0, none⟩) (.inl rfl) (.slice (cutA A c 1) (n - 1) (c - 1))) (by show ¬ (w.heap.size = p); omega))
        have HF4 := Lib.hid ((HF.out.setCell (p := ⟨w.heap.size + 1, 2, none⟩) (.inr (by show w.heap.size ≤ w.heap.size + 1; omega)) (.bool bb)).setCell (p := ⟨p, 0, none⟩) (.inl rfl) (.slice (cutA A c 1) (n - 1) (c - 1)))
        clear hbb
        go_enter Tryd.func53, Tryd.ntmps53
        go_upto_region 6 with fail
        rw [← HW.out]
        go_upto_region 30 with fail
        generalize (W2.setCell _ _).setCell _ _ = W4 at *
        clear x0 x1 x2 q0 q1 q2 hct hct2
        obtain ⟨x0, x1, x2⟩ := HX4.out.facts
        go_wp2_with (refine wpList_storeBlk rfl (.tmp 4) (.tmp 118) 69 rfl w.heap.size 69 _ #[.int .i64 1, .int .i64 0, .bool bb, .string ⟨#[]⟩, .slice none 0 0] _ 5 64 tinfo69 rfl rfl rfl HZ4.out rfl (five_one (by simp [Value.oneCell'])) ?_; intro w4 hb4 hf4 hs4)
        refine bodyPost_ret (results_cell_row (p := 4) (ty := 69) Tryd.results53 _ _ w.heap.size 69 #[.int .i64 1, .int .i64 0, .bool bb, .string ⟨#[]⟩, .slice none 0 0] (0, 0) _ rfl hb4 Tryd.underlying69 rfl tsize69) rfl ?_
        rw [HE.out]
        exact ⟨rfl, HP4.out.fr hf4 (by show ¬ (p = w.heap.size); omega) (fun k hk e => by have e2 : k = w.heap.size := e; have := hBw _ hk; omega), Fr.transB HF4.out hf4 (fun k e => .inr (by have e2 : k = w.heap.size := e; omega))⟩
  · have HE := Lib.hid (show sB (err, l) = (false, (err, l)) by unfold sB; rw [if_neg h0])
    have h0b : (err != 0) = true := by simpa [bne] using h0
    clear h0
    go_enter Tryd.func53, Tryd.ntmps53
    go_upto_region 6 with fail
    rw [← HW.out]
    go_wp2_with (refine wpList_storeBlk rfl (.tmp 4) (.tmp 24) 69 rfl w.heap.size 69 _ #[.int .i64 1, .int .i64 0, .bool false, .string ⟨#[]⟩, .slice none 0 0] _ 5 64 tinfo69 rfl rfl rfl HZ.out rfl (five_one (by simp [Value.oneCell'])) ?_; intro w4 hb4 hf4 hs4)
    refine bodyPost_ret (results_cell_row (p := 4) (ty := 69) Tryd.results53 _ _ w.heap.size 69 #[.int .i64 1, .int .i64 0, .bool false, .string ⟨#[]⟩, .slice none 0 0] (0, 0) _ rfl hb4 Tryd.underlying69 rfl tsize69) rfl ?_
    rw [HE.out]
    exact ⟨rfl, HP.out.fr hf4 (by show ¬ (p = w.heap.size); omega) (fun k hk e => by have e2 : k = w.heap.size := e; have := hBw _ hk; omega), Fr.transB HF.out hf4 (fun k e => .inr (by have e2 : k = w.heap.size := e; omega))⟩
end Go.Proofs.YtipkicijfedfoaaDoor.Wr

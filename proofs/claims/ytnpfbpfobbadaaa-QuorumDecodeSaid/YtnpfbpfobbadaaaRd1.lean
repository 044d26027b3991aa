import Derived.Test.YtnpfbpfobbadaaaQDec
import Derived.Test.YtnpfbpfobbadaaaQuo6
namespace Go.Proofs.Ytnpfbpfobbadaaa
set_option linter.unusedVariables false
open Go.RowKit Go.Own Go.Quo Go.Wire
/-- A reader at block p: what is left and the error; the bytes lie in blocks of B. -/
def RdP (w : World) (p : Nat) (B : Nat → Prop) (rest : List Int) (err : Int) : Prop := ∃ A c, Blk w p 74 #[.slice A rest.length c, .int .i64 err] ∧ Reads w B 1 A rest.length (bys rest) ∧ rest.length ≤ c
theorem RdP.fr {w w' : World} {p : Nat} {B S : Nat → Prop} {rest : List Int} {err : Int} (h : RdP w p B rest err) (hf : Fr S w w') (hp : ¬ S p) (hS : ∀ k, B k → ¬ S k) : RdP w' p B rest err := by
  obtain ⟨A, c, h1, h2, h3⟩ := h
  exact ⟨A, c, h1.fr hf hp, h2.fr hf hS, h3⟩
theorem i5x : ∃ i, Try.prog.info? 5 = some i ∧ i.size = 1 := by obtain ⟨i, h, _, h2, _⟩ := info_parts info5; exact ⟨i, h, h2⟩
theorem ix45 {A : Option Addr} {n : Nat} (hA : Plain A n) (c k : Nat) (hk : k < n) (w : World) : (Instr.indexAt 45 (.slice A n c) (.int .i64 (k : Int))).run Try.prog w = .ok (.pointer (some ⟨bk A, ofs A + k, none⟩)) w := by
  obtain ⟨i, h1, h2⟩ := i5x
  simpa using run_indexAt2 (P := Try.prog) Try.underlying45 h1 h2 hA c k hk w
theorem run_cutB {A : Option Addr} {n c : Nat} (k : Nat) (hk : k ≤ n) (W : World) :
    (Instr.slice 45 (.slice A n c) (some (.int .i64 (k : Int))) none none).run Try.prog W = .ok (.slice (cutA A c k) (n - k) (c - k)) W := by
  have hu : Try.prog.underlying 45 = some (.slice (Try.prog.elem 45)) := by kernel_rfl
  have he : Try.prog.elem 45 = 5 := by kernel_rfl
  obtain ⟨i, h1, h2⟩ := i5x
  rw [run_slice_l W 45 A n c hu .i64 (k : Int) (by omega) (by omega), he]
  simp [sizeOf, typeInfo, h1, h2, sliced, cutA]
theorem run_cutB2 {A : Option Addr} {n c : Nat} (k : Nat) (hk : k ≤ n) (W : World) :
    (Instr.sliceAt 45 (.slice A n c) (some (.int .i64 (k : Int))) none none).run Try.prog W = .ok (.slice (cutA A c k) (n - k) (c - k)) W := by
  have hu : Try.prog.underlying 45 = some (.slice (Try.prog.elem 45)) := by kernel_rfl
  rw [run_sliceAt_slice W 45 _ _ _ _ hu]
  exact run_cutB k hk W
theorem Reads.cutB {w : World} {B : Nat → Prop} {A : Option Addr} {l : List Int} (h : Reads w B 1 A l.length (bys l)) {k c : Nat} (hk : k ≤ l.length) (hc : l.length ≤ c) : Reads w B 1 (cutA A c k) (l.drop k).length (bys (l.drop k)) := by
  have := Reads.cut h hk hc
  simp only [Nat.mul_one] at this
  rw [List.length_drop, bys, List.map_drop]
  exact this
set_option maxRecDepth 10000 in
set_option maxHeartbeats 1000000 in
theorem fail_any (p : Nat) (B : Nat → Prop) (rest : List Int) (err e' : Int) (w : World) (h : RdP w p B rest err) :
    Calls Try.prog 71 #[.pointer (some ⟨p, 0, none⟩), .int .i64 e'] w fun e w' => e = .returned (.tuple #[]) ∧ RdP w' p B [] e' ∧ Fr (· = p) w w' := by
  obtain ⟨A, c, hk, hr, hc⟩ := h
  obtain ⟨q0, q1, q2⟩ := hk.facts
  go_enter Try.func71, Try.ntmps71
  go_wp2
  refine bodyPost_end (v := .tuple #[]) (by simp [results, Try.results71, go_sem]) rfl ⟨rfl, ⟨none, 0, ?_, Reads.none_, by simp⟩, ((Fr.refl (fun x => x = p) _).setCell (.inl rfl) _).setCell (.inl rfl) _⟩
  simpa using (hk.set_ 1 (.int .i64 e')).set_ 0 (.slice none 0 0)
set_option maxRecDepth 10000 in
set_option maxHeartbeats 1000000 in
theorem next_some (p : Nat) (B : Nat → Prop) (b : Int) (rest : List Int) (w : World) (h : RdP w p B (b :: rest) 0) (hp : ¬ B p) :
    Calls Try.prog 72 #[.pointer (some ⟨p, 0, none⟩)] w fun e w' => e = .returned (.tuple #[.int .u8 b, .bool true]) ∧ RdP w' p B rest 0 ∧ Fr (· = p) w w' := by
  obtain ⟨A, c, hk, hr, hc⟩ := h
  obtain ⟨q0, q1, q2⟩ := hk.facts
  have pA := hr.plain (by omega)
  have hlen : (b :: rest).length = rest.length + 1 := rfl
  rw [hlen] at q1
  have hix : ∀ W : World, (Instr.indexAt 45 (.slice A (rest.length + 1) c) (.int .i64 0)).run Try.prog W = .ok (.pointer (some ⟨bk A, ofs A, none⟩)) W := fun W => ix45 pA c 0 (by simp) W
  have hcell : w.cell? ⟨bk A, ofs A, none⟩ = some (.int .u8 b) := by
    have := hr.cell2 0 (by simp) (by omega)
    simpa [bys] using this
  have hcut : ∀ W : World, (Instr.slice 45 (.slice A (rest.length + 1) c) (some (.int .i64 1)) none none).run Try.prog W = .ok (.slice (cutA A c 1) rest.length (c - 1)) W := fun W => by
    simpa using run_cutB (A := A) (n := rest.length + 1) (c := c) 1 (by omega) W
  have hcut2 : ∀ W : World, (Instr.sliceAt 45 (.slice A (rest.length + 1) c) (some (.int .i64 1)) none none).run Try.prog W = .ok (.slice (cutA A c 1) rest.length (c - 1)) W := fun W => by
    simpa using run_cutB2 (A := A) (n := rest.length + 1) (c := c) 1 (by omega) W
  have hne : ((rest.length : Int) + 1 == 0) = false := by simp; omega
  go_enter Try.func72, Try.ntmps72
  go_wp2
  refine bodyPost_ret (v := .tuple #[.int .u8 b, .bool true]) (by simp [results, Try.results72, go_sem]) rfl ⟨rfl, ⟨cutA A c 1, c - 1, ?_, ?_, by simp at hc; omega⟩, (Fr.refl (fun x => x = p) _).setCell (.inl rfl) _⟩
  · simpa using hk.set_ 0 (.slice (cutA A c 1) rest.length (c - 1))
  · have := Reads.cutB hr (k := 1) (by simp) hc
    exact (show Reads w B 1 (cutA A c 1) rest.length (bys rest) from this).setCell (by simpa using hp) _
set_option maxRecDepth 10000 in
set_option maxHeartbeats 1000000 in
theorem next_none (p : Nat) (B : Nat → Prop) (w : World) (h : RdP w p B [] 0) :
    Calls Try.prog 72 #[.pointer (some ⟨p, 0, none⟩)] w fun e w' => e = .returned (.tuple #[.int .u8 0, .bool false]) ∧ RdP w' p B [] 11 ∧ Fr (· = p) w w' := by
  have HF := Lib.hid (fail_any p B [] 0 11 w h)
  obtain ⟨A, c, hk, hr, hc⟩ := h
  obtain ⟨q0, q1, q2⟩ := hk.facts
  simp only [List.length_nil] at q1
  go_enter Try.func72, Try.ntmps72
  go_wp2_with (go_at_call 71; ((with_reducible refine HF.out.mono ?_); rintro e w1 ⟨rfl, h1, h2⟩))
  exact bodyPost_ret (v := .tuple #[.int .u8 0, .bool false]) (by simp [results, Try.results72, go_sem]) rfl ⟨rfl, h1, h2⟩
set_option maxRecDepth 10000 in
set_option maxHeartbeats 1000000 in
theorem next_err (p : Nat) (B : Nat → Prop) (rest : List Int) (err : Int) (w : World) (h : RdP w p B rest err) (he : err ≠ 0) :
    Calls Try.prog 72 #[.pointer (some ⟨p, 0, none⟩)] w fun e w' => e = .returned (.tuple #[.int .u8 0, .bool false]) ∧ w = w' := by
  obtain ⟨A, c, hk, hr, hc⟩ := h
  obtain ⟨q0, q1, q2⟩ := hk.facts
  have heb : (err == 0) = false := by simpa using he
  go_enter Try.func72, Try.ntmps72
  go_wp2
  exact bodyPost_ret (v := .tuple #[.int .u8 0, .bool false]) (by simp [results, Try.results72, go_sem]) rfl ⟨rfl, rfl⟩
set_option maxRecDepth 10000 in
set_option maxHeartbeats 1000000 in
theorem int_err (p : Nat) (B : Nat → Prop) (rest : List Int) (err : Int) (w : World) (h : RdP w p B rest err) (he : err ≠ 0) :
    Calls Try.prog 58 #[.pointer (some ⟨p, 0, none⟩)] w fun e w' => e = .returned (.int .i64 0) ∧ w = w' := by
  have HN := Lib.hid (next_err p B rest err w h he)
  clear h he
  go_enter Try.func58, Try.ntmps58
  go_wp2_with fail
  go_loopw [3, 7] (fun vu vi wr => vi = .int .i64 0 ∧ vu = .int .u64 0 ∧ wr = w) (fun _ _ _ => 0)
  case atStart => exact ⟨rfl, rfl, rfl⟩
  case round =>
    obtain ⟨rfl, rfl, rfl⟩ := hrel
    go_wp2_with (go_at_call 72; ((with_reducible refine HN.out.mono ?_); rintro e w1 ⟨rfl, rfl⟩))
    go_ret
    exact ⟨rfl, rfl⟩
end Go.Proofs.Ytnpfbpfobbadaaa

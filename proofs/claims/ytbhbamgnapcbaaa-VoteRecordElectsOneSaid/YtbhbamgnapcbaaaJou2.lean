import Derived.Test.YtbhbamgnapcbaaaJou1
namespace Go.Wire
theorem encU_high : ∀ (u i : Nat), i + 1 < (encU u).length → 128 ≤ Quo.gd (encU u) i := by
  intro u
  induction u using Nat.strongRecOn with
  | ind u ih =>
    intro i hi
    by_cases h : u < 128
    · rw [encU_lt h] at hi; simp at hi
    · rw [encU_ge h] at hi ⊢
      cases i with
      | zero => simp [Quo.gd]; omega
      | succ i =>
        have := ih (u / 128) (by omega) i (by simpa using hi)
        simpa [Quo.gd] using this
theorem encU_last : ∀ (u : Nat), Quo.gd (encU u) ((encU u).length - 1) < 128 := by
  intro u
  induction u using Nat.strongRecOn with
  | ind u ih =>
    by_cases h : u < 128
    · rw [encU_lt h]; simp [Quo.gd]; omega
    · have := ih (u / 128) (by omega)
      have hp := encU_pos (u / 128)
      rw [encU_ge h]
      simp only [List.length_cons, Nat.add_sub_cancel]
      have e : (encU (u / 128)).length = ((encU (u / 128)).length - 1) + 1 := by omega
      rw [e]
      simpa [Quo.gd] using this
theorem encI_len3 {n : Int} (h0 : 0 ≤ n) (h1 : n ≤ 8192) : (encI n).length ≤ 3 := encU_len 2 _ (by unfold zig; rw [if_pos h0]; omega)
theorem encU_bytes : ∀ u : Nat, Bytes (encU u) := by
  intro u
  induction u using Nat.strongRecOn with
  | ind u ih =>
    by_cases h : u < 128
    · rw [encU_lt h]; intro x hx; simp at hx; omega
    · rw [encU_ge h]
      intro x hx
      rcases List.mem_cons.1 hx with rfl | hx
      · omega
      · exact ih (u / 128) (by omega) x hx
theorem gd_left {a b : List Int} {i : Nat} (h : i < a.length) : Quo.gd (a ++ b) i = Quo.gd a i := by
  rw [Quo.gd_get (by rw [List.length_append]; omega), Quo.gd_get h, List.getElem_append_left h]
theorem gd_right {a b : List Int} {i : Nat} (h : i < b.length) : Quo.gd (a ++ b) (a.length + i) = Quo.gd b i := by
  rw [Quo.gd_get (by rw [List.length_append]; omega), Quo.gd_get h, List.getElem_append_right (by omega)]
  congr 1; omega
end Go.Wire
namespace Go.Proofs.Ytbhbamgnapcbaaa
set_option linter.unusedVariables false
open Go.RowKit Go.Own Go.Quo Go.Wire
theorem run_high {A : Option Addr} {n c k : Nat} (hk : k ≤ c) (W : World) : (Instr.slice 31 (.slice A n c) none (some (.int .i64 (k : Int))) none).run Try.prog W = .ok (.slice A k c) W := by
  have hu : Try.prog.underlying 31 = some (.slice (Try.prog.elem 31)) := by kernel_rfl
  have he : Try.prog.elem 31 = 5 := by kernel_rfl
  obtain ⟨i, h1, h2⟩ := i5x
  rw [run_slice_h W 31 A n c hu .i64 (k : Int) (by omega) (by omega), he]
  cases A with
  | none => simp [sizeOf, typeInfo, h1, h2, sliced]
  | some a => simp [sizeOf, typeInfo, h1, h2, sliced, add_zero_]
theorem run_high2 {A : Option Addr} {n c k : Nat} (hk : k ≤ c) (W : World) : (Instr.sliceAt 31 (.slice A n c) none (some (.int .i64 (k : Int))) none).run Try.prog W = .ok (.slice A k c) W := by
  have hu : Try.prog.underlying 31 = some (.slice (Try.prog.elem 31)) := by kernel_rfl
  rw [run_sliceAt_slice W 31 _ _ _ _ hu]
  exact run_high hk W
theorem Reads.front {w : World} {B : Nat → Prop} {A : Option Addr} {a b : List Int} (h : Reads w B 1 A (a ++ b).length (bys (a ++ b))) : Reads w B 1 A a.length (bys a) := by
  refine ⟨by simp, fun hn => ?_⟩
  obtain ⟨ad, e1, e2, e3⟩ := h.2 (by rw [List.length_append]; omega)
  refine ⟨ad, e1, e2, fun j u hu => e3 j u ?_⟩
  have hj : j < (bys a).length := (List.getElem?_eq_some_iff.1 hu).1
  rw [bys, List.map_append, List.getElem?_append_left hj]
  exact hu
set_option maxRecDepth 10000 in
set_option maxHeartbeats 2000000 in
theorem readLength_nil (A : Option Addr) (c : Nat) (w : World) : Calls Try.prog 57 #[.slice A 0 c] w fun e w' => e = .returned (.tuple #[.int .i64 0, .int .i64 0, .bool false]) ∧ w = w' := by
  go_enter Try.func57, Try.ntmps57
  go_wp2_with fail
  go_loopw [5] (fun vi wr => vi = .int .i64 0 ∧ wr = w) (fun _ _ => 0)
  case atStart => exact ⟨rfl, rfl⟩
  case round =>
    obtain ⟨rfl, rfl⟩ := hrel
    go_wp2
    exact bodyPost_ret (v := .tuple #[.int .i64 0, .int .i64 0, .bool false]) (by simp [results, Try.results57, go_sem]) rfl ⟨rfl, rfl⟩
set_option maxRecDepth 10000 in
set_option maxHeartbeats 2000000 in
theorem readLength_ok (B : Nat → Prop) (A : Option Addr) (c : Nat) (n : Nat) (tail : List Int) (w : World) (hn : n ≤ 8192) (h : Reads w B 1 A (encI (n : Int) ++ tail).length (bys (encI (n : Int) ++ tail))) (hc : (encI (n : Int) ++ tail).length ≤ c) (hl : tail.length ≤ 100000000) :
    Calls Try.prog 57 #[.slice A (encI (n : Int) ++ tail).length c] w fun e w' => e = .returned (.tuple #[.int .i64 (n : Int), .int .i64 ((encI (n : Int)).length : Int), .bool true]) ∧ Below w.heap.size w w' := by
  have pA := h.plain (by omega)
  have h3 := encI_len3 (n := (n : Int)) (by omega) (by omega)
  have h1 : 1 ≤ (encI (n : Int)).length := encU_pos _
  have hlen : (encI (n : Int) ++ tail).length = (encI (n : Int)).length + tail.length := List.length_append
  have HHi := Lib.hid fun i (hi : i + 1 < (encI (n : Int)).length) => (show 128 ≤ gd (encI (n : Int) ++ tail) i by rw [gd_left (by omega)]; exact encU_high _ i hi)
  have HLa := Lib.hid (show gd (encI (n : Int) ++ tail) ((encI (n : Int)).length - 1) < 128 by rw [gd_left (by omega)]; exact encU_last _)
  have hrd : rdI (encI (n : Int)) = (0, (n : Int), []) := by have := rdI_enc (n := (n : Int)) (by omega) (by omega) []; rwa [List.append_nil] at this
  have hf := Reads.front h
  have hby : Bytes (encI (n : Int)) := encU_bytes _
  have HNr := Lib.hid fun W' (x : Reads W' B 1 A (encI (n : Int)).length (bys (encI (n : Int)))) => newReader_any B A c (encI (n : Int)) W' x (by omega)
  have HIn := Lib.hid fun W' p B' (x : RdP W' p B' (encI (n : Int)) 0) (hp : ¬ B' p) => (show Calls Try.prog 60 #[.pointer (some ⟨p, 0, none⟩)] W' (fun e w' => e = .returned (.int .i64 (n : Int)) ∧ RdP w' p B' [] 0 ∧ Fr (· = p) W' w') by
    have := int_ok p B' (encI (n : Int)) W' x hp hby
    rw [hrd] at this
    exact this)
  have HFi := Lib.hid fun W' p B' (x : RdP W' p B' [] 0) => (show Calls Try.prog 61 #[.pointer (some ⟨p, 0, none⟩)] W' (fun e w' => e = .returned (.int .i64 0) ∧ W' = w') from finish_any p B' [] 0 W' x)
  have hrb := Lib.hid fun i (hi : i < (encI (n : Int) ++ tail).length) => gdb_at h hi
  have hci : (encI (n : Int)).length ≤ c := by omega
  clear hrd hby
  generalize encI (n : Int) = en at *
  obtain ⟨L, hL⟩ : ∃ L : Nat, (en ++ tail).length = L := ⟨_, rfl⟩
  rw [hL] at h hc hlen hrb ⊢
  rw [hL] at pA
  generalize en ++ tail = b at *
  have hle1 : L ≤ en.length + tail.length := by omega
  have hle2 : en.length + tail.length ≤ L := by omega
  clear hL hlen
  go_enter Try.func57, Try.ntmps57
  go_wp2_with fail
  go_loopw [5] (fun vi wr => ∃ k : Nat, k + 1 ≤ en.length ∧ vi = .int .i64 k ∧ wr = w) (fun i _ => en.length - (intOf i).toNat)
  case atStart => exact ⟨0, by omega, rfl, rfl⟩
  case round =>
    obtain ⟨k, hk, rfl, rfl⟩ := hrel
    have hkL : k < L := by omega
    have hkL' : (k : Int) < L := by omega
    have hix := fun W => ix31 pA c k hkL W
    have hcell := hrb.out k hkL
    by_cases hlast : k + 1 < en.length
    · have hge := HHi.out k hlast
      have h33 : ¬ ((3 : Int) < (k : Int) + 1) := by omega
      go_wp2_with fail
      exact ⟨⟨k + 1, by omega, by go_num, by trivial⟩, by simp [intOf]; omega⟩
    · have hlt : ¬ (128 : Int) ≤ gd b k := by have := HLa.out; rw [show en.length - 1 = k by omega] at this; omega
      have hne : ((k : Int) == (L : Int)) = false := beq_eq_false_iff_ne.2 (by omega)
      have hE := Lib.hid (show k + 1 = en.length by omega)
      have r1 := fun W => run_high (A := A) (n := L) (c := c) (k := k + 1) (by omega) W
      have r2 := fun W => run_high2 (A := A) (n := L) (c := c) (k := k + 1) (by omega) W
      simp only [Int.natCast_add, Int.natCast_one] at r1 r2
      have HNr := Lib.hid (HNr.out wr hf)
      rw [← hE.out] at HNr
      go_wp2_with fail
      refine HNr.out.mono ?_
      rintro e w2 ⟨rfl, hr2, hB2⟩
      have hn0 : ¬ ((n : Int) < 0) := by omega
      have hn8 : ¬ ((8192 : Int) < n) := by omega
      go_wp2_with fail
      refine (HIn.out w2 _ _ hr2 (by omega)).mono ?_
      rintro e w3 ⟨rfl, hr3, hf3⟩
      have HF3 := Lib.hid (HFi.out w3 _ _ hr3)
      have hs2 := hB2.size
      have b3 := hB2.trans (hf3.below (B := wr.heap.size) hB2.size (fun j hj => by omega))
      go_wp2_with (go_at_call 61; ((with_reducible refine HF3.out.mono ?_); rintro e w4 ⟨rfl, rfl⟩))
      refine bodyPost_ret (v := .tuple #[.int .i64 (n : Int), .int .i64 ((k : Int) + 1), .bool true]) (by simp [results, Try.results57, go_sem]) rfl ⟨?_, b3⟩
      rw [← hE.out]; simp
end Go.Proofs.Ytbhbamgnapcbaaa

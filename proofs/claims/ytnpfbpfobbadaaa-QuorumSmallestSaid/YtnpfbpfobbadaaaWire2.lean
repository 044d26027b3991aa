import Derived.Test.YtnpfbpfobbadaaaWire1
namespace Go.Proofs.Ytnpfbpfobbadaaa
set_option linter.unusedVariables false
open Go.RowKit Go.Own Go.Quo Go.Wire
theorem size5 : (Try.prog.info? 5).map (·.size) = some 1 := by kernel_rfl
theorem bys_one (l : List Int) : ∀ v ∈ bys l, v.oneCell' = true := ints_oneCell .u8 l
set_option maxRecDepth 10000 in
set_option maxHeartbeats 1000000 in
theorem encoded_any (p : Nat) (out : List Int) (w : World) (hw : WrP w p out) (hl : out.length ≤ 1000000000) :
    Calls Try.prog 48 #[.pointer (some ⟨p, 0, none⟩)] w (fun e w' => ∃ A c, e = .returned (.slice A out.length c) ∧ Reads w' (w.heap.size ≤ ·) 1 A out.length (bys out) ∧ Below w.heap.size w w') := by
  obtain ⟨A, c, hk, hown⟩ := hw
  have hr := Reads.of_own hown
  have hmk := run_make1 (P := Try.prog) 45 5 (.int .u8 0) 1 Try.underlying45 info5 rfl out.length (by omega) (by omega)
  have hcp1 := run_copy_new (P := Try.prog) 45 45 3 5 Try.underlying45 size5 (c := c) (d := out.length) 5 (zrow (.int .u8 0) out.length) hr (bys_one out) (size_zrow _ _) w.heap.size rfl
  obtain ⟨q0, q1, q2⟩ := hk.facts
  clear hown hr
  go_enter Try.func48, Try.ntmps48
  go_wp2
  go_ret
  refine ⟨_, _, rfl, ?_, (Below.refl _ _).alloc (Nat.le_refl _) _⟩
  have := Reads.new w (bys out) 5 (0, 0)
  simp only [List.length_map] at this
  exact this.more (fun k hk => by omega)
theorem flat_take (l : List Int) (k : Nat) (hk : k < l.length) : (l.take (k + 1)).flatMap encI = (l.take k).flatMap encI ++ encI (gd l k) := by
  rw [List.take_succ_eq_append_getElem hk, gd_get hk, List.flatMap_append, List.flatMap_cons, List.flatMap_nil, List.append_nil]
theorem flat_len (l : List Int) (h : ∀ x ∈ l, -9223372036854775808 ≤ x ∧ x < 9223372036854775808) : (l.flatMap encI).length ≤ 10 * l.length := by
  induction l with
  | nil => simp
  | cons a r ih =>
    have h1 := encI_len (h a (by simp)).1 (h a (by simp)).2
    have h2 := ih (fun x hx => h x (by simp [hx]))
    simp only [List.flatMap_cons, List.length_append, List.length_cons]; omega
set_option maxRecDepth 10000 in
set_option maxHeartbeats 1000000 in
theorem wints_any (p : Nat) (A : Option Addr) (c : Nat) (l out : List Int) (w : World) (hw : WrP w p out) (hr : RI w (· < p) A l) (hx : ∀ x ∈ l, -9223372036854775808 ≤ x ∧ x < 9223372036854775808) (hm : l.length ≤ 1000) (hl : out.length ≤ 900000000) :
    Calls Try.prog 47 #[.pointer (some ⟨p, 0, none⟩), .slice A l.length c] w (fun e w' => e = .returned (.tuple #[]) ∧ WrP w' p (out ++ encIs l) ∧ Below p w w') := by
  have pA := hr.plain (by omega)
  have HL := Lib.hid (int_any p (l.length : Int) out w hw (by omega) (by omega) (by omega))
  have HX := Lib.hid hx
  clear hx
  have hle : (encI (l.length : Int)).length ≤ 10 := encI_len (by omega) (by omega)
  have HE := Lib.hid (show encIs l = encI (l.length : Int) ++ l.flatMap encI from rfl)
  generalize encI (l.length : Int) = el at *
  go_enter Try.func47, Try.ntmps47
  go_wp2_with (go_at_call 56; ((with_reducible refine HL.out.mono ?_); rintro e w1 ⟨rfl, hw1, hb1⟩))
  go_loopw [12] (fun vi wr => ∃ k : Nat, k ≤ l.length ∧ vi = .int .i64 k ∧ WrP wr p (out ++ el ++ (l.take k).flatMap encI) ∧ Below p w wr) (fun i _ => l.length - (intOf i).toNat)
  case atStart => exact ⟨0, Nat.zero_le _, rfl, by simpa using hw1, hb1⟩
  case round =>
    obtain ⟨k, hk, rfl, hwr, hb⟩ := hrel
    have hrr := hr.below hb (fun _ h => h)
    by_cases hlt : k < l.length
    · have hlt' : (k : Int) < l.length := by omega
      have hix := fun W => ix22 pA c k hlt W
      have hcell := RI.at_ hrr hlt
      have hg := HX.out (gd l k) (by rw [gd_get hlt]; exact List.getElem_mem hlt)
      have hfl : ((l.take k).flatMap encI).length ≤ 10 * l.length := by
        have := flat_len (l.take k) (fun x hx => HX.out x (List.mem_of_mem_take hx))
        have h2 : (l.take k).length ≤ l.length := by simp; omega
        omega
      have HI := Lib.hid (int_any p (gd l k) _ wr hwr hg.1 hg.2 (by simp only [List.length_append]; omega))
      rw [List.append_assoc, ← flat_take l k hlt] at HI
      go_wp2_with (go_at_call 56; ((with_reducible refine HI.out.mono ?_); rintro e w2 ⟨rfl, hw2, hb2⟩))
      exact ⟨⟨k + 1, by omega, by go_num, by simpa using hw2, hb.trans hb2⟩, by simp [intOf]; omega⟩
    · have hge : ¬ ((k : Int) < l.length) := by omega
      have HK : Hid (l.take k = l) := List.take_of_length_le (by omega)
      go_wp2_with fail
      refine bodyPost_end (v := .tuple #[]) (by simp [results, Try.results47, go_sem]) rfl ⟨rfl, ?_, hb⟩
      rw [HK.out] at hwr
      rw [HE.out]
      simpa using hwr
end Go.Proofs.Ytnpfbpfobbadaaa

import Derived.Test.YtgjkahndclijgaaSim4
import Derived.Test.YtgjkahndclijgaaSim6
import Derived.OpenShut
namespace Go.Proofs.Ytgjkahndclijgaa
open Go.RowKit Go.Own

theorem zrow_bytes (n : Nat) : (zrow (.int .u8 0) n) = (bytesV (List.replicate n 0)).toArray := by simp [zrow, bytesV]
theorem Reads.zrow (w : World) (n : Nat) : Reads (w.alloc (.cells (Own.zrow (.int .u8 0) n) 5)) (· = w.heap.size) 1 (some ⟨w.heap.size, 0, none⟩) n (bytesV (List.replicate n 0)) := by
  rw [zrow_bytes]
  have := Own.Reads.new w (bytesV (List.replicate n 0)) 5 (0, 0)
  simpa [bytesV] using this
set_option maxRecDepth 10000 in
set_option maxHeartbeats 1000000 in
theorem maxBody_any (m : Nat) (w : World) (hm : m ≤ 255) :
    Calls Try.prog 5 #[.int .u8 (m : Int)] w fun e w' => e = .returned (.bool true) ∧ Below w.heap.size w w' := by
  have hmk := run_make1 (P := Try.prog) 22 5 (.int .u8 0) 1 Try.underlying22 info5 rfl (8092 + m) (by omega) (by omega)
  have ec : ((8092 + m : Nat) : Int) = 8092 + (m : Int) := by omega
  rw [ec] at hmk
  clear ec
  go_enter Try.func5, Try.ntmps5
  go_wp2_with fail
  refine (new_int 2 _ (by omega) (by omega)).mono ?_
  rintro e w1 ⟨rfl, hN1, hb1, -⟩
  rw [net0_two] at hN1
  obtain ⟨l1, l2, l3, -⟩ := hN1.lts
  have hp : w.heap.size ≤ w.heap.size + 2 := by omega
  have hmm : w.heap.size ≤ w.heap.size + 1 := by omega
  have hsz1 := hb1.size
  generalize w.heap.size + 2 = p at *
  generalize w.heap.size + 1 = mb at *
  generalize hg0 : w.heap.size = g at hN1 l2
  clear hg0
  by_cases hbig : 8192 < 8092 + m
  · have hb' : decide ((8192 : Int) < 8092 + m) = true := by simp; omega
    go_wp2_with fail
    refine (send_long p ⟨g, mb, [0, 0], [], 0, 0, 0, 0, 0⟩ 1 0 _ (8092 + m) (8092 + m) _ (hN1.alloc _) rfl hbig).mono ?_
    rintro e w2 ⟨rfl, hN2, hb2⟩
    have hbel2 : Below w.heap.size w w2 := (hb1.alloc hsz1 _).trans (hb2.mono (by simp; omega))
    have hs2 := hbel2.size
    clear hmk
    go_wp2_with fail
    refine (pending_any p ⟨g, mb, [0, 0], [], 0, 0, 0, 0, 0⟩ w2 hN2 (by simp)).mono ?_
    rintro e w3 ⟨A, c, d, rfl, -, -, -, hb3⟩
    have hbel3 : Below w.heap.size w w3 := hbel2.trans (hb3.mono hs2)
    have hs3 := hbel3.size
    simp only [List.length_nil]
    go_wp2_with (go_at_call 10; refine (awake_any _).mono ?_; rintro e w4 ⟨rfl, hb4⟩)
    go_ret
    exact ⟨rfl, hbel3.trans (hb4.mono hs3)⟩
  · have hb' : decide ((8192 : Int) < 8092 + m) = false := by simp; omega
    go_wp2_with fail
    refine (send_ok p ⟨g, mb, [0, 0], [], 0, 0, 0, 0, 0⟩ (· = w1.heap.size) 1 0 _ (8092 + m) (8092 + m) (List.replicate (8092 + m) 0) _ (hN1.alloc _) rfl (Reads.zrow w1 (8092 + m)) (by omega) (by simp) (by simp) (by simp) (fun k hk => by simp at hk; omega) (by omega) (by simp) (by simp)).mono ?_
    rintro e w2 ⟨rfl, -, hF2⟩
    have hF2 : Fr (fun k => k = p ∨ k = mb) _ w2 := hF2
    have hbel2 : Below w.heap.size w w2 := (hb1.alloc hsz1 _).trans (hF2.below (by simp; omega) (fun k hk => by omega))
    have hs2 := hbel2.size
    clear hmk hF2
    go_wp2_with (go_at_call 10; refine (awake_any _).mono ?_; rintro e w4 ⟨rfl, hb4⟩)
    go_ret
    exact ⟨rfl, hbel2.trans (hb4.mono hs2)⟩
theorem maxBody_int (a : Int) (w : World) (h : (Lit.int .u8 a).wf = true) :
    Calls Try.prog 5 #[.int .u8 a] w fun e w' => e = .returned (.bool true) ∧ Below w.heap.size w w' := by
  have hb := bounds_u8 h
  obtain ⟨m, rfl⟩ := Int.eq_ofNat_of_zero_le hb.1
  exact maxBody_any m w (by omega)
end Go.Proofs.Ytgjkahndclijgaa

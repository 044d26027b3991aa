import Derived.Test.YtgjkahndclijgaaSim3
import Derived.Lib.SlBytesConst
namespace Go.Proofs.Ytgjkahndclijgaa
open Go.RowKit Go.Own

set_option maxRecDepth 10000 in
set_option maxHeartbeats 400000 in
theorem same_yes (f t : Int) (A1 A2 : Option Addr) (n1 n2 c1 c2 : Nat) (body : List Int) (B1 B2 : Nat → Prop) (w : World) (h1 : Reads w B1 1 A1 n1 (bytesV body)) (h2 : Reads w B2 1 A2 n2 (bytesV body)) (hB1 : ∀ k, w.heap.size ≤ k → ¬ B1 k) (hB2 : ∀ k, w.heap.size ≤ k → ¬ B2 k) :
    Calls Try.prog 20 #[.agg #[.int .i64 f, .int .i64 t, .slice A1 n1 c1], .agg #[.int .i64 f, .int .i64 t, .slice A2 n2 c2]] w fun e w' => e = .returned (.bool true) ∧ Below w.heap.size w w' := by
  have h10 := hB1 _ (Nat.le_refl _)
  have h11 := hB1 (w.heap.size + 1) (by omega)
  have h20 := hB2 _ (Nat.le_refl _)
  have h21 := hB2 (w.heap.size + 1) (by omega)
  have k1 := fun (W : World) (h : Reads W B1 1 A1 n1 (bytesV body)) => run_convert_reads (P := Try.prog) Try.underlying22 Try.underlying5 Try.underlying9 h c1
  have k2 := fun (W : World) (h : Reads W B2 1 A2 n2 (bytesV body)) => run_convert_reads (P := Try.prog) Try.underlying22 Try.underlying5 Try.underlying9 h c2
  clear hB1 hB2
  go_enter Try.func20, Try.ntmps20
  go_wp2
  go_ret
  exact ⟨rfl, ((Below.refl _ _).alloc (Nat.le_refl _) _).alloc (by simp) _⟩

theorem new_int (k : Int) (w : World) (h1 : 1 ≤ k) (h2 : k ≤ 512) :
    Calls Try.prog 11 #[.int .i64 k] w fun e w' => e = .returned (.tuple #[.pointer (some ⟨w.heap.size + 2, 0, none⟩), .int .i64 0]) ∧ Net w' (w.heap.size + 2) (net0 w k.toNat) ∧ Below w.heap.size w w' ∧ w'.heap.size = w.heap.size + 3 := by
  obtain ⟨n, rfl⟩ := Int.eq_ofNat_of_zero_le (show 0 ≤ k by omega)
  exact new_good n w (by omega) (by omega)

theorem net0_two (w : World) : net0 w (Int.toNat 2) = ⟨w.heap.size, w.heap.size + 1, [0, 0], [], 0, 0, 0, 0, 0⟩ := rfl
set_option maxRecDepth 10000 in
set_option maxHeartbeats 1000000 in
theorem awake_any (w : World) : Calls Try.prog 10 #[] w fun e w' => e = .returned (.bool true) ∧ Below w.heap.size w w' := by
  have kc := fun (w : World) (C : Array Value) (n c : Nat) => Lib.run_convert_bytes_const (P := Try.prog) w 22 5 C n c Try.underlying22 Try.underlying5
  go_enter Try.func10, Try.ntmps10
  go_wp2_with fail
  refine (new_int 2 _ (by omega) (by omega)).mono ?_
  rintro e w1 ⟨rfl, hN1, hb1, -⟩
  rw [net0_two] at hN1
  obtain ⟨l1, l2, l3, -⟩ := hN1.lts
  have hp : w.heap.size ≤ w.heap.size + 2 := by omega
  have hm : w.heap.size ≤ w.heap.size + 1 := by omega
  generalize w.heap.size + 2 = p at *
  generalize w.heap.size + 1 = m at *
  generalize hg0 : w.heap.size = g at hN1 l2
  clear hg0
  go_wp2_with fail
  refine (send_ok p ⟨g, m, [0, 0], [], 0, 0, 0, 0, 0⟩ (· = w1.heap.size) 0 1 _ 1 1 [120] _ (hN1.alloc _) rfl (Reads.new w1 [.int .u8 120] 5 (1, 2)) (by omega) (by simp) (by simp) (by simp) (fun k hk => by simp at hk; omega) (by omega) (by simp) (by simp)).mono ?_
  rintro e w2 ⟨rfl, ⟨bb, hbb, hN2⟩, hF2⟩
  have hN2 : Net w2 p ⟨g, m, [0, 0], [(1, ⟨0, 1, [120], bb⟩)], 1, 1, 0, 0, 0⟩ := hN2
  go_wp2_with fail
  refine (dup_ok p ⟨g, m, [0, 0], [(1, ⟨0, 1, [120], bb⟩)], 1, 1, 0, 0, 0⟩ 1 ⟨0, 1, [120], bb⟩ w2 hN2 rfl (by simp) (by simp) (by simp) (by simp) (by simp) (by simp)).mono ?_
  rintro e w3 ⟨rfl, ⟨cc, hcc, hN3⟩, hF3⟩
  have hN3 : Net w3 p ⟨g, m, [0, 0], [(1, ⟨0, 1, [120], bb⟩), (2, ⟨0, 1, [120], cc⟩)], 2, 1, 0, 0, 1⟩ := hN3
  have hx1 : Blk w3 bb 5 (bytesV [120]).toArray := hN3.body (1, ⟨0, 1, [120], bb⟩) (by simp)
  have hx2 : Blk w3 cc 5 (bytesV [120]).toArray := hN3.body (2, ⟨0, 1, [120], cc⟩) (by simp)
  have n1 : ¬ (bb = p ∨ bb = m) := fun h => h.elim (hx1.ne_ hN3.blk (by decide)) (fun e => hN3.map.ne_blk hx1 e.symm)
  have n2 : ¬ (cc = p ∨ cc = m) := fun h => h.elim (hx2.ne_ hN3.blk (by decide)) (fun e => hN3.map.ne_blk hx2 e.symm)
  go_wp2_with fail
  refine (deliver_ok p ⟨g, m, [0, 0], [(1, ⟨0, 1, [120], bb⟩), (2, ⟨0, 1, [120], cc⟩)], 2, 1, 0, 0, 1⟩ 2 ⟨0, 1, [120], cc⟩ w3 hN3 rfl rfl (by simp) (by simp)).mono ?_
  rintro e w4 ⟨rfl, hN4, hF4⟩
  have hN4 : Net w4 p ⟨g, m, [0, 0], [(1, ⟨0, 1, [120], bb⟩)], 2, 1, 1, 0, 1⟩ := hN4
  simp only [pv, List.length_cons, List.length_nil, Nat.zero_add]
  go_wp2_with fail
  refine (deliver_no p ⟨g, m, [0, 0], [(1, ⟨0, 1, [120], bb⟩)], 2, 1, 1, 0, 1⟩ 2 _ (hN4.alloc _) rfl).mono ?_
  rintro e w5 ⟨rfl, hN5, hb5⟩
  have hq7 : Blk w5 w4.heap.size 31 #[.int .i64 0, .int .i64 1, .slice (some ⟨cc, 0, none⟩) 1 1] := (Blk.new w4 31 _).below hb5 (by simp)
  have hq5 : Below w.heap.size w w5 := by
    have f2 := hF2.below (B := w.heap.size) (by simp; have := hb1.size; omega) (fun k hk => by omega)
    have f3 := hF3.below (B := w.heap.size) (by have := hb1.size; have := hF2.size; simp at this; omega) (fun k hk => by omega)
    have s3 := f3.size; have s2 := f2.size; have s1 := hb1.size
    simp at s2
    have f4 := hF4.below (B := w.heap.size) (by omega) (fun k hk => by omega)
    have s4 := f4.size
    exact ((((hb1.alloc (by omega) _).trans f2).trans f3).trans f4).trans (((Below.refl _ _).alloc (by omega) _).trans (hb5.mono (by simp; omega)))
  go_wp2_with fail
  refine (deliver_ok p ⟨g, m, [0, 0], [(1, ⟨0, 1, [120], bb⟩)], 2, 1, 1, 0, 1⟩ 1 ⟨0, 1, [120], bb⟩ _ (hN5.alloc _) rfl rfl (by simp) (by simp)).mono ?_
  rintro e w6 ⟨rfl, -, hF6⟩
  have hF6 : Fr (fun k => k = p ∨ k = m) _ w6 := hF6
  simp only [pv, List.length_cons, List.length_nil, Nat.zero_add]
  have q7 : Blk w6 w4.heap.size 31 #[.int .i64 0, .int .i64 1, .slice (some ⟨cc, 0, none⟩) 1 1] := (hq7.alloc _).fr hF6 (by have h1 : p < w4.heap.size := hN4.blk.lt; have h2 : m < w4.heap.size := hN4.map.lt; omega)
  have q1 : Blk w6 bb 5 (bytesV [120]).toArray := ((((hx1.fr hF4 n1).alloc _).below hb5 (by have := (hx1.fr hF4 n1).lt; simp; omega)).alloc _).fr hF6 n1
  have q2 : Blk w6 cc 5 (bytesV [120]).toArray := ((((hx2.fr hF4 n2).alloc _).below hb5 (by have := (hx2.fr hF4 n2).lt; simp; omega)).alloc _).fr hF6 n2
  have r1 : Reads w6 (· = bb) 1 (some ⟨bb, 0, none⟩) 1 (bytesV [120]) := Reads.of_blk (B := (· = bb)) (size := 1) (n := 1) q1 (by simp [bytesV]) rfl
  have r2 : Reads w6 (· = cc) 1 (some ⟨cc, 0, none⟩) 1 (bytesV [120]) := Reads.of_blk (B := (· = cc)) (size := 1) (n := 1) q2 (by simp [bytesV]) rfl
  have hq6 : Below w.heap.size w w6 := by
    have s5 := hq5.size
    exact (hq5.alloc s5 _).trans (hF6.below (by simp; omega) (fun k hk => by omega))
  obtain ⟨qlt, qc, -⟩ := q7.facts
  have Hs := Lib.hid fun o => same_yes 0 1 (some ⟨cc, 0, none⟩) (some ⟨bb, 0, none⟩) 1 1 1 1 [120] (· = cc) (· = bb) (w6.alloc o) (r2.alloc o) (r1.alloc o) (fun k hk e => by have := q2.lt; simp at hk; omega) (fun k hk e => by have := q1.lt; simp at hk; omega)
  clear hN1 hN2 hN3 hN4 hN5 hF2 hF3 hF4 hF6 hb1 hb5 hx1 hx2 n1 n2 hq7 r1 q1
  go_wp2_with fail
  (with_reducible refine (Hs.out _).mono ?_)
  rintro e w7 ⟨rfl, hb7⟩
  have kv := run_convert_reads (P := Try.prog) Try.underlying22 Try.underlying5 Try.underlying9 ((r2.alloc _).below hb7 (fun k hk => by have := q2.lt; simp; omega)) 1
  rw [show strOfNums [120] = ⟨#[120]⟩ from rfl] at kv
  obtain ⟨-, qc7, -⟩ := ((q7.alloc _).below hb7 (by simp; omega)).facts
  have hq7 : Below w.heap.size w w7 := by
    have s6 := hq6.size
    exact (hq6.alloc s6 _).trans (hb7.mono (by simp; omega))
  clear qc q7 q2 r2 Hs hb7 hq6 hq5
  go_wp2
  go_ret
  exact ⟨rfl, hq7⟩
end Go.Proofs.Ytgjkahndclijgaa

import Derived.Test.YtnpfbpfobbadaaaQuo12
import Derived.Test.YtnpfbpfobbadaaaWire5
import Derived.Deep.RegionHeld3
namespace Go.Proofs.Ytnpfbpfobbadaaa
set_option linter.unusedVariables false
open Go.RowKit Go.Own Go.Quo Go.Wire
set_option maxRecDepth 10000 in
set_option maxHeartbeats 1000000 in
theorem valid_long (m : Ms) (w : World) (h : 40 < m.o.length ∨ 40 < m.n.length) :
    Calls Try.prog 8 #[msV m] w (LawPost w) := by
  have HA := Lib.hid awake_any
  by_cases h1 : 40 < m.o.length
  · have h1' : (40 : Int) < m.o.length := by omega
    clear h
    go_enter Try.func8, Try.ntmps8
    go_wp2_with (go_at_call 10; ((with_reducible refine (HA.out _).mono ?_); rintro e w2 ⟨rfl, hb2⟩))
    go_ret
    exact ⟨rfl, ((Below.refl _ _).alloc (Nat.le_refl _) _).trans (hb2.mono (by simp))⟩
  have h1d : decide (40 < m.o.length) = false := by simpa using h1
  have h2 : 40 < m.n.length := by omega
  have h2' : (40 : Int) < m.n.length := by omega
  clear h
  go_enter Try.func8, Try.ntmps8
  go_wp2_with (go_at_call 10; ((with_reducible refine (HA.out _).mono ?_); rintro e w2 ⟨rfl, hb2⟩))
  go_ret
  exact ⟨rfl, ((Below.refl _ _).alloc (Nat.le_refl _) _).trans (hb2.mono (by simp))⟩
theorem allV_le (o n : List Int) : (allV o n).length ≤ 64 := by
  unfold allV
  split
  · exact memF_le o n
  · simp
set_option maxRecDepth 10000 in
set_option maxHeartbeats 4000000 in
theorem valid_short (B : Nat → Prop) (m : Ms) (w : World) (h : MR w B m) (h1 : m.o.length ≤ 40) (h2 : m.n.length ≤ 40) :
    Calls Try.prog 8 #[msV m] w (LawPost w) := by
  have HA := Lib.hid awake_any
  have h1d : decide (40 < m.o.length) = false := by simpa using h1
  have h2d : decide (40 < m.n.length) = false := by simpa using h2
  have hm1 := h.alloc (.cells (msC m) 24)
  have g1 : Blk (w.alloc (.cells (msC m) 24)) w.heap.size 24 (msC m) := Blk.new w 24 _
  have b1 : Below w.heap.size w (w.alloc (.cells (msC m) 24)) := (Below.refl _ _).alloc (Nat.le_refl _) _
  clear h
  go_enter Try.func8, Try.ntmps8
  go_wp2_with fail
  generalize w.alloc (.cells (msC m) 24) = W1 at *
  obtain ⟨q0, q1, q2⟩ := g1.facts
  have HB := Lib.hid fun W' (hb : Below W1.heap.size W1 W') => (show W'.cell? ⟨w.heap.size, 0, none⟩ = some (.slice m.A m.o.length m.c) ∧ W'.cell? ⟨w.heap.size, 1, none⟩ = some (.slice m.A' m.n.length m.c') from ⟨(g1.below hb g1.lt).cell 0, (g1.below hb g1.lt).cell 1⟩)
  have K1 := HB.out _ (Below.refl _ _)
  have HV := Lib.hid fun W' (hb : Below W1.heap.size W1 W') => (valid_any B m W' (hm1.below hb)).mono (R' := fun e w' => e = .returned (.bool (vB m.o m.n)) ∧ Below W'.heap.size W' w') (fun e w' hx => ⟨hx.1, hx.2 ▸ (Below.refl _ _).alloc (Nat.le_refl _) _⟩)
  have HR := Lib.hid fun W' (hb : Below W1.heap.size W1 W') => (right_any B m W' (hm1.below hb)).mono (R' := fun e w' => e = .returned (.bool (vB m.o m.n)) ∧ Below W'.heap.size W' w') (fun e w' hx => ⟨hx.1, hx.2 ▸ (Below.refl _ _).alloc (Nat.le_refl _) _⟩)
  have HM := Lib.hid fun W' (hb : Below W1.heap.size W1 W') => (show Calls Try.prog 28 #[msV m] W' (MemPost (allV m.o m.n) W') from members_any B m W' (hm1.below hb))
  have HAl := Lib.hid fun W' (hb : Below W1.heap.size W1 W') => all_any B m W' (hm1.below hb)
  have HEn := Lib.hid fun W' (hb : Below W1.heap.size W1 W') => encode_any B m W' (hm1.below hb)
  have HBy := Lib.hid fun W' (hb : Below W1.heap.size W1 W') => bytes_any B m W' (hm1.below hb)
  have hzl := allV_le m.o m.n
  generalize allV m.o m.n = zs at *
  generalize encM m.o m.n = es at *
  generalize vB m.o m.n = vb at *
  have HS := Lib.hid fun (W' : World) (A1 A2 : Option Addr) (c1 c2 : Nat) (B1 B2 : Nat → Prop) (r1 : RI W' B1 A1 zs) (r2 : RI W' B2 A2 zs) => (same_eq B1 B2 A1 A2 zs c1 c2 W' r1 r2 (by omega)).mono (R' := fun e w' => e = .returned (.bool true) ∧ Below W'.heap.size W' w') (fun e w' hx => ⟨hx.1, by obtain ⟨k, e⟩ := hx.2; subst e; exact below_drewN (Below.refl _ _) k⟩)
  have HC := Lib.hid fun (W' : World) (A1 : Option Addr) (B1 : Nat → Prop) (c1 : Nat) (r1 : Reads W' B1 1 A1 es.length (bys es)) => run_convert_reads (P := Try.prog) Try.underlying45 Try.underlying5 Try.underlying9 r1 c1
  clear hm1 g1
  go_region_held (fun w' => w'.cell? ⟨w.heap.size, 0, none⟩ = some (.slice m.A m.o.length m.c) ∧ w'.cell? ⟨w.heap.size, 1, none⟩ = some (.slice m.A' m.n.length m.c')) (first | assumption | exact K1) (first
    | (((with_reducible refine (HV.out _ ((Below.refl _ _).drew)).mono ?_); rintro e w2 ⟨rfl, hb2⟩; have B2 := ((Below.refl W1.heap.size W1).drew).trans hb2; clear hb2; have KB2 := HB.out _ B2))
    | (((with_reducible refine (HR.out _ B2).mono ?_); rintro e w3 ⟨rfl, hb3⟩; have B3 := B2.trans (hb3.mono B2.size); clear hb3; have KB3 := HB.out _ B3))
    | (((with_reducible refine (HM.out _ B3).mono ?_); rintro e w4 ⟨A4, c4, rfl, hr4, hb4, hc4⟩; have B4 := B3.trans (hb4.mono B3.size); clear hb4; have KB4 := HB.out _ B4))
    | (((with_reducible refine (HAl.out _ B4).mono ?_); rintro e w5 ⟨A5, c5, rfl, hr5, hb5⟩; have B5 := B4.trans (hb5.mono B4.size); have hr45 := (hr4.old (by omega)).below hb5 (fun _ hk => hk.2); clear hb5; have KB5 := HB.out _ B5; have HS5 := Lib.hid (HS.out _ _ _ c4 c5 _ _ hr45 hr5)))
    | (((with_reducible refine HS5.out.mono ?_); rintro e wS ⟨rfl, hbS⟩; have BS := B5.trans (hbS.mono B5.size); clear hbS; have KBS := HB.out _ BS))
    | (((with_reducible refine (HEn.out _ BS).mono ?_); rintro e w6 ⟨A6, c6, rfl, hr6, hb6⟩; have B6 := BS.trans (hb6.mono BS.size); clear hb6; have KB6 := HB.out _ B6; have cv6 := HC.out _ _ _ c6 hr6))
    | (((with_reducible refine (HBy.out _ B6).mono ?_); rintro e w7 ⟨A7, c7, rfl, hr7, hb7⟩; have B7 := B6.trans (hb7.mono B6.size); have cv67 := HC.out _ _ _ c6 ((hr6.old (by omega)).below hb7 (fun _ hk => hk.2)); clear hb7; have KB7 := HB.out _ B7; have cv7 := HC.out _ _ _ c7 hr7))
    | (((with_reducible refine (HA.out _).mono ?_); rintro e w8 ⟨rfl, hb8⟩; have B8 := B7.trans (hb8.mono B7.size); have K8 := HB.out _ B8)))
  all_goals
    go_wp2
    go_ret
    exact ⟨rfl, b1.trans (B8.mono b1.size)⟩
theorem valid_law (m : Ms) (w : World) (h : MO w m) : Calls Try.prog 8 #[msV m] w (LawPost w) := by
  by_cases hl : 40 < m.o.length ∨ 40 < m.n.length
  · exact valid_long m w hl
  · exact valid_short _ m w ⟨h.o, h.n, by omega, by omega⟩ (by omega) (by omega)
end Go.Proofs.Ytnpfbpfobbadaaa

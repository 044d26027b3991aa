import Derived.Test.YtnpfbpfobbadaaaQuo3
import Derived.Test.YtnpfbpfobbadaaaWire2
import Derived.Test.YtnpfbpfobbadaaaQMem
namespace Go.Proofs.Ytnpfbpfobbadaaa
set_option linter.unusedVariables false
open Go.RowKit Go.Own Go.Quo Go.Wire
def encM (o n : List Int) : List Int := if vB o n = true then encIs o ++ encIs n else []
def BysPost (out : List Int) (w : World) (e : Ending) (w' : World) : Prop := ∃ A c, e = .returned (.slice A out.length c) ∧ Reads w' (w.heap.size ≤ ·) 1 A out.length (bys out) ∧ Below w.heap.size w w'
theorem encIs_len {l : List Int} (hm : l.length ≤ 1000) (h : ∀ x ∈ l, 0 ≤ x ∧ x < 64) : (encIs l).length ≤ 20000 := by
  have h1 : (encI (l.length : Int)).length ≤ 10 := encI_len (by omega) (by omega)
  have h2 := flat_len l (fun x hx => by have := h x hx; omega)
  unfold encIs
  rw [List.length_append]; omega
set_option maxRecDepth 10000 in
set_option maxHeartbeats 1000000 in
theorem encode_yes (B : Nat → Prop) (m : Ms) (w : World) (h : MR w B m) (hv : vB m.o m.n = true) :
    Calls Try.prog 30 #[msV m] w (BysPost (encM m.o m.n) w) := by
  have HEm := Lib.hid (show encM m.o m.n = encIs m.o ++ encIs m.n by unfold encM; rw [if_pos hv])
  obtain ⟨hl1, hl2, hl3⟩ := v_lens hv
  have HR := Lib.hid (v_range hv)
  have lo := encIs_len (l := m.o) (by omega) (fun x hx => HR.out x (.inl hx))
  have ln := encIs_len (l := m.n) (by omega) (fun x hx => HR.out x (.inr hx))
  have h1 := h.alloc (.cells (msC m) 24)
  have HO := Lib.hid (valid_b B m _ h1 true hv)
  have g1 : Blk (w.alloc (.cells (msC m) 24)) w.heap.size 24 (msC m) := Blk.new w 24 _
  have b1 : Below w.heap.size w (w.alloc (.cells (msC m) 24)) := (Below.refl _ _).alloc (Nat.le_refl _) _
  clear h hv
  go_enter Try.func30, Try.ntmps30
  go_wp2_with (go_at_call 29; ((with_reducible refine HO.out.mono ?_); rintro e w1 ⟨rfl, rfl⟩))
  have hm3 : MR (((w.alloc (.cells (msC m) 24)).alloc (.cells (msC m) 24)).alloc (.cells #[.slice none 0 0] 59)) (· < w.heap.size + 1 + 1) m := by
    have h2 := h1.alloc (.cells (msC m) 24)
    exact ⟨((h2.o.old (by omega)).alloc _).more (fun k hk => by simpa using hk.2), ((h2.n.old (by omega)).alloc _).more (fun k hk => by simpa using hk.2), h2.ol, h2.nl⟩
  have g3 := (g1.alloc (.cells (msC m) 24)).alloc (.cells #[.slice none 0 0] 59)
  have b3 := (b1.alloc b1.size (.cells (msC m) 24)).alloc (by simp; omega) (.cells #[.slice none 0 0] 59)
  have hw3 : WrP (((w.alloc (.cells (msC m) 24)).alloc (.cells (msC m) 24)).alloc (.cells #[.slice none 0 0] 59)) (w.heap.size + 1 + 1) [] := by simpa using WrP.new ((w.alloc (.cells (msC m) 24)).alloc (.cells (msC m) 24))
  clear h1 HO g1 b1
  generalize ((w.alloc (.cells (msC m) 24)).alloc (.cells (msC m) 24)).alloc (.cells #[.slice none 0 0] 59) = W3 at *
  refine (wints_any _ m.A m.c m.o [] W3 hw3 hm3.o (fun x hx => by have := HR.out x (.inl hx); omega) (by omega) (by simp)).mono ?_
  rintro e w4 ⟨rfl, hw4, hb4⟩
  have hn4 : RI w4 (· < w.heap.size + 1 + 1) m.A' m.n := hm3.n.below hb4 (fun _ h => h)
  have g4 := g3.below hb4 (by omega)
  have b4 := b3.trans (hb4.mono (by omega))
  obtain ⟨q0, q1, q2⟩ := g4.facts
  go_wp2_with fail
  refine (wints_any _ m.A' m.c' m.n _ w4 hw4 hn4 (fun x hx => by have := HR.out x (.inr hx); omega) (by omega) (by simp; omega)).mono ?_
  rintro e w5 ⟨rfl, hw5, hb5⟩
  have b5 := b4.trans (hb5.mono (by omega))
  rw [List.nil_append, ← HEm.out] at hw5
  have hlm : (encM m.o m.n).length ≤ 1000000000 := by rw [HEm.out, List.length_append]; omega
  go_wp2_with fail
  refine (encoded_any _ _ w5 hw5 hlm).mono ?_
  rintro e w6 ⟨A6, c6, rfl, hr6, hb6⟩
  go_wp2
  go_ret
  exact ⟨A6, c6, rfl, hr6.more (fun k hk => Nat.le_trans b5.size hk), b5.trans (hb6.mono b5.size)⟩
set_option maxRecDepth 10000 in
set_option maxHeartbeats 1000000 in
theorem encode_no (B : Nat → Prop) (m : Ms) (w : World) (h : MR w B m) (hv : vB m.o m.n = false) :
    Calls Try.prog 30 #[msV m] w (BysPost (encM m.o m.n) w) := by
  have HEm := Lib.hid (show encM m.o m.n = [] by unfold encM; rw [if_neg (by simp [hv])])
  have HO := Lib.hid (valid_b B m _ (h.alloc (.cells (msC m) 24)) false hv)
  clear h hv
  go_enter Try.func30, Try.ntmps30
  go_wp2_with (go_at_call 29; ((with_reducible refine HO.out.mono ?_); rintro e w1 ⟨rfl, rfl⟩))
  go_ret
  rw [HEm.out]
  exact ⟨none, 0, rfl, Reads.none_, ((Below.refl _ _).alloc (Nat.le_refl _) _).alloc (by simp) _⟩
theorem encode_any (B : Nat → Prop) (m : Ms) (w : World) (h : MR w B m) : Calls Try.prog 30 #[msV m] w (BysPost (encM m.o m.n) w) := by
  cases hv : vB m.o m.n with
  | false => exact encode_no B m w h hv
  | true => exact encode_yes B m w h hv
end Go.Proofs.Ytnpfbpfobbadaaa

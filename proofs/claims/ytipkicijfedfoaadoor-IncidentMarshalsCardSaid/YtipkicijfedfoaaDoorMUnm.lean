import Derived.Test.YtipkicijfedfoaaDoorMWr4
import Derived.Test.YtipkicijfedfoaaDoorMGI
import Derived.Test.YtipkicijfedfoaaDoorMGG
namespace Go.Inc
open Go.Wire
theorem sI_len (s : Sd) : (sI s).2.2.length ≤ s.2.length := by
  unfold sI
  split
  · exact rdI_len s.2
  · exact Nat.le_refl _
theorem sS_len (s : Sd) : (sS s).2.2.length ≤ s.2.length ∧ (sS s).1.length ≤ s.2.length := by
  have h := rdL_len s.2
  unfold sS
  split
  · show ((rdL s.2).2.2.drop (rdL s.2).2.1.toNat).length ≤ _ ∧ ((rdL s.2).2.2.take (rdL s.2).2.1.toNat).length ≤ _
    rw [List.length_drop, List.length_take]
    omega
  · simp
theorem sL_len (s : Sd) : (sL s).2.2.length ≤ s.2.length ∧ (sL s).1.length ≤ s.2.length := by
  unfold sL
  split
  · exact ⟨Proofs.YtipkicijfedfoaaDoor.Wr.rdIs_len s.2, Proofs.YtipkicijfedfoaaDoor.Wr.rdIs_lenL s.2⟩
  · simp
end Go.Inc
namespace Go.Proofs.YtipkicijfedfoaaDoor
set_option linter.unusedVariables false
set_option linter.unusedSimpArgs false
open Go.RowKit Go.Own Go.Quo Go.Inc Go.Wire
theorem rdp_lt {w : World} {p : Nat} {B : Nat → Prop} {l : List Int} {e : Int} (h : Wr.RdP w p B l e) : p < w.heap.size := by
  obtain ⟨_, _, h, _⟩ := h; exact h.lt
theorem strOf_size (l : List Int) : (strOfNums l).size = l.length := by
  unfold strOfNums
  show (List.map _ l).toArray.size = _
  simp
set_option maxRecDepth 10000 in
set_option maxHeartbeats 8000000 in
theorem unm21 (B0 : Nat → Prop) (A : Option Addr) (c : Nat) (b : List Int) (w : World) (h : Reads w B0 1 A b.length (Wr.bys b)) (hB : Bytes b) (hl : b.length ≤ 100000) :
    Calls Tryd.prog 21 #[.slice A b.length c] w (RdPost (decX b).1 (decX b).2 w) := by
  have HD := Lib.hid (show decS b = (⟨(sI (0, b)).1, (sI (sI (0, b)).2).1, strOfNums (sS (sI (sI (0, b)).2).2).1, (sL (sS (sI (sI (0, b)).2).2).2).1, (sI (sL (sS (sI (sI (0, b)).2).2).2).2).1, (sI (sI (sL (sS (sI (sI (0, b)).2).2).2).2).2).1, (sL (sI (sI (sL (sS (sI (sI (0, b)).2).2).2).2).2).2).1, (sL (sL (sI (sI (sL (sS (sI (sI (0, b)).2).2).2).2).2).2).2).1, (sI (sL (sL (sI (sI (sL (sS (sI (sI (0, b)).2).2).2).2).2).2).2).2).1, (sB (sI (sL (sL (sI (sI (sL (sS (sI (sI (0, b)).2).2).2).2).2).2).2).2).2).1⟩, (sB (sI (sL (sL (sI (sI (sL (sS (sI (sI (0, b)).2).2).2).2).2).2).2).2).2).2) from rfl)
  have HN := Lib.hid (Wr.newReader_any B0 A c b (w.alloc (.cells #[.int .i64 0, .int .i64 0, .string ⟨#[]⟩, .slice none 0 0, .int .i64 0, .int .i64 0, .slice none 0 0, .slice none 0 0, .int .i64 0, .bool false] 25)) (h.alloc _) (by omega))
  have HZ0 := Lib.hid (Blk.new w 25 #[.int .i64 0, .int .i64 0, .string ⟨#[]⟩, .slice none 0 0, .int .i64 0, .int .i64 0, .slice none 0 0, .slice none 0 0, .int .i64 0, .bool false])
  have HB0 := Lib.hid ((Below.refl w.heap.size w).alloc (Nat.le_refl _) (.cells #[.int .i64 0, .int .i64 0, .string ⟨#[]⟩, .slice none 0 0, .int .i64 0, .int .i64 0, .slice none 0 0, .slice none 0 0, .int .i64 0, .bool false] 25))
  have hz0 : (w.alloc (.cells #[.int .i64 0, .int .i64 0, .string ⟨#[]⟩, .slice none 0 0, .int .i64 0, .int .i64 0, .slice none 0 0, .slice none 0 0, .int .i64 0, .bool false] 25)).heap.size = w.heap.size + 1 := by simp
  have H1 := Lib.hid fun (p : Nat) (B : Nat → Prop) (W : World) (h : Wr.RdP W p B b 0) (hp : ¬ B p) => Wr.rd_int p B (0, b) W h hp hB
  have b1 := sI_by (s := (0, b)) hB
  have l1 := sI_len (0, b)
  generalize sI (0, b) = r1 at *
  have H2 := Lib.hid fun (p : Nat) (B : Nat → Prop) (W : World) (h : Wr.RdP W p B r1.2.2 r1.2.1) (hp : ¬ B p) => Wr.rd_int p B r1.2 W h hp b1
  have b2 := sI_by b1
  have l2 := sI_len r1.2
  generalize sI r1.2 = r2 at *
  have H3 := Lib.hid fun (p : Nat) (B : Nat → Prop) (W : World) (h : Wr.RdP W p B r2.2.2 r2.2.1) (hp : ¬ B p) (hBw : ∀ k, B k → k < W.heap.size) => Wr.rd_str p B r2.2 W h hp hBw b2 (by simp only at *; omega)
  have b3 := sS_by b2
  have l3 := sS_len r2.2
  generalize sS r2.2 = r3 at *
  have H4 := Lib.hid fun (p : Nat) (B : Nat → Prop) (W : World) (h : Wr.RdP W p B r3.2.2 r3.2.1) (hp : ¬ B p) (hBw : ∀ k, B k → k < W.heap.size) => Wr.rd_ints p B r3.2 W h hp hBw b3 (by simp only at *; omega)
  have b4 := sL_by b3
  have l4 := sL_len r3.2
  generalize sL r3.2 = r4 at *
  have H5 := Lib.hid fun (p : Nat) (B : Nat → Prop) (W : World) (h : Wr.RdP W p B r4.2.2 r4.2.1) (hp : ¬ B p) => Wr.rd_int p B r4.2 W h hp b4
  have b5 := sI_by b4
  have l5 := sI_len r4.2
  generalize sI r4.2 = r5 at *
  have H6 := Lib.hid fun (p : Nat) (B : Nat → Prop) (W : World) (h : Wr.RdP W p B r5.2.2 r5.2.1) (hp : ¬ B p) => Wr.rd_int p B r5.2 W h hp b5
  have b6 := sI_by b5
  have l6 := sI_len r5.2
  generalize sI r5.2 = r6 at *
  have H7 := Lib.hid fun (p : Nat) (B : Nat → Prop) (W : World) (h : Wr.RdP W p B r6.2.2 r6.2.1) (hp : ¬ B p) (hBw : ∀ k, B k → k < W.heap.size) => Wr.rd_ints p B r6.2 W h hp hBw b6 (by simp only at *; omega)
  have b7 := sL_by b6
  have l7 := sL_len r6.2
  generalize sL r6.2 = r7 at *
  have H8 := Lib.hid fun (p : Nat) (B : Nat → Prop) (W : World) (h : Wr.RdP W p B r7.2.2 r7.2.1) (hp : ¬ B p) (hBw : ∀ k, B k → k < W.heap.size) => Wr.rd_ints p B r7.2 W h hp hBw b7 (by simp only at *; omega)
  have b8 := sL_by b7
  have l8 := sL_len r7.2
  generalize sL r7.2 = r8 at *
  have H9 := Lib.hid fun (p : Nat) (B : Nat → Prop) (W : World) (h : Wr.RdP W p B r8.2.2 r8.2.1) (hp : ¬ B p) => Wr.rd_int p B r8.2 W h hp b8
  have b9 := sI_by b8
  have l9 := sI_len r8.2
  generalize sI r8.2 = r9 at *
  have H10 := Lib.hid fun (p : Nat) (B : Nat → Prop) (W : World) (h : Wr.RdP W p B r9.2.2 r9.2.1) (hp : ¬ B p) => Wr.rd_bool p B r9.2 W h hp b9
  generalize sB r9.2 = r10 at *
  have H11 := Lib.hid fun (p : Nat) (B : Nat → Prop) (W : World) (h : Wr.RdP W p B r10.2.2 r10.2.1) => Wr.rd_fin p B r10.2 W h
  have HL := Lib.hid (show r3.1.length ≤ 100000 ∧ r4.1.length ≤ 100000 ∧ r7.1.length ≤ 100000 ∧ r8.1.length ≤ 100000 from by simp only at *; omega)
  have HDX := Lib.hid (show decX b = if endS r10.2 = 0 ∧ icB ⟨r1.1, r2.1, strOfNums r3.1, r4.1, r5.1, r6.1, r7.1, r8.1, r9.1, r10.1⟩ = true then (⟨r1.1, r2.1, strOfNums r3.1, r4.1, r5.1, r6.1, r7.1, r8.1, r9.1, r10.1⟩, 0) else (zIc, 2) by unfold decX; rw [HD.out])
  generalize endS r10.2 = er at *
  generalize decX b = DX at *
  clear HD h hB b1 b2 b3 b4 b5 b6 b7 b8 b9 l1 l2 l3 l4 l5 l6 l7 l8 l9
  go_enter Tryd.func21, Tryd.ntmps21
  go_upto_region 3 with (first
    | (go_at_call 46; ((with_reducible refine HN.out.mono ?_); rintro e w1 ⟨rfl, hq0, hb0⟩; rw [hz0] at hq0; have hs0 := hb0.size; rw [hz0] at hs0; have HZ1 := Lib.hid (HZ0.out.below hb0 HZ0.out.lt); have HB1 := Lib.hid (HB0.out.trans (hb0.mono HB0.out.size)); have hpl := rdp_lt hq0; clear hb0))
    | (go_at_call 47; ((with_reducible refine (H1.out _ _ _ hq0 (by simp)).mono ?_); rintro e w2 ⟨rfl, hq1, hf1⟩; have hs1 := hf1.size))
    | (go_at_call 47; ((with_reducible refine (H2.out _ _ _ hq1 (by simp)).mono ?_); rintro e w3 ⟨rfl, hq2, hf2⟩; have hs2 := hf2.size))
    | (go_at_call 48; ((with_reducible refine (H3.out _ _ _ hq2 (by simp) (fun k hk => by have hk2 : k = w.heap.size + 1 := hk; omega)).mono ?_); rintro e w4 ⟨rfl, hq3, hf3⟩; have hs3 := hf3.size))
    | (go_at_call 49; ((with_reducible refine (H4.out _ _ _ hq3 (by simp) (fun k hk => by have hk2 : k = w.heap.size + 1 := hk; omega)).mono ?_); rintro e w5 ⟨An, cn, rfl, hn4, hq4, hf4⟩; have hs4 := hf4.size))
    | (go_at_call 47; ((with_reducible refine (H5.out _ _ _ hq4 (by simp)).mono ?_); rintro e w6 ⟨rfl, hq5, hf5⟩; have hs5 := hf5.size))
    | (go_at_call 47; ((with_reducible refine (H6.out _ _ _ hq5 (by simp)).mono ?_); rintro e w7 ⟨rfl, hq6, hf6⟩; have hs6 := hf6.size)))
  have hfa : Fr (fun k => k = w.heap.size + 1 + 1) w1 w7 := hf1.trans (hf2.trans (hf3.trans (hf4.trans (hf5.trans hf6))))
  have hn7 : RI w7 (fun k => w.heap.size + 1 + 1 < k ∧ k < w7.heap.size) An r4.1 := by
    have h1 := hn4.old (by omega)
    have h2 := h1.more (B' := fun k => w.heap.size + 1 + 1 < k ∧ k < w5.heap.size) (fun k hk => ⟨by have := hk.1; omega, hk.2⟩)
    exact ((h2.fr (hf5.trans hf6) (fun k hk e => by have e2 : k = w.heap.size + 1 + 1 := e; omega))).more (fun k hk => ⟨hk.1, by have := hk.2; omega⟩)
  have HZ8 := Lib.hid ((HZ1.out.fr hfa (by omega)).alloc (.cells #[.int .i64 r1.1, .int .i64 r2.1, .string (strOfNums r3.1), .slice An r4.1.length cn, .int .i64 r5.1, .int .i64 r6.1, .slice none 0 0, .slice none 0 0, .int .i64 0, .bool false] 25))
  have HB8 := Lib.hid ((HB1.out.trans (hfa.below (B := w.heap.size) HB1.out.size (fun k hk e => by omega))).alloc (by omega) (.cells #[.int .i64 r1.1, .int .i64 r2.1, .string (strOfNums r3.1), .slice An r4.1.length cn, .int .i64 r5.1, .int .i64 r6.1, .slice none 0 0, .slice none 0 0, .int .i64 0, .bool false] 25))
  have HN8 := Lib.hid (hn7.alloc (.cells #[.int .i64 r1.1, .int .i64 r2.1, .string (strOfNums r3.1), .slice An r4.1.length cn, .int .i64 r5.1, .int .i64 r6.1, .slice none 0 0, .slice none 0 0, .int .i64 0, .bool false] 25))
  have HQ8 := Lib.hid (hq6.alloc (.cells #[.int .i64 r1.1, .int .i64 r2.1, .string (strOfNums r3.1), .slice An r4.1.length cn, .int .i64 r5.1, .int .i64 r6.1, .slice none 0 0, .slice none 0 0, .int .i64 0, .bool false] 25))
  have HX8 := Lib.hid (Blk.new w7 25 #[.int .i64 r1.1, .int .i64 r2.1, .string (strOfNums r3.1), .slice An r4.1.length cn, .int .i64 r5.1, .int .i64 r6.1, .slice none 0 0, .slice none 0 0, .int .i64 0, .bool false])
  have hz8 : (w7.alloc (.cells #[.int .i64 r1.1, .int .i64 r2.1, .string (strOfNums r3.1), .slice An r4.1.length cn, .int .i64 r5.1, .int .i64 r6.1, .slice none 0 0, .slice none 0 0, .int .i64 0, .bool false] 25)).heap.size = w7.heap.size + 1 := by simp
  have hq7l : w.heap.size + 1 + 1 < w7.heap.size := by have := rdp_lt hq6; omega
  clear HZ0 HB0 HZ1 HB1 HN H1 H2 H3 H4 H5 H6 hq0 hq1 hq2 hq3 hq4 hq5 hq6 hf1 hf2 hf3 hf4 hf5 hf6 hfa hn4 hn7 hs0 hs1 hs2 hs3 hs4 hs5 hs6 hpl
  generalize w7.alloc _ = W8 at *
  generalize w7.heap.size = q at *
  have hBw8 : ∀ k, (fun k => k = w.heap.size + 1) k → k < W8.heap.size := fun k hk => by have h2 : k = w.heap.size + 1 := hk; omega
  go_upto_block 0 with (go_at_call 49; ((with_reducible refine (H7.out _ _ _ HQ8.out (by simp) hBw8).mono ?_); rintro e w9 ⟨A7, c7, rfl, hn9, hq9, hf9⟩; have HL9 := Lib.hid hn9; have HQ9 := Lib.hid hq9; have HF9 := Lib.hid hf9; clear hn9 hq9 hf9))
  have hs9 := HF9.out.size
  have HX9 := Lib.hid (HX8.out.fr HF9.out (by show ¬ (q = w.heap.size + 1 + 1); omega))
  have HZ9 := Lib.hid (HZ8.out.fr HF9.out (by show ¬ (w.heap.size = w.heap.size + 1 + 1); omega))
  have HN9 := Lib.hid (HN8.out.fr HF9.out (fun k hk e => by have e2 : k = w.heap.size + 1 + 1 := e; omega))
  have HB9 := Lib.hid (HB8.out.trans (HF9.out.below (B := w.heap.size) HB8.out.size (fun k hk e => by have e2 : k = w.heap.size + 1 + 1 := e; omega)))
  have hp7 := HL9.out.plain (by omega)
  have hl7 := HL.out.2.2.1
  have HI := Lib.hid (show ∃ (k : Nat) (Ac : Option Addr) (cc : Nat), k ≤ r7.1.length ∧ Value.int .i64 0 = .int .i64 (k : Int) ∧ Blk w9 q 25 #[.int .i64 r1.1, .int .i64 r2.1, .string (strOfNums r3.1), .slice An r4.1.length cn, .int .i64 r5.1, .int .i64 r6.1, .slice Ac k cc, .slice none 0 0, .int .i64 0, .bool false] ∧ w9.ownsRow w9.heap.size 2 1 (.slice Ac k cc) k ((r7.1.take k).map (Value.int .i64)) ∧ Fr (fun j => j = q) w9 w9 from ⟨0, none, 0, Nat.zero_le _, rfl, HX9.out, World.ownsRow_nil _ _ _ _, Fr.refl _ _⟩)
  clear HX8 HZ8 HN8 HQ8 HF9 HB8 hBw8 H7 HX9
  go_wp2_with fail
  go_loopw [26] (fun vi wr => ∃ (k : Nat) (Ac : Option Addr) (cc : Nat), k ≤ r7.1.length ∧ vi = .int .i64 (k : Int) ∧ Blk wr q 25 #[.int .i64 r1.1, .int .i64 r2.1, .string (strOfNums r3.1), .slice An r4.1.length cn, .int .i64 r5.1, .int .i64 r6.1, .slice Ac k cc, .slice none 0 0, .int .i64 0, .bool false] ∧ wr.ownsRow w9.heap.size 2 1 (.slice Ac k cc) k ((r7.1.take k).map (Value.int .i64)) ∧ Fr (fun j => j = q) w9 wr) (fun vi _ => r7.1.length - (intOf vi).toNat)
  case atStart => exact HI.out
  case round =>
    obtain ⟨k, Ac, cc, hk, rfl, hX, hO, hF⟩ := hrel
    have HX := Lib.hid hX
    have HO := Lib.hid hO
    have HF := Lib.hid hF
    clear hX hO hF HI
    have hsr := HF.out.size
    by_cases hlt : k < r7.1.length
    · have hlt' : (k : Int) < r7.1.length := by omega
      have hix := fun W => ix22 hp7 c7 k hlt W
      have hc := ri_cell ((HL9.out.more (B' := fun k => q < k) (fun k hk => by have h2 : W8.heap.size ≤ k := hk; omega)).fr HF.out (fun k hk e => by have e2 : k = q := e; omega)) hlt
      have hTk := Lib.hid (show r7.1.take (k + 1) = r7.1.take k ++ [gd r7.1 k] by rw [List.take_add_one, List.getElem?_eq_getElem hlt, gd_get hlt]; rfl)
      generalize gd r7.1 k = v at *
      have HXa := Lib.hid (HX.out.alloc (.cells #[.int .i64 v] 2))
      obtain ⟨x0, x1, x2⟩ := HX.out.facts
      have hqo : ∀ j, (Value.slice Ac k cc).ownBlock = some j → w9.heap.size ≤ j := fun j hj => (HO.out.lt j hj).1
      go_wp2_with (at_builtin; refine wpList_append_any _ rfl _ _ _ rfl w9.heap.size 2 _ 1 8 Tryd.underlying23 info2 rfl (by omega) (.slice Ac k cc) k ((r7.1.take k).map (Value.int .i64)) rfl (HO.out.alloc _) _ (some ⟨wr.heap.size, 0, none⟩) 1 1 [.int .i64 v] rfl (Reads.newS wr [.int .i64 v] 2 (0, 0) 1 1 rfl _ rfl) (by simp [Value.oneCell']) (by simp only [maxLen]; omega) (by omega) (by simp; omega) ?_; intro Ac2 cc2 w2 hown hgr hat; have HX2 := Lib.hid (HXa.out.grown hgr (by intro e; have := hqo _ e.symm; omega)); have HO2 := Lib.hid hown; have HG2 := Lib.hid hgr; clear hown hgr hat; obtain ⟨z0, z1, z2⟩ := HX2.out.facts)
      have E0 := (Fr.refl (fun j => j = q) w2).setCell (p := ⟨q, 6, none⟩) (.inl rfl) (.slice Ac2 (k + 1) cc2)
      refine ⟨⟨k + 1, Ac2, cc2, by omega, by go_num, ?_, ?_, ?_⟩, by simp [intOf]; omega⟩
      · have := HX2.out.set_ 6 (.slice Ac2 (k + 1) cc2)
        simpa using this
      · rw [hTk.out, List.map_append]
        exact own_fr HO2.out E0 (fun j hj e => by have := (HO2.out.lt j hj).1; have e2 : j = q := e; omega)
      · exact ((HF.out.alloc _).grown HG2.out (fun j hj => .inr (hqo j hj))).trans E0
    · have hlt' : ¬ (k : Int) < r7.1.length := by omega
      have hk3 : k = r7.1.length := by omega
      subst hk3
      have hO := HO.out
      rw [List.take_of_length_le (Nat.le_refl _)] at hO
      have HC1 := Lib.hid (((ri_own hO).old (by omega)).more (B' := fun j => q < j ∧ j < wr.heap.size) (fun j hj => ⟨by have := hj.1; omega, hj.2⟩))
      have HQ1 := Lib.hid (HQ9.out.fr HF.out (by show ¬ (w.heap.size + 1 + 1 = q); omega) (fun j hj e => by have e1 : j = w.heap.size + 1 := hj; have e2 : j = q := e; omega))
      have HZ1 := Lib.hid (HZ9.out.fr HF.out (by show ¬ (w.heap.size = q); omega))
      have HN1 := Lib.hid (((HN9.out.fr HF.out (fun j hj e => by have e2 : j = q := e; have := hj.2; omega))).more (B' := fun j => w.heap.size + 1 + 1 < j ∧ j ≠ q ∧ j < wr.heap.size) (fun j hj => ⟨hj.1, by have := hj.2; omega, by have := hj.2; omega⟩))
      have HB1 := Lib.hid (HB9.out.trans (HF.out.below (B := w.heap.size) HB9.out.size (fun j hj e => by have e2 : j = q := e; omega)))
      have hBr : ∀ k, (fun k => k = w.heap.size + 1) k → k < wr.heap.size := fun k hk => by have h2 : k = w.heap.size + 1 := hk; omega
      have HX1 := Lib.hid HX.out
      clear hO HO HF HQ9 HZ9 HN9 HB9 HL9 HX hlt hlt'
      -- the units
      go_upto_region 8 with (fail)
      have H8r := Lib.hid (H8.out _ _ _ HQ1.out (by show ¬ (w.heap.size + 1 + 1 = w.heap.size + 1); omega) hBr)
      clear H8 hBr
      go_upto_region 9 with (go_at_call 49; ((with_reducible refine H8r.out.mono ?_); rintro e w10 ⟨Au, cu, rfl, hu10, hq10, hf10⟩; have HU2 := Lib.hid hu10; have HQ2 := Lib.hid hq10; have HF2 := Lib.hid hf10; have HX2 := Lib.hid (HX1.out.fr hf10 (by show ¬ (q = w.heap.size + 1 + 1); omega)); clear hu10 hq10 hf10; obtain ⟨x0, x1, x2⟩ := HX2.out.facts))
      have hs2 := HF2.out.size
      have E3 := (Fr.refl (fun j => j = q) w10).setCell (p := ⟨q, 7, none⟩) (.inl rfl) (.slice Au r8.1.length cu)
      have HX3 := Lib.hid (show Blk (w10.setCell ⟨q, 7, none⟩ (.slice Au r8.1.length cu)) q 25 #[.int .i64 r1.1, .int .i64 r2.1, .string (strOfNums r3.1), .slice An r4.1.length cn, .int .i64 r5.1, .int .i64 r6.1, .slice Ac r7.1.length cc, .slice Au r8.1.length cu, .int .i64 0, .bool false] by
        have := HX2.out.set_ 7 (.slice Au r8.1.length cu); simpa using this)
      have HQ3 := Lib.hid (HQ2.out.fr E3 (by show ¬ (w.heap.size + 1 + 1 = q); omega) (fun j hj e => by have e1 : j = w.heap.size + 1 := hj; have e2 : j = q := e; omega))
      have HU3 := Lib.hid ((((HU2.out.old (by omega)).more (B' := fun j => q < j ∧ j < w10.heap.size) (fun j hj => ⟨by have := hj.1; omega, hj.2⟩))).fr E3 (fun j hj e => by have e2 : j = q := e; have := hj.1; omega))
      have HZ3 := Lib.hid ((HZ1.out.fr HF2.out (by show ¬ (w.heap.size = w.heap.size + 1 + 1); omega)).fr E3 (by show ¬ (w.heap.size = q); omega))
      have HC3 := Lib.hid (((HC1.out.fr HF2.out (fun j hj e => by have e2 : j = w.heap.size + 1 + 1 := e; have := hj.1; omega))).fr E3 (fun j hj e => by have e2 : j = q := e; have := hj.1; omega))
      have HN3 := Lib.hid (((HN1.out.fr HF2.out (fun j hj e => by have e2 : j = w.heap.size + 1 + 1 := e; have := hj.1; omega))).fr E3 (fun j hj e => hj.2.1 e))
      have HB3 := Lib.hid ((HB1.out.trans (HF2.out.below (B := w.heap.size) HB1.out.size (fun j hj e => by have e2 : j = w.heap.size + 1 + 1 := e; omega))).trans (E3.below (B := w.heap.size) (by have := HB1.out.size; omega) (fun j hj e => by have e2 : j = q := e; omega)))
      have hs3 := E3.size
      clear HU2 HQ2 HF2 HX2 HQ1 HZ1 HN1 HB1 HC1 HX1 H8r E3 x0 x1 x2
      have H9r := Lib.hid (H9.out _ _ _ HQ3.out (by show ¬ (w.heap.size + 1 + 1 = w.heap.size + 1); omega))
      generalize w10.setCell _ _ = W3 at *
      go_upto_region 10 with (go_at_call 47; ((with_reducible refine H9r.out.mono ?_); rintro e w11 ⟨rfl, hq11, hf11⟩; have HQ4 := Lib.hid hq11; have HF4 := Lib.hid hf11; have HX4 := Lib.hid (HX3.out.fr hf11 (by show ¬ (q = w.heap.size + 1 + 1); omega)); clear hq11 hf11; obtain ⟨x0, x1, x2⟩ := HX4.out.facts))
      have hs4 := HF4.out.size
      have E5 := (Fr.refl (fun j => j = q) w11).setCell (p := ⟨q, 8, none⟩) (.inl rfl) (.int .i64 r9.1)
      have HX5 := Lib.hid (show Blk (w11.setCell ⟨q, 8, none⟩ (.int .i64 r9.1)) q 25 #[.int .i64 r1.1, .int .i64 r2.1, .string (strOfNums r3.1), .slice An r4.1.length cn, .int .i64 r5.1, .int .i64 r6.1, .slice Ac r7.1.length cc, .slice Au r8.1.length cu, .int .i64 r9.1, .bool false] by
        have := HX4.out.set_ 8 (.int .i64 r9.1); simpa using this)
      have HQ5 := Lib.hid (HQ4.out.fr E5 (by show ¬ (w.heap.size + 1 + 1 = q); omega) (fun j hj e => by have e1 : j = w.heap.size + 1 := hj; have e2 : j = q := e; omega))
      have HG5 := HF4.out
      have HU5 := Lib.hid ((HU3.out.fr HG5 (fun j hj e => by have e2 : j = w.heap.size + 1 + 1 := e; have := hj.1; omega)).fr E5 (fun j hj e => by have e2 : j = q := e; have := hj.1; omega))
      have HC5 := Lib.hid ((HC3.out.fr HG5 (fun j hj e => by have e2 : j = w.heap.size + 1 + 1 := e; have := hj.1; omega)).fr E5 (fun j hj e => by have e2 : j = q := e; have := hj.1; omega))
      have HN5 := Lib.hid ((HN3.out.fr HG5 (fun j hj e => by have e2 : j = w.heap.size + 1 + 1 := e; have := hj.1; omega)).fr E5 (fun j hj e => hj.2.1 e))
      have HZ5 := Lib.hid ((HZ3.out.fr HG5 (by show ¬ (w.heap.size = w.heap.size + 1 + 1); omega)).fr E5 (by show ¬ (w.heap.size = q); omega))
      have HB5 := Lib.hid ((HB3.out.trans (HG5.below (B := w.heap.size) HB3.out.size (fun j hj e => by have e2 : j = w.heap.size + 1 + 1 := e; omega))).trans (E5.below (B := w.heap.size) (by have := HB3.out.size; omega) (fun j hj e => by have e2 : j = q := e; omega)))
      have hs5 := E5.size
      clear HQ4 HF4 HX4 HX3 HQ3 HU3 HC3 HN3 HZ3 HB3 HG5 E5 H9 H9r x0 x1 x2
      have H10r := Lib.hid (H10.out _ _ _ HQ5.out (by show ¬ (w.heap.size + 1 + 1 = w.heap.size + 1); omega))
      generalize w11.setCell _ _ = W5 at *
      go_upto_region 11 with (go_at_call 50; ((with_reducible refine H10r.out.mono ?_); rintro e w12 ⟨rfl, hq12, hf12⟩; have HQ6 := Lib.hid hq12; have HF6 := Lib.hid hf12; have HX6 := Lib.hid (HX5.out.fr hf12 (by show ¬ (q = w.heap.size + 1 + 1); omega)); clear hq12 hf12; obtain ⟨x0, x1, x2⟩ := HX6.out.facts))
      have hs6 := HF6.out.size
      have E7 := (Fr.refl (fun j => j = q) w12).setCell (p := ⟨q, 9, none⟩) (.inl rfl) (.bool r10.1)
      have HX7 := Lib.hid (show Blk (w12.setCell ⟨q, 9, none⟩ (.bool r10.1)) q 25 #[.int .i64 r1.1, .int .i64 r2.1, .string (strOfNums r3.1), .slice An r4.1.length cn, .int .i64 r5.1, .int .i64 r6.1, .slice Ac r7.1.length cc, .slice Au r8.1.length cu, .int .i64 r9.1, .bool r10.1] by
        have := HX6.out.set_ 9 (.bool r10.1); simpa using this)
      have HQ7 := Lib.hid (HQ6.out.fr E7 (by show ¬ (w.heap.size + 1 + 1 = q); omega) (fun j hj e => by have e1 : j = w.heap.size + 1 := hj; have e2 : j = q := e; omega))
      have HG7 := HF6.out
      have hs7 := E7.size
      have HU7 := Lib.hid (((HU5.out.fr HG7 (fun j hj e => by have e2 : j = w.heap.size + 1 + 1 := e; have := hj.1; omega)).fr E7 (fun j hj e => by have e2 : j = q := e; have := hj.1; omega)).more (B' := fun j => w.heap.size < j ∧ j < (w12.setCell ⟨q, 9, none⟩ (.bool r10.1)).heap.size) (fun j hj => ⟨by have := hj.1; omega, by have := hj.2; omega⟩))
      have HC7 := Lib.hid (((HC5.out.fr HG7 (fun j hj e => by have e2 : j = w.heap.size + 1 + 1 := e; have := hj.1; omega)).fr E7 (fun j hj e => by have e2 : j = q := e; have := hj.1; omega)).more (B' := fun j => w.heap.size < j ∧ j < (w12.setCell ⟨q, 9, none⟩ (.bool r10.1)).heap.size) (fun j hj => ⟨by have := hj.1; omega, by have := hj.2; omega⟩))
      have HN7 := Lib.hid (((HN5.out.fr HG7 (fun j hj e => by have e2 : j = w.heap.size + 1 + 1 := e; have := hj.1; omega)).fr E7 (fun j hj e => hj.2.1 e)).more (B' := fun j => w.heap.size < j ∧ j < (w12.setCell ⟨q, 9, none⟩ (.bool r10.1)).heap.size) (fun j hj => ⟨by have := hj.1; omega, by have := hj.2.2; omega⟩))
      have HZ7 := Lib.hid ((HZ5.out.fr HG7 (by show ¬ (w.heap.size = w.heap.size + 1 + 1); omega)).fr E7 (by show ¬ (w.heap.size = q); omega))
      have HB7 := Lib.hid ((HB5.out.trans (HG7.below (B := w.heap.size) HB5.out.size (fun j hj e => by have e2 : j = w.heap.size + 1 + 1 := e; omega))).trans (E7.below (B := w.heap.size) (by have := HB5.out.size; omega) (fun j hj e => by have e2 : j = q := e; omega)))
      clear HQ6 HF6 HX6 HX5 HQ5 HU5 HC5 HN5 HZ5 HB5 HG7 E7 H10 H10r x0 x1 x2
      have H11r := Lib.hid (H11.out _ _ _ HQ7.out)
      generalize w12.setCell _ _ = W7 at *
      have H14 := Lib.hid (show Calls Tryd.prog 14 #[.agg #[.int .i64 r1.1, .int .i64 r2.1, .string (strOfNums r3.1), .slice An r4.1.length cn, .int .i64 r5.1, .int .i64 r6.1, .slice Ac r7.1.length cc, .slice Au r8.1.length cu, .int .i64 r9.1, .bool r10.1]] W7 (BoolB (icB ⟨r1.1, r2.1, strOfNums r3.1, r4.1, r5.1, r6.1, r7.1, r8.1, r9.1, r10.1⟩) W7) from valid14 (fun j => w.heap.size < j ∧ j < W7.heap.size) r1.1 r2.1 r5.1 r6.1 r9.1 (strOfNums r3.1) An Ac Au cn cc cu r4.1 r7.1 r8.1 r10.1 W7 (by rw [strOf_size]; exact HL.out.1) HN7.out HC7.out HU7.out HL.out.2.1 HL.out.2.2.1 HL.out.2.2.2)
      obtain ⟨x0, x1, x2⟩ := HX7.out.facts
      clear HL H11 HQ7
      by_cases h0 : er = 0
      · have e0 : (er != 0) = false := by rw [h0]; rfl
        have e1 : (er == 0) = true := by rw [h0]; rfl
        cases hv : icB ⟨r1.1, r2.1, strOfNums r3.1, r4.1, r5.1, r6.1, r7.1, r8.1, r9.1, r10.1⟩ with
        | true =>
          have HE := Lib.hid (show DX = (⟨r1.1, r2.1, strOfNums r3.1, r4.1, r5.1, r6.1, r7.1, r8.1, r9.1, r10.1⟩, 0) by rw [HDX.out, if_pos ⟨h0, hv⟩])
          rw [hv] at H14
          clear hv HDX h0
          go_wp2_with (first | (go_at_call 51; ((with_reducible refine H11r.out.mono ?_); rintro e w13 ⟨rfl, rfl⟩)) | (go_at_call 14; ((with_reducible refine H14.out.mono ?_); rintro e w14 ⟨rfl, hb14⟩; have HX8 := Lib.hid (HX7.out.below hb14 HX7.out.lt); have HZ8 := Lib.hid (HZ7.out.below hb14 HZ7.out.lt); have hb15 := Lib.hid hb14; clear hb14 x0 x1 x2; obtain ⟨x0, x1, x2⟩ := HX8.out.facts)) | (refine wpList_storeBlk rfl (.tmp 2) (.tmp 55) 25 rfl w.heap.size 25 _ #[.int .i64 r1.1, .int .i64 r2.1, .string (strOfNums r3.1), .slice An r4.1.length cn, .int .i64 r5.1, .int .i64 r6.1, .slice Ac r7.1.length cc, .slice Au r8.1.length cu, .int .i64 r9.1, .bool r10.1] _ 10 136 info25 rfl rfl rfl HZ8.out rfl (ten_one (by simp [Value.oneCell'])) ?_; intro w16 hb16 hf16 hs16))
          refine bodyPost_ret (results_ct (p := 2) (u := 3) (ty := 25) Tryd.results21 _ _ w.heap.size 25 #[.int .i64 r1.1, .int .i64 r2.1, .string (strOfNums r3.1), .slice An r4.1.length cn, .int .i64 r5.1, .int .i64 r6.1, .slice Ac r7.1.length cc, .slice Au r8.1.length cu, .int .i64 r9.1, .bool r10.1] (0, 0) _ rfl hb16 Tryd.underlying25 rfl size25) rfl ?_
          rw [HE.out]
          refine ⟨An, Ac, Au, cn, cc, cu, rfl, ?_, ?_, ?_, ?_⟩
          · exact (((HN7.out.below hb15.out (fun j hj => hj.2)).fr hf16 (fun j hj e => by have e2 : j = w.heap.size := e; have := hj.1; omega)).old (by omega)).more (fun j hj => hj.2)
          · exact (((HC7.out.below hb15.out (fun j hj => hj.2)).fr hf16 (fun j hj e => by have e2 : j = w.heap.size := e; have := hj.1; omega)).old (by omega)).more (fun j hj => hj.2)
          · exact (((HU7.out.below hb15.out (fun j hj => hj.2)).fr hf16 (fun j hj e => by have e2 : j = w.heap.size := e; have := hj.1; omega)).old (by omega)).more (fun j hj => hj.2)
          · have h5 := HB7.out.trans (hb15.out.mono HB7.out.size)
            exact h5.trans (hf16.below h5.size (fun j hj e => by have e2 : j = w.heap.size := e; omega))
        | false =>
          have HE := Lib.hid (show DX = (zIc, 2) by rw [HDX.out, if_neg (by rw [hv]; rintro ⟨-, h⟩; cases h)])
          rw [hv] at H14
          clear hv HDX h0
          go_wp2_with (first | (go_at_call 51; ((with_reducible refine H11r.out.mono ?_); rintro e w13 ⟨rfl, rfl⟩)) | (go_at_call 14; ((with_reducible refine H14.out.mono ?_); rintro e w14 ⟨rfl, hb14⟩; have HX8 := Lib.hid (HX7.out.below hb14 HX7.out.lt); have HZ8 := Lib.hid (HZ7.out.below hb14 HZ7.out.lt); have hb15 := Lib.hid hb14; clear hb14 x0 x1 x2; obtain ⟨x0, x1, x2⟩ := HX8.out.facts)) | (refine wpList_storeBlk rfl (.tmp 2) (.tmp 54) 25 rfl w.heap.size 25 _ #[.int .i64 0, .int .i64 0, .string ⟨#[]⟩, .slice none 0 0, .int .i64 0, .int .i64 0, .slice none 0 0, .slice none 0 0, .int .i64 0, .bool false] _ 10 136 info25 rfl rfl rfl HZ8.out rfl (ten_one (by simp [Value.oneCell'])) ?_; intro w16 hb16 hf16 hs16))
          refine bodyPost_ret (results_ct (p := 2) (u := 3) (ty := 25) Tryd.results21 _ _ w.heap.size 25 #[.int .i64 0, .int .i64 0, .string ⟨#[]⟩, .slice none 0 0, .int .i64 0, .int .i64 0, .slice none 0 0, .slice none 0 0, .int .i64 0, .bool false] (0, 0) _ rfl hb16 Tryd.underlying25 rfl size25) rfl ?_
          rw [HE.out]
          have h5 := HB7.out.trans (hb15.out.mono HB7.out.size)
          exact rd_zero (h5.trans (hf16.below h5.size (fun j hj e => by have e2 : j = w.heap.size := e; omega)))
      · have e0 : (er != 0) = true := by simpa [bne] using h0
        have e1 : (er == 0) = false := by simpa using h0
        have HE := Lib.hid (show DX = (zIc, 2) by rw [HDX.out, if_neg (fun h => h0 h.1)])
        clear HDX h0
        go_wp2_with (first | (go_at_call 51; ((with_reducible refine H11r.out.mono ?_); rintro e w13 ⟨rfl, rfl⟩)) | (refine wpList_storeBlk rfl (.tmp 2) (.tmp 54) 25 rfl w.heap.size 25 _ #[.int .i64 0, .int .i64 0, .string ⟨#[]⟩, .slice none 0 0, .int .i64 0, .int .i64 0, .slice none 0 0, .slice none 0 0, .int .i64 0, .bool false] _ 10 136 info25 rfl rfl rfl HZ7.out rfl (ten_one (by simp [Value.oneCell'])) ?_; intro w16 hb16 hf16 hs16))
        refine bodyPost_ret (results_ct (p := 2) (u := 3) (ty := 25) Tryd.results21 _ _ w.heap.size 25 #[.int .i64 0, .int .i64 0, .string ⟨#[]⟩, .slice none 0 0, .int .i64 0, .int .i64 0, .slice none 0 0, .slice none 0 0, .int .i64 0, .bool false] (0, 0) _ rfl hb16 Tryd.underlying25 rfl size25) rfl ?_
        rw [HE.out]
        exact rd_zero (HB7.out.trans (hf16.below HB7.out.size (fun j hj e => by have e2 : j = w.heap.size := e; omega)))
end Go.Proofs.YtipkicijfedfoaaDoor

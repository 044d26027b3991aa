import Derived.Test.YtipkicijfedfoaaDoorMRf5
import Derived.Test.YtipkicijfedfoaaDoorMUnm
import Derived.Test.YtipkicijfedfoaaDoorMGG
import Derived.Test.YtipkicijfedfoaaDoorMGD
namespace Go.Proofs.YtipkicijfedfoaaDoor
set_option linter.unusedVariables false
set_option linter.unusedSimpArgs false
open Go.RowKit Go.Own Go.Quo Go.Inc Go.Wire
theorem fld2 (v0 v1 v2 v3 v4 : Value) (W : World) : (Instr.field 69 (.agg #[v0, v1, v2, v3, v4]) 2).run Tryd.prog W = .ok v2 W := by simp [Instr.field, asAgg, go_sem]
theorem fld3 (v0 v1 v2 v3 v4 : Value) (W : World) : (Instr.field 69 (.agg #[v0, v1, v2, v3, v4]) 3).run Tryd.prog W = .ok v3 W := by simp [Instr.field, asAgg, go_sem]
theorem fld4 (v0 v1 v2 v3 v4 : Value) (W : World) : (Instr.field 69 (.agg #[v0, v1, v2, v3, v4]) 4).run Tryd.prog W = .ok v4 W := by simp [Instr.field, asAgg, go_sem]
def Ins (w : World) (g p q j : Nat) : Prop := w.heap.size ≤ j ∧ j ≠ g ∧ j ≠ p ∧ j ≠ q
structure RC (w : World) (g p q : Nat) (B : Nat → Prop) : Prop where
  lg : w.heap.size ≤ g
  lp : w.heap.size ≤ p
  lq : w.heap.size ≤ q
  gp : g ≠ p
  gq : g ≠ q
  pq : p ≠ q
  bg : ¬ B g
  bp : ¬ B p
  bq : ¬ B q
structure RSt (w W : World) (g p q : Nat) (B : Nat → Prop) (cs : Array Value) (s : Sd) (An Ac Au : Option Addr) (n c u : List Int) : Prop where
  k : RC w g p q B
  rd : Wr.RfP W p B s
  x : Blk W q 25 cs
  z : Blk W g 25 #[.int .i64 0, .int .i64 0, .string ⟨#[]⟩, .slice none 0 0, .int .i64 0, .int .i64 0, .slice none 0 0, .slice none 0 0, .int .i64 0, .bool false]
  rn : RI W (Ins w g p q) An n
  rc : RI W (Ins w g p q) Ac c
  ru : RI W (Ins w g p q) Au u
  b : Below w.heap.size w W
  l : ∀ k, B k → k < W.heap.size
section
variable {w W W' : World} {g p q : Nat} {B : Nat → Prop} {cs : Array Value} {s s' : Sd} {An Ac Au : Option Addr} {n c u : List Int}
theorem RSt.call (h : RSt w W g p q B cs s An Ac Au n c u) (hr : Wr.RfP W' p B s') (hf : Fr (· = p) W W') : RSt w W' g p q B cs s' An Ac Au n c u :=
  ⟨h.k, hr, h.x.fr hf (fun e => h.k.pq e.symm), h.z.fr hf h.k.gp, h.rn.fr hf (fun j hj e => hj.2.2.1 e), h.rc.fr hf (fun j hj e => hj.2.2.1 e), h.ru.fr hf (fun j hj e => hj.2.2.1 e),
   h.b.trans (hf.below h.b.size (fun j hj e => by have := h.k.lp; have e2 : j = p := e; omega)), fun k hk => Nat.lt_of_lt_of_le (h.l k hk) hf.size⟩
theorem RSt.mem (h : RSt w W g p q B cs s An Ac Au n c u) (hb : Below W.heap.size W W') : RSt w W' g p q B cs s An Ac Au n c u :=
  ⟨h.k, h.rd.fr (S := fun _ => False) (Fr.of_below hb) (fun e => e) (fun _ _ e => e), h.x.below hb h.x.lt, h.z.below hb h.z.lt, h.rn.fr (S := fun _ => False) (Fr.of_below hb) (fun _ _ e => e), h.rc.fr (S := fun _ => False) (Fr.of_below hb) (fun _ _ e => e), h.ru.fr (S := fun _ => False) (Fr.of_below hb) (fun _ _ e => e),
   h.b.trans (hb.mono h.b.size), fun k hk => Nat.lt_of_lt_of_le (h.l k hk) hb.size⟩
theorem RSt.store (h : RSt w W g p q B cs s An Ac Au n c u) (i : Nat) (v : Value) : RSt w (W.setCell ⟨q, i, none⟩ v) g p q B (cs.setIfInBounds i v) s An Ac Au n c u := by
  have E := (Fr.refl (fun j => j = q) W).setCell (p := ⟨q, i, none⟩) (.inl rfl) v
  exact ⟨h.k, h.rd.fr E h.k.pq (fun j hj e => h.k.bq (by have e2 : j = q := e; rw [← e2]; exact hj)), h.x.set_ i v, h.z.fr E h.k.gq, h.rn.fr E (fun j hj e => hj.2.2.2 e), h.rc.fr E (fun j hj e => hj.2.2.2 e), h.ru.fr E (fun j hj e => hj.2.2.2 e),
   h.b.trans (E.below h.b.size (fun j hj e => by have := h.k.lq; have e2 : j = q := e; omega)), fun k hk => Nat.lt_of_lt_of_le (h.l k hk) E.size⟩
theorem RSt.ins {A : Option Addr} {l : List Int} (h : RSt w W g p q B cs s An Ac Au n c u) (hf : Fr (· = p) W W') (r : RI W' (W.heap.size ≤ ·) A l) : RI W' (Ins w g p q) A l :=
  r.more (fun j hj => by
    have h1 := h.x.lt; have h2 := h.z.lt; have h3 := h.rd.lt; have h4 := h.b.size
    have hj2 : W.heap.size ≤ j := hj
    exact ⟨by omega, by omega, by omega, by omega⟩)
theorem RSt.insB {A : Option Addr} {l : List Int} (h : RSt w W g p q B cs s An Ac Au n c u) (hb : Below W.heap.size W W') (r : RI W' (W.heap.size ≤ ·) A l) : RI W' (Ins w g p q) A l :=
  r.more (fun j hj => by
    have h1 := h.x.lt; have h2 := h.z.lt; have h3 := h.rd.lt; have h4 := h.b.size
    have hj2 : W.heap.size ≤ j := hj
    exact ⟨by omega, by omega, by omega, by omega⟩)
theorem RSt.asN {A : Option Addr} {l : List Int} (h : RSt w W g p q B cs s An Ac Au n c u) (r : RI W (Ins w g p q) A l) : RSt w W g p q B cs s A Ac Au l c u := ⟨h.k, h.rd, h.x, h.z, r, h.rc, h.ru, h.b, h.l⟩
theorem RSt.asC {A : Option Addr} {l : List Int} (h : RSt w W g p q B cs s An Ac Au n c u) (r : RI W (Ins w g p q) A l) : RSt w W g p q B cs s An A Au n l u := ⟨h.k, h.rd, h.x, h.z, h.rn, r, h.ru, h.b, h.l⟩
theorem RSt.asU {A : Option Addr} {l : List Int} (h : RSt w W g p q B cs s An Ac Au n c u) (r : RI W (Ins w g p q) A l) : RSt w W g p q B cs s An Ac A n c l := ⟨h.k, h.rd, h.x, h.z, h.rn, h.rc, r, h.b, h.l⟩
end
set_option maxRecDepth 10000 in
set_option maxHeartbeats 8000000 in
theorem read22 (B0 : Nat → Prop) (A : Option Addr) (c : Nat) (b : List Int) (w : World) (h : Reads w B0 1 A b.length (Wr.bys b)) (hB : Bytes b) (hl : b.length ≤ 100000) :
    Calls Tryd.prog 22 #[.slice A b.length c] w (RdPost (decX b).1 (decX b).2 w) := by
  have HD := Lib.hid (show decS b = (⟨(sI (0, b)).1, (sI (sI (0, b)).2).1, strOfNums (sS (sI (sI (0, b)).2).2).1, (sL (sS (sI (sI (0, b)).2).2).2).1, (sI (sL (sS (sI (sI (0, b)).2).2).2).2).1, (sI (sI (sL (sS (sI (sI (0, b)).2).2).2).2).2).1, (sL (sI (sI (sL (sS (sI (sI (0, b)).2).2).2).2).2).2).1, (sL (sL (sI (sI (sL (sS (sI (sI (0, b)).2).2).2).2).2).2).2).1, (sI (sL (sL (sI (sI (sL (sS (sI (sI (0, b)).2).2).2).2).2).2).2).2).1, (sB (sI (sL (sL (sI (sI (sL (sS (sI (sI (0, b)).2).2).2).2).2).2).2).2).2).1⟩, (sB (sI (sL (sL (sI (sI (sL (sS (sI (sI (0, b)).2).2).2).2).2).2).2).2).2).2) from rfl)
  have H1 := Lib.hid fun (p : Nat) (B : Nat → Prop) (W : World) (h : Wr.RfP W p B (0, b)) (hp : ¬ B p) => Wr.rf_int p B (0, b) W h hp hB
  have b1 := sI_by (s := (0, b)) hB
  have l1 := sI_len (0, b)
  have l1' := l1
  simp only at l1
  generalize sI (0, b) = r1 at *
  have H2 := Lib.hid fun (p : Nat) (B : Nat → Prop) (W : World) (h : Wr.RfP W p B r1.2) (hp : ¬ B p) => Wr.rf_int p B r1.2 W h hp b1
  have b2 := sI_by b1
  have l2 := sI_len r1.2
  generalize sI r1.2 = r2 at *
  have H3 := Lib.hid fun (p : Nat) (B : Nat → Prop) (W : World) (h : Wr.RfP W p B r2.2) (hp : ¬ B p) (hBw : ∀ k, B k → k < W.heap.size) => Wr.rf_get3 p B r2.2 W h hp hBw b2
  have b3 := sS_by b2
  have l3 := sS_len r2.2
  generalize sS r2.2 = r3 at *
  have H4 := Lib.hid fun (p : Nat) (B : Nat → Prop) (W : World) (h : Wr.RfP W p B r3.2) (hp : ¬ B p) (hBw : ∀ k, B k → k < W.heap.size) => Wr.rf_get4 p B r3.2 W h hp hBw b3 (by omega)
  have b4 := sL_by b3
  have l4 := sL_len r3.2
  generalize sL r3.2 = r4 at *
  have H5 := Lib.hid fun (p : Nat) (B : Nat → Prop) (W : World) (h : Wr.RfP W p B r4.2) (hp : ¬ B p) => Wr.rf_int p B r4.2 W h hp b4
  have b5 := sI_by b4
  have l5 := sI_len r4.2
  generalize sI r4.2 = r5 at *
  have H6 := Lib.hid fun (p : Nat) (B : Nat → Prop) (W : World) (h : Wr.RfP W p B r5.2) (hp : ¬ B p) => Wr.rf_int p B r5.2 W h hp b5
  have b6 := sI_by b5
  have l6 := sI_len r5.2
  generalize sI r5.2 = r6 at *
  have H7 := Lib.hid fun (p : Nat) (B : Nat → Prop) (W : World) (h : Wr.RfP W p B r6.2) (hp : ¬ B p) (hBw : ∀ k, B k → k < W.heap.size) => Wr.rf_get4 p B r6.2 W h hp hBw b6 (by omega)
  have b7 := sL_by b6
  have l7 := sL_len r6.2
  generalize sL r6.2 = r7 at *
  have H8 := Lib.hid fun (p : Nat) (B : Nat → Prop) (W : World) (h : Wr.RfP W p B r7.2) (hp : ¬ B p) (hBw : ∀ k, B k → k < W.heap.size) => Wr.rf_get4 p B r7.2 W h hp hBw b7 (by omega)
  have b8 := sL_by b7
  have l8 := sL_len r7.2
  generalize sL r7.2 = r8 at *
  have H9 := Lib.hid fun (p : Nat) (B : Nat → Prop) (W : World) (h : Wr.RfP W p B r8.2) (hp : ¬ B p) => Wr.rf_int p B r8.2 W h hp b8
  have b9 := sI_by b8
  have l9 := sI_len r8.2
  generalize sI r8.2 = r9 at *
  have H10 := Lib.hid fun (p : Nat) (B : Nat → Prop) (W : World) (h : Wr.RfP W p B r9.2) (hp : ¬ B p) (hBw : ∀ k, B k → k < W.heap.size) => Wr.rf_get1 p B r9.2 W h hp hBw b9
  generalize sB r9.2 = r10 at *
  have H11 := Lib.hid fun (p : Nat) (B : Nat → Prop) (W : World) (h : Wr.RfP W p B r10.2) => Wr.rf_end p B r10.2 W h
  have HL := Lib.hid (show r3.1.length ≤ 100000 ∧ r4.1.length ≤ 100000 ∧ r7.1.length ≤ 100000 ∧ r8.1.length ≤ 100000 from by omega)
  have HDX := Lib.hid (show decX b = if endS r10.2 = 0 ∧ icB ⟨r1.1, r2.1, strOfNums r3.1, r4.1, r5.1, r6.1, r7.1, r8.1, r9.1, r10.1⟩ = true then (⟨r1.1, r2.1, strOfNums r3.1, r4.1, r5.1, r6.1, r7.1, r8.1, r9.1, r10.1⟩, 0) else (zIc, 2) by unfold decX; rw [HD.out])
  generalize endS r10.2 = er at *
  generalize decX b = DX at *
  have HRb := Lib.hid ((h.old (by omega)).more (B' := fun k => k < w.heap.size) (fun k hk => hk.2))
  clear HD h hB b1 b2 b3 b4 b5 b6 b7 b8 b9 l1 l2 l3 l4 l5 l6 l7 l8 l9 l1'
  have hz0 : (w.alloc (.cells #[.int .i64 0, .int .i64 0, .string ⟨#[]⟩, .slice none 0 0, .int .i64 0, .int .i64 0, .slice none 0 0, .slice none 0 0, .int .i64 0, .bool false] 25)).heap.size = w.heap.size + 1 := by simp
  have HZ0 := Lib.hid ((Blk.new w 25 #[.int .i64 0, .int .i64 0, .string ⟨#[]⟩, .slice none 0 0, .int .i64 0, .int .i64 0, .slice none 0 0, .slice none 0 0, .int .i64 0, .bool false]).alloc (.cells #[] 5))
  have HB0 := Lib.hid (((Below.refl w.heap.size w).alloc (Nat.le_refl _) (.cells #[.int .i64 0, .int .i64 0, .string ⟨#[]⟩, .slice none 0 0, .int .i64 0, .int .i64 0, .slice none 0 0, .slice none 0 0, .int .i64 0, .bool false] 25)).alloc (by simp) (.cells #[] 5))
  have HR0 := Lib.hid ((HRb.out.alloc (.cells #[.int .i64 0, .int .i64 0, .string ⟨#[]⟩, .slice none 0 0, .int .i64 0, .int .i64 0, .slice none 0 0, .slice none 0 0, .int .i64 0, .bool false] 25)).alloc (.cells #[] 5))
  have HO0 := Lib.hid (show ((w.alloc (.cells #[.int .i64 0, .int .i64 0, .string ⟨#[]⟩, .slice none 0 0, .int .i64 0, .int .i64 0, .slice none 0 0, .slice none 0 0, .int .i64 0, .bool false] 25)).alloc (.cells #[] 5)).ownsRow (w.heap.size + 1) 5 1 (.slice (some ⟨w.heap.size + 1, 0, none⟩) 0 0) 0 (Wr.bys []) from ⟨rfl, .inr ⟨w.heap.size + 1, 0, #[], rfl, Nat.le_refl _, by rw [← hz0]; exact heap_alloc_new _ _, Nat.le_refl _, by simp [maxLen], rfl, rfl⟩⟩)
  have hz1 : w.heap.size + 1 ≤ ((w.alloc (.cells #[.int .i64 0, .int .i64 0, .string ⟨#[]⟩, .slice none 0 0, .int .i64 0, .int .i64 0, .slice none 0 0, .slice none 0 0, .int .i64 0, .bool false] 25)).alloc (.cells #[] 5)).heap.size := by simp
  clear HRb
  have f2 := fld2
  have f3 := fld3
  have f4 := fld4
  go_enter Tryd.func22, Tryd.ntmps22
  go_upto_region 1 with fail
  go_upto_region 2 with (at_builtin; refine wpList_append_any _ rfl _ _ _ rfl (w.heap.size + 1) 5 _ 1 1 Tryd.underlying40 info5 rfl (by omega) (.slice (some ⟨w.heap.size + 1, 0, none⟩) 0 0) 0 (Wr.bys []) rfl HO0.out _ A b.length c (Wr.bys b) rfl HR0.out (bys_one _) (by simp only [maxLen]; omega) (by omega) hz1 ?_; intro A2 c2 w2 hown hgr hat; have HO2 := Lib.hid hown; have HZ2 := Lib.hid (HZ0.out.grown hgr (by intro e; simp [Value.ownBlock] at e)); have HB2 := Lib.hid (Below.grown HB0.out hgr HB0.out.size (fun j hj => by simp [Value.ownBlock] at hj; omega)); clear hown hgr hat)
  rw [Nat.zero_add] at HO2
  have HO2' := Lib.hid (show w2.ownsRow (w.heap.size + 1) 5 1 (.slice A2 b.length c2) b.length (Wr.bys b) by simpa using HO2.out)
  have hs2 := HB2.out.size
  obtain ⟨p, hp⟩ : ∃ p, p = w2.heap.size := ⟨_, rfl⟩
  have HP2 := Lib.hid (show Wr.RfP (w2.alloc (.cells #[.slice A2 b.length c2, .int .i64 0] 67)) p (fun k => w.heap.size + 1 ≤ k ∧ k < p) (0, b) from ⟨b, A2, c2, by rw [hp]; exact Blk.new w2 67 _, ((Reads.of_own HO2'.out).more (fun k hk => by rw [hp]; exact HO2'.out.lt k hk)).alloc _, own_cap HO2'.out, fun _ => rfl⟩)
  have HZ3 := Lib.hid (HZ2.out.alloc (.cells #[.slice A2 b.length c2, .int .i64 0] 67))
  have HB3 := Lib.hid (HB2.out.alloc HB2.out.size (.cells #[.slice A2 b.length c2, .int .i64 0] 67))
  have hz3 : (w2.alloc (.cells #[.slice A2 b.length c2, .int .i64 0] 67)).heap.size = p + 1 := by rw [hp]; simp
  have hgp : w.heap.size < p := by rw [hp]; have := HZ2.out.lt; omega
  rw [← hp] at *
  clear HO2 HO2' HZ2 HB2 HR0 HO0 HB0 HZ0 hz0 hz1
  generalize w2.alloc _ = W3 at *
  clear hs2 hp
  obtain ⟨B, hBd⟩ : ∃ B : Nat → Prop, B = (fun k => w.heap.size + 1 ≤ k ∧ k < p) := ⟨_, rfl⟩
  rw [← hBd] at HP2
  have hBp : ¬ B p := by rw [hBd]; intro h; exact Nat.lt_irrefl _ h.2
  have hBg : ¬ B w.heap.size := by rw [hBd]; intro h; have := h.1; omega
  have hBl : ∀ k, B k → k < p := by rw [hBd]; exact fun k h => h.2
  clear hBd
  have Hc1 := Lib.hid (H1.out p B W3 HP2.out hBp)
  go_upto_region 3 with (go_at_call 52; ((with_reducible refine Hc1.out.mono ?_); rintro e w4 ⟨rfl, hq4, hf4⟩))
  have hs4 := hf4.size
  obtain ⟨q, hq⟩ : ∃ q, q = w4.heap.size := ⟨_, rfl⟩
  have RS2 := Lib.hid (show RSt w (w4.alloc (.cells #[.int .i64 r1.1, .int .i64 0, .string ⟨#[]⟩, .slice none 0 0, .int .i64 0, .int .i64 0, .slice none 0 0, .slice none 0 0, .int .i64 0, .bool false] 25)) w.heap.size p q B #[.int .i64 r1.1, .int .i64 0, .string ⟨#[]⟩, .slice none 0 0, .int .i64 0, .int .i64 0, .slice none 0 0, .slice none 0 0, .int .i64 0, .bool false] r1.2 none none none [] [] [] from by
    have hq3 : p < q := by omega
    have hf5 := hf4.alloc (.cells #[.int .i64 r1.1, .int .i64 0, .string ⟨#[]⟩, .slice none 0 0, .int .i64 0, .int .i64 0, .slice none 0 0, .slice none 0 0, .int .i64 0, .bool false] 25)
    refine ⟨⟨Nat.le_refl _, by omega, by omega, by omega, by omega, by omega, hBg, hBp, fun h => by have := hBl _ h; omega⟩, hq4.alloc _, by rw [hq]; exact Blk.new w4 25 _, HZ3.out.fr hf5 (by show ¬ (w.heap.size = p); omega), Reads.none_, Reads.none_, Reads.none_, HB3.out.trans (hf5.below HB3.out.size (fun j hj e => by have e2 : j = p := e; omega)), fun k hk => by have := hBl k hk; simp; omega⟩)
  rw [← hq]
  clear HP2 HZ3 HB3 Hc1 hq4 hf4 hs4 hq H1 hz3 hgp hBp hBg hBl
  generalize w4.alloc _ = W4 at *
  have Hc := Lib.hid (H2.out p B W4 RS2.out.rd RS2.out.k.bp)
  go_upto_region 4 with (go_at_call 52; ((with_reducible refine Hc.out.mono ?_); rintro e w5 ⟨rfl, hq, hf⟩; have RSc := Lib.hid (RS2.out.call hq hf); clear hq hf; obtain ⟨x0, x1, x2⟩ := RSc.out.x.facts))
  have RSn := Lib.hid (show RSt w (w5.setCell ⟨q, 1, none⟩ (.int .i64 r2.1)) w.heap.size p q B #[.int .i64 r1.1, .int .i64 r2.1, .string ⟨#[]⟩, .slice none 0 0, .int .i64 0, .int .i64 0, .slice none 0 0, .slice none 0 0, .int .i64 0, .bool false] r2.2 none none none [] [] [] by
    have := RSc.out.store 1 (.int .i64 r2.1)
    simpa using this)
  clear RS2 RSc Hc x0 x1 x2 H2
  generalize w5.setCell _ _ = W5 at *
  have RS3 := Lib.hid RSn.out
  clear RSn
  have Hc := Lib.hid (H3.out p B W5 RS3.out.rd RS3.out.k.bp RS3.out.l)
  go_upto_region 5 with (go_at_call 53; ((with_reducible refine Hc.out.mono ?_); rintro e w6 ⟨rfl, hq, hf⟩; have RSc := Lib.hid (RS3.out.call hq hf); clear hq hf; obtain ⟨x0, x1, x2⟩ := RSc.out.x.facts))
  have RSn := Lib.hid (show RSt w (w6.setCell ⟨q, 2, none⟩ (.string (strOfNums r3.1))) w.heap.size p q B #[.int .i64 r1.1, .int .i64 r2.1, .string (strOfNums r3.1), .slice none 0 0, .int .i64 0, .int .i64 0, .slice none 0 0, .slice none 0 0, .int .i64 0, .bool false] r3.2 none none none [] [] [] by
    have := RSc.out.store 2 (.string (strOfNums r3.1))
    simpa using this)
  clear RS3 RSc Hc x0 x1 x2 H3
  generalize w6.setCell _ _ = W6 at *
  have RS4 := Lib.hid RSn.out
  clear RSn
  have Hc := Lib.hid (H4.out p B W6 RS4.out.rd RS4.out.k.bp RS4.out.l)
  go_upto_region 6 with (go_at_call 53; ((with_reducible refine Hc.out.mono ?_); rintro e w7 ⟨An, cn, rfl, hr, hq, hf⟩; have RSc := Lib.hid ((RS4.out.call hq hf).asN (RS4.out.ins hf hr)); clear hr hq hf; obtain ⟨x0, x1, x2⟩ := RSc.out.x.facts))
  have RSn := Lib.hid (show RSt w (w7.setCell ⟨q, 3, none⟩ (.slice An r4.1.length cn)) w.heap.size p q B #[.int .i64 r1.1, .int .i64 r2.1, .string (strOfNums r3.1), .slice An r4.1.length cn, .int .i64 0, .int .i64 0, .slice none 0 0, .slice none 0 0, .int .i64 0, .bool false] r4.2 An none none r4.1 [] [] by
    have := RSc.out.store 3 (.slice An r4.1.length cn)
    simpa using this)
  clear RS4 RSc Hc x0 x1 x2 H4
  generalize w7.setCell _ _ = W7 at *
  have RS5 := Lib.hid RSn.out
  clear RSn
  have Hc := Lib.hid (H5.out p B W7 RS5.out.rd RS5.out.k.bp)
  go_upto_region 7 with (go_at_call 52; ((with_reducible refine Hc.out.mono ?_); rintro e w8 ⟨rfl, hq, hf⟩; have RSc := Lib.hid (RS5.out.call hq hf); clear hq hf; obtain ⟨x0, x1, x2⟩ := RSc.out.x.facts))
  have RSn := Lib.hid (show RSt w (w8.setCell ⟨q, 4, none⟩ (.int .i64 r5.1)) w.heap.size p q B #[.int .i64 r1.1, .int .i64 r2.1, .string (strOfNums r3.1), .slice An r4.1.length cn, .int .i64 r5.1, .int .i64 0, .slice none 0 0, .slice none 0 0, .int .i64 0, .bool false] r5.2 An none none r4.1 [] [] by
    have := RSc.out.store 4 (.int .i64 r5.1)
    simpa using this)
  clear RS5 RSc Hc x0 x1 x2 H5
  generalize w8.setCell _ _ = W8 at *
  have RS6 := Lib.hid RSn.out
  clear RSn
  have Hc := Lib.hid (H6.out p B W8 RS6.out.rd RS6.out.k.bp)
  go_upto_region 8 with (go_at_call 52; ((with_reducible refine Hc.out.mono ?_); rintro e w9 ⟨rfl, hq, hf⟩; have RSc := Lib.hid (RS6.out.call hq hf); clear hq hf; obtain ⟨x0, x1, x2⟩ := RSc.out.x.facts))
  have RSn := Lib.hid (show RSt w (w9.setCell ⟨q, 5, none⟩ (.int .i64 r6.1)) w.heap.size p q B #[.int .i64 r1.1, .int .i64 r2.1, .string (strOfNums r3.1), .slice An r4.1.length cn, .int .i64 r5.1, .int .i64 r6.1, .slice none 0 0, .slice none 0 0, .int .i64 0, .bool false] r6.2 An none none r4.1 [] [] by
    have := RSc.out.store 5 (.int .i64 r6.1)
    simpa using this)
  clear RS6 RSc Hc x0 x1 x2 H6
  generalize w9.setCell _ _ = W9 at *
  have RS7 := Lib.hid RSn.out
  clear RSn
  have Hc := Lib.hid (H7.out p B W9 RS7.out.rd RS7.out.k.bp RS7.out.l)
  have hl7 := HL.out.2.2.1
  go_upto_region 9 with (first | (go_at_call 53; ((with_reducible refine Hc.out.mono ?_); rintro e wy ⟨A7, c7, rfl, hr, hq, hf⟩; have RSd := Lib.hid (RS7.out.call hq hf); have Hwd := Lib.hid (wide39 _ A7 c7 r7.1 wy hr hl7); clear hr hq hf)) | (go_at_call 39; ((with_reducible refine Hwd.out.mono ?_); rintro e w10 ⟨Ac, cc, rfl, ho, hb⟩; have RSc := Lib.hid ((RSd.out.mem hb).asC (RSd.out.insB hb (ri_own ho))); clear ho hb; obtain ⟨x0, x1, x2⟩ := RSc.out.x.facts)))
  have RSn := Lib.hid (show RSt w (w10.setCell ⟨q, 6, none⟩ (.slice Ac r7.1.length cc)) w.heap.size p q B #[.int .i64 r1.1, .int .i64 r2.1, .string (strOfNums r3.1), .slice An r4.1.length cn, .int .i64 r5.1, .int .i64 r6.1, .slice Ac r7.1.length cc, .slice none 0 0, .int .i64 0, .bool false] r7.2 An Ac none r4.1 r7.1 [] by
    have := RSc.out.store 6 (.slice Ac r7.1.length cc)
    simpa using this)
  clear RS7 RSc Hc x0 x1 x2 H7 RSd Hwd
  generalize w10.setCell _ _ = W10 at *
  have RS8 := Lib.hid RSn.out
  clear RSn
  have Hc := Lib.hid (H8.out p B W10 RS8.out.rd RS8.out.k.bp RS8.out.l)
  go_upto_region 10 with (go_at_call 53; ((with_reducible refine Hc.out.mono ?_); rintro e w11 ⟨Au, cu, rfl, hr, hq, hf⟩; have RSc := Lib.hid ((RS8.out.call hq hf).asU (RS8.out.ins hf hr)); clear hr hq hf; obtain ⟨x0, x1, x2⟩ := RSc.out.x.facts))
  have RSn := Lib.hid (show RSt w (w11.setCell ⟨q, 7, none⟩ (.slice Au r8.1.length cu)) w.heap.size p q B #[.int .i64 r1.1, .int .i64 r2.1, .string (strOfNums r3.1), .slice An r4.1.length cn, .int .i64 r5.1, .int .i64 r6.1, .slice Ac r7.1.length cc, .slice Au r8.1.length cu, .int .i64 0, .bool false] r8.2 An Ac Au r4.1 r7.1 r8.1 by
    have := RSc.out.store 7 (.slice Au r8.1.length cu)
    simpa using this)
  clear RS8 RSc Hc x0 x1 x2 H8
  generalize w11.setCell _ _ = W11 at *
  have RS9 := Lib.hid RSn.out
  clear RSn
  have Hc := Lib.hid (H9.out p B W11 RS9.out.rd RS9.out.k.bp)
  go_upto_region 11 with (go_at_call 52; ((with_reducible refine Hc.out.mono ?_); rintro e w12 ⟨rfl, hq, hf⟩; have RSc := Lib.hid (RS9.out.call hq hf); clear hq hf; obtain ⟨x0, x1, x2⟩ := RSc.out.x.facts))
  have RSn := Lib.hid (show RSt w (w12.setCell ⟨q, 8, none⟩ (.int .i64 r9.1)) w.heap.size p q B #[.int .i64 r1.1, .int .i64 r2.1, .string (strOfNums r3.1), .slice An r4.1.length cn, .int .i64 r5.1, .int .i64 r6.1, .slice Ac r7.1.length cc, .slice Au r8.1.length cu, .int .i64 r9.1, .bool false] r9.2 An Ac Au r4.1 r7.1 r8.1 by
    have := RSc.out.store 8 (.int .i64 r9.1)
    simpa using this)
  clear RS9 RSc Hc x0 x1 x2 H9
  generalize w12.setCell _ _ = W12 at *
  have RS10 := Lib.hid RSn.out
  clear RSn
  have Hc := Lib.hid (H10.out p B W12 RS10.out.rd RS10.out.k.bp RS10.out.l)
  go_upto_region 12 with (go_at_call 53; ((with_reducible refine Hc.out.mono ?_); rintro e w13 ⟨rfl, hq, hf⟩; have RSc := Lib.hid (RS10.out.call hq hf); clear hq hf; obtain ⟨x0, x1, x2⟩ := RSc.out.x.facts))
  have RSn := Lib.hid (show RSt w (w13.setCell ⟨q, 9, none⟩ (.bool r10.1)) w.heap.size p q B #[.int .i64 r1.1, .int .i64 r2.1, .string (strOfNums r3.1), .slice An r4.1.length cn, .int .i64 r5.1, .int .i64 r6.1, .slice Ac r7.1.length cc, .slice Au r8.1.length cu, .int .i64 r9.1, .bool r10.1] r10.2 An Ac Au r4.1 r7.1 r8.1 by
    have := RSc.out.store 9 (.bool r10.1)
    simpa using this)
  clear RS10 RSc Hc x0 x1 x2 H10
  generalize w13.setCell _ _ = W13 at *
  have RS11 := Lib.hid RSn.out
  clear RSn
  have He := Lib.hid (H11.out p B W13 RS11.out.rd)
  have H15 := Lib.hid (show Calls Tryd.prog 15 #[.agg #[.int .i64 r1.1, .int .i64 r2.1, .string (strOfNums r3.1), .slice An r4.1.length cn, .int .i64 r5.1, .int .i64 r6.1, .slice Ac r7.1.length cc, .slice Au r8.1.length cu, .int .i64 r9.1, .bool r10.1]] W13 (BoolB (icB ⟨r1.1, r2.1, strOfNums r3.1, r4.1, r5.1, r6.1, r7.1, r8.1, r9.1, r10.1⟩) W13) from right15 (Ins w w.heap.size p q) r1.1 r2.1 r5.1 r6.1 r9.1 (strOfNums r3.1) An Ac Au cn cc cu r4.1 r7.1 r8.1 r10.1 W13 (by rw [strOf_size]; exact HL.out.1) RS11.out.rn RS11.out.rc RS11.out.ru HL.out.2.1 HL.out.2.2.1 HL.out.2.2.2)
  obtain ⟨x0, x1, x2⟩ := RS11.out.x.facts
  clear HL H11
  by_cases h0 : er = 0
  · have e0 : (er != 0) = false := by rw [h0]; rfl
    have e1 : (er == 0) = true := by rw [h0]; rfl
    cases hv : icB ⟨r1.1, r2.1, strOfNums r3.1, r4.1, r5.1, r6.1, r7.1, r8.1, r9.1, r10.1⟩ with
    | true =>
      have HE := Lib.hid (show DX = (⟨r1.1, r2.1, strOfNums r3.1, r4.1, r5.1, r6.1, r7.1, r8.1, r9.1, r10.1⟩, 0) by rw [HDX.out, if_pos ⟨h0, hv⟩])
      rw [hv] at H15
      clear hv HDX h0
      go_wp2_with (first | (go_at_call 54; ((with_reducible refine He.out.mono ?_); rintro e w13 ⟨rfl, rfl⟩)) | (go_at_call 15; ((with_reducible refine H15.out.mono ?_); rintro e w14 ⟨rfl, hb14⟩; have RSf := Lib.hid (RS11.out.mem hb14); clear hb14 x0 x1 x2; obtain ⟨x0, x1, x2⟩ := RSf.out.x.facts)) | (refine wpList_storeBlk rfl (.tmp 2) (.tmp 56) 25 rfl w.heap.size 25 _ #[.int .i64 r1.1, .int .i64 r2.1, .string (strOfNums r3.1), .slice An r4.1.length cn, .int .i64 r5.1, .int .i64 r6.1, .slice Ac r7.1.length cc, .slice Au r8.1.length cu, .int .i64 r9.1, .bool r10.1] _ 10 136 info25 rfl rfl rfl RSf.out.z rfl (ten_one (by simp [Value.oneCell'])) ?_; intro w16 hb16 hf16 hs16))
      refine bodyPost_ret (results_ct (p := 2) (u := 3) (ty := 25) Tryd.results22 _ _ w.heap.size 25 #[.int .i64 r1.1, .int .i64 r2.1, .string (strOfNums r3.1), .slice An r4.1.length cn, .int .i64 r5.1, .int .i64 r6.1, .slice Ac r7.1.length cc, .slice Au r8.1.length cu, .int .i64 r9.1, .bool r10.1] (0, 0) _ rfl hb16 Tryd.underlying25 rfl size25) rfl ?_
      rw [HE.out]
      refine ⟨An, Ac, Au, cn, cc, cu, rfl, ?_, ?_, ?_, ?_⟩
      · exact ((RSf.out.rn.fr hf16 (fun j hj e => hj.2.1 e)).old (by omega)).more (fun j hj => hj.2)
      · exact ((RSf.out.rc.fr hf16 (fun j hj e => hj.2.1 e)).old (by omega)).more (fun j hj => hj.2)
      · exact ((RSf.out.ru.fr hf16 (fun j hj e => hj.2.1 e)).old (by omega)).more (fun j hj => hj.2)
      · exact RSf.out.b.trans (hf16.below RSf.out.b.size (fun j hj e => by have e2 : j = w.heap.size := e; omega))
    | false =>
      have HE := Lib.hid (show DX = (zIc, 2) by rw [HDX.out, if_neg (by rw [hv]; rintro ⟨-, h⟩; cases h)])
      rw [hv] at H15
      clear hv HDX h0
      go_wp2_with (first | (go_at_call 54; ((with_reducible refine He.out.mono ?_); rintro e w13 ⟨rfl, rfl⟩)) | (go_at_call 15; ((with_reducible refine H15.out.mono ?_); rintro e w14 ⟨rfl, hb14⟩; have RSf := Lib.hid (RS11.out.mem hb14); clear hb14 x0 x1 x2; obtain ⟨x0, x1, x2⟩ := RSf.out.x.facts)) | (refine wpList_storeBlk rfl (.tmp 2) (.tmp 55) 25 rfl w.heap.size 25 _ #[.int .i64 0, .int .i64 0, .string ⟨#[]⟩, .slice none 0 0, .int .i64 0, .int .i64 0, .slice none 0 0, .slice none 0 0, .int .i64 0, .bool false] _ 10 136 info25 rfl rfl rfl RSf.out.z rfl (ten_one (by simp [Value.oneCell'])) ?_; intro w16 hb16 hf16 hs16))
      refine bodyPost_ret (results_ct (p := 2) (u := 3) (ty := 25) Tryd.results22 _ _ w.heap.size 25 #[.int .i64 0, .int .i64 0, .string ⟨#[]⟩, .slice none 0 0, .int .i64 0, .int .i64 0, .slice none 0 0, .slice none 0 0, .int .i64 0, .bool false] (0, 0) _ rfl hb16 Tryd.underlying25 rfl size25) rfl ?_
      rw [HE.out]
      exact rd_zero (RSf.out.b.trans (hf16.below RSf.out.b.size (fun j hj e => by have e2 : j = w.heap.size := e; omega)))
  · have e0 : (er != 0) = true := by simpa [bne] using h0
    have e1 : (er == 0) = false := by simpa using h0
    have HE := Lib.hid (show DX = (zIc, 2) by rw [HDX.out, if_neg (fun h => h0 h.1)])
    clear HDX h0
    go_wp2_with (first | (go_at_call 54; ((with_reducible refine He.out.mono ?_); rintro e w13 ⟨rfl, rfl⟩)) | (refine wpList_storeBlk rfl (.tmp 2) (.tmp 55) 25 rfl w.heap.size 25 _ #[.int .i64 0, .int .i64 0, .string ⟨#[]⟩, .slice none 0 0, .int .i64 0, .int .i64 0, .slice none 0 0, .slice none 0 0, .int .i64 0, .bool false] _ 10 136 info25 rfl rfl rfl RS11.out.z rfl (ten_one (by simp [Value.oneCell'])) ?_; intro w16 hb16 hf16 hs16))
    refine bodyPost_ret (results_ct (p := 2) (u := 3) (ty := 25) Tryd.results22 _ _ w.heap.size 25 #[.int .i64 0, .int .i64 0, .string ⟨#[]⟩, .slice none 0 0, .int .i64 0, .int .i64 0, .slice none 0 0, .slice none 0 0, .int .i64 0, .bool false] (0, 0) _ rfl hb16 Tryd.underlying25 rfl size25) rfl ?_
    rw [HE.out]
    exact rd_zero (RS11.out.b.trans (hf16.below RS11.out.b.size (fun j hj e => by have e2 : j = w.heap.size := e; omega)))
end Go.Proofs.YtipkicijfedfoaaDoor

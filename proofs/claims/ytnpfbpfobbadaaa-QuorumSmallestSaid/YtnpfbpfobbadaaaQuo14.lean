import Derived.Test.YtnpfbpfobbadaaaQuo12
import Derived.Deep.DeepCutAuto
namespace Go.Proofs.Ytnpfbpfobbadaaa
set_option linter.unusedVariables false
open Go.RowKit Go.Own Go.Quo
theorem MR.more {w : World} {B B' : Nat → Prop} {m : Ms} (h : MR w B m) (hB : ∀ k, B k → B' k) : MR w B' m := ⟨h.o.more hB, h.n.more hB, h.ol, h.nl⟩
theorem MR.grown {w w' : World} {B : Nat → Prop} {m : Ms} {row : Option Nat} (h : MR w B m) (hg : w.grownBy w' row) (hr : ∀ k, B k → some k ≠ row) : MR w' B m := ⟨Reads.grown h.o hg hr, Reads.grown h.n hg hr, h.ol, h.nl⟩
def msL (m : Ms) : List Value := [.slice m.A m.o.length m.c, .slice m.A' m.n.length m.c']
theorem msL_length (m : Ms) : (msL m).length = 2 := rfl
theorem msL_one (l : List Ms) : ∀ u ∈ l.flatMap msL, u.oneCell' = true := by
  intro u hu
  obtain ⟨x, _, hx⟩ := List.mem_flatMap.1 hu
  simp only [msL, List.mem_cons, List.not_mem_nil, or_false] at hx
  rcases hx with rfl | rfl <;> rfl
theorem memW_le (o n : List Int) : (memW o n).length ≤ 64 := by
  unfold memW
  split
  · exact memF_le o n
  · simp
theorem i24x : ∃ i, Try.prog.info? 24 = some i ∧ i.size = 2 := by obtain ⟨i, h, _, h2, _⟩ := info_parts info24; exact ⟨i, h, h2⟩
theorem msL_get (l : List Ms) (k j : Nat) (x : Ms) (hx : l[k]? = some x) (hj : j < 2) : (l.flatMap msL)[k * 2 + j]? = (msL x)[j]? := flat_get msL 2 msL_length l k j x hx hj
theorem msL_cells {w : World} {B : Nat → Prop} {A : Option Addr} {l : List Ms} (h : Reads w B 2 A l.length (l.flatMap msL)) {k : Nat} {x : Ms} (hx : l[k]? = some x) :
    w.cell? ⟨bk A, ofs A + k * 2, none⟩ = some (.slice x.A x.o.length x.c) ∧ w.cell? ⟨bk A, ofs A + k * 2 + 1, none⟩ = some (.slice x.A' x.n.length x.c') := by
  have hk : k < l.length := (List.getElem?_eq_some_iff.1 hx).1
  exact ⟨(h.cell2 (k * 2 + 0) (by omega) (by omega)).trans (msL_get _ _ _ _ hx (by omega)), (h.cell2 (k * 2 + 1) (by omega) (by omega)).trans (msL_get _ _ _ _ hx (by omega))⟩
set_option maxRecDepth 10000 in
set_option maxHeartbeats 4000000 in
theorem intersect_short (m z : Ms) (A : Option Addr) (c : Nat) (nx : List Int) (w : World) (h : MR w (· < w.heap.size) m) (hy : RI w (· < w.heap.size) A nx) (hz : MR w (· < w.heap.size) z) (h1 : m.o.length ≤ 40) (h2 : m.n.length ≤ 40) (h3 : nx.length ≤ 40) (h4 : z.o.length ≤ 40) (h5 : z.n.length ≤ 40) :
    Calls Try.prog 7 #[msV m, .slice A nx.length c, msV z] w (LawPost w) := by
  have HA := Lib.hid awake_any
  have h1d : decide (40 < m.o.length) = false := by simpa using h1
  have h2d : decide (40 < m.n.length) = false := by simpa using h2
  have h3d : decide (40 < nx.length) = false := by simpa using h3
  have h4d : decide (40 < z.o.length) = false := by simpa using h4
  have h5d : decide (40 < z.n.length) = false := by simpa using h5
  have HB := Lib.hid fun W' (hm : MR W' (· < w.heap.size) m) (hy : RI W' (· < w.heap.size) A nx) => begin_any _ _ m A c nx W' hm hy (by omega)
  have HE := Lib.hid fun W' (hm : MR W' (· < w.heap.size) m) => end_any _ m W' hm
  have hn0 : (begF m.o m.n nx).2.2 = 0 → NextM m.o m.n nx (begF m.o m.n nx).1 (begF m.o m.n nx).2.1 := by
    unfold begF
    split
    · split
      · intro e; simp at e
      · intro _; exact .inr (.inl ⟨rfl, rfl⟩)
    · intro e; simp at e
  have hn1 : (setF m.o m.n).2.2 = 0 → NextM m.o m.n nx (setF m.o m.n).1 (setF m.o m.n).2.1 := by
    unfold setF
    split
    · split
      · intro e; simp at e
      · rename_i hne; intro _; exact .inr (.inr ⟨rfl, rfl, hne⟩)
    · intro e; simp at e
  have hl0 : (begF m.o m.n nx).2.2 = 0 → m.n.length = 0 := by
    unfold begF
    split
    · split
      · intro e; simp at e
      · intro _; omega
    · intro e; simp at e
  have hl1 : (setF m.o m.n).2.2 = 0 → m.n.length ≠ 0 := by
    unfold setF
    split
    · split
      · intro e; simp at e
      · rename_i hne; intro _; exact hne
    · intro e; simp at e
  generalize begF m.o m.n nx = bf at HB hn0 hl0
  generalize setF m.o m.n = sf at HE hn1 hl1
  obtain ⟨bo, bn, be⟩ := bf
  obtain ⟨so, sn, se⟩ := sf
  simp only at HB HE hn0 hn1 hl0 hl1
  have HN0 := Lib.hid hn0
  have HN1 := Lib.hid hn1
  have HL0 := Lib.hid hl0
  have HL1 := Lib.hid hl1
  have hm1 := ((h.alloc (.cells (msC m) 24)).alloc (.cells (msC z) 41)).alloc (.cells (msC m) 24)
  have hy1 := ((hy.alloc (.cells (msC m) 24)).alloc (.cells (msC z) 41)).alloc (.cells (msC m) 24)
  have hz1 := ((hz.alloc (.cells (msC m) 24)).alloc (.cells (msC z) 41)).alloc (.cells (msC m) 24)
  have g1 : Blk (((w.alloc (.cells (msC m) 24)).alloc (.cells (msC z) 41)).alloc (.cells (msC m) 24)) w.heap.size 24 (msC m) := ((Blk.new w 24 _).alloc _).alloc _
  have k1 : Blk (((w.alloc (.cells (msC m) 24)).alloc (.cells (msC z) 41)).alloc (.cells (msC m) 24)) (w.heap.size + 1) 41 (msC z) := by simpa using (Blk.new (w.alloc (.cells (msC m) 24)) 41 (msC z)).alloc (.cells (msC m) 24)
  have o1 : (((w.alloc (.cells (msC m) 24)).alloc (.cells (msC z) 41)).alloc (.cells (msC m) 24)).ownsRow (w.heap.size + 2) 24 2 (.slice (some ⟨w.heap.size + 1 + 1, 0, none⟩) 1 1) 1 (msL m) := by
    have := World.ownsRow_lit (base := w.heap.size + 2) (e := 24) (size := 2) ((w.alloc (.cells (msC m) 24)).alloc (.cells (msC z) 41)) (msC m) 1 (by simp) (by simp only [maxLen]; omega) rfl
    simpa [msL] using this
  have s1 : w.heap.size + 3 ≤ (((w.alloc (.cells (msC m) 24)).alloc (.cells (msC z) 41)).alloc (.cells (msC m) 24)).heap.size := by simp
  have b1 : Below w.heap.size w (((w.alloc (.cells (msC m) 24)).alloc (.cells (msC z) 41)).alloc (.cells (msC m) 24)) := (((Below.refl _ _).alloc (Nat.le_refl _) _).alloc (by simp) _).alloc (by simp; omega) _
  clear h hy hz hn0 hn1 hl0 hl1
  go_enter Try.func7, Try.ntmps7
  go_wp2_with fail
  generalize ((w.alloc (.cells (msC m) 24)).alloc (.cells (msC z) 41)).alloc (.cells (msC m) 24) = W1 at *
  refine (HB.out W1 hm1 hy1).mono ?_
  rintro e w2 ⟨ma, ea1, ea2, rfl, ra, hB2⟩
  have EA1 := Lib.hid ea1; have EA2 := Lib.hid ea2; clear ea1 ea2
  have hm2 := (hm1.below hB2).alloc (.cells (msC ma) 24)
  have hz2 := (hz1.below hB2).alloc (.cells (msC ma) 24)
  have g2a := g1.below hB2 g1.lt
  have g2 := g2a.alloc (.cells (msC ma) 24)
  have k2 := (k1.below hB2 k1.lt).alloc (.cells (msC ma) 24)
  have o2 := (own_below o1 hB2).alloc (.cells (msC ma) 24)
  have b2a := b1.trans (hB2.mono b1.size)
  have b2 := b2a.alloc b2a.size (.cells (msC ma) 24)
  have ra2 : MR (w2.alloc (.cells (msC ma) 24)) (fun k => k < w.heap.size ∨ w.heap.size + 3 ≤ k) ma := (ra.alloc (.cells (msC ma) 24)).more (fun k hk => by rcases hk with (hk | hk) | hk <;> omega)
  have ka2 : Blk (w2.alloc (.cells (msC ma) 24)) w2.heap.size 24 (msC ma) := Blk.new w2 24 _
  have hs2 : w.heap.size + 2 ≤ (w2.alloc (.cells (msC ma) 24)).heap.size := by have := k2.lt; omega
  clear hm1 hy1 hz1 g1 k1 o1 b1 ra hB2 b2a
  obtain ⟨p0, p1, p2⟩ := ka2.facts
  go_upto_if 54 with (fail)
  go_cut [7] (fun v wx => ∃ (L : List Ms) (Al : Option Addr) (cl : Nat), v = .slice Al L.length cl ∧ L.length ≤ 2 ∧ wx.ownsRow (w.heap.size + 2) 24 2 (.slice Al L.length cl) L.length (L.flatMap msL) ∧ (∀ d ∈ L, NextM m.o m.n nx d.o d.n ∧ MR wx (fun k => k < w.heap.size ∨ w.heap.size + 3 ≤ k) d) ∧ MR wx (· < w.heap.size) m ∧ MR wx (· < w.heap.size) z ∧ Blk wx w.heap.size 24 (msC m) ∧ Blk wx (w.heap.size + 1) 41 (msC z) ∧ Below w.heap.size w wx ∧ ((L = [m] ∧ Al = some ⟨w.heap.size + 1 + 1, 0, none⟩ ∧ cl = 1) ∨ m.n.length = 0))
  case first =>
    cases hbe : (be == 0) with
    | true =>
      have hbe0 : be = 0 := by simpa using hbe
      have HNx := Lib.hid (HN0.out hbe0)
      have HLx := Lib.hid (HL0.out hbe0)
      clear hbe0
      go_wp2_with (at_builtin; refine wpList_append_any _ rfl _ _ _ rfl (w.heap.size + 2) 24 _ 2 48 Try.underlying42 info24 rfl (by omega) (.slice (some ⟨w.heap.size + 1 + 1, 0, none⟩) 1 1) 1 (msL m) rfl (o2.alloc _) _ (some ⟨w2.heap.size + 1, 0, none⟩) 1 1 (msL ma) rfl (Reads.newS _ (msL ma) 24 (0, 0) 1 2 rfl _ (by simp)) (by intro u hu; exact msL_one [ma] u (by simpa using hu)) (by simp only [maxLen]; omega) (by omega) (by simp at hs2 ⊢; omega) ?_; intro A4 c4 w4 hown4 hgr4 hat4)
      go_meet
      case rel =>
        have hgn : ∀ k, (k < w.heap.size ∨ w.heap.size + 3 ≤ k) → some k ≠ (Value.slice (some ⟨w.heap.size + 1 + 1, 0, none⟩) 1 1).ownBlock := by
          intro k hk e
          simp [Value.ownBlock] at e
          omega
        refine ⟨[m, ma], A4, c4, rfl, by simp, by simpa [msL] using hown4, ?_, (hm2.alloc _).grown hgr4 (fun k hk => hgn k (.inl hk)), (hz2.alloc _).grown hgr4 (fun k hk => hgn k (.inl hk)), (g2.alloc _).grown hgr4 (by simp [Value.ownBlock]; omega), (k2.alloc _).grown hgr4 (by simp [Value.ownBlock]), (b2.alloc b2.size _).grown hgr4 (Nat.le_trans b2.size (by simp)) (fun g hg => by simp [Value.ownBlock] at hg; omega), .inr HLx.out⟩
        intro d hd
        simp at hd
        rcases hd with rfl | rfl
        · exact ⟨.inl ⟨rfl, rfl⟩, ((hm2.alloc _).more (fun k hk => .inl hk)).grown hgr4 hgn⟩
        · exact ⟨by rw [EA1.out, EA2.out]; exact HNx.out, (ra2.alloc _).grown hgr4 hgn⟩
    | false =>
      go_wp2_with fail
      go_meet
      case rel =>
        refine ⟨[m], _, _, rfl, by simp, by simpa using o2, ?_, hm2, hz2, g2, k2, b2, .inl ⟨rfl, rfl, rfl⟩⟩
        intro d hd
        simp at hd; subst hd
        exact ⟨.inl ⟨rfl, rfl⟩, hm2.more (fun k hk => .inl hk)⟩
  case rest =>
    obtain ⟨L, Al, cl, rfl, hL2, hown, hLs, hm3, hz3, g3, k3, b3, hdis⟩ := hcut
    have HLs := Lib.hid hLs
    have HD := Lib.hid hdis
    clear hLs hdis HB HN0 HL0 EA1 EA2 hm2 hz2 g2a g2 k2 o2 b2 ra2 ka2 hs2 p0 p1 p2
    obtain ⟨wb, rfl⟩ : ∃ wb : World, wb = wc := ⟨_, rfl⟩
    obtain ⟨r0, r1, r2⟩ := g3.facts
    have s3 : w.heap.size + 2 ≤ wb.heap.size := by have := k3.lt; omega
    go_wp2_with fail
    refine (HE.out wb hm3).mono ?_
    rintro e w4 ⟨mb, eb1, eb2, rfl, rb, hB4⟩
    have EB1 := Lib.hid eb1; have EB2 := Lib.hid eb2; clear eb1 eb2
    have hm4 := (hm3.below hB4).alloc (.cells (msC mb) 24)
    have hz4 := (hz3.below hB4).alloc (.cells (msC mb) 24)
    have g4 := (g3.below hB4 g3.lt).alloc (.cells (msC mb) 24)
    have k4 := (k3.below hB4 k3.lt).alloc (.cells (msC mb) 24)
    have o4 := (own_below hown hB4).alloc (.cells (msC mb) 24)
    have b4a := b3.trans (hB4.mono b3.size)
    have b4 := b4a.alloc b4a.size (.cells (msC mb) 24)
    have hs4 := hB4.size
    have hL0 : w.heap.size + 3 ≤ wb.heap.size ∨ m.n.length = 0 := by
      rcases HD.out with ⟨e1, e2, e3⟩ | h0
      · left
        have := (hown.lt (w.heap.size + 1 + 1) (by subst e1 e2 e3; rfl)).2
        omega
      · exact .inr h0
    have HL0 := Lib.hid hL0
    have rb4 := rb.alloc (.cells (msC mb) 24)
    have kb4 : Blk (w4.alloc (.cells (msC mb) 24)) w4.heap.size 24 (msC mb) := Blk.new w4 24 _
    have HLs4 := Lib.hid fun d hd => (show _ ∧ _ from ⟨(HLs.out d hd).1, ((HLs.out d hd).2.below hB4).alloc (.cells (msC mb) 24)⟩)
    clear hm3 hz3 g3 k3 hown b3 rb hB4 b4a hL0 r0 r1 r2 HLs HE
    obtain ⟨p0, p1, p2⟩ := kb4.facts
    go_upto_if 65 with (fail)
    go_cut [7] (fun v wx => ∃ (L : List Ms) (Al : Option Addr) (cl : Nat), v = .slice Al L.length cl ∧ L.length ≤ 2 ∧ Reads wx (· < wx.heap.size) 2 Al L.length (L.flatMap msL) ∧ (∀ d ∈ L, NextM m.o m.n nx d.o d.n ∧ MR wx (· < wx.heap.size) d) ∧ MR wx (· < wx.heap.size) m ∧ MR wx (· < wx.heap.size) z ∧ Blk wx w.heap.size 24 (msC m) ∧ Blk wx (w.heap.size + 1) 41 (msC z) ∧ Below w.heap.size w wx)
    case first =>
      cases hse : (se == 0) with
      | true =>
        have hse0 : se = 0 := by simpa using hse
        have HNx := Lib.hid (HN1.out hse0)
        obtain ⟨rfl, rfl, rfl⟩ : L = [m] ∧ Al = some ⟨w.heap.size + 1 + 1, 0, none⟩ ∧ cl = 1 := by
          rcases HD.out with h | h
          · exact h
          · exact absurd h (HL1.out hse0)
        have hs3 : w.heap.size + 3 ≤ wb.heap.size := by
          rcases HL0.out with h | h
          · exact h
          · exact absurd h (HL1.out hse0)
        clear hse0 HD HL0
        have o4' : (w4.alloc (.cells (msC mb) 24)).ownsRow (w.heap.size + 2) 24 2 (.slice (some ⟨w.heap.size + 1 + 1, 0, none⟩) 1 1) 1 (msL m) := by simpa using o4
        clear o4
        go_wp2_with (at_builtin; refine wpList_append_any _ rfl _ _ _ rfl (w.heap.size + 2) 24 _ 2 48 Try.underlying42 info24 rfl (by omega) (.slice (some ⟨w.heap.size + 1 + 1, 0, none⟩) 1 1) 1 (msL m) rfl (o4'.alloc _) _ (some ⟨w4.heap.size + 1, 0, none⟩) 1 1 (msL mb) rfl (Reads.newS _ (msL mb) 24 (0, 0) 1 2 rfl _ (by simp)) (by intro u hu; exact msL_one [mb] u (by simpa using hu)) (by simp only [maxLen]; omega) (by omega) (by simp; omega) ?_; intro A5 c5 w5 hown5 hgr5 hat5)
        go_meet
        case rel =>
          have hgn : ∀ k, (k < w.heap.size ∨ w.heap.size + 3 ≤ k) → some k ≠ (Value.slice (some ⟨w.heap.size + 1 + 1, 0, none⟩) 1 1).ownBlock := by
            intro k hk e
            simp [Value.ownBlock] at e
            omega
          have hsz := hgr5.size
          simp at hsz
          have old : ∀ {x : Ms} {B : Nat → Prop}, MR w5 B x → MR w5 (· < w5.heap.size) x := fun h => h.old
          refine ⟨[m, mb], A5, c5, rfl, by simp, ?_, ?_, old ((hm4.alloc _).grown hgr5 (fun k hk => hgn k (.inl hk))), old ((hz4.alloc _).grown hgr5 (fun k hk => hgn k (.inl hk))), (g4.alloc _).grown hgr5 (by simp [Value.ownBlock]; omega), (k4.alloc _).grown hgr5 (by simp [Value.ownBlock]), (b4.alloc b4.size _).grown hgr5 (Nat.le_trans b4.size (by simp)) (fun g hg => by simp [Value.ownBlock] at hg; omega)⟩
          · have := ((Reads.of_own hown5).old (by omega)).more (fun k hk => hk.2)
            simpa [msL] using this
          · intro d hd
            simp at hd
            rcases hd with rfl | rfl
            · exact ⟨.inl ⟨rfl, rfl⟩, old ((hm4.alloc _).grown hgr5 (fun k hk => hgn k (.inl hk)))⟩
            · exact ⟨by rw [EB1.out, EB2.out]; exact HNx.out, old ((rb4.alloc _).grown hgr5 (fun k hk => hgn k (by omega)))⟩
      | false =>
        go_wp2_with fail
        go_meet
        case rel =>
          exact ⟨L, Al, cl, rfl, hL2, ((Reads.of_own o4).old (by omega)).more (fun k hk => hk.2), fun d hd => ⟨(HLs4.out d hd).1, (HLs4.out d hd).2.old⟩, hm4.old, hz4.old, g4, k4, b4⟩
    case rest =>
      clear hL2 HD HL0 hm4 hz4 g4 k4 o4 b4 rb4 kb4 HLs4 p0 p1 p2 EB1 EB2 HN1 HL1 s3 hs4 s1
      clear L Al cl
      obtain ⟨L, Al, cl, rfl, hL2, hRL, hLs, hm5, hz5, g5, k5, b5⟩ := hcut
      have HLs := Lib.hid hLs; clear hLs
      obtain ⟨wd, rfl⟩ : ∃ wd : World, wd = wc := ⟨_, rfl⟩
      have pL := hRL.plain (by omega)
      obtain ⟨i24, hi24, hi241⟩ := i24x
      go_wp2_with fail
      go_loopw [72] (fun vi wr => ∃ k : Nat, k ≤ L.length ∧ vi = .int .i64 k ∧ Below wd.heap.size wd wr) (fun i _ => L.length - (intOf i).toNat)
      case atStart => exact ⟨0, Nat.zero_le _, rfl, Below.refl _ _⟩
      case round =>
        obtain ⟨k, hk, rfl, hb⟩ := hrel
        have hsr := hb.size
        by_cases hlt : k < L.length
        · have hlt' : (k : Int) < L.length := by omega
          obtain ⟨d, hgd⟩ : ∃ d, L[k]? = some d := ⟨_, List.getElem?_eq_getElem hlt⟩
          have hix := fun W => run_indexAt2 (P := Try.prog) Try.underlying42 hi24 hi241 pL cl k hlt W
          obtain ⟨c0, c1⟩ := msL_cells (hRL.below hb (fun _ h => h)) hgd
          obtain ⟨hnx, hmd⟩ := HLs.out d (List.mem_of_getElem? hgd)
          have HNx := Lib.hid hnx
          clear hgd hnx
          have hm6 := (hm5.below hb).alloc (.cells (msC d) 24)
          have hz6 := (hz5.below hb).alloc (.cells (msC d) 24)
          have hd6 := (hmd.below hb).alloc (.cells (msC d) 24)
          have g6 := (g5.below hb g5.lt).alloc (.cells (msC d) 24)
          have k6 := (k5.below hb k5.lt).alloc (.cells (msC d) 24)
          have d6 : Blk (wr.alloc (.cells (msC d) 24)) wr.heap.size 24 (msC d) := Blk.new wr 24 _
          have b6 := hb.alloc hsr (.cells (msC d) 24)
          have hr6 : wr.heap.size < (wr.alloc (.cells (msC d) 24)).heap.size := by simp
          have HR1 := Lib.hid (reached_any _ _ m z.A z.c z.o _ hm6 hz6.o (by omega))
          have HR2 := Lib.hid fun W' (x1 : MR W' (· < wd.heap.size) d) (x2 : MR W' (· < wd.heap.size) z) => reached_any _ _ d z.A' z.c' z.n W' x1 x2.n (by omega)
          go_upto_region 13 with (fail)
          obtain ⟨wo, rfl⟩ : ∃ wo : World, wo = wr := ⟨_, rfl⟩
          generalize wo.alloc (.cells (msC d) 24) = W6 at *
          clear c0 c1 hix hmd
          obtain ⟨e0, e1, e2⟩ := g6.facts
          obtain ⟨f0, f1, f2⟩ := k6.facts
          cases hr1 : reachB m.o m.n z.o with
          | false =>
            rw [hr1] at HR1
            clear hr1
            go_wp2_with (go_at_call 11; ((with_reducible refine HR1.out.mono ?_); rintro e w7 ⟨rfl, hB7⟩))
            exact ⟨⟨k + 1, by omega, by go_num, b6.trans (hB7.mono b6.size)⟩, by simp [intOf]; omega⟩
          | true =>
            cases hr2 : reachB d.o d.n z.n with
            | false =>
              rw [hr1] at HR1
              rw [hr2] at HR2
              clear hr1 hr2
              go_wp2_with (first
                | (go_at_call 11; ((with_reducible refine HR1.out.mono ?_); rintro e w7 ⟨rfl, hB7⟩; have b7 := b6.trans (hB7.mono b6.size); obtain ⟨e3, e4, e5⟩ := (k6.below hB7 k6.lt).facts; obtain ⟨f3, f4, f5⟩ := (d6.below hB7 d6.lt).facts; have HR3 := Lib.hid (HR2.out w7 (hd6.below hB7) (hz6.below hB7))))
                | (go_at_call 11; ((with_reducible refine HR3.out.mono ?_); rintro e w8 ⟨rfl, hB8⟩)))
              exact ⟨⟨k + 1, by omega, by go_num, b7.trans (hB8.mono b7.size)⟩, by simp [intOf]; omega⟩
            | true =>
              have HMet := Lib.hid (met_all (meet_next HNx.out hr1 hr2))
              rw [hr1] at HR1
              rw [hr2] at HR2
              clear hr1 hr2
              go_wp2_with (first
                | (go_at_call 11; ((with_reducible refine HR1.out.mono ?_); rintro e w7 ⟨rfl, hB7⟩; have b7 := b6.trans (hB7.mono b6.size); have k7 := k6.below hB7 k6.lt; have g7 := g6.below hB7 g6.lt; have d7 := d6.below hB7 d6.lt; have hm7 := hm6.below hB7; have hd7 := hd6.below hB7; have hz7 := hz6.below hB7; obtain ⟨e3, e4, e5⟩ := k7.facts; obtain ⟨f3, f4, f5⟩ := d7.facts; have HR3 := Lib.hid (HR2.out w7 hd7 hz7)))
                | (go_at_call 11; ((with_reducible refine HR3.out.mono ?_); rintro e W8 ⟨rfl, hB8⟩; have b8 := b7.trans (hB8.mono b7.size); have k8 := k7.below hB8 k7.lt; have g8 := g7.below hB8 g7.lt; have d8 := d7.below hB8 d7.lt; have hm8 := hm7.below hB8; have hd8 := hd7.below hB8; have hz8 := hz7.below hB8; obtain ⟨e6, e7, e8⟩ := k8.facts)))
              clear e0 e1 e2 f0 f1 f2 e3 e4 e5 f3 f4 f5 HR1 HR2 HR3 hm6 hd6 hz6 hm7 hd7 hz7 g6 k6 d6 g7 k7 d7 hB7 hB8 b6 b7 e6 e7 e8
              have HMm := Lib.hid fun W' (x1 : MR W' (· < wd.heap.size) m) => (show Calls Try.prog 28 #[msV m] W' (MemPost (memW m.o m.n) W') from members_any _ m W' x1)
              have HMd := Lib.hid fun W' (x1 : MR W' (· < wd.heap.size) d) => (show Calls Try.prog 28 #[msV d] W' (MemPost (memW d.o d.n) W') from members_any _ d W' x1)
              have lm := memW_le m.o m.n
              have ld := memW_le d.o d.n
              have pz := hz8.o.plain (by omega)
              have HSu := Lib.hid (met_succ m.o m.n d.o d.n z.o z.n)
              have HMe := Lib.hid fun x => (show meets m.o m.n d.o d.n z.n x = (hasB z.n x && hasB (memW m.o m.n) x && hasB (memW d.o d.n) x) from rfl)
              have HM0 := Lib.hid (show metUpTo m.o m.n d.o d.n z.o z.n 0 = false from rfl)
              generalize metUpTo m.o m.n d.o d.n z.o z.n = M at *
              generalize meets m.o m.n d.o d.n z.n = ME at *
              generalize memW m.o m.n = lsm at *
              generalize memW d.o d.n = lsd at *
              go_loopw [14, 89] (fun vm vj wr => ∃ j : Nat, j ≤ z.o.length ∧ vj = .int .i64 j ∧ vm = .bool (M j) ∧ Below W8.heap.size W8 wr) (fun _ i _ => z.o.length - (intOf i).toNat)
              case atStart => exact ⟨0, Nat.zero_le _, rfl, by rw [HM0.out], Below.refl _ _⟩
              case round =>
                obtain ⟨j, hj, rfl, rfl, hbj⟩ := hrel
                have hsj := hbj.size
                have gj := g8.below hbj g8.lt
                have kj := k8.below hbj k8.lt
                have dj := d8.below hbj d8.lt
                have hmj := hm8.below hbj
                have hdj := hd8.below hbj
                have hzj := hz8.below hbj
                by_cases hjl : j < z.o.length
                · have hjl' : (j : Int) < z.o.length := by omega
                  have hixj := fun W => ix22 pz z.c j hjl W
                  have hcj := RI.at_ hzj.o hjl
                  have HSj := Lib.hid (HSu.out j hjl)
                  have HEj := Lib.hid (HMe.out (gd z.o j))
                  clear HMe HSu HMet HM0
                  generalize gd z.o j = x at *
                  obtain ⟨e0, e1, e2⟩ := gj.facts
                  obtain ⟨f0, f1, f2⟩ := kj.facts
                  have HH1 := Lib.hid fun q hq => has_b _ z.A' z.c' z.n x wr hzj.n (by omega) q hq
                  have HHm := Lib.hid fun (W' : World) (B' : Nat → Prop) (A' : Option Addr) (c' : Nat) (r : RI W' B' A' lsm) q hq => has_b B' A' c' lsm x W' r (by omega) q hq
                  have HHd := Lib.hid fun (W' : World) (B' : Nat → Prop) (A' : Option Addr) (c' : Nat) (r : RI W' B' A' lsd) q hq => has_b B' A' c' lsd x W' r (by omega) q hq
                  cases hMj : M j with
                  | true =>
                    have HS := Lib.hid (show M (j + 1) = true by rw [HSj.out, hMj]; rfl)
                    clear hMj
                    go_wp2_with fail
                    exact ⟨⟨j + 1, by omega, by go_num, by rw [HS.out], hbj⟩, by simp [intOf]; omega⟩
                  | false =>
                    have HS := Lib.hid (show M (j + 1) = (hasB z.n x && hasB lsm x && hasB lsd x) by rw [HSj.out, hMj, HEj.out]; rfl)
                    clear hMj HSj HEj
                    cases q1 : hasB z.n x with
                    | false =>
                      have HH1 := Lib.hid (HH1.out false q1)
                      rw [q1] at HS
                      clear q1
                      go_wp2_with (go_at_call 27; ((with_reducible refine HH1.out.mono ?_); rintro e w9 ⟨rfl, rfl⟩))
                      exact ⟨⟨j + 1, by omega, by go_num, by rw [HS.out]; rfl, hbj⟩, by simp [intOf]; omega⟩
                    | true =>
                      have HH1 := Lib.hid (HH1.out true q1)
                      rw [q1] at HS
                      clear q1
                      have HMm := Lib.hid (HMm.out wr hmj)
                      cases q2 : hasB lsm x with
                      | false =>
                        have HHm := Lib.hid fun W' B' A' c' r => HHm.out W' B' A' c' r false q2
                        rw [q2] at HS
                        clear q2
                        go_wp2_with (first
                          | (go_at_call 27; ((with_reducible refine HH1.out.mono ?_); rintro e w9 ⟨rfl, rfl⟩))
                          | (go_at_call 28; ((with_reducible refine HMm.out.mono ?_); rintro e w9 ⟨A9, c9, rfl, r9, hB9, hc9⟩; have HH9 := Lib.hid (HHm.out w9 _ A9 c9 r9)))
                          | (go_at_call 27; ((with_reducible refine HH9.out.mono ?_); rintro e w10 ⟨rfl, rfl⟩)))
                        exact ⟨⟨j + 1, by omega, by go_num, by rw [HS.out]; rfl, hbj.trans (hB9.mono hsj)⟩, by simp [intOf]; omega⟩
                      | true =>
                        have HHm := Lib.hid fun W' B' A' c' r => HHm.out W' B' A' c' r true q2
                        rw [q2] at HS
                        clear q2
                        obtain ⟨q3, hq3⟩ : ∃ q3, hasB lsd x = q3 := ⟨_, rfl⟩
                        have HHd := Lib.hid fun W' B' A' c' r => HHd.out W' B' A' c' r q3 hq3
                        rw [hq3] at HS
                        clear hq3
                        go_wp2_with (first
                          | (go_at_call 27; ((with_reducible refine HH1.out.mono ?_); rintro e w9 ⟨rfl, rfl⟩))
                          | (go_at_call 28; ((with_reducible refine HMm.out.mono ?_); rintro e w9 ⟨A9, c9, rfl, r9, hB9, hc9⟩; have HH9 := Lib.hid (HHm.out w9 _ A9 c9 r9); obtain ⟨y0, y1, y2⟩ := (dj.below hB9 dj.lt).facts; have HD9 := Lib.hid (HMd.out w9 (hdj.below hB9))))
                          | (go_at_call 27; ((with_reducible refine HH9.out.mono ?_); rintro e w10 ⟨rfl, rfl⟩))
                          | (go_at_call 28; ((with_reducible refine HD9.out.mono ?_); rintro e w11 ⟨A11, c11, rfl, r11, hB11, hc11⟩; have HH11 := Lib.hid (HHd.out w11 _ A11 c11 r11)))
                          | (go_at_call 27; ((with_reducible refine HH11.out.mono ?_); rintro e w12 ⟨rfl, rfl⟩)))
                        have b9 := hbj.trans (hB9.mono hsj)
                        exact ⟨⟨j + 1, by omega, by go_num, by rw [HS.out]; rfl, b9.trans (hB11.mono b9.size)⟩, by simp [intOf]; omega⟩
                · have hjl' : ¬ (j : Int) < z.o.length := by omega
                  have HK := Lib.hid (show M j = true by have : j = z.o.length := by omega
                                                         rw [this]; exact HMet.out)
                  have hMj := HK.out
                  go_wp2_with fail
                  exact ⟨⟨k + 1, by omega, by go_num, b8.trans (hbj.mono b8.size)⟩, by simp [intOf]; omega⟩
        · have hge : ¬ ((k : Int) < L.length) := by omega
          go_wp2_with (go_at_call 10; ((with_reducible refine (HA.out _).mono ?_); rintro e w9 ⟨rfl, hb9⟩))
          go_ret
          have b9 := b5.trans (hb.mono b5.size)
          exact ⟨rfl, b9.trans (hb9.mono b9.size)⟩
end Go.Proofs.Ytnpfbpfobbadaaa

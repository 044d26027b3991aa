import Derived.Test.YtnpfbpfobbadaaaQuo10
namespace Go.Proofs.Ytnpfbpfobbadaaa
set_option linter.unusedVariables false
open Go.RowKit Go.Own Go.Quo
set_option maxRecDepth 10000 in
set_option maxHeartbeats 1000000 in
theorem change_long (m : Ms) (A : Option Addr) (n c : Nat) (w : World) (h : 40 < m.o.length ∨ 40 < m.n.length ∨ 40 < n) :
    Calls Try.prog 6 #[msV m, .slice A n c] w (LawPost w) := by
  have HA := Lib.hid awake_any
  by_cases h1 : 40 < m.o.length
  · have h1' : (40 : Int) < m.o.length := by omega
    clear h
    go_enter Try.func6, Try.ntmps6
    go_wp2_with (go_at_call 10; ((with_reducible refine (HA.out _).mono ?_); rintro e w2 ⟨rfl, hb2⟩))
    go_ret
    exact ⟨rfl, ((Below.refl _ _).alloc (Nat.le_refl _) _).trans (hb2.mono (by simp))⟩
  have h1d : decide (40 < m.o.length) = false := by simpa using h1
  by_cases h2 : 40 < m.n.length
  · have h2' : (40 : Int) < m.n.length := by omega
    clear h
    go_enter Try.func6, Try.ntmps6
    go_wp2_with (go_at_call 10; ((with_reducible refine (HA.out _).mono ?_); rintro e w2 ⟨rfl, hb2⟩))
    go_ret
    exact ⟨rfl, ((Below.refl _ _).alloc (Nat.le_refl _) _).trans (hb2.mono (by simp))⟩
  have h2d : decide (40 < m.n.length) = false := by simpa using h2
  have h3 : 40 < n := by omega
  have h3' : (40 : Int) < n := by omega
  clear h
  go_enter Try.func6, Try.ntmps6
  go_wp2_with (go_at_call 10; ((with_reducible refine (HA.out _).mono ?_); rintro e w2 ⟨rfl, hb2⟩))
  go_ret
  exact ⟨rfl, ((Below.refl _ _).alloc (Nat.le_refl _) _).trans (hb2.mono (by simp))⟩
theorem MR.old {w : World} {B : Nat → Prop} {m : Ms} (h : MR w B m) : MR w (· < w.heap.size) m := ⟨(h.o.old (by omega)).more (fun _ hk => hk.2), (h.n.old (by omega)).more (fun _ hk => hk.2), h.ol, h.nl⟩
set_option maxRecDepth 10000 in
set_option maxHeartbeats 2000000 in
theorem change_short (B B2 : Nat → Prop) (m : Ms) (A : Option Addr) (c : Nat) (nx : List Int) (w : World) (h : MR w B m) (hy : RI w B2 A nx) (h1 : m.o.length ≤ 40) (h2 : m.n.length ≤ 40) (h3 : nx.length ≤ 40) :
    Calls Try.prog 6 #[msV m, .slice A nx.length c] w (LawPost w) := by
  have HA := Lib.hid awake_any
  have h1d : decide (40 < m.o.length) = false := by simpa using h1
  have h2d : decide (40 < m.n.length) = false := by simpa using h2
  have h3d : decide (40 < nx.length) = false := by simpa using h3
  have hm1 := h.alloc (.cells (msC m) 24)
  have hy1 := hy.alloc (.cells (msC m) 24)
  have g1 : Blk (w.alloc (.cells (msC m) 24)) w.heap.size 24 (msC m) := Blk.new w 24 _
  have b1 : Below w.heap.size w (w.alloc (.cells (msC m) 24)) := (Below.refl _ _).alloc (Nat.le_refl _) _
  clear h hy
  have HB := Lib.hid fun W' (hm : MR W' B m) (hy : RI W' B2 A nx) => begin_any B B2 m A c nx W' hm hy (by omega)
  have HR := Lib.hid fun W' (hm : MR W' B m) (hy : RI W' B2 A nx) => rbegin_any B B2 m A c nx W' hm hy (by omega)
  have HE := Lib.hid fun W' (hm : MR W' B m) => end_any B m W' hm
  have HS := Lib.hid fun W' (hm : MR W' B m) => settle_any B m W' hm
  generalize begF m.o m.n nx = bf at HB HR
  generalize setF m.o m.n = sf at HE HS
  obtain ⟨bo, bn, be⟩ := bf
  obtain ⟨so, sn, se⟩ := sf
  simp only at HB HR HE HS
  go_enter Try.func6, Try.ntmps6
  go_wp2_with fail
  generalize w.alloc (.cells (msC m) 24) = W1 at *
  refine (HB.out W1 hm1 hy1).mono ?_
  rintro e w2 ⟨ma, ea1, ea2, rfl, ra, hB2⟩
  have EA1 := Lib.hid ea1; have EA2 := Lib.hid ea2; clear ea1 ea2
  have hm2 := hm1.below hB2
  have hy2 := hy1.fr (S := fun _ => False) (Fr.of_below hB2) (fun _ _ => id)
  have g2 := g1.below hB2 g1.lt
  have b2 := b1.trans (hB2.mono b1.size)
  have ka : Blk (w2.alloc (.cells (msC ma) 24)) w2.heap.size 24 (msC ma) := Blk.new w2 24 _
  have hm2' := hm2.alloc (.cells (msC ma) 24)
  have hy2' := hy2.alloc (.cells (msC ma) 24)
  have g2' := g2.alloc (.cells (msC ma) 24)
  have b2' := b2.alloc b2.size (.cells (msC ma) 24)
  have ra' := ra.alloc (.cells (msC ma) 24)
  obtain ⟨p0, p1, p2⟩ := g2.facts
  clear hm1 hy1 g1 b1 hm2 hy2 g2 b2 hB2 ra
  go_wp2_with fail
  generalize w2.alloc (.cells (msC ma) 24) = W2 at *
  refine (HE.out W2 hm2').mono ?_
  rintro e w3 ⟨mb, eb1, eb2, rfl, rb, hB3⟩
  have EB1 := Lib.hid eb1; have EB2 := Lib.hid eb2; clear eb1 eb2
  have hm3 := (hm2'.below hB3).alloc (.cells (msC mb) 24)
  have hy3 := (hy2'.fr (S := fun _ => False) (Fr.of_below hB3) (fun _ _ => id)).alloc (.cells (msC mb) 24)
  have g3a := g2'.below hB3 g2'.lt
  have g3 := g3a.alloc (.cells (msC mb) 24)
  have ka3 := (ka.below hB3 ka.lt).alloc (.cells (msC mb) 24)
  have kb3 : Blk (w3.alloc (.cells (msC mb) 24)) w3.heap.size 24 (msC mb) := Blk.new w3 24 _
  have ra3 := (ra'.below hB3).alloc (.cells (msC mb) 24)
  have rb3 := rb.alloc (.cells (msC mb) 24)
  have b3a := b2'.trans (hB3.mono b2'.size)
  have b3 := b3a.alloc b3a.size (.cells (msC mb) 24)
  obtain ⟨p0', p1', p2'⟩ := g3a.facts
  clear hm2' hy2' g2' b2' ra' ka hB3 rb g3a b3a p0 p1 p2
  go_wp2_with fail
  clear p0' p1' p2'
  generalize w3.alloc (.cells (msC mb) 24) = W3 at *
  refine (HR.out W3 hm3 hy3).mono ?_
  rintro e w4 ⟨mc, ec1, ec2, rfl, rc, hB4⟩
  have EC1 := Lib.hid ec1; have EC2 := Lib.hid ec2; clear ec1 ec2
  have hm4 := (hm3.below hB4).alloc (.cells (msC mc) 24)
  have g4a := g3.below hB4 g3.lt
  have g4 := g4a.alloc (.cells (msC mc) 24)
  have ka4 := (ka3.below hB4 ka3.lt).alloc (.cells (msC mc) 24)
  have kb4 := (kb3.below hB4 kb3.lt).alloc (.cells (msC mc) 24)
  have kc4 : Blk (w4.alloc (.cells (msC mc) 24)) w4.heap.size 24 (msC mc) := Blk.new w4 24 _
  have ra4 := (ra3.below hB4).alloc (.cells (msC mc) 24)
  have rb4 := (rb3.below hB4).alloc (.cells (msC mc) 24)
  have rc4 := rc.alloc (.cells (msC mc) 24)
  have b4a := b3.trans (hB4.mono b3.size)
  have b4 := b4a.alloc b4a.size (.cells (msC mc) 24)
  obtain ⟨p0, p1, p2⟩ := g4a.facts
  clear hm3 hy3 g3 ka3 kb3 ra3 rb3 b3 hB4 rc g4a b4a
  go_wp2_with fail
  clear p0 p1 p2
  generalize w4.alloc (.cells (msC mc) 24) = W4 at *
  refine (HS.out W4 hm4).mono ?_
  rintro e w5 ⟨md, ed1, ed2, rfl, rd, hB5⟩
  have ED1 := Lib.hid ed1; have ED2 := Lib.hid ed2; clear ed1 ed2
  have ka5 := (ka4.below hB5 ka4.lt).alloc (.cells (msC md) 24)
  have kb5 := (kb4.below hB5 kb4.lt).alloc (.cells (msC md) 24)
  have kc5 := (kc4.below hB5 kc4.lt).alloc (.cells (msC md) 24)
  have kd5 : Blk (w5.alloc (.cells (msC md) 24)) w5.heap.size 24 (msC md) := Blk.new w5 24 _
  have ra5 := (ra4.below hB5).alloc (.cells (msC md) 24)
  have rb5 := (rb4.below hB5).alloc (.cells (msC md) 24)
  have rc5 := (rc4.below hB5).alloc (.cells (msC md) 24)
  have rd5 := rd.alloc (.cells (msC md) 24)
  have b5a := b4.trans (hB5.mono b4.size)
  have b5 := b5a.alloc b5a.size (.cells (msC md) 24)
  obtain ⟨x0, x1, x2⟩ := (ka4.below hB5 ka4.lt).facts
  obtain ⟨y0, y1, y2⟩ := (kc4.below hB5 kc4.lt).facts
  have HO1 := Lib.hid (one_eq _ _ ma mc _ ra5 rc5 (by rw [EC1.out, EA1.out]) (by rw [EC2.out, EA2.out]))
  have HO2 := Lib.hid fun W' (hb : Below (w5.alloc (.cells (msC md) 24)).heap.size (w5.alloc (.cells (msC md) 24)) W') => one_eq _ _ mb md W' (rb5.below hb) (rd5.below hb) (by rw [ED1.out, EB1.out]) (by rw [ED2.out, EB2.out])
  have HK := Lib.hid fun W' (hb : Below (w5.alloc (.cells (msC md) 24)).heap.size (w5.alloc (.cells (msC md) 24)) W') => And.intro (kb5.below hb kb5.lt).facts (kd5.below hb kd5.lt).facts
  clear hm4 g4 ka4 kb4 kc4 ra4 rb4 rc4 b4 hB5 rd b5a ka5 kb5 kc5 kd5 ra5 rb5 rc5 rd5
  go_wp2_with fail
  refine HO1.out.mono ?_
  rintro e w6 ⟨rfl, hB6⟩
  obtain ⟨⟨u0, u1, u2⟩, ⟨v0, v1, v2⟩⟩ := HK.out w6 hB6
  clear x0 x1 x2 y0 y1 y2
  go_wp2_with fail
  refine (HO2.out w6 hB6).mono ?_
  rintro e w7 ⟨rfl, hB7⟩
  go_wp2_with (go_at_call 10; ((with_reducible refine (HA.out _).mono ?_); rintro e w8 ⟨rfl, hB8⟩))
  go_ret
  have z6 := b5.trans (hB6.mono b5.size)
  have z7 := z6.trans (hB7.mono z6.size)
  exact ⟨rfl, z7.trans (hB8.mono z7.size)⟩
theorem change_law (m : Ms) (A : Option Addr) (c : Nat) (nx : List Int) (w : World) (h : MO w m) (hy : RI w (· < w.heap.size) A nx) :
    Calls Try.prog 6 #[msV m, .slice A nx.length c] w (LawPost w) := by
  by_cases hl : 40 < m.o.length ∨ 40 < m.n.length ∨ 40 < nx.length
  · exact change_long m A nx.length c w hl
  · exact change_short _ _ m A c nx w ⟨h.o, h.n, by omega, by omega⟩ hy (by omega) (by omega) (by omega)
end Go.Proofs.Ytnpfbpfobbadaaa

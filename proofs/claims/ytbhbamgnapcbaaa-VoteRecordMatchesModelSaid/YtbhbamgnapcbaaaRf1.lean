import Derived.Test.YtbhbamgnapcbaaaStp
import Derived.Test.YtbhbamgnapcbaaaRefR
namespace Go.Proofs.Ytbhbamgnapcbaaa
set_option linter.unusedVariables false
open Go.RowKit Go.Own Go.Quo Go.Wire
/-- A new own row of bytes. -/
def BRow (w : World) (base : Nat) (v : Value) (bs : List Int) : Prop := ∃ A c, v = .slice A bs.length c ∧ w.ownsRow base 5 1 (.slice A bs.length c) bs.length (bys bs)
def RiPost (bs : List Int) (w : World) (e : Ending) (w' : World) : Prop := ∃ A c, e = .returned (.slice A bs.length c) ∧ w'.ownsRow w.heap.size 5 1 (.slice A bs.length c) bs.length (bys bs) ∧ Below w.heap.size w w'
set_option maxRecDepth 10000 in
set_option maxHeartbeats 1000000 in
theorem rInt_any (n : Int) (w : World) (h0 : 0 ≤ n) (h1 : n < 4611686018427387904) :
    Calls Try.prog 49 #[.int .i64 n] w (RiPost (encI n) w) := by
  have hlen := encI_len (n := n) (by omega) (by omega)
  have hz : zig n = (2 * n).toNat := by unfold zig; rw [if_pos h0]
  have HE := Lib.hid (show encI n = encU (2 * n).toNat by unfold encI; rw [hz])
  clear hz
  generalize encI n = en at *
  have hwn : IntKind.u64.wrap n = n := by rw [IntKind.wrap_u64]; omega
  have hwm : IntKind.u64.wrap (n * 2) = n * 2 := by rw [IntKind.wrap_u64]; omega
  have hneg : ¬ n < 0 := by omega
  go_enter Try.func49, Try.ntmps49
  go_wp2_with fail
  have o0 : (w.alloc (.cells #[] 5)).ownsRow w.heap.size 5 1 (.slice (some ⟨w.heap.size, 0, none⟩) 0 0) 0 (bys []) := ⟨rfl, .inr ⟨w.heap.size, 0, #[], rfl, Nat.le_refl _, heap_alloc_new w _, Nat.le_refl _, by simp [maxLen], rfl, rfl⟩⟩
  have b0 : Below w.heap.size w (w.alloc (.cells #[] 5)) := (Below.refl _ _).alloc (Nat.le_refl _) _
  generalize w.alloc (.cells #[] 5) = W0 at *
  go_loopw [3, 4] (fun vu vb wr => ∃ (u : Nat) (o : List Int) (A : Option Addr) (c : Nat), vu = .int .u64 u ∧ u < 18446744073709551616 ∧ vb = .slice A o.length c ∧ wr.ownsRow w.heap.size 5 1 (.slice A o.length c) o.length (bys o) ∧ o ++ encU u = en ∧ Below w.heap.size w wr) (fun u _ _ => (intOf u).toNat)
  case atStart => exact ⟨(2 * n).toNat, [], _, 0, by congr 1; omega, by omega, rfl, o0, by rw [HE.out]; rfl, b0⟩
  case round =>
    obtain ⟨u, o, A, c, rfl, hu, rfl, hown, ho, hb⟩ := hrel
    have HO := Lib.hid ho
    have hsz := hb.size
    have hol : o.length + (encU u).length ≤ en.length := by rw [← List.length_append, ho]; exact Nat.le_refl _
    have HOw := Lib.hid hown
    have hol2 : o.length ≤ 30 := by omega
    clear ho hown
    by_cases h : u < 128
    · have h' : ¬ (128 : Int) ≤ u := by omega
      have hu8 : IntKind.u8.wrap (u : Int) = u := by rw [IntKind.wrap_u8']; omega
      go_wp2_with (at_builtin; refine wpList_append_any _ rfl _ _ _ rfl w.heap.size 5 _ 1 1 Try.underlying31 info5 rfl (by omega) (.slice A o.length c) o.length (bys o) rfl (HOw.out.alloc _) _ (some ⟨wr.heap.size, 0, none⟩) 1 1 [.int .u8 u] rfl (Reads.newS _ [.int .u8 u] 5 (0, 0) 1 1 rfl _ rfl) (by simp [Value.oneCell']) (by simp only [maxLen]; omega) (by omega) (by simp; omega) ?_; intro A4 c4 w4 hown4 hgr4 hat4)
      go_ret
      have e4 : en = o ++ [(u : Int)] := by rw [← HO.out, encU_lt h]
      refine ⟨A4, c4, by rw [e4]; simp, by rw [e4]; simpa [bys] using hown4, (hb.alloc hsz _).grown hgr4 (by simp; omega) (fun g hg => (HOw.out.lt g hg).1)⟩
    · have h' : (128 : Int) ≤ u := by omega
      go_wp2_with (at_builtin; refine wpList_append_any _ rfl _ _ _ rfl w.heap.size 5 _ 1 1 Try.underlying31 info5 rfl (by omega) (.slice A o.length c) o.length (bys o) rfl (HOw.out.alloc _) _ (some ⟨wr.heap.size, 0, none⟩) 1 1 [.int .u8 ((u : Int) % 128 + 128)] rfl (Reads.newS _ [.int .u8 ((u : Int) % 128 + 128)] 5 (0, 0) 1 1 rfl _ rfl) (by simp [Value.oneCell']) (by simp only [maxLen]; omega) (by omega) (by simp; omega) ?_; intro A4 c4 w4 hown4 hgr4 hat4)
      have hsh : (u : Int) / 128 = ((u / 128 : Nat) : Int) := by omega
      refine ⟨⟨u / 128, o ++ [(u : Int) % 128 + 128], A4, c4, congrArg _ hsh, by omega, by simp, by simpa [bys] using hown4, ?_, (hb.alloc hsz _).grown hgr4 (by simp; omega) (fun g hg => (HOw.out.lt g hg).1)⟩, by simp [intOf]; omega⟩
      rw [← HO.out, encU_ge h, List.append_assoc]
      congr 2
def brs (bs : List Int) : List Value := bys bs
/-- Records in a slice. -/
def RsPost1 (t n er : Int) (news : List (Int × List Int)) (w : World) (e : Ending) (w' : World) : Prop :=
  ∃ (A : Option Addr) (c : Nat) (rs : List Rc), e = .returned (.tuple #[.agg #[.int .i64 t, .int .i64 n], .slice A rs.length c, .int .i64 er]) ∧ rs.map recOf = news ∧ Reads w' (w.heap.size ≤ ·) 2 A rs.length (rs.flatMap rcL) ∧ (∀ r ∈ rs, Reads w' (w.heap.size ≤ ·) 1 r.A r.body.length (bys r.body)) ∧ Below w.heap.size w w'
def newsA (s : St) (x : Int) : List (Int × List Int) := if validT x = false then [] else if x ≤ s.t then [] else [(84, encI x)]
def newsG (s : St) (x y : Int) : List (Int × List Int) := if validT x = false ∨ validN y = false then [] else if x < s.t then [] else if x = s.t ∧ 0 ≤ s.n then [] else [(86, encI x ++ encI y)]
theorem newsA_recs (s : St) (x : Int) : (advF s x).1.recs = s.recs ++ newsA s x := by
  unfold advF newsA
  split
  · simp
  · split <;> simp
theorem newsG_recs (s : St) (x y : Int) : (grtF s x y).1.recs = s.recs ++ newsG s x y := by
  unfold grtF newsG
  split
  · simp
  · split
    · simp
    · split <;> simp
theorem rs1_none (s : St) (er : Int) (w w' : World) (h : Below w.heap.size w w') : RsPost1 s.t s.n er [] w (.returned (.tuple #[.agg #[.int .i64 s.t, .int .i64 s.n], .slice none 0 0, .int .i64 er])) w' :=
  ⟨none, 0, [], rfl, rfl, Reads.none_, (fun r hr => by simp at hr), h⟩
theorem rs1_one (t n kd : Int) (w w' : World) (g : Nat) (A : Option Addr) (c : Nat) (bs : List Int) (hg : g = w'.heap.size) (hw : w.heap.size ≤ g) (hr : Reads w' (w.heap.size ≤ ·) 1 A bs.length (bys bs)) (h : Below w.heap.size w w') :
    RsPost1 t n 0 [(kd, bs)] w (.returned (.tuple #[.agg #[.int .i64 t, .int .i64 n], .slice (some ⟨g, 0, none⟩) 1 1, .int .i64 0])) (w'.alloc (.cells #[.int .u8 kd, .slice A bs.length c] 33)) := by
  subst hg
  refine ⟨_, 1, [Rc.mk kd A c bs], rfl, rfl, ?_, fun r hr' => ?_, h.alloc h.size _⟩
  · exact (Reads.newS w' [.int .u8 kd, .slice A bs.length c] 33 (0, 0) 1 2 rfl _ rfl).more (fun k hk => by omega)
  · obtain rfl : r = Rc.mk kd A c bs := by simpa using hr'
    exact hr.alloc _
set_option maxRecDepth 10000 in
set_option maxHeartbeats 1000000 in
theorem rstep_any (s : St) (x : Int) (w : World) : Calls Try.prog 20 #[.agg #[.int .i64 s.t, .int .i64 s.n], .int .i64 x] w (RsPost1 (advF s x).1.t (advF s x).1.n (advF s x).2 (newsA s x) w) := by
  have bb : Below w.heap.size w ((w.alloc (.cells #[.int .i64 s.t, .int .i64 s.n] 40)).alloc (.cells #[.int .i64 s.t, .int .i64 s.n] 40)) := ((Below.refl _ _).alloc (Nat.le_refl _) _).alloc (by simp) _
  unfold advF newsA
  split
  · next hv =>
    have HV := Lib.hid fun W => number_any x W false hv
    clear hv
    go_enter Try.func20, Try.ntmps20
    go_wp2_with (go_at_call 43; ((with_reducible refine (HV.out _).mono ?_); rintro e w1 ⟨rfl, rfl⟩))
    refine bodyPost_ret (v := .tuple #[.agg #[.int .i64 s.t, .int .i64 s.n], .slice none 0 0, .int .i64 1]) (by simp [results, Try.results20, go_sem]) rfl (rs1_none s 1 w _ bb)
  · next hv =>
    have hv' : validT x = true := by simpa using hv
    have HV := Lib.hid fun W => number_any x W true hv'
    have hr := validT_r hv
    split
    · next hx =>
      clear hv hv'
      go_enter Try.func20, Try.ntmps20
      go_wp2_with (go_at_call 43; ((with_reducible refine (HV.out _).mono ?_); rintro e w1 ⟨rfl, rfl⟩))
      refine bodyPost_ret (v := .tuple #[.agg #[.int .i64 s.t, .int .i64 s.n], .slice none 0 0, .int .i64 9]) (by simp [results, Try.results20, go_sem]) rfl (rs1_none s 9 w _ bb)
    · next hx =>
      have HI := Lib.hid fun W => rInt_any x W (by omega) (by omega)
      have g2 : Blk ((w.alloc (.cells #[.int .i64 s.t, .int .i64 s.n] 40)).alloc (.cells #[.int .i64 0, .int .i64 0] 40)) (w.heap.size + 1) 40 #[.int .i64 0, .int .i64 0] := by simpa using Blk.new (w.alloc (.cells #[.int .i64 s.t, .int .i64 s.n] 40)) 40 #[.int .i64 0, .int .i64 0]
      have b2 : Below w.heap.size w ((w.alloc (.cells #[.int .i64 s.t, .int .i64 s.n] 40)).alloc (.cells #[.int .i64 0, .int .i64 0] 40)) := ((Below.refl _ _).alloc (Nat.le_refl _) _).alloc (by simp) _
      clear hv hv' bb
      generalize encI x = en at *
      go_enter Try.func20, Try.ntmps20
      go_wp2_with (go_at_call 43; ((with_reducible refine (HV.out _).mono ?_); rintro e w1 ⟨rfl, rfl⟩))
      generalize (w.alloc (.cells #[.int .i64 s.t, .int .i64 s.n] 40)).alloc (.cells #[.int .i64 0, .int .i64 0] 40) = W2 at *
      refine (HI.out _).mono ?_
      rintro e w3 ⟨A, c, rfl, hown, hB3⟩
      have b3 := b2.trans (hB3.mono b2.size)
      have g3 := g2.below hB3 g2.lt
      have s3 := hB3.size
      have s2 := g2.lt
      obtain ⟨y0, y1, y2⟩ := g3.facts
      go_wp2_with fail
      have kk := ((g3.set_ 0 (.int .i64 x)).set_ 1 (.int .i64 (-1))).alloc (.cells #[.int .u8 84, .slice A en.length c] 33)
      simp only [List.setIfInBounds_toArray, List.set_cons_succ, List.set_cons_zero] at kk
      obtain ⟨z0, z1, z2⟩ := kk.facts
      refine bodyPost_ret (v := .tuple #[.agg #[.int .i64 x, .int .i64 (-1)], .slice (some ⟨w3.heap.size, 0, none⟩) 1 1, .int .i64 0]) (by simp [results, Try.results20, go_sem, z1]) rfl (rs1_one x (-1) 84 w _ w3.heap.size A c en (by simp) (by omega) ?_ ?_)
      · exact (((Reads.of_own hown).setCell (fun hg => by have := (hown.lt _ hg).1; simp at this; omega) _).setCell (fun hg => by have := (hown.lt _ hg).1; simp at this; omega) _).more (fun g hg => by have := (hown.lt _ hg).1; omega)
      · exact (b3.setCell (by simp) _).setCell (by simp) _
set_option maxRecDepth 10000 in
set_option maxHeartbeats 2000000 in
theorem rvote_any (s : St) (k : Nat) (hs : Good s k) (x y : Int) (w : World) : Calls Try.prog 22 #[.agg #[.int .i64 s.t, .int .i64 s.n], .int .i64 x, .int .i64 y] w (RsPost1 (grtF s x y).1.t (grtF s x y).1.n (grtF s x y).2 (newsG s x y) w) := by
  have bb : Below w.heap.size w ((w.alloc (.cells #[.int .i64 s.t, .int .i64 s.n] 40)).alloc (.cells #[.int .i64 s.t, .int .i64 s.n] 40)) := ((Below.refl _ _).alloc (Nat.le_refl _) _).alloc (by simp) _
  have hlo := hs.lo
  clear hs
  unfold grtF newsG
  split
  · next hv =>
    cases hvt : validT x with
    | false =>
      have HV := Lib.hid fun W => number_any x W false hvt
      clear hv hvt
      go_enter Try.func22, Try.ntmps22
      go_wp2_with (go_at_call 43; ((with_reducible refine (HV.out _).mono ?_); rintro e w1 ⟨rfl, rfl⟩))
      refine bodyPost_ret (v := .tuple #[.agg #[.int .i64 s.t, .int .i64 s.n], .slice none 0 0, .int .i64 1]) (by simp [results, Try.results22, go_sem]) rfl (rs1_none s 1 w _ bb)
    | true =>
      have hvn : validN y = false := by rcases hv with e | e; · rw [e] at hvt; cases hvt
                                        · exact e
      have HV := Lib.hid fun W => number_any x W true hvt
      have HN := Lib.hid fun W => somebody_any y W false hvn
      clear hv hvt hvn
      go_enter Try.func22, Try.ntmps22
      go_wp2_with (first
        | (go_at_call 43; ((with_reducible refine (HV.out _).mono ?_); rintro e w1 ⟨rfl, rfl⟩))
        | (go_at_call 44; ((with_reducible refine (HN.out _).mono ?_); rintro e w1 ⟨rfl, rfl⟩)))
      refine bodyPost_ret (v := .tuple #[.agg #[.int .i64 s.t, .int .i64 s.n], .slice none 0 0, .int .i64 1]) (by simp [results, Try.results22, go_sem]) rfl (rs1_none s 1 w _ bb)
  · next hv =>
    have hv1 : ¬ validT x = false := fun e => hv (.inl e)
    have hv2 : ¬ validN y = false := fun e => hv (.inr e)
    have HV := Lib.hid fun W => number_any x W true (by simpa using hv1)
    have HN := Lib.hid fun W => somebody_any y W true (by simpa using hv2)
    have hr := validT_r hv1
    have hr2 := validN_r hv2
    clear hv hv1 hv2
    split
    · next hx =>
      go_enter Try.func22, Try.ntmps22
      go_wp2_with (first
        | (go_at_call 43; ((with_reducible refine (HV.out _).mono ?_); rintro e w1 ⟨rfl, rfl⟩))
        | (go_at_call 44; ((with_reducible refine (HN.out _).mono ?_); rintro e w1 ⟨rfl, rfl⟩)))
      refine bodyPost_ret (v := .tuple #[.agg #[.int .i64 s.t, .int .i64 s.n], .slice none 0 0, .int .i64 9]) (by simp [results, Try.results22, go_sem]) rfl (rs1_none s 9 w _ bb)
    · next hx =>
      have hx' : ¬ x < s.t := hx
      split
      · next hn =>
        obtain ⟨hxe, hn0⟩ := hn
        have hxb : (x == s.t) = true := by simpa using hxe
        by_cases hy : s.n = y
        · have hyb : (s.n == y) = true := by simpa using hy
          rw [if_pos hy]
          clear hy hxe hx
          go_enter Try.func22, Try.ntmps22
          go_wp2_with (first
            | (go_at_call 43; ((with_reducible refine (HV.out _).mono ?_); rintro e w1 ⟨rfl, rfl⟩))
            | (go_at_call 44; ((with_reducible refine (HN.out _).mono ?_); rintro e w1 ⟨rfl, rfl⟩)))
          refine bodyPost_ret (v := .tuple #[.agg #[.int .i64 s.t, .int .i64 s.n], .slice none 0 0, .int .i64 0]) (by simp [results, Try.results22, go_sem]) rfl (rs1_none s 0 w _ bb)
        · have hyb : (s.n == y) = false := by simpa using hy
          have hmb : (s.n != -1) = true := by simp; omega
          rw [if_neg hy]
          clear hy hxe hx
          go_enter Try.func22, Try.ntmps22
          go_wp2_with (first
            | (go_at_call 43; ((with_reducible refine (HV.out _).mono ?_); rintro e w1 ⟨rfl, rfl⟩))
            | (go_at_call 44; ((with_reducible refine (HN.out _).mono ?_); rintro e w1 ⟨rfl, rfl⟩)))
          refine bodyPost_ret (v := .tuple #[.agg #[.int .i64 s.t, .int .i64 s.n], .slice none 0 0, .int .i64 10]) (by simp [results, Try.results22, go_sem]) rfl (rs1_none s 10 w _ bb)
      · next hn =>
        have HI := Lib.hid fun W => rInt_any x W (by omega) (by omega)
        have HI2 := Lib.hid fun W => rInt_any y W (by omega) (by omega)
        have hel := encI_len (n := x) (by omega) (by omega)
        have hel2 := encI_len (n := y) (by omega) (by omega)
        have g2 : Blk ((w.alloc (.cells #[.int .i64 s.t, .int .i64 s.n] 40)).alloc (.cells #[.int .i64 0, .int .i64 0] 40)) (w.heap.size + 1) 40 #[.int .i64 0, .int .i64 0] := by simpa using Blk.new (w.alloc (.cells #[.int .i64 s.t, .int .i64 s.n] 40)) 40 #[.int .i64 0, .int .i64 0]
        have b2 : Below w.heap.size w ((w.alloc (.cells #[.int .i64 s.t, .int .i64 s.n] 40)).alloc (.cells #[.int .i64 0, .int .i64 0] 40)) := ((Below.refl _ _).alloc (Nat.le_refl _) _).alloc (by simp) _
        clear bb
        have hcs : (x == s.t) = false ∨ ((x == s.t) = true ∧ (s.n == y) = false ∧ (s.n != -1) = false) := by
          by_cases e : x = s.t
          · right
            have : ¬ 0 ≤ s.n := fun e2 => hn ⟨e, e2⟩
            exact ⟨by simpa using e, by simp; omega, by simp; omega⟩
          · left; simpa using e
        generalize encI x = en at *
        generalize encI y = en2 at *
        clear hn hx
        rcases hcs with hc1 | ⟨hc1, hc2, hc3⟩
        all_goals
          go_enter Try.func22, Try.ntmps22
          go_wp2_with (first
            | (go_at_call 43; ((with_reducible refine (HV.out _).mono ?_); rintro e w1 ⟨rfl, rfl⟩))
            | (go_at_call 44; ((with_reducible refine (HN.out _).mono ?_); rintro e w1 ⟨rfl, rfl⟩)))
          generalize (w.alloc (.cells #[.int .i64 s.t, .int .i64 s.n] 40)).alloc (.cells #[.int .i64 0, .int .i64 0] 40) = W2 at *
          refine (HI.out _).mono ?_
          rintro e w3 ⟨A, c, rfl, hown, hB3⟩
          have b3 := b2.trans (hB3.mono b2.size)
          have g3 := g2.below hB3 g2.lt
          have s3 := hB3.size
          have s2 := g2.lt
          go_wp2_with fail
          refine (HI2.out _).mono ?_
          rintro e w4 ⟨A4, c4, rfl, hown4, hB4⟩
          have b4 := b3.trans (hB4.mono b3.size)
          have g4 := g3.below hB4 g3.lt
          have s4 := hB4.size
          have hown3 := own_fr hown (Fr.of_below (S := fun _ => False) hB4) (fun _ _ => id)
          have r4 := Reads.of_own hown4
          go_wp2_with (at_builtin; refine wpList_append_any _ rfl _ _ _ rfl W2.heap.size 5 _ 1 1 Try.underlying31 info5 rfl (by omega) (.slice A en.length c) en.length (bys en) rfl hown3 _ A4 en2.length c4 (bys en2) rfl r4 (bys_one en2) (by simp only [maxLen]; omega) (by omega) (by omega) ?_; intro A5 c5 w5 hown5 hgr5 hat5; have g5 := g4.grown hgr5 (fun e => by have := (hown3.lt _ e.symm).1; omega); obtain ⟨y0, y1, y2⟩ := g5.facts)
          have e5 : (en ++ en2).length = en.length + en2.length := List.length_append
          have o5 : w5.ownsRow W2.heap.size 5 1 (.slice A5 (en ++ en2).length c5) (en ++ en2).length (bys (en ++ en2)) := by rw [e5]; simpa [bys] using hown5
          have hs5 := hgr5.size
          have b5 := b4.grown hgr5 (by omega) (fun g hg => by have := (hown3.lt _ hg).1; omega)
          have kk := ((g5.set_ 0 (.int .i64 x)).set_ 1 (.int .i64 y)).alloc (.cells #[.int .u8 86, .slice A5 (en.length + en2.length) c5] 33)
          simp only [List.setIfInBounds_toArray, List.set_cons_succ, List.set_cons_zero] at kk
          obtain ⟨z0, z1, z2⟩ := kk.facts
          have fin := rs1_one x y 86 w ((w5.setCell ⟨w.heap.size + 1, 0, none⟩ (.int .i64 x)).setCell ⟨w.heap.size + 1, 1, none⟩ (.int .i64 y)) w5.heap.size A5 c5 (en ++ en2) (by simp) (by omega)
            ((((Reads.of_own o5).setCell (fun hg => by have := (o5.lt _ hg).1; simp at this; omega) _).setCell (fun hg => by have := (o5.lt _ hg).1; simp at this; omega) _).more (fun g hg => by have := (o5.lt _ hg).1; omega))
            ((b5.setCell (by simp) _).setCell (by simp) _)
          rw [e5] at fin
          exact bodyPost_ret (v := .tuple #[.agg #[.int .i64 x, .int .i64 y], .slice (some ⟨w5.heap.size, 0, none⟩) 1 1, .int .i64 0]) (by simp [results, Try.results22, go_sem, z1]) rfl fin
end Go.Proofs.Ytbhbamgnapcbaaa

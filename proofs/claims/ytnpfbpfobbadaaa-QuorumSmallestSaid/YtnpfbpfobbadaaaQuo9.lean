import Derived.Test.YtnpfbpfobbadaaaQuo8
namespace Go.Proofs.Ytnpfbpfobbadaaa
set_option linter.unusedVariables false
open Go.RowKit Go.Own Go.Quo
def ClPost (l : List Int) (w : World) (e : Ending) (w' : World) : Prop := ∃ A c, e = .returned (.slice A l.length c) ∧ RI w' (w.heap.size ≤ ·) A l ∧ Below w.heap.size w w'
theorem own_slice {w : World} {base : Nat} {e : TypeId} {v : Value} {l : List Int} (h : w.ownsRow base e 1 v l.length (l.map (Value.int .i64))) : ∃ A c, v = .slice A l.length c ∧ RI w (base ≤ ·) A l := by
  rcases h.2 with ⟨rfl, hx⟩ | ⟨g, cap, cur, rfl, _⟩
  · have hl : l.length = 0 := hx
    rw [hl] at h ⊢
    exact ⟨none, 0, rfl, by have e : l = [] := List.eq_nil_of_length_eq_zero hl; subst e; exact Reads.none_⟩
  · exact ⟨_, _, rfl, (Reads.of_own h).more (fun k hk => (h.lt k hk).1)⟩
theorem clone_any (B : Nat → Prop) (A : Option Addr) (c : Nat) (l : List Int) (w : World) (h : RI w B A l) (hm : l.length ≤ 1000) :
    Calls Try.prog 44 #[.slice A l.length c] w (ClPost l w) := by
  cases A with
  | none =>
    have hl : l = [] := by
      rcases Nat.eq_zero_or_pos l.length with h0 | h0
      · exact List.eq_nil_of_length_eq_zero h0
      · obtain ⟨ad, e, _⟩ := h.2 h0; cases e
    subst hl
    refine (Try.slices_Clone_int_nil 0 c w).mono ?_
    rintro e w' ⟨rfl, rfl⟩
    exact ⟨none, 0, rfl, Reads.none_, Below.refl _ _⟩
  | some ad =>
    rcases Nat.eq_zero_or_pos l.length with h0 | h0
    · have hl : l = [] := List.eq_nil_of_length_eq_zero h0
      subst hl
      refine (Try.slices_Clone_int_zero ad c w).mono ?_
      rintro e w' ⟨v', rfl, hown, -, hb⟩
      obtain ⟨A', c', rfl, hr⟩ := own_slice (l := []) hown
      exact ⟨A', c', rfl, hr, hb⟩
    · obtain ⟨b, o, e⟩ := h.plain (by omega) h0
      cases e
      refine (Try.slices_Clone_int b o l.length c l w (Nat.le_refl _) (by omega) (fun j hj => ?_)).mono ?_
      · have := RI.at_ h hj
        rw [show l.getD j 0 = gd l j from rfl]
        simpa [bk, ofs, adr] using this
      · rintro e w' ⟨v', rfl, hown, -, hb⟩
        rw [List.take_of_length_le (Nat.le_refl _)] at hown
        obtain ⟨A', c', rfl, hr⟩ := own_slice hown
        exact ⟨A', c', rfl, hr, hb⟩
def ChPost (Bx : Nat → Prop) (o' n' : List Int) (er : Int) (w : World) (e : Ending) (w' : World) : Prop := ∃ m' : Ms, m'.o = o' ∧ m'.n = n' ∧ e = .returned (.tuple #[msV m', .int .i64 er]) ∧ MR w' (fun k => Bx k ∨ w.heap.size ≤ k) m' ∧ Below w.heap.size w w'
abbrev msZ : Array Value := #[.slice none 0 0, .slice none 0 0]
def nilM : Ms := ⟨none, 0, [], none, 0, []⟩
theorem nilMR (w : World) (B : Nat → Prop) : MR w B nilM := ⟨Reads.none_, Reads.none_, by simp [nilM], by simp [nilM]⟩
theorem info24 : (Try.prog.info? 24).map (fun i => (i.zero, i.size, i.bytes)) = some (some (.agg #[.slice none 0 0, .slice none 0 0]), 2, 48) := by kernel_rfl
set_option maxRecDepth 10000 in
set_option maxHeartbeats 1000000 in
theorem begin_bad (B B2 : Nat → Prop) (m : Ms) (A : Option Addr) (c : Nat) (nx : List Int) (w : World) (h : MR w B m) (hy : RI w B2 A nx) (hl : nx.length ≤ 1000) (hv : vB m.o m.n = false ∨ mlB nx = false) :
    Calls Try.prog 22 #[msV m, .slice A nx.length c] w (ChPost (fun k => B k ∨ B2 k) [] [] 1 w) := by
  have h1 := (h.alloc (.cells (msC m) 24)).alloc (.cells msZ 24)
  have hy2 := ((hy.alloc (.cells (msC m) 24)).alloc (.cells msZ 24)).alloc (.cells (msC m) 24)
  cases hvv : vB m.o m.n with
  | false =>
    have HO := Lib.hid (valid_b B m _ h1 false hvv)
    clear h h1 hy hy2 hv hvv
    go_enter Try.func22, Try.ntmps22
    go_wp2_with (go_at_call 29; ((with_reducible refine HO.out.mono ?_); rintro e w1 ⟨rfl, rfl⟩))
    refine bodyPost_ret (v := .tuple #[msV nilM, .int .i64 1]) (by simp [results, Try.results22, go_sem, nilM]) rfl ⟨nilM, rfl, rfl, rfl, nilMR _ _, ?_⟩
    exact (((Below.refl _ _).alloc (Nat.le_refl _) _).alloc (by simp) _).alloc (by simp; omega) _
  | true =>
    have hm : mlB nx = false := by rcases hv with hv | hv; · rw [hv] at hvv; cases hvv
                                   · exact hv
    have HO := Lib.hid (valid_b B m _ h1 true hvv)
    have HM := Lib.hid (memberList_b B2 A c nx _ hy2 hl false hm)
    clear h h1 hy hy2 hv hvv hm
    go_enter Try.func22, Try.ntmps22
    go_wp2_with (first
      | (go_at_call 29; ((with_reducible refine HO.out.mono ?_); rintro e w1 ⟨rfl, rfl⟩))
      | (go_at_call 43; ((with_reducible refine HM.out.mono ?_); rintro e w1 ⟨rfl, rfl⟩)))
    refine bodyPost_ret (v := .tuple #[msV nilM, .int .i64 1]) (by simp [results, Try.results22, go_sem, nilM]) rfl ⟨nilM, rfl, rfl, rfl, nilMR _ _, ?_⟩
    exact (((Below.refl _ _).alloc (Nat.le_refl _) _).alloc (by simp) _).alloc (by simp; omega) _
set_option maxRecDepth 10000 in
set_option maxHeartbeats 1000000 in
theorem begin_busy (B B2 : Nat → Prop) (m : Ms) (A : Option Addr) (c : Nat) (nx : List Int) (w : World) (h : MR w B m) (hy : RI w B2 A nx) (hl : nx.length ≤ 1000) (hv : vB m.o m.n = true) (hm : mlB nx = true) (hn : 0 < m.n.length) :
    Calls Try.prog 22 #[msV m, .slice A nx.length c] w (ChPost (fun k => B k ∨ B2 k) [] [] 8 w) := by
  have h1 := (h.alloc (.cells (msC m) 24)).alloc (.cells msZ 24)
  have hy2 := ((hy.alloc (.cells (msC m) 24)).alloc (.cells msZ 24)).alloc (.cells (msC m) 24)
  have HO := Lib.hid (valid_b B m _ h1 true hv)
  have HM := Lib.hid (memberList_b B2 A c nx _ hy2 hl true hm)
  have hn' : (0 : Int) < m.n.length := by omega
  clear h h1 hy hy2 hv hm
  go_enter Try.func22, Try.ntmps22
  go_wp2_with (first
    | (go_at_call 29; ((with_reducible refine HO.out.mono ?_); rintro e w1 ⟨rfl, rfl⟩))
    | (go_at_call 43; ((with_reducible refine HM.out.mono ?_); rintro e w1 ⟨rfl, rfl⟩)))
  refine bodyPost_ret (v := .tuple #[msV nilM, .int .i64 8]) (by simp [results, Try.results22, go_sem, nilM]) rfl ⟨nilM, rfl, rfl, rfl, nilMR _ _, ?_⟩
  exact (((Below.refl _ _).alloc (Nat.le_refl _) _).alloc (by simp) _).alloc (by simp; omega) _
set_option maxRecDepth 10000 in
set_option maxHeartbeats 1000000 in
theorem rbegin_bad (B B2 : Nat → Prop) (m : Ms) (A : Option Addr) (c : Nat) (nx : List Int) (w : World) (h : MR w B m) (hy : RI w B2 A nx) (hl : nx.length ≤ 1000) (hv : vB m.o m.n = false ∨ mlB nx = false) :
    Calls Try.prog 24 #[msV m, .slice A nx.length c] w (ChPost (fun k => B k ∨ B2 k) [] [] 1 w) := by
  have h1 := (h.alloc (.cells (msC m) 24)).alloc (.cells msZ 24)
  have hy2 := ((hy.alloc (.cells (msC m) 24)).alloc (.cells msZ 24)).alloc (.cells (msC m) 24)
  cases hvv : vB m.o m.n with
  | false =>
    have HO := Lib.hid (right_b B m _ h1 false hvv)
    clear h h1 hy hy2 hv hvv
    go_enter Try.func24, Try.ntmps24
    go_wp2_with (go_at_call 13; ((with_reducible refine HO.out.mono ?_); rintro e w1 ⟨rfl, rfl⟩))
    refine bodyPost_ret (v := .tuple #[msV nilM, .int .i64 1]) (by simp [results, Try.results24, go_sem, nilM]) rfl ⟨nilM, rfl, rfl, rfl, nilMR _ _, ?_⟩
    exact (((Below.refl _ _).alloc (Nat.le_refl _) _).alloc (by simp) _).alloc (by simp; omega) _
  | true =>
    have hm : mlB nx = false := by rcases hv with hv | hv; · rw [hv] at hvv; cases hvv
                                   · exact hv
    have HO := Lib.hid (right_b B m _ h1 true hvv)
    have HM := Lib.hid (rmembers_b B2 A c nx _ hy2 hl false hm)
    clear h h1 hy hy2 hv hvv hm
    go_enter Try.func24, Try.ntmps24
    go_wp2_with (first
      | (go_at_call 13; ((with_reducible refine HO.out.mono ?_); rintro e w1 ⟨rfl, rfl⟩))
      | (go_at_call 36; ((with_reducible refine HM.out.mono ?_); rintro e w1 ⟨rfl, rfl⟩)))
    refine bodyPost_ret (v := .tuple #[msV nilM, .int .i64 1]) (by simp [results, Try.results24, go_sem, nilM]) rfl ⟨nilM, rfl, rfl, rfl, nilMR _ _, ?_⟩
    exact (((Below.refl _ _).alloc (Nat.le_refl _) _).alloc (by simp) _).alloc (by simp; omega) _
set_option maxRecDepth 10000 in
set_option maxHeartbeats 1000000 in
theorem rbegin_busy (B B2 : Nat → Prop) (m : Ms) (A : Option Addr) (c : Nat) (nx : List Int) (w : World) (h : MR w B m) (hy : RI w B2 A nx) (hl : nx.length ≤ 1000) (hv : vB m.o m.n = true) (hm : mlB nx = true) (hn : 0 < m.n.length) :
    Calls Try.prog 24 #[msV m, .slice A nx.length c] w (ChPost (fun k => B k ∨ B2 k) [] [] 8 w) := by
  have h1 := (h.alloc (.cells (msC m) 24)).alloc (.cells msZ 24)
  have hy2 := ((hy.alloc (.cells (msC m) 24)).alloc (.cells msZ 24)).alloc (.cells (msC m) 24)
  have HO := Lib.hid (right_b B m _ h1 true hv)
  have HM := Lib.hid (rmembers_b B2 A c nx _ hy2 hl true hm)
  have hn' : (0 : Int) < m.n.length := by omega
  clear h h1 hy hy2 hv hm
  go_enter Try.func24, Try.ntmps24
  go_wp2_with (first
    | (go_at_call 13; ((with_reducible refine HO.out.mono ?_); rintro e w1 ⟨rfl, rfl⟩))
    | (go_at_call 36; ((with_reducible refine HM.out.mono ?_); rintro e w1 ⟨rfl, rfl⟩)))
  refine bodyPost_ret (v := .tuple #[msV nilM, .int .i64 8]) (by simp [results, Try.results24, go_sem, nilM]) rfl ⟨nilM, rfl, rfl, rfl, nilMR _ _, ?_⟩
  exact (((Below.refl _ _).alloc (Nat.le_refl _) _).alloc (by simp) _).alloc (by simp; omega) _
set_option maxRecDepth 10000 in
set_option maxHeartbeats 1000000 in
theorem rbegin_ok (B B2 : Nat → Prop) (m : Ms) (A : Option Addr) (c : Nat) (nx : List Int) (w : World) (h : MR w B m) (hy : RI w B2 A nx) (hl : nx.length ≤ 1000) (hv : vB m.o m.n = true) (hm : mlB nx = true) (hn : m.n.length = 0) :
    Calls Try.prog 24 #[msV m, .slice A nx.length c] w (ChPost (fun k => B k ∨ B2 k) m.o nx 0 w) := by
  have h1 := (h.alloc (.cells (msC m) 24)).alloc (.cells msZ 24)
  have hy2 := ((hy.alloc (.cells (msC m) 24)).alloc (.cells msZ 24)).alloc (.cells (msC m) 24)
  have HO := Lib.hid (right_b B m _ h1 true hv)
  have HM := Lib.hid (rmembers_b B2 A c nx _ hy2 hl true hm)
  have hn' : ¬ (0 : Int) < m.n.length := by omega
  have HH := Lib.hid h
  have HY := Lib.hid hy
  clear h h1 hy hy2 hv hm hn
  go_enter Try.func24, Try.ntmps24
  go_wp2_with (first
    | (go_at_call 13; ((with_reducible refine HO.out.mono ?_); rintro e w1 ⟨rfl, rfl⟩))
    | (go_at_call 36; ((with_reducible refine HM.out.mono ?_); rintro e w1 ⟨rfl, rfl⟩)))
  refine bodyPost_ret (v := .tuple #[msV ⟨m.A, m.c, m.o, A, c, nx⟩, .int .i64 0]) (by simp [results, Try.results24, go_sem]) rfl ⟨⟨m.A, m.c, m.o, A, c, nx⟩, rfl, rfl, rfl, ?_, ?_⟩
  · exact ⟨(((HH.out.o.alloc _).alloc _).alloc _).more (fun k hk => .inl (.inl hk)), (((HY.out.alloc _).alloc _).alloc _).more (fun k hk => .inl (.inr hk)), HH.out.ol, hl⟩
  · exact (((Below.refl _ _).alloc (Nat.le_refl _) _).alloc (by simp) _).alloc (by simp; omega) _
set_option maxRecDepth 10000 in
set_option maxHeartbeats 1000000 in
theorem begin_ok (B B2 : Nat → Prop) (m : Ms) (A : Option Addr) (c : Nat) (nx : List Int) (w : World) (h : MR w B m) (hy : RI w B2 A nx) (hl : nx.length ≤ 1000) (hv : vB m.o m.n = true) (hm : mlB nx = true) (hn : m.n.length = 0) :
    Calls Try.prog 22 #[msV m, .slice A nx.length c] w (ChPost (fun k => B k ∨ B2 k) m.o nx 0 w) := by
  have h1 := (h.alloc (.cells (msC m) 24)).alloc (.cells msZ 24)
  have hy2 := ((hy.alloc (.cells (msC m) 24)).alloc (.cells msZ 24)).alloc (.cells (msC m) 24)
  have HO := Lib.hid (valid_b B m _ h1 true hv)
  have HM := Lib.hid (memberList_b B2 A c nx _ hy2 hl true hm)
  have hn' : ¬ (0 : Int) < m.n.length := by omega
  have h3 := h1.alloc (.cells (msC m) 24)
  clear h h1 hy hv hm hn
  go_enter Try.func22, Try.ntmps22
  go_wp2_with (first
    | (go_at_call 29; ((with_reducible refine HO.out.mono ?_); rintro e w1 ⟨rfl, rfl⟩))
    | (go_at_call 43; ((with_reducible refine HM.out.mono ?_); rintro e w1 ⟨rfl, rfl⟩)))
  generalize hW : ((w.alloc (.cells (msC m) 24)).alloc (.cells msZ 24)).alloc (.cells (msC m) 24) = W at *
  have g1 : Blk W (w.heap.size + 1) 24 msZ := by rw [← hW]; simpa using (Blk.new (w.alloc _) 24 _).alloc _
  have b1 : Below w.heap.size w W := by rw [← hW]; exact (((Below.refl _ _).alloc (Nat.le_refl _) _).alloc (by simp) _).alloc (by simp; omega) _
  clear hW HO HM
  refine (clone_any B m.A m.c m.o W h3.o h3.ol).mono ?_
  rintro e w2 ⟨A2, c2, rfl, r2, hB2⟩
  have hy3 := hy2.fr (S := fun _ => False) (Fr.of_below hB2) (fun _ _ => id)
  have g2 := g1.below hB2 g1.lt
  have b2 := b1.trans (hB2.mono b1.size)
  go_wp2_with fail
  refine (clone_any B2 A c nx w2 hy3 hl).mono ?_
  rintro e w3 ⟨A3, c3, rfl, r3, hB3⟩
  have g3 := g2.below hB3 g2.lt
  have b3 := b2.trans (hB3.mono b2.size)
  have r2' := (r2.old (by omega)).below hB3 (fun _ hk => hk.2)
  have r3' := r3.old (by omega)
  have hg1 := g1.lt
  have hs2 := hB2.size
  obtain ⟨q0, q1, q2⟩ := g3.facts
  simp only [msZ] at q1
  go_wp2
  refine bodyPost_ret (v := .tuple #[msV ⟨A2, c2, m.o, A3, c3, nx⟩, .int .i64 0]) (by simp [results, Try.results22, go_sem, q1]) rfl ⟨⟨A2, c2, m.o, A3, c3, nx⟩, rfl, rfl, rfl, ?_, ?_⟩
  · refine ⟨?_, ?_, h3.ol, hl⟩
    · exact ((r2'.setCell (by simp; omega) _).setCell (by simp; omega) _).more (fun k hk => .inr (by have := b1.size; omega))
    · exact ((r3'.setCell (by simp; omega) _).setCell (by simp; omega) _).more (fun k hk => .inr (by have := b1.size; omega))
  · exact (b3.setCell (by simp) _).setCell (by simp) _
end Go.Proofs.Ytnpfbpfobbadaaa

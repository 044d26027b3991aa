import Derived.Test.YtnmmiiajcjcccaaLed1
namespace Go.Aid
theorem kput_absent {kvs : List (Int × Value)} {k : Int} (h : Own.kget kvs k = none) (v : Value) : Own.kput kvs k v = kvs ++ [(k, v)] := by
  induction kvs with
  | nil => rfl
  | cons a r ih =>
    unfold Own.kget at h
    rw [List.find?_cons] at h
    cases hc : a.1 == k with
    | true => rw [hc] at h; simp at h
    | false =>
      rw [hc] at h
      have := ih h
      unfold Own.kput
      rw [hc]
      simp [this]
end Go.Aid
namespace Go.Proofs.Ytnmmiiajcjcccaa
set_option linter.unusedVariables false
open Go.RowKit Go.Own Go.Quo Go.Aid
theorem ix53 {g : Nat} (n c k : Nat) (hk : k < n) (w : World) : (Instr.indexAt 53 (.slice (some ⟨g, 0, none⟩) n c) (.int .i64 (k : Int))).run Try.prog w = .ok (.pointer (some ⟨g, k, none⟩)) w := by
  obtain ⟨i, h1, h2⟩ := i2x
  have := run_indexAt2 (P := Try.prog) Try.underlying53 h1 h2 (A := some ⟨g, 0, none⟩) (n := n) (fun _ => ⟨_, _, rfl⟩) c k hk w
  simpa [bk, ofs, adr] using this
set_option maxRecDepth 10000 in
set_option maxHeartbeats 8000000 in
theorem lend_ok (p m g : Nat) (s : LSt) (ls : List Ln) (l : Ln) (w : World) (h : Led w p m g s ls) (hl : lnOk s.n l = true) (hu : hasU s.now l.u = false) (hd : ∀ i, gd (debts s.n s.all) i ≤ 1000 ∧ -1000 ≤ gd (debts s.n s.all) i) :
    Calls Try.prog 26 #[.pointer (some ⟨p, 0, none⟩), lnV l] w (LendPost p m g s w (⟨s.n, insU s.now l, s.all ++ [l]⟩, 0)) := by
  have HL := Lib.hid h
  obtain ⟨q0, q1, q2⟩ := h.pb.facts
  obtain ⟨n, hn⟩ : ∃ n : Nat, s.n = n := ⟨_, rfl⟩
  obtain ⟨npm, npg, nmg, hpl, hml, hgl⟩ := h.ne
  rw [← hasU_perm h.pm] at hu
  have hkg := kget_none hu
  have hmb := h.mb
  have hgb := h.gb
  have hdl : (debts s.n s.all).length = n := by rw [debts_len, hn]
  obtain ⟨D, hD⟩ : ∃ D, debts s.n s.all = D := ⟨_, rfl⟩
  rw [hD] at hgb hdl hd
  obtain ⟨kv, hkv⟩ : ∃ kv, ls.map lnKV = kv := ⟨_, rfl⟩
  rw [hkv] at hmb hkg
  have hlk : ∀ W : World, MapB W m .i64 kv → (Instr.lookup 70 (.map (some m)) (.int .i64 l.u) true).run Try.prog W = .ok (.tuple #[.agg #[.int .i64 0, .int .i64 0, .int .i64 0], .bool false]) W := fun W hW => by
    have := MapB.lookup (P := Try.prog) hW Try.underlying70 Try.underlying3 zero56 l.u true
    rw [hkg] at this
    simpa using this
  have hup := fun (W : World) (hW : MapB W m .i64 kv) => MapB.update (P := Try.prog) hW Try.underlying70 Try.underlying3 l.u (lnV l)
  have HFin := Lib.hid (show ∀ w', Blk w' p 72 #[.map (some m), .slice (some ⟨g, 0, none⟩) n n] → MapB w' m .i64 (kput kv l.u (lnV l)) → IB w' g 2 (bump D l) → Fr (fun k => k = m ∨ k = g) w w' → ∃ ls, Led w' p m g ⟨s.n, insU s.now l, s.all ++ [l]⟩ ls ∧ Fr (fun k => k = m ∨ k = g) w w' from fun w' h1 h2 h3 h4 => by
    refine ⟨ls ++ [l], ⟨by rw [hn]; exact h1, ?_, ?_, ?_⟩, h4⟩
    · rw [kput_absent hkg, ← hkv] at h2
      simpa [lnKV] using h2
    · rw [debts_snoc, hD]; exact h3
    · exact (HL.out.pm.append_right [l]).trans (insU_perm l s.now).symm)
  obtain ⟨f, t, u⟩ := l
  rw [hn] at hl q1
  have HPb := Lib.hid (show Blk w p 72 #[.map (some m), .slice (some ⟨g, 0, none⟩) n n] by rw [← hn]; exact h.pb)
  clear hn HL h hu hkg hkv hD
  simp only [lnOk, Bool.and_eq_true, decide_eq_true_eq] at hl
  obtain ⟨⟨⟨⟨⟨c1, c2⟩, c3⟩, c4⟩, c5⟩, c6⟩ := hl
  simp only [lnV] at hlk hup HFin ⊢
  have d1 : ¬ f < 0 := by omega
  have d2 : ¬ (n : Int) ≤ f := by omega
  have d3 : ¬ t < 0 := by omega
  have d4 : ¬ (n : Int) ≤ t := by omega
  have d5 : (f == t) = false := by simpa using c5
  have d6 : ¬ u < 0 := by omega
  obtain ⟨a, rfl⟩ : ∃ a : Nat, f = a := ⟨f.toNat, by omega⟩
  obtain ⟨b, rfl⟩ : ∃ b : Nat, t = b := ⟨t.toNat, by omega⟩
  have ha : a < n := by omega
  have hb : b < n := by omega
  have hab : a ≠ b := by omega
  have gx := Blk.new w 56 #[.int .i64 (a : Int), .int .i64 (b : Int), .int .i64 u]
  have hml2 : m < w.heap.size + 1 := by omega
  have hml3 : m < w.heap.size + 2 := by omega
  have hpl2 : p < w.heap.size + 1 := by omega
  clear c1 c2 c3 c4 c5 c6
  have z1 : Blk ((w.alloc (.cells #[.int .i64 (a : Int), .int .i64 (b : Int), .int .i64 u] 56)).alloc (.cells #[.int .i64 0, .int .i64 0, .int .i64 0] 56)).drew w.heap.size 56 #[.int .i64 (a : Int), .int .i64 (b : Int), .int .i64 u] := gx.alloc _
  have z2 : Blk ((w.alloc (.cells #[.int .i64 (a : Int), .int .i64 (b : Int), .int .i64 u] 56)).alloc (.cells #[.int .i64 0, .int .i64 0, .int .i64 0] 56)).drew p 72 #[.map (some m), .slice (some ⟨g, 0, none⟩) n n] := (HPb.out.alloc _).alloc _
  have z3 : MapB ((w.alloc (.cells #[.int .i64 (a : Int), .int .i64 (b : Int), .int .i64 u] 56)).alloc (.cells #[.int .i64 0, .int .i64 0, .int .i64 0] 56)).drew m .i64 kv := (hmb.alloc _).alloc _
  have z4 : IB ((w.alloc (.cells #[.int .i64 (a : Int), .int .i64 (b : Int), .int .i64 u] 56)).alloc (.cells #[.int .i64 0, .int .i64 0, .int .i64 0] 56)).drew g 2 D := (hgb.alloc _).alloc _
  have z5 : Fr (fun k => k = m ∨ k = g) w ((w.alloc (.cells #[.int .i64 (a : Int), .int .i64 (b : Int), .int .i64 u] 56)).alloc (.cells #[.int .i64 0, .int .i64 0, .int .i64 0] 56)).drew := (((Fr.refl _ _).alloc _).alloc _).drew
  have Z := Lib.hid (And.intro z1 (And.intro z2 (And.intro z3 (And.intro z4 z5))))
  clear z1 z2 z3 z4 z5
  go_enter Try.func26, Try.ntmps26
  go_upto_region 4 with (fail)
  go_cut [6, 7] (fun _ v7 wx => v7 = .bool false ∧ Blk wx w.heap.size 56 #[.int .i64 (a : Int), .int .i64 (b : Int), .int .i64 u] ∧ Blk wx p 72 #[.map (some m), .slice (some ⟨g, 0, none⟩) n n] ∧ MapB wx m .i64 kv ∧ IB wx g 2 D ∧ Fr (fun k => k = m ∨ k = g) w wx)
  case first =>
    go_region_law (fail)
    all_goals
      go_wp2_with fail
      go_meet
      case rel => exact ⟨rfl, Z.out.1, Z.out.2.1, Z.out.2.2.1, Z.out.2.2.2.1, Z.out.2.2.2.2⟩
  case rest =>
    obtain ⟨rfl, z1, z2, z3, z4, z5⟩ := hcut
    obtain ⟨W2, rfl⟩ : ∃ W2 : World, W2 = wc := ⟨_, rfl⟩
    have hs2 := z5.size
    have HB4 := Lib.hid z4
    have HP2 := Lib.hid z2
    have HM2 := Lib.hid z3
    clear hmb hgb gx HPb q0 q1 q2 Z
    obtain ⟨q0, q1, q2⟩ := z2.facts
    obtain ⟨x0, x1, x2⟩ := z1.facts
    have n1 : m ≠ w.heap.size := by omega
    have n2 : g ≠ w.heap.size := by omega
    have n3 : p ≠ w.heap.size := by omega
    have hixa := fun W => ix53 (g := g) n n a ha W
    have hixb := fun W => ix53 (g := g) n n b hb W
    have ca := IB.at_ z4 (k := a) (by rw [hdl]; exact ha)
    have cb := IB.at_ z4 (k := b) (by rw [hdl]; exact hb)
    obtain ⟨y0, -, y2⟩ := z4.facts
    have ra := hd a
    have rb := hd b
    have hw1 : IntKind.i64.wrap (gd D a + 1) = gd D a + 1 := IntWalk.i64_in _ (by omega)
    have hw2 : IntKind.i64.wrap (gd D b - 1) = gd D b - 1 := IntWalk.i64_in _ (by omega)
    clear z1 z2 z4 ra rb hd
    go_wp2_with fail
    refine wp_tail 7 (by kernel_rfl) (by kernel_rfl) (fun T hT => ?_)
    simp only [List.take_succ_cons, List.take_zero]
    repeat still_step
    refine wpStill_nil (hT _ ?_)
    clear hT T
    simp only [List.drop_succ_cons, List.drop_zero]
    go_wp2_with fail
    refine wp_tail 10 (by kernel_rfl) (by kernel_rfl) (fun T hT => ?_)
    simp only [List.take_succ_cons, List.take_zero]
    repeat still_step
    refine wpStill_nil (hT _ ?_)
    clear hT T
    simp only [List.drop_succ_cons, List.drop_zero]
    go_wp2_with fail
    refine wp_tail 10 (by kernel_rfl) (by kernel_rfl) (fun T hT => ?_)
    simp only [List.take_succ_cons, List.take_zero]
    repeat still_step
    refine wpStill_nil (hT _ ?_)
    clear hT T
    simp only [List.drop_succ_cons, List.drop_zero]
    go_wp2_with fail
    go_ret
    refine ⟨rfl, HFin.out _ ?_ ?_ ?_ ?_⟩
    · exact ((((((HP2.out.mput m _ _ _).far (p := ⟨g, a, none⟩) npg _).far (p := ⟨g, b, none⟩) npg _).drew).drew).drew)
    · exact ((((((HM2.out.put u _).far (p := ⟨g, a, none⟩) nmg _).far (p := ⟨g, b, none⟩) nmg _).drew).drew).drew)
    · have e : bump D ⟨a, b, u⟩ = (D.set a (gd D a + 1)).set b (gd D b - 1) := by
        unfold bump bump1
        simp only [Int.toNat_natCast]
        rw [gd_set _ _ _ _ (by rw [hdl]; exact ha), if_neg (fun e => hab e.symm)]
        rfl
      rw [e]
      exact ((((IB.put (IB.put (HB4.out.mput m _ _ _) a _) b _).drew).drew).drew)
    · exact ((((((z5.mput (b := m) (.inl (.inl rfl)) _ _ _).setCell (p := ⟨g, a, none⟩) (.inl (.inr rfl)) _).setCell (p := ⟨g, b, none⟩) (.inl (.inr rfl)) _).drew).drew).drew)
/-- Lend, whatever the loan is. -/
theorem lend_any (p m g : Nat) (s : LSt) (ls : List Ln) (l : Ln) (w : World) (h : Led w p m g s ls) (hd : ∀ i, gd (debts s.n s.all) i ≤ 1000 ∧ -1000 ≤ gd (debts s.n s.all) i) :
    Calls Try.prog 26 #[.pointer (some ⟨p, 0, none⟩), lnV l] w (LendPost p m g s w (lendF s l)) := by
  unfold lendF
  by_cases h1 : lnOk s.n l = false
  · rw [if_pos h1]; exact lend_bad p m g s ls l w h h1
  · rw [if_neg h1]
    have h1' : lnOk s.n l = true := by simpa using h1
    by_cases h2 : hasU s.now l.u = true
    · rw [if_pos h2]; exact lend_dup p m g s ls l w h h1' h2
    · rw [if_neg h2]; exact lend_ok p m g s ls l w h h1' (by simpa using h2) hd
end Go.Proofs.Ytnmmiiajcjcccaa

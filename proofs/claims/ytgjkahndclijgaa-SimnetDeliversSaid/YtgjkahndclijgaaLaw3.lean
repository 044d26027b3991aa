import Derived.Test.YtgjkahndclijgaaLaw2
namespace Go.Proofs.Ytgjkahndclijgaa
set_option linter.unusedVariables false
open Go.RowKit Go.Own
theorem i2x : ∃ i, Try.prog.info? 2 = some i ∧ i.size = 1 := by obtain ⟨i, h, _, h2, _⟩ := info_parts info2; exact ⟨i, h, h2⟩
set_option maxRecDepth 10000 in
set_option maxHeartbeats 1000000 in
theorem numbers_yes (B1 B2 : Nat → Prop) (A1 A2 : Option Addr) (zs : List Int) (c1 c2 : Nat) (w : World) (h1 : Reads w B1 1 A1 zs.length (zs.map (Value.int .i64))) (h2 : Reads w B2 1 A2 zs.length (zs.map (Value.int .i64))) (hm : zs.length ≤ 1000) :
    Calls Try.prog 24 #[.slice A1 zs.length c1, .slice A2 zs.length c2] w fun e w' => e = .returned (.bool true) ∧ ∃ n, w' = w.drewN n := by
  have p1 := h1.plain (by omega)
  have p2 := h2.plain (by omega)
  obtain ⟨i2, hi2, hi21⟩ := i2x
  have H1 := Lib.hid h1
  have H2 := Lib.hid h2
  clear h1 h2
  have hne : ((zs.length : Int) != (zs.length : Int)) = false := by simp
  go_enter Try.func24, Try.ntmps24
  go_wp2
  go_loopw [13] (fun i wr => ∃ k n : Nat, k ≤ zs.length ∧ i = .int .i64 k ∧ wr = w.drewN n) (fun i _ => zs.length - (intOf i).toNat)
  case atStart => exact ⟨0, 0, Nat.zero_le _, rfl, rfl⟩
  case round =>
    obtain ⟨k, n, hk, rfl, rfl⟩ := hrel
    by_cases hlt : k < zs.length
    · have hlt' : (k : Int) < zs.length := by omega
      obtain ⟨x, hgx⟩ : ∃ x, zs[k]? = some x := ⟨_, List.getElem?_eq_getElem hlt⟩
      have hx1 := fun W => run_indexAt2 (P := Try.prog) Try.underlying46 hi2 hi21 p1 c1 k hlt W
      have hx2 := fun W => run_indexAt2 (P := Try.prog) Try.underlying46 hi2 hi21 p2 c2 k hlt W
      simp only [Nat.mul_one] at hx1 hx2
      have d1 : w.cell? ⟨bk A1, ofs A1 + k, none⟩ = some (.int .i64 x) := (H1.out.cell2 k (by omega) (by omega)).trans (by simp [hgx])
      have d2 : w.cell? ⟨bk A2, ofs A2 + k, none⟩ = some (.int .i64 x) := (H2.out.cell2 k (by omega) (by omega)).trans (by simp [hgx])
      clear hgx
      go_wp2_with fail
      go_quiet (fail)
      go_wp2
      go_roundw
      case rel => exact ⟨k + 1, _, by omega, by go_num, rfl⟩
      case measure => simp [intOf]; omega
    · have hge : ¬ ((k : Int) < zs.length) := by omega
      go_wp2
      go_ret
      exact ⟨rfl, n, rfl⟩
theorem own_below {w w' : World} {base : Nat} {e : TypeId} {size n : Nat} {v : Value} {xs : List Value} (h : w.ownsRow base e size v n xs) (hb : Below w.heap.size w w') : w'.ownsRow base e size v n xs :=
  h.kept (row := none) ⟨hb.os, hb.tape, hb.output, hb.size, fun k hk _ => hb.block k hk⟩ (by cases v.ownBlock <;> simp)
def IdsPost (xs : List Int) (w : World) (e : Ending) (w' : World) : Prop := ∃ A c, e = .returned (.slice A xs.length c) ∧ Reads w' (w.heap.size ≤ ·) 1 A xs.length (xs.map (Value.int .i64)) ∧ Below w.heap.size w w'
def idsR (l : List It) : List Int := l.map (·.id)
theorem idsR_step (l : List It) (k : Nat) (x : It) (h : l[k]? = some x) : idsR (l.take (k + 1)) = idsR (l.take k) ++ [x.id] := by
  obtain ⟨hk, rfl⟩ := List.getElem?_eq_some_iff.1 h
  unfold idsR; rw [List.take_succ_eq_append_getElem hk, List.map_append]; rfl
theorem int_one (xs : List Int) : ∀ u ∈ xs.map (Value.int .i64), u.oneCell' = true := ints_oneCell .i64 xs
set_option maxRecDepth 10000 in
set_option maxHeartbeats 1000000 in
theorem all_any (R : RefS) (B : Nat → Prop) (w : World) (h : Ref w B R) (hl : R.items.length ≤ 1000) :
    Calls Try.prog 25 #[rv R] w (IdsPost (idsR R.items) w) := by
  have hits := (h.its.old (by omega)).more (B' := (· < w.heap.size)) (fun k hk => hk.2)
  have hsm := hits.plain (by omega)
  obtain ⟨i63, hi63, hi631⟩ := i63
  go_enter Try.func25, Try.ntmps25
  go_wp2
  go_loopw [3, 9] (fun v i wr => ∃ (k m : Nat) (A : Option Addr) (c : Nat), k ≤ R.items.length ∧ i = .int .i64 k ∧ m = (idsR (R.items.take k)).length ∧ v = .slice A m c ∧ wr.ownsRow (w.heap.size + 1) 2 1 (.slice A m c) m ((idsR (R.items.take k)).map (Value.int .i64)) ∧ Below w.heap.size w wr ∧ w.heap.size + 1 ≤ wr.heap.size) (fun _ i _ => R.items.length - (intOf i).toNat)
  case atStart => exact ⟨0, 0, none, 0, Nat.zero_le _, rfl, rfl, rfl, World.ownsRow_nil _ _ _ _, (Below.refl _ _).alloc (Nat.le_refl _) _, by simp⟩
  case round =>
    obtain ⟨k, m, A, c, hk, rfl, hm, rfl, hown, hbel, hsz1⟩ := hrel
    have hsz := hbel.size
    have hml : m ≤ 1000 := by rw [hm]; simp [idsR]; omega
    have HM := Lib.hid hm; clear hm
    by_cases hlt : k < R.items.length
    · have hlt' : (k : Int) < R.items.length := by omega
      obtain ⟨x, hgx⟩ : ∃ x, R.items[k]? = some x := ⟨_, List.getElem?_eq_getElem hlt⟩
      have hR := hits.below hbel (fun _ h => h)
      have hix := fun W => run_indexAt2 (P := Try.prog) Try.underlying38 hi63 hi631 hsm R.ic k hlt W
      have c0 : wr.cell? ⟨bk R.ia, ofs R.ia + k * 4, none⟩ = some (.int .i64 x.id) := (hR.cell2 (k * 4 + 0) (by omega) (by omega)).trans (itcs_get _ _ _ _ hgx (by omega))
      have c1 : wr.cell? ⟨bk R.ia, ofs R.ia + k * 4 + 1, none⟩ = some (.int .i64 x.frm) := (hR.cell2 (k * 4 + 1) (by omega) (by omega)).trans (itcs_get _ _ _ _ hgx (by omega))
      have c2 : wr.cell? ⟨bk R.ia, ofs R.ia + k * 4 + 2, none⟩ = some (.int .i64 x.to) := (hR.cell2 (k * 4 + 2) (by omega) (by omega)).trans (itcs_get _ _ _ _ hgx (by omega))
      have c3 : wr.cell? ⟨bk R.ia, ofs R.ia + k * 4 + 3, none⟩ = some (.slice x.A x.n x.c) := (hR.cell2 (k * 4 + 3) (by omega) (by omega)).trans (itcs_get _ _ _ _ hgx (by omega))
      have HS := Lib.hid (idsR_step R.items k x hgx)
      clear hits hgx h hR
      go_wp2_with (at_builtin; refine wpList_append_any _ rfl _ _ _ rfl (w.heap.size + 1) 2 (.int .i64 0) 1 8 Try.underlying46 info2 rfl (by omega) (.slice A m c) m ((idsR (R.items.take k)).map (Value.int .i64)) rfl ((hown.alloc _).alloc _) _ (some ⟨wr.heap.size + 1, 0, none⟩) 1 1 [.int .i64 x.id] rfl (Reads.newS _ [.int .i64 x.id] 2 (0, 0) 1 1 rfl _ (by simp)) (by simp [Value.oneCell']) (by simp only [maxLen]; omega) (by omega) (by simp; omega) ?_; intro A2 c2 w2 hown2 hgr hat)
      go_roundw
      case rel =>
        have hrow : ∀ g, (Value.slice A m c).ownBlock = some g → w.heap.size + 1 ≤ g := fun g hg => (hown.lt g hg).1
        refine ⟨k + 1, m + 1, A2, c2, by omega, by go_num, ?_, rfl, ?_, ?_, ?_⟩
        · rw [HS.out, List.length_append, ← HM.out]; rfl
        · rw [HS.out, List.map_append]; simpa using hown2
        · exact ((hbel.alloc hsz _).alloc (by simp; omega) _).grown hgr (by simp; omega) (fun g hg => by have := hrow g hg; omega)
        · have := hgr.size; simp at this; omega
      case measure => simp [intOf]; omega
    · have hge : ¬ ((k : Int) < R.items.length) := by omega
      have hkk : k = R.items.length := by omega
      have HT := Lib.hid (show R.items.take k = R.items from List.take_of_length_le (by omega))
      clear hits h hkk
      go_wp2
      have hm' := HM.out
      rw [HT.out] at hown hm'
      subst hm'
      go_ret
      refine ⟨A, c, rfl, ?_, hbel⟩
      exact (Reads.of_own hown).more (fun k hk => by have := (hown.lt k hk).1; omega)
abbrev itA (x : It) : Array Value := #[.int .i64 x.id, .int .i64 x.frm, .int .i64 x.to, .slice x.A x.n x.c]
def canR (R : RefS) (l : List It) : List Int := (l.filter fun x => joinB R x.frm x.to).map (·.id)
theorem canR_step (R : RefS) (l : List It) (k : Nat) (x : It) (h : l[k]? = some x) : canR R (l.take (k + 1)) = canR R (l.take k) ++ (if joinB R x.frm x.to = true then [x.id] else []) := by
  obtain ⟨hk, rfl⟩ := List.getElem?_eq_some_iff.1 h
  unfold canR; rw [List.take_succ_eq_append_getElem hk, List.filter_append, List.map_append]
  by_cases hj : joinB R l[k].frm l[k].to = true
  · simp [hj]
  · simp [hj]
theorem canR_le (R : RefS) (l : List It) : (canR R l).length ≤ l.length := by unfold canR; rw [List.length_map]; exact List.length_filter_le _ _
set_option maxRecDepth 10000 in
set_option maxHeartbeats 1000000 in
theorem can_any (R : RefS) (B : Nat → Prop) (w : World) (h : Ref w B R) (hl : R.items.length ≤ 1000) :
    Calls Try.prog 27 #[rv R] w (IdsPost (canR R R.items) w) := by
  have hits := (h.its.old (by omega)).more (B' := (· < w.heap.size)) (fun k hk => hk.2)
  have hsm := hits.plain (by omega)
  obtain ⟨i63, hi63, hi631⟩ := i63
  have HH := Lib.hid fun W (hb : Below w.heap.size w W) => h.below hb
  go_enter Try.func27, Try.ntmps27
  go_wp2
  go_loopw [3, 9] (fun v i wr => ∃ (k m : Nat) (A : Option Addr) (c : Nat), k ≤ R.items.length ∧ i = .int .i64 k ∧ m = (canR R (R.items.take k)).length ∧ v = .slice A m c ∧ wr.ownsRow (w.heap.size + 1) 2 1 (.slice A m c) m ((canR R (R.items.take k)).map (Value.int .i64)) ∧ Blk wr w.heap.size 40 (refC R) ∧ Below w.heap.size w wr) (fun _ i _ => R.items.length - (intOf i).toNat)
  case atStart => exact ⟨0, 0, none, 0, Nat.zero_le _, rfl, rfl, rfl, World.ownsRow_nil _ _ _ _, Blk.new w 40 _, (Below.refl _ _).alloc (Nat.le_refl _) _⟩
  case round =>
    obtain ⟨k, m, A, c, hk, rfl, hm, rfl, hown, hb0, hbel⟩ := hrel
    have hsz := hbel.size
    have hml : m ≤ 1000 := by rw [hm]; exact Nat.le_trans (canR_le _ _) (by simp; omega)
    have HM := Lib.hid hm; clear hm
    obtain ⟨b0lt, b0c, b0f⟩ := hb0.facts
    simp only [refC] at b0c
    by_cases hlt : k < R.items.length
    · have hlt' : (k : Int) < R.items.length := by omega
      obtain ⟨x, hgx⟩ : ∃ x, R.items[k]? = some x := ⟨_, List.getElem?_eq_getElem hlt⟩
      have hR := hits.below hbel (fun _ h => h)
      have hix := fun W => run_indexAt2 (P := Try.prog) Try.underlying38 hi63 hi631 hsm R.ic k hlt W
      have c0 : wr.cell? ⟨bk R.ia, ofs R.ia + k * 4, none⟩ = some (.int .i64 x.id) := (hR.cell2 (k * 4 + 0) (by omega) (by omega)).trans (itcs_get _ _ _ _ hgx (by omega))
      have c1 : wr.cell? ⟨bk R.ia, ofs R.ia + k * 4 + 1, none⟩ = some (.int .i64 x.frm) := (hR.cell2 (k * 4 + 1) (by omega) (by omega)).trans (itcs_get _ _ _ _ hgx (by omega))
      have c2 : wr.cell? ⟨bk R.ia, ofs R.ia + k * 4 + 2, none⟩ = some (.int .i64 x.to) := (hR.cell2 (k * 4 + 2) (by omega) (by omega)).trans (itcs_get _ _ _ _ hgx (by omega))
      have c3 : wr.cell? ⟨bk R.ia, ofs R.ia + k * 4 + 3, none⟩ = some (.slice x.A x.n x.c) := (hR.cell2 (k * 4 + 3) (by omega) (by omega)).trans (itcs_get _ _ _ _ hgx (by omega))
      have HS := Lib.hid (canR_step R R.items k x hgx)
      have e0 := hb0.alloc (.cells (itA x) 63)
      have e1 : Blk (wr.alloc (.cells (itA x) 63)) wr.heap.size 63 (itA x) := Blk.new wr 63 _
      have hb1 := hbel.alloc hsz (.cells (itA x) 63)
      cases hj : joinB R x.frm x.to with
      | true =>
        have HS2 := Lib.hid (show canR R (R.items.take (k + 1)) = canR R (R.items.take k) ++ [x.id] by have := HS.out; rw [if_pos hj] at this; exact this)
        have HJ := Lib.hid (joined_y R B x.frm x.to (wr.alloc (.cells (itA x) 63)) (HH.out _ hb1) hj)
        have hownA := hown.alloc (.cells (itA x) 63)
        clear hits hgx h hR HS hj hown
        go_wp2_with (first
          | (go_at_call 17; ((with_reducible refine HJ.out.mono ?_); rintro e w1 ⟨rfl, hbJ⟩; have g0 := e0.below hbJ e0.lt; have g1 := e1.below hbJ e1.lt; have hown1 := own_below hownA hbJ; have hb1' := hb1.trans (hbJ.mono hb1.size); have hs1 := hb1'.size; obtain ⟨q0, q1, q2⟩ := g1.facts; simp only [itA] at q1; have l0 := g0.lt; clear g1))
          | (at_builtin; refine wpList_append_any _ rfl _ _ _ rfl (w.heap.size + 1) 2 (.int .i64 0) 1 8 Try.underlying46 info2 rfl (by omega) (.slice A m c) m ((canR R (R.items.take k)).map (Value.int .i64)) rfl (hown1.alloc _) _ (some ⟨w1.heap.size, 0, none⟩) 1 1 [.int .i64 x.id] rfl (Reads.newS _ [.int .i64 x.id] 2 (0, 0) 1 1 rfl _ (by simp)) (by simp [Value.oneCell']) (by simp only [maxLen]; omega) (by omega) (by simp; omega) ?_; intro A2 c2 w2 hown2 hgr hat))
        go_roundw
        case rel =>
          have hrow : ∀ g, (Value.slice A m c).ownBlock = some g → w.heap.size + 1 ≤ g := fun g hg => (hown1.lt g hg).1
          refine ⟨k + 1, m + 1, A2, c2, by omega, by go_num, ?_, rfl, ?_, ?_, ?_⟩
          · rw [HS2.out, List.length_append, ← HM.out]; rfl
          · rw [HS2.out, List.map_append]; simpa using hown2
          · exact (g0.alloc _).grown hgr (fun e => by have := hrow _ e.symm; omega)
          · exact (hb1'.alloc hs1 _).grown hgr (by simp; omega) (fun g hg => by have := hrow g hg; omega)
        case measure => simp [intOf]; omega
      | false =>
        have HS2 := Lib.hid (show canR R (R.items.take (k + 1)) = canR R (R.items.take k) by have := HS.out; rw [if_neg (by simp [hj])] at this; simpa using this)
        have HJ := Lib.hid (joined_n R B x.frm x.to (wr.alloc (.cells (itA x) 63)) (HH.out _ hb1) hj)
        have hownA := hown.alloc (.cells (itA x) 63)
        clear hits hgx h hR HS hj hown
        go_wp2_with (
          (go_at_call 17; ((with_reducible refine HJ.out.mono ?_); rintro e w1 ⟨rfl, hbJ⟩; have g0 := e0.below hbJ e0.lt; have hown1 := own_below hownA hbJ; have hb1' := hb1.trans (hbJ.mono hb1.size))))
        go_roundw
        case rel => exact ⟨k + 1, m, A, c, by omega, by go_num, by rw [HS2.out]; exact HM.out, rfl, by rw [HS2.out]; exact hown1, g0, hb1'⟩
        case measure => simp [intOf]; omega
    · have hge : ¬ ((k : Int) < R.items.length) := by omega
      have hkk : k = R.items.length := by omega
      have HT := Lib.hid (show R.items.take k = R.items from List.take_of_length_le (by omega))
      clear hits h hkk
      go_wp2
      have hm' := HM.out
      rw [HT.out] at hown hm'
      subst hm'
      go_ret
      refine ⟨A, c, rfl, ?_, hbel⟩
      exact (Reads.of_own hown).more (fun k hk => by have := (hown.lt k hk).1; omega)
end Go.Proofs.Ytgjkahndclijgaa

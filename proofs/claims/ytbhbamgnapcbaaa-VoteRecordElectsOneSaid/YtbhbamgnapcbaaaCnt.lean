import Derived.Test.YtbhbamgnapcbaaaWin1
namespace Go.Quo
def BestIs (o n : List Int) (l : List (Int × Int)) (k : Nat) (r : Int) : Prop := (r = -1 ∧ ∀ p ∈ l.take k, 0 ≤ p.2 → reachB o n (vot l p.2) = false) ∨ (0 ≤ r ∧ (∃ p ∈ l, p.2 = r) ∧ reachB o n (vot l r) = true ∧ ∀ p ∈ l.take k, 0 ≤ p.2 → reachB o n (vot l p.2) = true → r ≤ p.2)
theorem BestIs.start (o n : List Int) (l : List (Int × Int)) : BestIs o n l 0 (-1) := .inl ⟨rfl, by simp⟩
theorem BestIs.stop {o n : List Int} {l : List (Int × Int)} {r : Int} (h : BestIs o n l l.length r) : WinIs o n l r := by
  unfold BestIs at h
  rw [List.take_length] at h
  exact h
theorem BestIs.skip {o n : List Int} {l : List (Int × Int)} {k : Nat} {r : Int} {p : Int × Int} (h : BestIs o n l k r) (hp : l.take (k + 1) = l.take k ++ [p]) (hn : 0 ≤ p.2 → reachB o n (vot l p.2) = true → 0 ≤ r ∧ r ≤ p.2) : BestIs o n l (k + 1) r := by
  unfold BestIs
  rw [hp]
  rcases h with ⟨h1, h2⟩ | ⟨h1, h2, h3, h4⟩
  · refine .inl ⟨h1, fun q hq h0 => ?_⟩
    rcases List.mem_append.1 hq with hq | hq
    · exact h2 q hq h0
    · obtain rfl : q = p := by simpa using hq
      cases hr : reachB o n (vot l q.2) with
      | false => rfl
      | true => have := (hn h0 hr).1; omega
  · refine .inr ⟨h1, h2, h3, fun q hq h0 hr => ?_⟩
    rcases List.mem_append.1 hq with hq | hq
    · exact h4 q hq h0 hr
    · obtain rfl : q = p := by simpa using hq
      exact (hn h0 hr).2
theorem BestIs.take {o n : List Int} {l : List (Int × Int)} {k : Nat} {r : Int} {p : Int × Int} (h : BestIs o n l k r) (hp : l.take (k + 1) = l.take k ++ [p]) (hm : p ∈ l) (h0 : 0 ≤ p.2) (hr : reachB o n (vot l p.2) = true) (hb : r = -1 ∨ p.2 < r) : BestIs o n l (k + 1) p.2 := by
  unfold BestIs
  rw [hp]
  refine .inr ⟨h0, ⟨p, hm, rfl⟩, hr, fun q hq hq0 hqr => ?_⟩
  rcases List.mem_append.1 hq with hq | hq
  · rcases h with ⟨h1, h2⟩ | ⟨h1, h2, h3, h4⟩
    · have := h2 q hq hq0; rw [hqr] at this; cases this
    · have := h4 q hq hq0 hqr
      omega
  · obtain rfl : q = p := by simpa using hq
    exact Int.le_refl _
end Go.Quo
namespace Go.Proofs.Ytbhbamgnapcbaaa
set_option linter.unusedVariables false
open Go.RowKit Go.Own Go.Quo
set_option maxRecDepth 10000 in
set_option maxHeartbeats 4000000 in
theorem count_any (B B2 : Nat → Prop) (m : Ms) (A : Option Addr) (c : Nat) (l : List (Int × Int)) (w : World) (h : MR w B m) (hr : Reads w B2 2 A l.length (l.flatMap prL)) (hl : l.length ≤ 100) :
    Calls Try.prog 29 #[msV m, .slice A l.length c] w (WnPost m.o m.n l w) := by
  obtain ⟨i70, hi70, hs70⟩ := info70
  have hPl := hr.plain (by omega)
  have HR := Lib.hid (hr.old (by omega))
  have HH := Lib.hid h
  have b1 : Below w.heap.size w (w.alloc (.cells (msC m) 65)) := (Below.refl _ _).alloc (Nat.le_refl _) _
  have g1 : Blk (w.alloc (.cells (msC m) 65)) w.heap.size 65 (msC m) := Blk.new w 65 _
  have s1 : (w.alloc (.cells (msC m) 65)).heap.size = w.heap.size + 1 := by simp
  clear h hr
  go_enter Try.func29, Try.ntmps29
  go_wp2_with fail
  generalize w.alloc (.cells (msC m) 65) = W1 at *
  go_loopw [5, 13] (fun vb vi wr => ∃ (k : Nat) (r : Int), k ≤ l.length ∧ vi = .int .i64 k ∧ vb = .int .i64 r ∧ BestIs m.o m.n l k r ∧ Below (w.heap.size + 1) W1 wr) (fun _ vi _ => l.length - (intOf vi).toNat)
  case atStart => exact ⟨0, -1, Nat.zero_le _, rfl, rfl, BestIs.start _ _ _, Below.refl _ _⟩
  case round =>
    obtain ⟨k, r, hk, rfl, rfl, hbest, hbel⟩ := hrel
    obtain ⟨wo, rfl⟩ : ∃ wo : World, wo = wr := ⟨_, rfl⟩
    have hsr := hbel.size
    have HBt := Lib.hid hbest
    clear hbest
    have bw : Below w.heap.size w wo := b1.trans (hbel.mono (by omega))
    by_cases hlt : k < l.length
    · have hlt' : (k : Int) < l.length := by omega
      obtain ⟨p, hp⟩ : ∃ p, l[k]? = some p := ⟨_, List.getElem?_eq_getElem hlt⟩
      have hTk := Lib.hid (show l.take (k + 1) = l.take k ++ [p] by rw [List.take_add_one, hp]; rfl)
      have hpm := Lib.hid (List.mem_of_getElem? hp)
      have hix := fun W => run_indexAt2 (P := Try.prog) Try.underlying66 hi70 hs70 hPl c k hlt W
      obtain ⟨c0, c1⟩ := pr_cells (HR.out.below bw (fun _ h => h.2)) hp
      clear hp
      obtain ⟨pv, px⟩ := p
      simp only at c0 c1
      have g3 : Blk (wo.alloc (.cells #[.int .i64 pv, .int .i64 px] 70)) wo.heap.size 70 #[.int .i64 pv, .int .i64 px] := Blk.new wo 70 _
      have b3 : Below (w.heap.size + 1) W1 (wo.alloc (.cells #[.int .i64 pv, .int .i64 px] 70)) := hbel.alloc (by omega) _
      have s3 : (wo.alloc (.cells #[.int .i64 pv, .int .i64 px] 70)).heap.size = wo.heap.size + 1 := by simp
      have g1r := g1.below b3 (by omega)
      go_wp2_with fail
      generalize wo.alloc (.cells #[.int .i64 pv, .int .i64 px] 70) = W3 at *
      go_loopw [8, 10, 19] (fun vy _ vj wq => ∃ (j : Nat) (Ay : Option Addr) (cy : Nat), j ≤ l.length ∧ vj = .int .i64 j ∧ vy = .slice Ay (vot (l.take j) px).length cy ∧ wq.ownsRow (wo.heap.size + 1) 3 1 (.slice Ay (vot (l.take j) px).length cy) (vot (l.take j) px).length ((vot (l.take j) px).map (Value.int .i64)) ∧ Below (wo.heap.size + 1) W3 wq) (fun _ _ vj _ => l.length - (intOf vj).toNat)
      case atStart => exact ⟨0, none, 0, Nat.zero_le _, rfl, rfl, World.ownsRow_nil _ _ _ _, Below.refl _ _⟩
      case round =>
        obtain ⟨j, Ay, cy, hj, rfl, rfl, hown, hbq⟩ := hrel
        have hsq := hbq.size
        have hvl := vot_len (l.take j) px
        rw [List.length_take] at hvl
        have hvl2 : (vot (l.take j) px).length ≤ 100 := by omega
        have HO := Lib.hid hown
        have g3q := g3.below hbq (by omega)
        have g1q := g1r.below hbq (by omega)
        have b3q : Below (w.heap.size + 1) W1 wr := b3.trans (hbq.mono (by omega))
        have bwq : Below w.heap.size w wr := b1.trans (b3q.mono (by omega))
        obtain ⟨y0, y1, y2⟩ := g3q.facts
        obtain ⟨x0, x1, x2⟩ := g1q.facts
        clear hown hvl
        by_cases hjt : j < l.length
        · have hjt' : (j : Int) < l.length := by omega
          obtain ⟨q, hq⟩ : ∃ q, l[j]? = some q := ⟨_, List.getElem?_eq_getElem hjt⟩
          have hTj := Lib.hid (show l.take (j + 1) = l.take j ++ [q] by rw [List.take_add_one, hq]; rfl)
          have hixj := fun W => run_indexAt2 (P := Try.prog) Try.underlying66 hi70 hs70 hPl c j hjt W
          obtain ⟨d0, d1⟩ := pr_cells (HR.out.below bwq (fun _ h => h.2)) hq
          clear hq
          obtain ⟨qv, qx⟩ := q
          simp only at d0 d1
          by_cases hqx : qx = px
          · have hqb : (qx == px) = true := by simpa using hqx
            have hvs := vot_snoc (l.take j) (qv, qx) px
            rw [if_pos hqx, ← hTj.out] at hvs
            have HVs := Lib.hid hvs
            clear hvs hqx
            generalize vot (l.take j) px = yj at *
            have ho2 := (HO.out.alloc (.cells #[.int .i64 qv, .int .i64 qx] 70)).alloc (.cells #[.int .i64 qv] 3)
            go_wp2_with (at_builtin; refine wpList_append_any _ rfl _ _ _ rfl (wo.heap.size + 1) 3 _ 1 8 Try.underlying63 info3 rfl (by omega) (.slice Ay yj.length cy) yj.length (yj.map (Value.int .i64)) rfl ho2 _ (some ⟨wr.heap.size + 1, 0, none⟩) 1 1 [.int .i64 qv] rfl (Reads.newS _ [.int .i64 qv] 3 (0, 0) 1 1 rfl _ (by simp)) (by simp [Value.oneCell']) (by simp only [maxLen]; omega) (by omega) (by simp; omega) ?_; intro A4 c4 w4 hown4 hgr4 hat4)
            have e4 : (vot (l.take (j + 1)) px).length = yj.length + 1 := by rw [HVs.out]; simp
            refine ⟨⟨j + 1, A4, c4, by omega, by go_num, by rw [e4], ?_, ((hbq.alloc (by omega) _).alloc (by simp; omega) _).grown hgr4 (by simp; omega) (fun g hg => (HO.out.lt g hg).1)⟩, by simp [intOf]; omega⟩
            rw [e4, HVs.out]
            simpa using hown4
          · have hqb : (qx == px) = false := by simpa using hqx
            have hvs := vot_snoc (l.take j) (qv, qx) px
            rw [if_neg hqx, ← hTj.out] at hvs
            have HVs := Lib.hid hvs
            clear hvs hqx
            go_wp2_with fail
            refine ⟨⟨j + 1, Ay, cy, by omega, by go_num, by rw [HVs.out], by rw [HVs.out]; exact HO.out.alloc _, hbq.alloc (by omega) _⟩, by simp [intOf]; omega⟩
        · have hjt' : ¬ (j : Int) < l.length := by omega
          have he : j = l.length := by omega
          subst he
          simp only [List.take_length] at HO hvl2 ⊢
          have HIs := Lib.hid (is_any B (fun g => (Value.slice Ay (vot l px).length cy).ownBlock = some g) m Ay cy (vot l px) wr (HH.out.below bwq) (Reads.of_own HO.out) (by omega))
          cases hq : reachB m.o m.n (vot l px) with
          | false =>
            rw [hq] at HIs
            have HB2 := Lib.hid (HBt.out.skip hTk.out (fun _ e => by simp only [] at e; rw [hq] at e; cases e))
            clear hq
            generalize vot l px = yl at *
            go_wp2_with fail
            refine HIs.out.mono ?_
            rintro e w6 ⟨rfl, hB6⟩
            have g6 := g3q.below hB6 g3q.lt
            obtain ⟨z0, z1, z2⟩ := g6.facts
            go_wp2_with fail
            refine ⟨⟨k + 1, r, by omega, by go_num, rfl, HB2.out, b3q.trans (hB6.mono (by omega))⟩, by simp [intOf]; omega⟩
          | true =>
            rw [hq] at HIs
            have HTk2 := Lib.hid fun h0 hb => HBt.out.take hTk.out hpm.out h0 hq hb
            have HSk2 := Lib.hid fun (hn : 0 ≤ px → 0 ≤ r ∧ r ≤ px) => HBt.out.skip hTk.out (fun h0 _ => hn h0)
            have hr01 : r = -1 ∨ 0 ≤ r := by rcases HBt.out with e | e; exact .inl e.1; exact .inr e.1
            clear hq
            generalize vot l px = yl at *
            have hcs : ((¬ (0 : Int) ≤ px) ∨ ((0 : Int) ≤ px ∧ (r == -1) = true) ∨ ((0 : Int) ≤ px ∧ (r == -1) = false ∧ px < r) ∨ ((0 : Int) ≤ px ∧ (r == -1) = false ∧ ¬ px < r)) := by
              by_cases e1 : (0 : Int) ≤ px
              · by_cases e2 : r = -1
                · exact .inr (.inl ⟨e1, by simpa using e2⟩)
                · by_cases e3 : px < r
                  · exact .inr (.inr (.inl ⟨e1, by simpa using e2, e3⟩))
                  · exact .inr (.inr (.inr ⟨e1, by simpa using e2, e3⟩))
              · exact .inl e1
            rcases hcs with k1 | ⟨k1, k2⟩ | ⟨k1, k2, k3⟩ | ⟨k1, k2, k3⟩
            all_goals
              go_wp2_with fail
              refine HIs.out.mono ?_
              rintro e w6 ⟨rfl, hB6⟩
              have g6 := g3q.below hB6 g3q.lt
              obtain ⟨z0, z1, z2⟩ := g6.facts
              go_wp2_with fail
            · exact ⟨⟨k + 1, r, by omega, by go_num, rfl, HSk2.out (fun e => absurd e (by omega)), b3q.trans (hB6.mono (by omega))⟩, by simp [intOf]; omega⟩
            · exact ⟨⟨k + 1, px, by omega, by go_num, rfl, HTk2.out k1 (.inl (by simpa using k2)), b3q.trans (hB6.mono (by omega))⟩, by simp [intOf]; omega⟩
            · exact ⟨⟨k + 1, px, by omega, by go_num, rfl, HTk2.out k1 (.inr k3), b3q.trans (hB6.mono (by omega))⟩, by simp [intOf]; omega⟩
            · exact ⟨⟨k + 1, r, by omega, by go_num, rfl, HSk2.out (fun e => ⟨by rcases hr01 with e1 | e1; simp [e1] at k2; exact e1, by omega⟩), b3q.trans (hB6.mono (by omega))⟩, by simp [intOf]; omega⟩
    · have hlt' : ¬ (k : Int) < l.length := by omega
      have he : k = l.length := by omega
      subst he
      go_wp2_with fail
      go_ret
      exact ⟨r, rfl, HBt.out.stop, bw⟩
end Go.Proofs.Ytbhbamgnapcbaaa

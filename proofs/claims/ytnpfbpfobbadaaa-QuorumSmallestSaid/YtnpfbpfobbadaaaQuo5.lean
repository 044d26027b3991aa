import Derived.Test.YtnpfbpfobbadaaaQuo4
namespace Go.Quo
def bothN (o n r : List Int) : Nat := (r.filter fun m => hasB o m && hasB n m).length
def oldN (o n r : List Int) : Nat := (r.filter fun m => hasB o m && !hasB n m).length
def newN (o n r : List Int) : Nat := (r.filter fun m => !hasB o m && hasB n m).length
theorem step_len (f : Int → Bool) (l : List Int) (k : Nat) (hk : k < l.length) : ((l.take (k + 1)).filter f).length = ((l.take k).filter f).length + if f (gd l k) = true then 1 else 0 := by
  rw [List.take_succ_eq_append_getElem hk, List.filter_append, List.length_append, gd_get hk]
  cases h : f l[k] with
  | true => rw [List.filter_cons_of_pos (by simpa using h)]; simp
  | false => rw [List.filter_cons_of_neg (by simp only [h]; exact Bool.false_ne_true)]; simp
def upd (x y k oo nn best : Int) : Int := if x ≤ oo ∧ y ≤ nn ∧ (best < 0 ∨ k + x + y < best) then k + x + y else best
def bestStep (oo nn a b best : Int) (k : Nat) : Int := upd (max (a - k) 0) (max (b - k) 0) k oo nn best
def bestUpTo (oo nn a b : Int) (m : Nat) : Int := (List.range m).foldl (bestStep oo nn a b) (-1)
theorem bestUpTo_succ (oo nn a b : Int) (m : Nat) : bestUpTo oo nn a b (m + 1) = bestStep oo nn a b (bestUpTo oo nn a b m) m := by
  unfold bestUpTo
  rw [List.range_succ, List.foldl_append]; rfl
theorem best_bd (oo nn a b : Int) (ha : a ≤ 1000) (hb : b ≤ 1000) : ∀ m : Nat, m ≤ 1001 → -1 ≤ bestUpTo oo nn a b m ∧ bestUpTo oo nn a b m ≤ 3100
  | 0, _ => ⟨by simp [bestUpTo], by simp [bestUpTo]⟩
  | m + 1, hm => by
    have := best_bd oo nn a b ha hb m (by omega)
    rw [bestUpTo_succ]
    unfold bestStep upd
    split <;> omega
def missF (o n r : List Int) (a b : Int) : Int := bestUpTo (oldN o n r) (newN o n r) a b (bothN o n r + 1)
end Go.Quo
namespace Go.Proofs.Ytnpfbpfobbadaaa
set_option linter.unusedVariables false
open Go.RowKit Go.Own Go.Quo
theorem below_drewN {B : Nat} {w w' : World} (h : Below B w w') (n : Nat) : Below B w (w'.drewN n) := ⟨h.os, h.tape, h.output, h.size, h.block⟩
set_option maxRecDepth 10000 in
set_option maxHeartbeats 4000000 in
theorem missing_any (B B2 : Nat → Prop) (m : Ms) (A2 : Option Addr) (c2 : Nat) (r : List Int) (a b : Int) (w : World) (h : MR w B m) (hr : RI w B2 A2 r) (hl : r.length ≤ 900) (ha0 : -1000 ≤ a) (ha1 : a ≤ 1000) (hb0 : -1000 ≤ b) (hb1 : b ≤ 1000) :
    Calls Try.prog 38 #[msV m, .slice A2 r.length c2, .int .i64 a, .int .i64 b] w fun e w' => e = .returned (.int .i64 (missF m.o m.n r a b)) ∧ Below w.heap.size w w' := by
  have hp := hr.plain (by omega)
  have h1 := h.alloc (.cells (msC m) 24)
  have hr1 := hr.alloc (.cells (msC m) 24)
  have g0 : Blk (w.alloc (.cells (msC m) 24)) w.heap.size 24 (msC m) := Blk.new w 24 _
  have hb : Below w.heap.size w (w.alloc (.cells (msC m) 24)) := (Below.refl _ _).alloc (Nat.le_refl _) _
  have HM := Lib.hid h1
  have HR := Lib.hid hr1
  clear h h1 hr hr1
  go_enter Try.func38, Try.ntmps38
  go_wp2
  generalize w.alloc (.cells (msC m) 24) = W at *
  go_loopw [9, 10, 11, 22] (fun u v x i wr => ∃ (k n1 n2 n3 : Nat), k ≤ r.length ∧ i = .int .i64 k ∧ u = .int .i64 n1 ∧ v = .int .i64 n2 ∧ x = .int .i64 n3 ∧ n1 = bothN m.o m.n (r.take k) ∧ n2 = oldN m.o m.n (r.take k) ∧ n3 = newN m.o m.n (r.take k) ∧ Below W.heap.size W wr) (fun _ _ _ i _ => r.length - (intOf i).toNat)
  case atStart => exact ⟨0, 0, 0, 0, Nat.zero_le _, rfl, rfl, rfl, rfl, rfl, rfl, rfl, Below.refl _ _⟩
  case round =>
    obtain ⟨k, n1, n2, n3, hk, rfl, rfl, rfl, rfl, e1, e2, e3, hbr⟩ := hrel
    have f1 : n1 ≤ 900 := by rw [e1]; exact Nat.le_trans (List.length_filter_le _ _) (by simp; omega)
    have f2 : n2 ≤ 900 := by rw [e2]; exact Nat.le_trans (List.length_filter_le _ _) (by simp; omega)
    have f3 : n3 ≤ 900 := by rw [e3]; exact Nat.le_trans (List.length_filter_le _ _) (by simp; omega)
    have E1 := Lib.hid e1; have E2 := Lib.hid e2; have E3 := Lib.hid e3
    clear e1 e2 e3
    have HMr := Lib.hid (HM.out.below hbr)
    have HRr := Lib.hid (HR.out.fr (S := fun _ => False) (Fr.of_below hbr) (fun _ _ => id))
    have gr := g0.below hbr g0.lt
    by_cases hlt : k < r.length
    · have hlt' : (k : Int) < r.length := by omega
      have hix := fun W => ix22 hp c2 k hlt W
      have c0 := RI.at_ HRr.out hlt
      have s1 := Lib.hid (step_len (fun m_1 => hasB m.o m_1 && hasB m.n m_1) r k hlt)
      have s2 := Lib.hid (step_len (fun m_1 => hasB m.o m_1 && !hasB m.n m_1) r k hlt)
      have s3 := Lib.hid (step_len (fun m_1 => !hasB m.o m_1 && hasB m.n m_1) r k hlt)
      generalize gd r k = y at *
      obtain ⟨q0, q1, q2⟩ := gr.facts
      cases ho : hasB m.o y <;> cases hn : hasB m.n y
      all_goals
        have HO := Lib.hid fun j => (contains_b B m.A m.c m.o y (wr.drewN j) (HMr.out.o.drewN j) HMr.out.ol _ ho).mono (fun e w' hh => And.intro hh.1 (⟨j, hh.2.symm⟩ : ∃ n, w' = wr.drewN n))
        have HN := Lib.hid fun j => (contains_b B m.A' m.c' m.n y (wr.drewN j) (HMr.out.n.drewN j) HMr.out.nl _ hn).mono (fun e w' hh => And.intro hh.1 (⟨j, hh.2.symm⟩ : ∃ n, w' = wr.drewN n))
        have S1 := Lib.hid (by have := s1.out; simp only [ho, hn] at this; exact this)
        have S2 := Lib.hid (by have := s2.out; simp only [ho, hn] at this; exact this)
        have S3 := Lib.hid (by have := s3.out; simp only [ho, hn] at this; exact this)
        clear s1 s2 s3 ho hn
        go_wp2_with fail
        go_quiet ((go_at_call 39; first | (with_reducible exact HO.out _) | (with_reducible exact HN.out _)))
        go_wp2
        go_roundw
        case rel => exact ⟨k + 1, _, _, _, by omega, by go_num, by go_num, by go_num, by go_num, by unfold bothN; rw [S1.out, E1.out]; rfl, by unfold oldN; rw [S2.out, E2.out]; rfl, by unfold newN; rw [S3.out, E3.out]; rfl, below_drewN hbr _⟩
        case measure => simp [intOf]; omega
    · have hge : ¬ ((k : Int) < r.length) := by omega
      have e : r.take k = r := List.take_of_length_le (by omega)
      have HE1 := Lib.hid (show n1 = bothN m.o m.n r by rw [← e]; exact E1.out)
      have HE2 := Lib.hid (show n2 = oldN m.o m.n r by rw [← e]; exact E2.out)
      have HE3 := Lib.hid (show n3 = newN m.o m.n r by rw [← e]; exact E3.out)
      clear e E1 E2 E3 HMr HRr gr HM HR g0
      have hfin : Below w.heap.size w wr := hb.trans (hbr.mono hb.size)
      have HFin := Lib.hid hfin; clear hfin hb hbr
      obtain ⟨wo, rfl⟩ : ∃ wo : World, wo = wr := ⟨_, rfl⟩
      go_wp2
      go_loop [16, 17] (fun v i => ∃ (j : Nat) (q : Int), j ≤ n1 + 1 ∧ i = .int .i64 j ∧ v = .int .i64 q ∧ q = bestUpTo n2 n3 a b j) (fun _ i => n1 + 1 - (intOf i).toNat)
      case atStart => exact ⟨0, -1, Nat.zero_le _, rfl, rfl, rfl⟩
      case round =>
        obtain ⟨j, q, hj, rfl, rfl, hq⟩ := hrel
        have hqb := best_bd n2 n3 a b ha1 hb1 j (by omega)
        rw [← hq] at hqb
        have HQ := Lib.hid hq; clear hq
        by_cases hjn : j ≤ n1
        · have hjn' : (j : Int) ≤ n1 := by omega
          have HS := Lib.hid (bestUpTo_succ n2 n3 a b j)
          go_wp2_with fail
          all_goals
            refine ⟨⟨j + 1, _, by omega, by go_num, rfl, ?_⟩, by simp [intOf]; omega⟩
            rw [HS.out, ← HQ.out]
            unfold bestStep upd
            first | rw [if_pos (by omega)] | rw [if_neg (by omega)]
        · have hjn' : ¬ (j : Int) ≤ n1 := by omega
          go_wp2
          go_ret
          refine ⟨?_, HFin.out⟩
          have e : j = n1 + 1 := by omega
          have := HQ.out
          subst e
          unfold missF
          rw [← HE1.out, ← HE2.out, ← HE3.out, this]; rfl
end Go.Proofs.Ytnpfbpfobbadaaa

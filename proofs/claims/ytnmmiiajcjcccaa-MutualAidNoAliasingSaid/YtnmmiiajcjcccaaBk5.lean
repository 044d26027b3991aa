import Derived.Test.YtnmmiiajcjcccaaBk5t
import Derived.Deep.DeepCutAuto
import Derived.Deep.CutBlock
namespace Go.Proofs.Ytnmmiiajcjcccaa
set_option linter.unusedVariables false
open Go.RowKit Go.Own Go.Quo Go.Aid
set_option maxRecDepth 10000 in
set_option maxHeartbeats 16000000 in
theorem rlend_ok (B : Nat → Prop) (r : Nat) (s : LSt) (A1 A2 : Option Addr) (c1 c2 : Nat) (l : Ln) (w : World) (h : Bok w B r s A1 A2 c1 c2) (hc1 : s.now.length ≤ c1) (hc2 : s.all.length ≤ c2) (hl1 : s.now.length ≤ 1000) (hl2 : s.all.length ≤ 1000) (hB : ∀ k, w.heap.size ≤ k → B k) (hBr : ¬ B r) (hl : lnOk s.n l = true) :
    Calls Try.prog 35 #[.pointer (some ⟨r, 0, none⟩), lnV l] w (BLendPost B r w (if hasU s.now l.u = true then (s, 5) else (⟨s.n, insU s.now l, s.all ++ [l]⟩, 0))) := by
  have hrl := h.rb.lt
  obtain ⟨q0, q1, q2⟩ := h.rb.facts
  have HH := Lib.hid (show Bok (w.alloc (.cells (lnL l).toArray 42)) B r s A1 A2 c1 c2 from ⟨h.rb.alloc _, h.now.alloc _, h.all.alloc _⟩)
  have HPl := Lib.hid fun j : Nat => place_any B r s A1 A2 c1 c2 l.u ((w.alloc (.cells (lnL l).toArray 42)).drewN j) ⟨HH.out.rb.drewN j, HH.out.now.drewN j, HH.out.all.drewN j⟩ hl1
  have HNo := Lib.hid (show ∀ w', Fr (fun k => k = r) w w' → Bok w' B r s A1 A2 c1 c2 → hasU s.now l.u = true → BLendPost B r w (if hasU s.now l.u = true then (s, 5) else (⟨s.n, insU s.now l, s.all ++ [l]⟩, 0)) (.returned (.int .i64 5)) w' from fun w' hf hb hu => by
    rw [if_pos hu]; exact ⟨rfl, A1, c1, A2, c2, hc1, hc2, hb, hf⟩)
  have HYes := Lib.hid (show ∀ w' A3 c3 A4 c4, hasU s.now l.u = false → (insU s.now l).length ≤ c3 → (s.all ++ [l]).length ≤ c4 → Bok w' B r ⟨s.n, insU s.now l, s.all ++ [l]⟩ A3 A4 c3 c4 → Fr (fun k => k = r) w w' → BLendPost B r w (if hasU s.now l.u = true then (s, 5) else (⟨s.n, insU s.now l, s.all ++ [l]⟩, 0)) (.returned (.int .i64 0)) w' from fun w' A3 c3 A4 c4 hu h3 h4 hb hf => by
    rw [if_neg (by rw [hu]; decide)]; exact ⟨rfl, A3, c3, A4, c4, h3, h4, hb, hf⟩)
  generalize (if hasU s.now l.u = true then (s, (5 : Int)) else (⟨s.n, insU s.now l, s.all ++ [l]⟩, 0)) = RR at *
  obtain ⟨n, hn⟩ : ∃ n, s.n = n := ⟨_, rfl⟩
  obtain ⟨nw, hnw⟩ : ∃ n, s.now = n := ⟨_, rfl⟩
  obtain ⟨al, hal⟩ : ∃ n, s.all = n := ⟨_, rfl⟩
  have HN1 := Lib.hid hn
  have HN2 := Lib.hid hnw
  have HN3 := Lib.hid hal
  rw [hnw] at hc1 hl1 HPl
  rw [hal] at hc2 hl2
  rw [hn, hnw, hal] at q1
  rw [hn] at hl
  obtain ⟨f, t, u⟩ := l
  have HB := Lib.hid hB
  have HBr := Lib.hid hBr
  clear hn hnw hal h hB hBr
  simp only [lnOk, Bool.and_eq_true, decide_eq_true_eq] at hl
  obtain ⟨⟨⟨⟨⟨k1, k2⟩, k3⟩, k4⟩, k5⟩, k6⟩ := hl
  unfold lnV
  simp only [lnL] at HH HPl
  have gx := Blk.new w 42 #[.int .i64 f, .int .i64 t, .int .i64 u]
  have gs : (w.alloc (.cells #[.int .i64 f, .int .i64 t, .int .i64 u] 42)).heap.size = w.heap.size + 1 := by simp
  have gf : Fr (fun k => k = r) w (w.alloc (.cells #[.int .i64 f, .int .i64 t, .int .i64 u] 42)) := (Fr.refl _ _).alloc _
  have HH2 := Lib.hid (show Bok (w.alloc (.cells #[.int .i64 f, .int .i64 t, .int .i64 u] 42)) B r s A1 A2 c1 c2 from HH.out)
  have HP2 := Lib.hid (show ∀ j : Nat, Calls Try.prog 47 #[.pointer (some ⟨r, 0, none⟩), .int .i64 u] ((w.alloc (.cells #[.int .i64 f, .int .i64 t, .int .i64 u] 42)).drewN j) (PlcPost nw u ((w.alloc (.cells #[.int .i64 f, .int .i64 t, .int .i64 u] 42)).drewN j)) from fun j => HPl.out j)
  have hr1 : (w.alloc (.cells #[.int .i64 f, .int .i64 t, .int .i64 u] 42)).cell? ⟨r, 0, none⟩ = some (.int .i64 (n : Int)) := by rw [World.cell?_alloc_lt _ _ _ hrl, q1]; rfl
  have d1 : decide (f < 0) = false := by simp; omega
  have d2 : decide ((n : Int) ≤ f) = false := by simp; omega
  have d3 : decide (t < 0) = false := by simp; omega
  have d4 : decide ((n : Int) ≤ t) = false := by simp; omega
  have d5 : (f == t) = false := by simpa using k5
  have d6 : decide (u < 0) = false := by simp; omega
  clear HH HPl q0 q1 q2 k1 k2 k3 k4 k5 k6
  simp only
  go_enter Try.func35, Try.ntmps35
  go_wp2_with fail
  generalize w.alloc (.cells #[.int .i64 f, .int .i64 t, .int .i64 u] 42) = W at *
  obtain ⟨x0, x1, x2⟩ := gx.facts
  go_quiet (fail)
  go_wp2_with fail
  refine (HP2.out nq).mono ?_
  have hH3 : Bok (W.drewN nq) B r s A1 A2 c1 c2 := ⟨HH2.out.rb.drewN nq, HH2.out.now.drewN nq, HH2.out.all.drewN nq⟩
  have gx3 := gx.drewN nq
  have gf3 := gf.drewN nq
  have gs3 : (W.drewN nq).heap.size = w.heap.size + 1 := gs
  clear HP2 gx gf gs HH2 x0 x1 x2 hr1
  generalize W.drewN nq = W3 at *
  rintro e w' ⟨rfl, ⟨rfl, hno⟩ | ⟨k, x, rfl, hx, hxu⟩⟩
  case inr =>
    have hk0 : (0 : Int) ≤ k := by omega
    have hhas : hasU s.now u = true := by rw [HN2.out]; exact hasU_iff.2 ⟨x, List.mem_of_getElem? hx, hxu⟩
    have HR := Lib.hid (HNo.out w' gf3 hH3 hhas)
    clear hx hxu hhas HNo HYes
    go_wp2_with fail
    go_ret
    exact HR.out
  case inl =>
    have HU := Lib.hid (show hasU s.now u = false by rw [HN2.out]; exact hno)
    have HRb := Lib.hid (show Blk w' r 39 #[.int .i64 (n : Int), .slice A1 nw.length c1, .slice A2 al.length c2] by rw [← HN1.out, ← HN2.out, ← HN3.out]; exact hH3.rb)
    have HNow := Lib.hid (show Reads w' B 3 A1 nw.length (nw.flatMap lnL) by rw [← HN2.out]; exact hH3.now)
    have HAll := Lib.hid (show Reads w' B 3 A2 al.length (al.flatMap lnL) by rw [← HN3.out]; exact hH3.all)
    clear hno hH3 HNo
    have hp := HNow.out.plain (by omega)
    obtain ⟨y0, y1, y2⟩ := HRb.out.facts
    obtain ⟨x0, x1, x2⟩ := gx3.facts
    go_upto_block 0 with (fail)
    go_cut [5] (fun v5 wx => ∃ (k j : Nat), v5 = .int .i64 k ∧ k ≤ nw.length ∧ insU nw ⟨f, t, u⟩ = nw.take k ++ [⟨f, t, u⟩] ++ nw.drop k ∧ wx = w'.drewN j)
    case first =>
      go_wp2_with fail
      go_loopw [5] (fun vi wr => ∃ (k j : Nat), k ≤ nw.length ∧ vi = .int .i64 k ∧ (∀ i x, i < k → nw[i]? = some x → x.u < u) ∧ wr = w'.drewN j) (fun vi _ => nw.length - (intOf vi).toNat)
      case atStart => exact ⟨0, 0, Nat.zero_le _, rfl, fun i x hi => by omega, rfl⟩
      case round =>
        obtain ⟨k, j, hk, rfl, hlt0, hwr⟩ := hrel
        have HLt := Lib.hid hlt0
        have HW := Lib.hid hwr
        clear hlt0 y0 y1 y2 x0 x1 x2
        obtain ⟨y0, y1, y2⟩ := (show Blk wr r 39 _ by rw [hwr]; exact HRb.out.drewN j).facts
        obtain ⟨x0, x1, x2⟩ := (show Blk wr w.heap.size 42 _ by rw [hwr]; exact gx3.drewN j).facts
        have HNr := Lib.hid (show Reads wr B 3 A1 nw.length (nw.flatMap lnL) by rw [hwr]; exact HNow.out.drewN j)
        clear hwr
        by_cases hlt : k < nw.length
        · have hlt' : (k : Int) < nw.length := by omega
          obtain ⟨x, hx⟩ : ∃ x, nw[k]? = some x := ⟨_, List.getElem?_eq_getElem hlt⟩
          obtain ⟨-, -, z3⟩ := ln_cells HNr.out hx
          have hix := fun W => ix37 hp c1 k hlt W
          have HX := Lib.hid hx
          clear hx
          by_cases hu : x.u < u
          · have hu' : decide (x.u < u) = true := by simpa using hu
            have HT := Lib.hid (show ∀ i y, i < k + 1 → nw[i]? = some y → y.u < u from fun i y hi hy => by
              rcases (by omega : i < k ∨ i = k) with e | rfl
              · exact HLt.out i y e hy
              · have := HX.out; rw [this] at hy; injection hy with hy; rw [← hy]; exact hu)
            go_wp2_with fail
            go_quiet (fail)
            go_wp2_with fail
            exact ⟨⟨k + 1, _, by omega, by go_num, HT.out, by rw [HW.out, World.drewN_drewN]⟩, by simp [intOf]; omega⟩
          · have hu' : decide (x.u < u) = false := by simpa using hu
            have HI := Lib.hid (insU_at nw ⟨f, t, u⟩ k hk HLt.out (fun y hy => by have := HX.out; rw [this] at hy; injection hy with hy; rw [← hy]; exact hu))
            go_wp2_with fail
            go_quiet (fail)
            go_wp2_with fail
            go_meet
            case rel => exact ⟨k, _, rfl, hk, HI.out, by rw [HW.out, World.drewN_drewN]⟩
        · have hlt' : decide ((k : Int) < nw.length) = false := by simp; omega
          have he : k = nw.length := by omega
          have HI := Lib.hid (insU_at nw ⟨f, t, u⟩ k hk HLt.out (fun y hy => by have := (List.getElem?_eq_some_iff.1 hy).1; omega))
          go_wp2_with fail
          go_quiet (fail)
          go_wp2_with fail
          go_meet
          case rel => exact ⟨k, _, rfl, hk, HI.out, by rw [HW.out, World.drewN_drewN]⟩
    case rest =>
      obtain ⟨k, j, rfl, hk, hins, hwc⟩ := hcut
      have HIns := Lib.hid hins
      have HRb4 := Lib.hid (show Blk wc r 39 #[.int .i64 (n : Int), .slice A1 nw.length c1, .slice A2 al.length c2] by rw [hwc]; exact HRb.out.drewN j)
      have HT4 := Lib.hid (show Reads wc (fun j => B j ∧ j < wc.heap.size) 3 A1 k ((nw.take k).flatMap lnL) by rw [hwc]; exact (((reads_take lnL_len HNow.out hk).drewN j).old (by omega)))
      have HD4 := Lib.hid (show Reads wc (fun j => B j ∧ j < wc.heap.size) 3 (cutG A1 c1 k 3) (nw.length - k) ((nw.drop k).flatMap lnL) by rw [hwc]; exact (((reads_drop lnL_len HNow.out hk hc1).drewN j).old (by omega)))
      have HA4 := Lib.hid (show Reads wc (fun j => B j ∧ j < wc.heap.size) 3 A2 al.length (al.flatMap lnL) by rw [hwc]; exact ((HAll.out.drewN j).old (by omega)))
      have gx4 : Blk wc w.heap.size 42 #[.int .i64 f, .int .i64 t, .int .i64 u] := by rw [hwc]; exact gx3.drewN j
      have gf4 : Fr (fun k => k = r) w wc := by rw [hwc]; exact gf3.drewN j
      have gs4 : wc.heap.size = w.heap.size + 1 := by rw [hwc]; exact gs3
      clear hwc hins HRb HNow HAll gx3 gf3 gs3 hp y0 y1 y2 x0 x1 x2
      rename_i KK hKK
      refine hKK _ _ ?_
      exact wp_of_eq rfl (rlend_t8 B r w.heap.size n k nw al A1 A2 c1 c2 f t u w _ (by omega) hk hc1 hl1 HRb4 HT4 HD4 HA4 (Lib.hid gx4) (Lib.hid gf4) HB HBr hl2 (BLendPost B r w RR) (Lib.hid fun w' A3 c3 A5 c5 k1 k2 hb hn ha hf => by
        have hl : (nw.take k ++ [(⟨f, t, u⟩ : Ln)] ++ nw.drop k).length = nw.length + 1 := by simp; omega
        have hl2 : (al ++ [(⟨f, t, u⟩ : Ln)]).length = al.length + 1 := by simp
        exact HYes.out w' A3 c3 A5 c5 HU.out (by rw [HN2.out, HIns.out, hl]; exact k1) (by rw [HN3.out, hl2]; exact k2) ⟨by rw [HN1.out, HN2.out, HN3.out, HIns.out]; simp only [hl, hl2]; exact hb, by rw [HN2.out, HIns.out]; simp only [hl]; exact hn, by rw [HN3.out]; simp only [hl2]; exact ha⟩ hf) _ _ _ _ _ _ _ _ _ _ _ _ _ _ _ _ _ _ _ _ _ _ _ _ _ _ _ _ _ _ _ _ _ _ _ _ _ _ _ _ _ _ _ _ _ _ _ _ _ _ _ _ _ _ _ _ _ _ _ _ _ _ _ _ _ _ _ _ _ _ _ _ _ _ _ _ _ _ _ _ _ _ _ _ _ _ _ _ _ _ _ _ _ _ _ _ _ _ _ _ _ )
end Go.Proofs.Ytnmmiiajcjcccaa

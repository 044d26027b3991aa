import Derived.Test.YtgjkahndclijgaaSim4
import Derived.Test.YtgjkahndclijgaaBase2
namespace Go.Proofs.Ytgjkahndclijgaa
open Go.RowKit Go.Own

theorem net0_three (w : World) : net0 w (Int.toNat 3) = ⟨w.heap.size, w.heap.size + 1, [0, 0, 0], [], 0, 0, 0, 0, 0⟩ := rfl
theorem Net.below {w w' : World} {p : Nat} {N : NetS} (h : Net w p N) (hb : Below w.heap.size w w') : Net w' p N := h.fr (S := fun _ => False) (Fr.of_below hb) (by simp) (by simp) (by simp) (by simp)
theorem Net.ne {w : World} {p : Nat} {N : NetS} (h : Net w p N) {a : Addr} (hp : p ≠ a.block) (hg : N.g ≠ a.block) (hm : N.m ≠ a.block) (hb : ∀ x ∈ N.items, x.2.bb ≠ a.block) (u : Value) : Net (w.setCell a u) p N :=
  ⟨h.blk.far hp u, h.grp.far hg u, h.map.far hm u, fun x hx => (h.body x hx).far (hb x hx) u, h.apart⟩
theorem i5 : ∃ i, Try.prog.info? 5 = some i ∧ i.size = 1 := by obtain ⟨i, h, _, h2, _⟩ := info_parts info5; exact ⟨i, h, h2⟩
set_option maxRecDepth 10000 in
set_option maxHeartbeats 1000000 in
theorem copies_long (A : Option Addr) (n c : Nat) (w : World) (hn : 200 < n) :
    Calls Try.prog 3 #[.slice A n c] w fun e w' => e = .returned (.bool true) ∧ Below w.heap.size w w' := by
  have hn' : (200 : Int) < n := by omega
  go_enter Try.func3, Try.ntmps3
  go_wp2_with (go_at_call 10; refine (awake_any _).mono ?_; rintro e w1 ⟨rfl, hb1⟩)
  go_ret
  exact ⟨rfl, hb1⟩

set_option maxRecDepth 10000 in
set_option maxHeartbeats 2000000 in
theorem copies_short (A : Option Addr) (n c : Nat) (body : List Int) (w : World) (hn : n ≤ 200) (hr : Reads w (· < w.heap.size) 1 A n (bytesV body)) :
    Calls Try.prog 3 #[.slice A n c] w fun e w' => e = .returned (.bool true) ∧ Below w.heap.size w w' := by
  have hd : decide ((200 : Int) < n) = false := by simp; omega
  have hlen : body.length = n := by simpa [bytesV] using hr.1
  have HL := Lib.hid hlen; clear hlen
  go_enter Try.func3, Try.ntmps3
  go_wp2_with fail
  refine (new_int 3 _ (by omega) (by omega)).mono ?_
  rintro e w1 ⟨rfl, hN1, hb1, -⟩
  rw [net0_three] at hN1
  obtain ⟨l1, l2, l3, -⟩ := hN1.lts
  have hp : w.heap.size ≤ w.heap.size + 2 := by omega
  have hm : w.heap.size ≤ w.heap.size + 1 := by omega
  have hr1 := hr.below hb1 (fun _ h => h)
  generalize w.heap.size + 2 = p at *
  generalize w.heap.size + 1 = m at *
  generalize hg0 : w.heap.size = g0 at hN1 l2
  clear hg0
  have hsz1 := hb1.size
  go_wp2_with (at_builtin; refine wpList_append_any _ rfl _ _ _ rfl w1.heap.size 5 (.int .u8 0) 1 1 Try.underlying22 info5 rfl (by omega) (.slice (some ⟨w1.heap.size, 0, none⟩) 0 0) 0 [] rfl (World.ownsRow_lit w1 #[] 0 (Nat.le_refl _) (by simp [maxLen]) (by simp)) _ A n c (bytesV body) rfl (hr1.alloc _) (bytesV_one body) (by simp only [maxLen]; omega) (by omega) (by simp) ?_; intro A2 c2 w2 hown hgr hat)
  simp only [Nat.zero_add, List.nil_append] at hown hat
  have hS : ∀ k, (Value.slice A2 n c2).ownBlock = some k → w1.heap.size ≤ k ∧ k < w2.heap.size := hown.lt
  have hb2 : Below w1.heap.size w1 w2 := ((Below.refl _ w1).alloc (Nat.le_refl _) _).grown hgr (by simp) (fun k hk => by simp [Value.ownBlock] at hk; omega)
  have hN2 := hN1.below hb2
  have hs2 := hb2.size
  clear hgr hat hN1
  refine (send_ok p ⟨g0, m, [0, 0, 0], [], 0, 0, 0, 0, 0⟩ (fun k => (Value.slice A2 n c2).ownBlock = some k) 2 0 A2 n c2 body w2 hN2 rfl (Reads.of_own hown) (by omega) (by simp) (by simp) (by simp) (fun k hk hh => by have := hS k hh; omega) (fun hh => by have := hS p hh; omega) (by simp) (by simp)).mono ?_
  rintro e w3 ⟨rfl, ⟨bb, hbb, hN3⟩, hF3⟩
  have hN3 : Net w3 p ⟨g0, m, [0, 0, 0], [(1, ⟨2, 0, body, bb⟩)], 1, 1, 0, 0, 0⟩ := hN3
  have hF3 : Fr (fun k => k = p ∨ k = m) w2 w3 := hF3
  have hby : Byt w2 (adr A2) n := Byt.of_own hown
  have hab : 0 < n → w1.heap.size ≤ (adr A2).block ∧ (adr A2).block < w2.heap.size := fun h0 => hS _ ((Reads.of_own hown).block h0)
  have hsm := own_some hown
  have hby3 : Byt w3 (adr A2) n := hby.keep (fun h0 => hF3.block _ (hab h0).2 (by have := hab h0; omega))
  clear hby hown hS hN2
  go_wp2_with fail
  refine (dup_ok p ⟨g0, m, [0, 0, 0], [(1, ⟨2, 0, body, bb⟩)], 1, 1, 0, 0, 0⟩ 1 ⟨2, 0, body, bb⟩ w3 hN3 rfl (by have := HL.out; simp; omega) (by simp) (by simp) (by simp) (by simp) (by simp)).mono ?_
  rintro e w4 ⟨rfl, ⟨cc, hcc, hN4⟩, hF4⟩
  have hN4 : Net w4 p ⟨g0, m, [0, 0, 0], [(1, ⟨2, 0, body, bb⟩), (2, ⟨2, 0, body, cc⟩)], 2, 1, 0, 0, 1⟩ := hN4
  have hF4 : Fr (fun k => k = p ∨ k = m) w3 w4 := hF4
  have hs3 := hF3.size
  have hby4 : Byt w4 (adr A2) n := hby3.keep (fun h0 => hF4.block _ (by have := hab h0; omega) (by have := hab h0; omega))
  have hb4 : Below w.heap.size w w4 := by
    have f3 := hF3.below (B := w.heap.size) (by omega) (fun k hk => by omega)
    have f4 := hF4.below (B := w.heap.size) (by omega) (fun k hk => by omega)
    exact ((hb1.trans (hb2.mono hsz1)).trans f3).trans f4
  have hlg : g0 < w1.heap.size := l2
  have nbb : bb ≠ cc := by have := hN4.apart; simpa using this
  clear hby3 hN3 hF3 hF4 hb2 hb1
  obtain ⟨i5, hi5, hi51⟩ := i5
  go_wp2_with fail
  go_loopw [48] (fun i wr => ∃ k : Nat, k ≤ n ∧ i = .int .i64 k ∧ Net wr p ⟨g0, m, [0, 0, 0], [(1, ⟨2, 0, body, bb⟩), (2, ⟨2, 0, body, cc⟩)], 2, 1, 0, 0, 1⟩ ∧ Byt wr (adr A2) n ∧ Below w.heap.size w wr) (fun i _ => n - (intOf i).toNat)
  case atStart => exact ⟨0, Nat.zero_le _, rfl, hN4, hby4, hb4⟩
  case round =>
    obtain ⟨k, hk, rfl, hNr, hbyr, hbr⟩ := hrel
    by_cases hlt : k < n
    · have hlt' : (k : Int) < n := by omega
      obtain ⟨⟨b, hcb⟩, hfb⟩ := hbyr k hlt
      have hix := fun W => run_indexAt (P := Try.prog) Try.underlying22 hi5 hi51 hsm c2 k hlt W
      simp only [Nat.mul_one] at hix
      have Hb := Lib.hid hbyr; clear hbyr
      have hab' := hab (by omega)
      go_wp2
      go_roundw
      case rel =>
        refine ⟨k + 1, by omega, by go_num, ?_, Hb.out.set_ k _, hbr.setCell (by rw [block_of_add]; omega) _⟩
        have hbk := block_of_add (adr A2) k
        refine hNr.ne ?_ ?_ ?_ ?_ _
        · rw [hbk]; omega
        · rw [hbk]; show g0 ≠ _; omega
        · rw [hbk]; show m ≠ _; omega
        · intro x hx
          rw [hbk]
          simp only [List.mem_cons, List.not_mem_nil, or_false] at hx
          rcases hx with rfl | rfl
          · show bb ≠ _; omega
          · show cc ≠ _; omega
      case measure => simp [intOf]; omega
    · have hge : ¬ ((k : Int) < n) := by omega
      clear hby4 hb4 hN4 hab hbyr
      go_wp2_with fail
      refine (deliver_ok p ⟨g0, m, [0, 0, 0], [(1, ⟨2, 0, body, bb⟩), (2, ⟨2, 0, body, cc⟩)], 2, 1, 0, 0, 1⟩ 1 ⟨2, 0, body, bb⟩ wr hNr rfl rfl (by simp) (by simp)).mono ?_
      rintro e w5 ⟨rfl, hN5, hF5⟩
      have hN5 : Net w5 p ⟨g0, m, [0, 0, 0], [(2, ⟨2, 0, body, cc⟩)], 2, 1, 1, 0, 1⟩ := hN5
      have hF5 : Fr (fun k => k = p ∨ k = m) wr w5 := hF5
      simp only [pv]
      have hx1 : Blk wr bb 5 (bytesV body).toArray := hNr.body (1, ⟨2, 0, body, bb⟩) (by simp)
      have hx15 : Blk w5 bb 5 (bytesV body).toArray := hx1.fr hF5 (by omega)
      have hb5 : Below w.heap.size w w5 := hbr.trans (hF5.below (by have := hbr.size; omega) (fun k hk => by omega))
      have hr5 := hr.below hb5 (fun _ h => h)
      have rb5 : Reads w5 (· = bb) 1 (some ⟨bb, 0, none⟩) body.length (bytesV body) := by
        have := Reads.of_blk (B := (· = bb)) (size := 1) (n := body.length) hx15 (by simp [bytesV]) rfl
        rw [List.take_of_length_le (by simp [bytesV])] at this
        exact this
      have nb1 : ¬ w5.heap.size = bb := by have := hx15.lt; omega
      have nb2 : ¬ w5.heap.size < w.heap.size := by have := hb5.size; omega
      have k1 := fun (W : World) (h : Reads W (· < w.heap.size) 1 A n (bytesV body)) => run_convert_reads (P := Try.prog) Try.underlying22 Try.underlying5 Try.underlying9 h c
      have k2 := fun (W : World) (h : Reads W (· = bb) 1 (some ⟨bb, 0, none⟩) body.length (bytesV body)) => run_convert_reads (P := Try.prog) Try.underlying22 Try.underlying5 Try.underlying9 h body.length
      have hr0 := Lib.hid hr
      clear hr hr1 hbr hNr hx1 hF5
      go_wp2_with fail
      go_loopw [85] (fun i wq => ∃ k : Nat, k ≤ n ∧ i = .int .i64 k ∧ Net wq p ⟨g0, m, [0, 0, 0], [(2, ⟨2, 0, body, cc⟩)], 2, 1, 1, 0, 1⟩ ∧ Byt wq ⟨bb, 0, none⟩ n ∧ Blk wq w5.heap.size 31 #[.int .i64 2, .int .i64 0, .slice (some ⟨bb, 0, none⟩) body.length body.length] ∧ Below w.heap.size w wq) (fun i _ => n - (intOf i).toNat)
      case atStart => exact ⟨0, Nat.zero_le _, rfl, hN5.alloc _, (Byt.of_blk hx15 (by rw [HL.out]; omega)).keep (fun _ => Below.heap_alloc _ _ _ hx15.lt), Blk.new _ _ _, hb5.alloc hb5.size _⟩
      case round =>
        obtain ⟨j, hj, rfl, hNq, hbyq, hbq, hbelq⟩ := hrel
        by_cases hlt2 : j < n
        · have hlt' : (j : Int) < body.length := by have := HL.out; omega
          obtain ⟨⟨b, hcb⟩, hfb⟩ := hbyq j hlt2
          rw [Addr.add_lit, Nat.zero_add] at hcb hfb
          obtain ⟨qlt, qc, -⟩ := hbq.facts
          have Hb := Lib.hid hbyq; clear hbyq
          clear k1 k2 hr5 rb5 hx15 hN5
          go_wp2
          go_roundw
          case rel =>
            have hbs : w.heap.size ≤ bb := by omega
            have e : (⟨bb, j, none⟩ : Addr) = (⟨bb, 0, none⟩ : Addr).add j := by rw [Addr.add_lit, Nat.zero_add]
            refine ⟨j + 1, by omega, by go_num, ?_, ?_, hbq.far (p := ⟨bb, j, none⟩) (by show w5.heap.size ≠ bb; omega) _, hbelq.setCell (p := ⟨bb, j, none⟩) hbs _⟩
            · refine hNq.ne (a := ⟨bb, j, none⟩) ?_ ?_ ?_ ?_ _
              · show p ≠ bb; omega
              · show g0 ≠ bb; omega
              · show m ≠ bb; omega
              · intro x hx
                simp only [List.mem_cons, List.not_mem_nil, or_false] at hx
                subst hx
                exact fun h => nbb h.symm
            · rw [e]; exact Hb.out.set_ j _
          case measure => simp [intOf]; omega
        · have hge2 : ¬ ((j : Int) < body.length) := by have := HL.out; omega
          have hx2 : Blk wr cc 5 (bytesV body).toArray := hNq.body (2, ⟨2, 0, body, cc⟩) (by simp)
          have hrq := hr5
          clear k2 rb5 hx15 hN5 hr5 hbyq
          go_wp2_with fail
          refine (deliver_ok p ⟨g0, m, [0, 0, 0], [(2, ⟨2, 0, body, cc⟩)], 2, 1, 1, 0, 1⟩ 2 ⟨2, 0, body, cc⟩ wr hNq rfl rfl (by simp) (by simp)).mono ?_
          rintro e w6 ⟨rfl, -, hF6⟩
          have hF6 : Fr (fun k => k = p ∨ k = m) wr w6 := hF6
          simp only [pv]
          have hx26 : Blk w6 cc 5 (bytesV body).toArray := hx2.fr hF6 (by omega)
          have hb6 : Below w.heap.size w w6 := hbelq.trans (hF6.below (by have := hbelq.size; omega) (fun k hk => by omega))
          have hr6 := hr0.out.below hb6 (fun _ h => h)
          have rb6 : Reads w6 (· = cc) 1 (some ⟨cc, 0, none⟩) body.length (bytesV body) := by
            have := Reads.of_blk (B := (· = cc)) (size := 1) (n := body.length) hx26 (by simp [bytesV]) rfl
            rw [List.take_of_length_le (by simp [bytesV])] at this
            exact this
          have nb3 : ¬ w6.heap.size = cc := by have := hx26.lt; omega
          have nb4 : ¬ w6.heap.size < w.heap.size := by have := hb6.size; omega
          have k3 := fun (W : World) (h : Reads W (· = cc) 1 (some ⟨cc, 0, none⟩) body.length (bytesV body)) => run_convert_reads (P := Try.prog) Try.underlying22 Try.underlying5 Try.underlying9 h body.length
          clear hF6 hx2 hNq hbq hbelq hx26 hN5 hb5 hrq
          go_wp2_with (go_at_call 10; refine (awake_any _).mono ?_; rintro e w7 ⟨rfl, hb7⟩)
          go_ret
          have hsz6 := hb6.size
          exact ⟨rfl, (hb6.alloc hsz6 _).trans (hb7.mono (by simp; omega))⟩
end Go.Proofs.Ytgjkahndclijgaa

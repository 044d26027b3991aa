import Derived.Test.YtgjkahndclijgaaSim1
namespace Go.Proofs.Ytgjkahndclijgaa
open Go.RowKit Go.Own

def conB (gs : List Int) (a b : Int) : Bool := epB gs.length a && epB gs.length b && decide (gs[a.toNat]?.getD 0 = gs[b.toNat]?.getD 0)
theorem epB_true {n : Nat} {a : Int} (h : epB n a = true) : 0 ≤ a ∧ a < n := by simpa [epB] using h
theorem epB_false {n : Nat} {a : Int} (h : epB n a = false) : ¬ (0 ≤ a ∧ a < n) := by
  intro ⟨h1, h2⟩
  simp [epB, h1, h2] at h
theorem endpoint_q (p : Nat) (a : Int) (A : Option Addr) (n c k : Nat) (w : World) (h : w.cell? ⟨p, 0, none⟩ = some (.slice A n c)) :
    Calls Try.prog 28 #[.pointer (some ⟨p, 0, none⟩), .int .i64 a] (w.drewN k) fun e w' => e = .returned (.bool (epB n a)) ∧ ∃ m, w' = w.drewN m :=
  (endpoint_any p a A n c (w.drewN k) h).mono fun _ _ hh => ⟨hh.1, _, hh.2.symm⟩
theorem endpoint_yes (p : Nat) (a : Int) (A : Option Addr) (n c k : Nat) (w : World) (h : w.cell? ⟨p, 0, none⟩ = some (.slice A n c)) (ha : epB n a = true) :
    Calls Try.prog 28 #[.pointer (some ⟨p, 0, none⟩), .int .i64 a] (w.drewN k) fun e w' => e = .returned (.bool true) ∧ ∃ m, w' = w.drewN m := ha ▸ endpoint_q p a A n c k w h
theorem endpoint_no (p : Nat) (a : Int) (A : Option Addr) (n c k : Nat) (w : World) (h : w.cell? ⟨p, 0, none⟩ = some (.slice A n c)) (ha : epB n a = false) :
    Calls Try.prog 28 #[.pointer (some ⟨p, 0, none⟩), .int .i64 a] (w.drewN k) fun e w' => e = .returned (.bool false) ∧ ∃ m, w' = w.drewN m := ha ▸ endpoint_q p a A n c k w h
set_option maxRecDepth 10000 in
set_option maxHeartbeats 400000 in
theorem connected_any (p : Nat) (a b : Int) (N : NetS) (w : World) (h : Net w p N) :
    Calls Try.prog 16 #[.pointer (some ⟨p, 0, none⟩), .int .i64 a, .int .i64 b] w fun e w' => e = .returned (.bool (conB N.groups a b)) ∧ ∃ n, w' = w.drewN n := by
  obtain ⟨hlt, hc, hf⟩ := h.blk.facts
  obtain ⟨hglt, hgc, -⟩ := h.grp.facts
  have h0 : w.cell? ⟨p, 0, none⟩ = some (.slice (some ⟨N.g, 0, none⟩) N.groups.length N.groups.length) := by simp [hc]
  clear hc
  cases ha : epB N.groups.length a with
  | false =>
    have hfin : conB N.groups a b = false := by simp [conB, ha]
    rw [hfin]; clear hfin
    go_enter Try.func16, Try.ntmps16
    go_wp2_with fail
    go_quiet ((go_at_call 28; first | (refine endpoint_yes p _ _ _ _ _ _ h0 ?_; assumption) | (refine endpoint_no p _ _ _ _ _ _ h0 ?_; assumption)))
    go_wp2
    go_ret
    exact ⟨rfl, _, rfl⟩
  | true =>
    obtain ⟨a0, a1⟩ := epB_true ha
    cases hb : epB N.groups.length b with
    | false =>
      have hfin : conB N.groups a b = false := by simp [conB, hb]
      rw [hfin]; clear hfin
      go_enter Try.func16, Try.ntmps16
      go_wp2_with fail
      go_quiet ((go_at_call 28; first | (refine endpoint_yes p _ _ _ _ _ _ h0 ?_; assumption) | (refine endpoint_no p _ _ _ _ _ _ h0 ?_; assumption)))
      go_wp2
      go_ret
      exact ⟨rfl, _, rfl⟩
    | true =>
      obtain ⟨b0, b1⟩ := epB_true hb
      have hfin : Hid (conB N.groups a b = (N.groups[a.toNat]?.getD 0 == N.groups[b.toNat]?.getD 0)) := by
        show _ = _
        simp only [conB, ha, hb, Bool.true_and]
        exact (Bool.beq_eq_decide_eq ..).symm
      have hga : w.cell? ⟨N.g, a.toNat, none⟩ = some (.int .i64 (N.groups[a.toNat]?.getD 0)) := by
        rw [hgc]; simp [List.getElem?_eq_getElem (show a.toNat < N.groups.length by omega)]
      have hgb : w.cell? ⟨N.g, b.toNat, none⟩ = some (.int .i64 (N.groups[b.toNat]?.getD 0)) := by
        rw [hgc]; simp [List.getElem?_eq_getElem (show b.toNat < N.groups.length by omega)]
      clear hgc
      generalize N.groups[a.toNat]?.getD 0 = ga at *
      generalize N.groups[b.toNat]?.getD 0 = gb at *
      go_enter Try.func16, Try.ntmps16
      go_wp2_with fail
      go_quiet ((go_at_call 28; first | (refine endpoint_yes p _ _ _ _ _ _ h0 ?_; assumption) | (refine endpoint_no p _ _ _ _ _ _ h0 ?_; assumption)))
      go_wp2
      go_ret
      rw [hfin.out]
      exact ⟨rfl, _, rfl⟩

theorem endpoint_y (p : Nat) (a : Int) (A : Option Addr) (n c : Nat) (w : World) (h : w.cell? ⟨p, 0, none⟩ = some (.slice A n c)) (ha : epB n a = true) :
    Calls Try.prog 28 #[.pointer (some ⟨p, 0, none⟩), .int .i64 a] w fun e w' => e = .returned (.bool true) ∧ w = w' := ha ▸ endpoint_any p a A n c w h
theorem endpoint_n (p : Nat) (a : Int) (A : Option Addr) (n c : Nat) (w : World) (h : w.cell? ⟨p, 0, none⟩ = some (.slice A n c)) (ha : epB n a = false) :
    Calls Try.prog 28 #[.pointer (some ⟨p, 0, none⟩), .int .i64 a] w fun e w' => e = .returned (.bool false) ∧ w = w' := ha ▸ endpoint_any p a A n c w h
def sendOk (N : NetS) (f t : Int) : Bool := epB N.groups.length f && epB N.groups.length t && !(f == t)
set_option maxRecDepth 10000 in
set_option maxHeartbeats 400000 in
theorem send_bad (p : Nat) (N : NetS) (f t : Int) (A : Option Addr) (n c : Nat) (w : World) (h : Net w p N) (hs : sendOk N f t = false) :
    Calls Try.prog 12 #[.pointer (some ⟨p, 0, none⟩), .agg #[.int .i64 f, .int .i64 t, .slice A n c]] w fun e w' => e = .returned (.tuple #[.int .i64 0, .int .i64 1]) ∧ Net w' p N ∧ Below w.heap.size w w' := by
  obtain ⟨hlt, hc, -⟩ := h.blk.facts
  have h0 : ∀ o, (w.alloc o).cell? ⟨p, 0, none⟩ = some (.slice (some ⟨N.g, 0, none⟩) N.groups.length N.groups.length) := fun o => by rw [World.cell?_alloc_lt w o _ hlt]; simp [hc]
  clear hc
  cases ha : epB N.groups.length f with
  | false =>
    have Ha := Lib.hid fun o => endpoint_n p f _ _ _ _ (h0 o) ha
    clear h0 ha hs
    go_enter Try.func12, Try.ntmps12
    go_wp2_with (go_at_call 28; ((with_reducible refine (Ha.out _).mono ?_); rintro e w' ⟨rfl, rfl⟩))
    go_ret2
    exact ⟨rfl, h.alloc _, (Below.refl _ _).alloc (Nat.le_refl _) _⟩
  | true =>
    have Ha := Lib.hid fun o => endpoint_y p f _ _ _ _ (h0 o) ha
    cases hb : epB N.groups.length t with
    | false =>
      have Hb := Lib.hid fun o => endpoint_n p t _ _ _ _ (h0 o) hb
      clear h0 ha hb hs
      go_enter Try.func12, Try.ntmps12
      go_wp2_with (go_at_call 28; first | ((with_reducible refine (Ha.out _).mono ?_); rintro e w' ⟨rfl, rfl⟩) | ((with_reducible refine (Hb.out _).mono ?_); rintro e w' ⟨rfl, rfl⟩))
      go_ret2
      exact ⟨rfl, h.alloc _, (Below.refl _ _).alloc (Nat.le_refl _) _⟩
    | true =>
      have Hb := Lib.hid fun o => endpoint_y p t _ _ _ _ (h0 o) hb
      have hft : (f == t) = true := by simpa [sendOk, ha, hb] using hs
      clear h0 ha hb hs
      go_enter Try.func12, Try.ntmps12
      go_wp2_with (go_at_call 28; first | ((with_reducible refine (Ha.out _).mono ?_); rintro e w' ⟨rfl, rfl⟩) | ((with_reducible refine (Hb.out _).mono ?_); rintro e w' ⟨rfl, rfl⟩))
      go_ret2
      exact ⟨rfl, h.alloc _, (Below.refl _ _).alloc (Nat.le_refl _) _⟩
theorem sendOk_parts {N : NetS} {f t : Int} (h : sendOk N f t = true) : epB N.groups.length f = true ∧ epB N.groups.length t = true ∧ (f == t) = false := by
  simpa [sendOk, and_assoc] using h
set_option maxRecDepth 10000 in
set_option maxHeartbeats 400000 in
theorem send_long (p : Nat) (N : NetS) (f t : Int) (A : Option Addr) (n c : Nat) (w : World) (h : Net w p N) (hs : sendOk N f t = true) (hn : 8192 < n) :
    Calls Try.prog 12 #[.pointer (some ⟨p, 0, none⟩), .agg #[.int .i64 f, .int .i64 t, .slice A n c]] w fun e w' => e = .returned (.tuple #[.int .i64 0, .int .i64 3]) ∧ Net w' p N ∧ Below w.heap.size w w' := by
  obtain ⟨hlt, hc, -⟩ := h.blk.facts
  have h0 : ∀ o, (w.alloc o).cell? ⟨p, 0, none⟩ = some (.slice (some ⟨N.g, 0, none⟩) N.groups.length N.groups.length) := fun o => by rw [World.cell?_alloc_lt w o _ hlt]; simp [hc]
  clear hc
  obtain ⟨ha, hb, hft⟩ := sendOk_parts hs
  have Ha := Lib.hid fun o => endpoint_y p f _ _ _ _ (h0 o) ha
  have Hb := Lib.hid fun o => endpoint_y p t _ _ _ _ (h0 o) hb
  have hn' : (8192 : Int) < n := by omega
  clear h0 ha hb hs
  go_enter Try.func12, Try.ntmps12
  go_wp2_with (go_at_call 28; first | ((with_reducible refine (Ha.out _).mono ?_); rintro e w' ⟨rfl, rfl⟩) | ((with_reducible refine (Hb.out _).mono ?_); rintro e w' ⟨rfl, rfl⟩))
  go_ret2
  exact ⟨rfl, h.alloc _, (Below.refl _ _).alloc (Nat.le_refl _) _⟩
/-- The network behind a packet that was sent. -/
def sentN (N : NetS) (x : Pk) : NetS := putN { N with sent := N.sent + 1 } x
theorem Net.setSent {w : World} {p : Nat} {N : NetS} (h : Net w p N) (v : Int) : Net (w.setCell ⟨p, 3, none⟩ (.int .i64 v)) p { N with sent := v } :=
  ⟨by simpa using h.blk.set_ 3 (.int .i64 v), h.grp.far (p := ⟨p, 3, none⟩) (h.grp.ne_ h.blk (by decide)) _, h.map.far (p := ⟨p, 3, none⟩) (h.map.ne_blk h.blk) _, fun x hx => (h.body x hx).far (p := ⟨p, 3, none⟩) ((h.body x hx).ne_ h.blk (by decide)) _, h.apart⟩
theorem Net.setCame {w : World} {p : Nat} {N : NetS} (h : Net w p N) (v : Int) : Net (w.setCell ⟨p, 4, none⟩ (.int .i64 v)) p { N with came := v } :=
  ⟨by simpa using h.blk.set_ 4 (.int .i64 v), h.grp.far (p := ⟨p, 4, none⟩) (h.grp.ne_ h.blk (by decide)) _, h.map.far (p := ⟨p, 4, none⟩) (h.map.ne_blk h.blk) _, fun x hx => (h.body x hx).far (p := ⟨p, 4, none⟩) ((h.body x hx).ne_ h.blk (by decide)) _, h.apart⟩
theorem Net.setLost {w : World} {p : Nat} {N : NetS} (h : Net w p N) (v : Int) : Net (w.setCell ⟨p, 5, none⟩ (.int .i64 v)) p { N with lost := v } :=
  ⟨by simpa using h.blk.set_ 5 (.int .i64 v), h.grp.far (p := ⟨p, 5, none⟩) (h.grp.ne_ h.blk (by decide)) _, h.map.far (p := ⟨p, 5, none⟩) (h.map.ne_blk h.blk) _, fun x hx => (h.body x hx).far (p := ⟨p, 5, none⟩) ((h.body x hx).ne_ h.blk (by decide)) _, h.apart⟩
theorem Net.setDbl {w : World} {p : Nat} {N : NetS} (h : Net w p N) (v : Int) : Net (w.setCell ⟨p, 6, none⟩ (.int .i64 v)) p { N with dbl := v } :=
  ⟨by simpa using h.blk.set_ 6 (.int .i64 v), h.grp.far (p := ⟨p, 6, none⟩) (h.grp.ne_ h.blk (by decide)) _, h.map.far (p := ⟨p, 6, none⟩) (h.map.ne_blk h.blk) _, fun x hx => (h.body x hx).far (p := ⟨p, 6, none⟩) ((h.body x hx).ne_ h.blk (by decide)) _, h.apart⟩
set_option maxRecDepth 10000 in
set_option maxHeartbeats 400000 in
theorem send_ok (p : Nat) (N : NetS) (B : Nat → Prop) (f t : Int) (A : Option Addr) (n c : Nat) (body : List Int) (w : World) (h : Net w p N) (hs : sendOk N f t = true) (hr : Reads w B 1 A n (bytesV body)) (hn : n ≤ 8192)
    (hl : 0 ≤ N.last) (hl2 : N.last < 1000000) (hk : ∀ x ∈ N.items, x.1 ≤ N.last) (hB : ∀ k, w.heap.size ≤ k → ¬ B k) (hBp : ¬ B p) (hs0 : 0 ≤ N.sent) (hs1 : N.sent < 1000000) :
    Calls Try.prog 12 #[.pointer (some ⟨p, 0, none⟩), .agg #[.int .i64 f, .int .i64 t, .slice A n c]] w fun e w' => e = .returned (.tuple #[.int .i64 (N.last + 1), .int .i64 0]) ∧ (∃ bb, w.heap.size ≤ bb ∧ Net w' p (sentN N ⟨f, t, body, bb⟩)) ∧ Fr (fun k => k = p ∨ k = N.m) w w' := by
  obtain ⟨hlt, hc, hf⟩ := h.blk.facts
  have h0 : ∀ o, (w.alloc o).cell? ⟨p, 0, none⟩ = some (.slice (some ⟨N.g, 0, none⟩) N.groups.length N.groups.length) := fun o => by rw [World.cell?_alloc_lt w o _ hlt]; simp [hc]
  obtain ⟨ha, hb, hft⟩ := sendOk_parts hs
  have Ha := Lib.hid fun o => endpoint_y p f _ _ _ _ (h0 o) ha
  have Hb := Lib.hid fun o => endpoint_y p t _ _ _ _ (h0 o) hb
  have hn' : (n : Int) ≤ 8192 := by omega
  have Hp := Lib.hid fun o => put_any p { N with sent := N.sent + 1 } B f t A n c body ((w.setCell ⟨p, 3, none⟩ (.int .i64 (N.sent + 1))).alloc o) ((h.setSent _).alloc o) ((hr.setCell (p := ⟨p, 3, none⟩) hBp _).alloc o) hn hl hl2 hk (fun k hk => hB k (by simp at hk; omega))
  clear h0 ha hb hs hr hB hk
  go_enter Try.func12, Try.ntmps12
  go_wp2_with (first | (go_at_call 28; first | ((with_reducible refine (Ha.out _).mono ?_); rintro e w' ⟨rfl, rfl⟩) | ((with_reducible refine (Hb.out _).mono ?_); rintro e w' ⟨rfl, rfl⟩)) | (go_at_call 29; ((with_reducible refine (Hp.out _).mono ?_); rintro e w' ⟨rfl, hN, hF⟩)))
  go_ret2
  refine ⟨rfl, ⟨_, ?_, hN⟩, ?_⟩
  · simp; omega
  · exact (((Fr.refl _ _).setCell (.inl (.inl rfl)) _).alloc _).trans hF
end Go.Proofs.Ytgjkahndclijgaa

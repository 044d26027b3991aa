import Derived.Test.YtgjkahndclijgaaSim2
namespace Go.Proofs.Ytgjkahndclijgaa
open Go.RowKit Go.Own

def iget (l : List (Int × Pk)) (id : Int) : Option Pk := (l.find? (·.1 == id)).map (·.2)
def idel (l : List (Int × Pk)) (id : Int) : List (Int × Pk) := l.eraseP (·.1 == id)
theorem kget_items (l : List (Int × Pk)) (id : Int) : kget (itemsV l) id = (iget l id).map pv := by
  unfold kget itemsV iget
  rw [List.find?_map]
  cases h : List.find? ((fun x : Int × Value => x.1 == id) ∘ fun x : Int × Pk => (x.1, pv x.2)) l with
  | none =>
    have : List.find? (fun x => x.1 == id) l = none := h
    simp [this]
  | some x =>
    have : List.find? (fun x => x.1 == id) l = some x := h
    simp [this]
theorem kdel_items (l : List (Int × Pk)) (id : Int) : kdel (itemsV l) id = itemsV (idel l id) := by
  unfold kdel itemsV idel
  rw [List.eraseP_map]; rfl
theorem iget_mem {l : List (Int × Pk)} {id : Int} {x : Pk} (h : iget l id = some x) : (id, x) ∈ l := by
  unfold iget at h
  obtain ⟨y, hy, rfl⟩ := Option.map_eq_some_iff.1 h
  have h1 := List.mem_of_find?_eq_some hy
  have h2 := List.find?_some hy
  have h3 : y.1 = id := by simpa using h2
  subst h3; exact h1
theorem idel_mem {l : List (Int × Pk)} {id : Int} {x : Int × Pk} (h : x ∈ idel l id) : x ∈ l := List.mem_of_mem_eraseP h

set_option maxRecDepth 10000 in
set_option maxHeartbeats 400000 in
theorem dup_no (p : Nat) (N : NetS) (id : Int) (w : World) (h : Net w p N) (hx : iget N.items id = none) :
    Calls Try.prog 13 #[.pointer (some ⟨p, 0, none⟩), .int .i64 id] w fun e w' => e = .returned (.tuple #[.int .i64 0, .int .i64 4]) ∧ Net w' p N ∧ Below w.heap.size w w' := by
  obtain ⟨hlt, hc, -⟩ := h.blk.facts
  have hmap := h.map
  have hk : kget (itemsV N.items) id = none := by rw [kget_items, hx]; rfl
  have hlk := fun (W : World) (h : MapB W N.m .i64 (itemsV N.items)) => MapB.lookup (P := Try.prog) h Try.underlying50 Try.underlying2 zero31 id true
  simp only [hk] at hlk
  clear hk hx
  go_enter Try.func13, Try.ntmps13
  go_wp2
  go_ret2
  exact ⟨rfl, h.alloc _, (Below.refl _ _).alloc (Nat.le_refl _) _⟩
/-- The network behind a packet that was doubled. -/
def dupN (N : NetS) (x : Pk) : NetS := putN { N with dbl := N.dbl + 1 } x
set_option maxRecDepth 10000 in
set_option maxHeartbeats 400000 in
theorem dup_ok (p : Nat) (N : NetS) (id : Int) (x : Pk) (w : World) (h : Net w p N) (hx : iget N.items id = some x) (hn : x.body.length ≤ 8192)
    (hl : 0 ≤ N.last) (hl2 : N.last < 1000000) (hk : ∀ x ∈ N.items, x.1 ≤ N.last) (hs0 : 0 ≤ N.dbl) (hs1 : N.dbl < 1000000) :
    Calls Try.prog 13 #[.pointer (some ⟨p, 0, none⟩), .int .i64 id] w fun e w' => e = .returned (.tuple #[.int .i64 (N.last + 1), .int .i64 0]) ∧ (∃ bb, w.heap.size ≤ bb ∧ Net w' p (dupN N ⟨x.frm, x.to, x.body, bb⟩)) ∧ Fr (fun k => k = p ∨ k = N.m) w w' := by
  obtain ⟨hlt, hc, hf⟩ := h.blk.facts
  have hmap := h.map
  have hbody : Blk w x.bb 5 (bytesV x.body).toArray := h.body _ (iget_mem hx)
  have hk' : kget (itemsV N.items) id = some (pv x) := by rw [kget_items, hx]; rfl
  have hlk := fun (W : World) (h : MapB W N.m .i64 (itemsV N.items)) => MapB.lookup (P := Try.prog) h Try.underlying50 Try.underlying2 zero31 id true
  simp only [hk'] at hlk
  simp only [pv, Option.getD_some, Option.isSome_some, if_true] at hlk
  have hr : Reads w (· = x.bb) 1 (some ⟨x.bb, 0, none⟩) x.body.length (bytesV x.body) := by
    have := Reads.of_blk (B := (· = x.bb)) (size := 1) (n := x.body.length) hbody (by simp [bytesV]) rfl
    rw [List.take_of_length_le (by simp [bytesV])] at this
    exact this
  have hpx : x.bb ≠ p := hbody.ne_ h.blk (by decide)
  have hxl := hbody.lt
  have Hp := Lib.hid fun o => put_any p { N with dbl := N.dbl + 1 } (· = x.bb) x.frm x.to (some ⟨x.bb, 0, none⟩) x.body.length x.body.length x.body ((w.setCell ⟨p, 6, none⟩ (.int .i64 (N.dbl + 1))).alloc o) ((h.setDbl _).alloc o) ((hr.setCell (p := ⟨p, 6, none⟩) (fun e => hpx e.symm) _).alloc o) hn hl hl2 hk (fun k hk => by simp at hk ⊢; omega)
  clear hk' hk hr hx
  go_enter Try.func13, Try.ntmps13
  go_wp2_with (go_at_call 29; ((with_reducible refine (Hp.out _).mono ?_); rintro e w' ⟨rfl, hN, hF⟩))
  go_ret2
  refine ⟨rfl, ⟨_, ?_, hN⟩, ?_⟩
  · simp; omega
  · exact (((Fr.refl _ _).setCell (.inl (.inl rfl)) _).alloc _).trans hF
set_option maxRecDepth 10000 in
set_option maxHeartbeats 400000 in
theorem drop_no (p : Nat) (N : NetS) (id : Int) (w : World) (h : Net w p N) (hx : iget N.items id = none) :
    Calls Try.prog 21 #[.pointer (some ⟨p, 0, none⟩), .int .i64 id] w fun e w' => e = .returned (.int .i64 4) ∧ Net w' p N ∧ Below w.heap.size w w' := by
  obtain ⟨hlt, hc, -⟩ := h.blk.facts
  have hmap := h.map
  have hk : kget (itemsV N.items) id = none := by rw [kget_items, hx]; rfl
  have hlk := fun (W : World) (h : MapB W N.m .i64 (itemsV N.items)) => MapB.lookup (P := Try.prog) h Try.underlying50 Try.underlying2 zero31 id true
  simp only [hk] at hlk
  clear hk hx
  go_enter Try.func21, Try.ntmps21
  go_wp2
  go_ret
  exact ⟨rfl, h.alloc _, (Below.refl _ _).alloc (Nat.le_refl _) _⟩
theorem Net.mdel {w : World} {p : Nat} {N : NetS} (h : Net w p N) (id : Int) : Net (mdel w N.m .i64 id) p { N with items := idel N.items id } :=
  ⟨h.blk.mdel _ _ _, h.grp.mdel _ _ _, by simpa [kdel_items] using h.map.del id, fun x hx => (h.body x (idel_mem hx)).mdel _ _ _, h.apart.sublist (List.eraseP_sublist.map _)⟩
def lostN (N : NetS) (id : Int) : NetS := { N with items := idel N.items id, lost := N.lost + 1 }
set_option maxRecDepth 10000 in
set_option maxHeartbeats 400000 in
theorem drop_ok (p : Nat) (N : NetS) (id : Int) (x : Pk) (w : World) (h : Net w p N) (hx : iget N.items id = some x) (hs0 : 0 ≤ N.lost) (hs1 : N.lost < 1000000) :
    Calls Try.prog 21 #[.pointer (some ⟨p, 0, none⟩), .int .i64 id] w fun e w' => e = .returned (.int .i64 0) ∧ Net w' p (lostN N id) ∧ Fr (fun k => k = p ∨ k = N.m) w w' := by
  obtain ⟨hlt, hc, hf⟩ := h.blk.facts
  have hmap := h.map
  have hmlt := hmap.lt
  have hk : kget (itemsV N.items) id = some (pv x) := by rw [kget_items, hx]; rfl
  have hlk := fun (W : World) (h : MapB W N.m .i64 (itemsV N.items)) => MapB.lookup (P := Try.prog) h Try.underlying50 Try.underlying2 zero31 id true
  have hdl := fun (W : World) (h : MapB W N.m .i64 (itemsV N.items)) => MapB.delete (P := Try.prog) h Try.underlying50 Try.underlying2 id
  simp only [hk] at hlk
  simp only [pv, Option.getD_some, Option.isSome_some, if_true] at hlk
  clear hk hx
  go_enter Try.func21, Try.ntmps21
  go_wp2
  go_ret
  refine ⟨rfl, ?_, ?_⟩
  · exact ((h.alloc _).mdel id).setLost _
  · exact ((((Fr.refl _ _).alloc _).mdel (.inl (.inr rfl)) _ _).setCell (.inl (.inl rfl)) _)

set_option maxRecDepth 10000 in
set_option maxHeartbeats 400000 in
theorem deliver_no (p : Nat) (N : NetS) (id : Int) (w : World) (h : Net w p N) (hx : iget N.items id = none) :
    Calls Try.prog 14 #[.pointer (some ⟨p, 0, none⟩), .int .i64 id] w fun e w' => e = .returned (.tuple #[.agg #[.int .i64 0, .int .i64 0, .slice none 0 0], .int .i64 4]) ∧ Net w' p N ∧ Below w.heap.size w w' := by
  obtain ⟨hlt, hc, -⟩ := h.blk.facts
  have hmap := h.map
  have hmlt := hmap.lt
  have hk : kget (itemsV N.items) id = none := by rw [kget_items, hx]; rfl
  have hlk := fun (W : World) (h : MapB W N.m .i64 (itemsV N.items)) => MapB.lookup (P := Try.prog) h Try.underlying50 Try.underlying2 zero31 id true
  simp only [hk] at hlk
  clear hk hx
  go_enter Try.func14, Try.ntmps14
  go_wp2
  refine bodyPost_ret (v := .tuple #[.agg #[.int .i64 0, .int .i64 0, .slice none 0 0], .int .i64 4]) (by simp [results, Try.results14, go_sem]) rfl ⟨rfl, ?_, ?_⟩
  · exact (h.alloc _).alloc _
  · exact ((Below.refl _ _).alloc (Nat.le_refl _) _).alloc (by simp) _
set_option maxRecDepth 10000 in
set_option maxHeartbeats 400000 in
theorem deliver_cut (p : Nat) (N : NetS) (id : Int) (x : Pk) (w : World) (h : Net w p N) (hx : iget N.items id = some x) (hcon : conB N.groups x.frm x.to = false) :
    Calls Try.prog 14 #[.pointer (some ⟨p, 0, none⟩), .int .i64 id] w fun e w' => e = .returned (.tuple #[.agg #[.int .i64 0, .int .i64 0, .slice none 0 0], .int .i64 16]) ∧ Net w' p N ∧ Below w.heap.size w w' := by
  obtain ⟨hlt, hc, -⟩ := h.blk.facts
  have hmap := h.map
  have hmlt := hmap.lt
  have hk : kget (itemsV N.items) id = some (pv x) := by rw [kget_items, hx]; rfl
  have hlk := fun (W : World) (h : MapB W N.m .i64 (itemsV N.items)) => MapB.lookup (P := Try.prog) h Try.underlying50 Try.underlying2 zero31 id true
  simp only [hk] at hlk
  simp only [pv, Option.getD_some, Option.isSome_some, if_true] at hlk
  have Hc := Lib.hid fun o o2 => hcon ▸ connected_any p x.frm x.to N ((w.alloc o).alloc o2) ((h.alloc _).alloc _)
  clear hk hx hcon
  go_enter Try.func14, Try.ntmps14
  go_wp2_with (go_at_call 16; ((with_reducible refine (Hc.out _ _).mono ?_); rintro e w' ⟨rfl, nq, rfl⟩))
  refine bodyPost_ret (v := .tuple #[.agg #[.int .i64 0, .int .i64 0, .slice none 0 0], .int .i64 16]) (by simp [results, Try.results14, go_sem]) rfl ⟨rfl, ?_, ?_⟩
  · exact ((h.alloc _).alloc _).drewN _
  · exact below_drewN (((Below.refl _ _).alloc (Nat.le_refl _) _).alloc (by simp) _) _
theorem Net.lts {w : World} {p : Nat} {N : NetS} (h : Net w p N) : p < w.heap.size ∧ N.g < w.heap.size ∧ N.m < w.heap.size ∧ ∀ x ∈ N.items, x.2.bb < w.heap.size := ⟨h.blk.lt, h.grp.lt, h.map.lt, fun x hx => (h.body x hx).lt⟩
theorem Net.far {w : World} {p : Nat} {N : NetS} (h : Net w p N) (n : Nat) (hp : p < n) (hg : N.g < n) (hm : N.m < n) (hb : ∀ x ∈ N.items, x.2.bb < n) {a : Addr} (ha : n ≤ a.block) (u : Value) : Net (w.setCell a u) p N :=
  ⟨h.blk.far (by omega) u, h.grp.far (by omega) u, h.map.far (by omega) u, fun x hx => (h.body x hx).far (by have := hb x hx; omega) u, h.apart⟩
def cameN (N : NetS) (id : Int) : NetS := { N with items := idel N.items id, came := N.came + 1 }
set_option maxRecDepth 10000 in
set_option maxHeartbeats 400000 in
theorem deliver_ok (p : Nat) (N : NetS) (id : Int) (x : Pk) (w : World) (h : Net w p N) (hx : iget N.items id = some x) (hcon : conB N.groups x.frm x.to = true) (hs0 : 0 ≤ N.came) (hs1 : N.came < 1000000) :
    Calls Try.prog 14 #[.pointer (some ⟨p, 0, none⟩), .int .i64 id] w fun e w' => e = .returned (.tuple #[pv x, .int .i64 0]) ∧ Net w' p (cameN N id) ∧ Fr (fun k => k = p ∨ k = N.m) w w' := by
  obtain ⟨hlt, hc, hf⟩ := h.blk.facts
  have hmap := h.map
  have hmlt := hmap.lt
  have hmlt1 : N.m < w.heap.size + 1 := by omega
  have hk : kget (itemsV N.items) id = some (pv x) := by rw [kget_items, hx]; rfl
  have hlk := fun (W : World) (h : MapB W N.m .i64 (itemsV N.items)) => MapB.lookup (P := Try.prog) h Try.underlying50 Try.underlying2 zero31 id true
  have hdl := fun (W : World) (h : MapB W N.m .i64 (itemsV N.items)) => MapB.delete (P := Try.prog) h Try.underlying50 Try.underlying2 id
  simp only [hk] at hlk
  simp only [pv, Option.getD_some, Option.isSome_some, if_true] at hlk
  have Hc := Lib.hid fun o o2 => hcon ▸ connected_any p x.frm x.to N ((w.alloc o).alloc o2) ((h.alloc _).alloc _)
  clear hk hx hcon
  go_enter Try.func14, Try.ntmps14
  go_wp2_with (go_at_call 16; ((with_reducible refine (Hc.out _ _).mono ?_); rintro e w' ⟨rfl, nq, rfl⟩))
  refine bodyPost_ret (v := .tuple #[pv x, .int .i64 0]) (by simp [results, Try.results14, go_sem, pv]) rfl ⟨rfl, ?_, ?_⟩
  · obtain ⟨l1, l2, l3, l4⟩ := h.lts
    have l5 : ∀ y ∈ (cameN N id).items, y.2.bb < w.heap.size := fun y hy => l4 y (idel_mem hy)
    have h1 : Net _ p (cameN N id) := (((h.alloc (.cells #[.int .i64 0, .int .i64 0, .slice none 0 0] 31)).alloc (.cells #[.int .i64 x.frm, .int .i64 x.to, .slice (some ⟨x.bb, 0, none⟩) x.body.length x.body.length] 31)).mdel id).setCame (N.came + 1)
    exact (((h1.far _ l1 l2 l3 l5 (a := ⟨w.heap.size, 0, none⟩) (Nat.le_refl _) _).far _ l1 l2 l3 l5 (a := ⟨w.heap.size, 1, none⟩) (Nat.le_refl _) _).far _ l1 l2 l3 l5 (a := ⟨w.heap.size, 2, none⟩) (Nat.le_refl _) _).drewN _
  · exact (((((((Fr.refl _ _).alloc _).alloc _).mdel (.inl (.inr rfl)) _ _).setCell (.inl (.inl rfl)) _).setCell (.inr (Nat.le_refl _)) _ |>.setCell (.inr (Nat.le_refl _)) _ |>.setCell (.inr (Nat.le_refl _)) _).drewN _)
set_option maxRecDepth 10000 in
set_option maxHeartbeats 400000 in
theorem stats_any (p : Nat) (N : NetS) (w : World) (h : Net w p N) :
    Calls Try.prog 23 #[.pointer (some ⟨p, 0, none⟩)] w fun e w' => e = .returned (.tuple #[.int .i64 N.sent, .int .i64 N.came, .int .i64 N.lost, .int .i64 N.dbl]) ∧ ∃ n, w' = w.drewN n := by
  obtain ⟨hlt, hc, -⟩ := h.blk.facts
  go_enter Try.func23, Try.ntmps23
  go_wp2
  go_quiet (fail)
  go_wp2
  refine bodyPost_ret (v := .tuple #[.int .i64 N.sent, .int .i64 N.came, .int .i64 N.lost, .int .i64 N.dbl]) (by simp [results, Try.results23, go_sem]) rfl ⟨rfl, _, rfl⟩

theorem size3 : (Try.prog.info? 3).map (·.size) = some 1 := by kernel_rfl
set_option maxRecDepth 10000 in
set_option maxHeartbeats 400000 in
theorem partition_bad (p : Nat) (N : NetS) (A : Option Addr) (n c : Nat) (w : World) (h : Net w p N) (hn : n ≠ N.groups.length) :
    Calls Try.prog 22 #[.pointer (some ⟨p, 0, none⟩), .slice A n c] w fun e w' => e = .returned (.int .i64 1) ∧ w = w' := by
  obtain ⟨hlt, hc, -⟩ := h.blk.facts
  have hne : ((n : Int) != (N.groups.length : Int)) = true := by simp; omega
  go_enter Try.func22, Try.ntmps22
  go_wp2
  go_ret
  exact ⟨rfl, rfl⟩
theorem Net.setRow {w : World} {p : Nat} {N : NetS} (h : Net w p N) (gs : List Int) (hl : gs.length = N.groups.length) : Net (w.setRow N.g (gs.map (Value.int .i64)).toArray) p { N with groups := gs } :=
  ⟨by have := h.blk.setRow_far (h.blk.ne_ h.grp (by decide)) (gs.map (Value.int .i64)).toArray; simp only [hl]; exact this, h.grp.setRow _, h.map.setRow (h.map.ne_blk h.grp) _, fun x hx => (h.body x hx).setRow_far ((h.body x hx).ne_ h.grp (by decide)) _, h.apart⟩
set_option maxRecDepth 10000 in
set_option maxHeartbeats 400000 in
theorem partition_ok (p : Nat) (N : NetS) (B : Nat → Prop) (A : Option Addr) (n c : Nat) (gs : List Int) (w : World) (h : Net w p N) (hn : n = N.groups.length) (hr : Reads w B 1 A n (gs.map (Value.int .i64))) :
    Calls Try.prog 22 #[.pointer (some ⟨p, 0, none⟩), .slice A n c] w fun e w' => e = .returned (.int .i64 0) ∧ Net w' p { N with groups := gs } ∧ Fr (fun k => k = N.g) w w' := by
  subst hn
  obtain ⟨hlt, hc, -⟩ := h.blk.facts
  have hlen : gs.length = N.groups.length := by simpa using hr.1
  have hcp := fun ty => run_copy_full (P := Try.prog) 37 37 ty 3 Try.underlying37 size3 (c := c) (d := N.groups.length) 3 _ h.grp hr (ints_oneCell .i64 gs) (by simp)
  have hne : ((N.groups.length : Int) != (N.groups.length : Int)) = false := by simp
  have H := Lib.hid hlen; clear hlen
  go_enter Try.func22, Try.ntmps22
  go_wp2
  go_ret
  exact ⟨rfl, h.setRow gs H.out, (Fr.refl (fun k => k = N.g) _).setRow (.inl rfl) _⟩
end Go.Proofs.Ytgjkahndclijgaa

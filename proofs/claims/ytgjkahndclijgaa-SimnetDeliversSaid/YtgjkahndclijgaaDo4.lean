import Derived.Test.YtgjkahndclijgaaDo3
import Derived.Test.YtgjkahndclijgaaAgree
import Derived.Test.YtgjkahndclijgaaSim5
namespace Go.Proofs.Ytgjkahndclijgaa
set_option linter.unusedVariables false
open Go.RowKit Go.Own
/-- What an operation of the list reads, apart from both networks. -/
structure ActR (w : World) (p m g b c : Nat) (a : ActS) : Prop where
  body : Reads w (fun j => (j ≠ p ∧ j ≠ m ∧ j ≠ g) ∧ j ≠ b ∧ j ≠ c) 1 a.A a.n (bytesV a.body)
  grp : Reads w (fun j => (j ≠ p ∧ j ≠ m ∧ j ≠ g) ∧ j ≠ b ∧ j ≠ c) 1 a.GA a.gn (a.groups.map (Value.int .i64))
  nb : a.n ≤ 200
def KK (G p m g k : Nat) (X : Nat → Prop) (R' : RefS) (w : World) : Prop := ∃ N', Agree G N' R' k ∧ Wd w p m g N' R' X
abbrev SS (p m g : Nat) : Nat → Prop := fun k => k = p ∨ k = m ∨ k = g
abbrev XX (b c : Nat) (w : World) : Nat → Prop := fun k => (k = b ∨ k = c) ∨ k = w.heap.size + 1 + 1
abbrev XB (b c : Nat) : Nat → Prop := fun k => k = b ∨ k = c
theorem KK.fr {G p m g k b c : Nat} {W : World} {R' : RefS} {u v : World} (h : KK G p m g k (XX b c W) R' u) (hf : Fr (fun k => k = W.heap.size + 1 + 1) u v) : KK G p m g k (XB b c) R' v := by
  obtain ⟨N', h1, h2⟩ := h
  exact ⟨N', h1, h2.fr hf (fun _ hj => .inr hj) (fun _ hj => .inl hj)⟩
theorem KK.more {G p m g k b c : Nat} {W : World} {R' : RefS} {u : World} (h : KK G p m g k (XX b c W) R' u) : KK G p m g k (XB b c) R' u := h.fr (Fr.refl _ _)
section
variable {w W : World} {G p m g k b c : Nat} {N : NetS} {R : RefS}
theorem Wd.lts (h : Wd w p m g N R (XB b c)) : (p < w.heap.size ∧ p ≠ b ∧ p ≠ c) ∧ (m < w.heap.size ∧ m ≠ b ∧ m ≠ c) ∧ (g < w.heap.size ∧ g ≠ b ∧ g ≠ c) :=
  have h1 := h.pX; have h2 := h.mX; have h3 := h.gX
  ⟨⟨h.net.blk.lt, fun e => h1 (.inl e), fun e => h1 (.inr e)⟩, ⟨h.hm ▸ h.net.map.lt, fun e => h2 (.inl e), fun e => h2 (.inr e)⟩, ⟨h.hg ▸ h.net.grp.lt, fun e => h3 (.inl e), fun e => h3 (.inr e)⟩⟩
theorem Wd.blt (h : Wd w p m g N R (XB b c)) {x : Int × Pk} (hx : x ∈ N.items) : x.2.bb < w.heap.size ∧ x.2.bb ≠ b ∧ x.2.bb ≠ c :=
  have h1 := h.bX x hx
  ⟨(h.net.body x hx).lt, fun e => h1 (.inl e), fun e => h1 (.inr e)⟩
theorem Wd.noS (h : Wd w p m g N R (XB b c)) : ∀ k, w.heap.size ≤ k → ¬ SS p m g k := by
  intro k hk hS
  have := h.lts
  rcases hS with rfl | rfl | rfl <;> omega
theorem Wd.netB (h : Wd w p m g N R (XB b c)) (hb : Below w.heap.size w W) : Net W p N := h.net.below hb
/-- The reference behind the program's call: it lies as it lay, in old blocks. -/
theorem Wd.refS (h : Wd w p m g N R (XB b c)) (hf : Fr (SS p m g) w W) : Ref W (fun j => (j ≠ p ∧ j ≠ m ∧ j ≠ g) ∧ (j < w.heap.size ∧ j ≠ b ∧ j ≠ c)) R := by
  have h1 : Ref w (fun j => (j ≠ p ∧ j ≠ m ∧ j ≠ g) ∧ (j < w.heap.size ∧ j ≠ b ∧ j ≠ c)) R := ⟨(h.ref.grp.old (by omega)).more (fun _ hk => ⟨⟨hk.1.1, hk.1.2.1, hk.1.2.2.1⟩, hk.2, by have := hk.1.2.2.2; simp only [XB] at this; omega⟩), (h.ref.its.old (by omega)).more (fun _ hk => ⟨⟨hk.1.1, hk.1.2.1, hk.1.2.2.1⟩, hk.2, by have := hk.1.2.2.2; simp only [XB] at this; omega⟩), fun x hx => ((h.ref.bod x hx).old (by omega)).more (fun _ hk => ⟨⟨hk.1.1, hk.1.2.1, hk.1.2.2.1⟩, hk.2, by have := hk.1.2.2.2; simp only [XB] at this; omega⟩)⟩
  exact h1.fr hf (fun k hk hS => by rcases hS with rfl | rfl | rfl <;> simp at hk)
theorem _root_.Go.Own.Reads.oldS {n size : Nat} {A : Option Addr} {xs : List Value} (h : Reads w (fun j => (j ≠ p ∧ j ≠ m ∧ j ≠ g) ∧ j ≠ b ∧ j ≠ c) size A n xs) (hs : 0 < size) (hf : Fr (SS p m g) w W) : Reads W (fun j => (j ≠ p ∧ j ≠ m ∧ j ≠ g) ∧ (j < w.heap.size ∧ j ≠ b ∧ j ≠ c)) size A n xs :=
  ((h.old hs).fr hf (fun k hk hS => by rcases hS with rfl | rfl | rfl <;> simp at hk)).more (fun j hj => ⟨hj.1.1, hj.2, hj.1.2⟩)
/-- The end of a reference call that changed nothing. -/
theorem Wd.same (hbc : b < w.heap.size ∧ c < w.heap.size) (h : Wd w p m g N R (XB b c)) (hag : Agree G N R k) (hf : Fr (SS p m g) w W) (hn : Net W p N) {w' : World} (hb : Below W.heap.size W w') : KK G p m g (k + 1) (XX b c w) R w' := by
  have hl := h.lts
  refine ⟨N, hag.mono (Nat.le_succ k), hn.below hb, h.hm, h.hg, ((h.refS hf).below hb).more (fun j hj => ⟨hj.1.1, hj.1.2.1, hj.1.2.2, by have := hj.2; simp only [XX]; omega⟩), fun x hx => ?_, by simp only [XX]; omega, by simp only [XX]; omega, by simp only [XX]; omega⟩
  have := h.blt hx
  simp only [XX]; omega
theorem SS.of2 {a b : World} (h : Fr (fun k => k = p ∨ k = m) a b) : Fr (SS p m g) a b := h.mono (fun k _ hk => by rcases hk with h | h <;> simp [SS, h])
end
def DoAny (G p m g b c k : Nat) (w : World) (e : Ending) (w' : World) : Prop := DoPost (SS p m g) (KK G p m g k (XB b c)) w e w'
section
variable {w : World} {G p m g k b c : Nat} {N : NetS} {R : RefS} {a : ActS}
theorem any_send (hbc : b < w.heap.size ∧ c < w.heap.size) (h : Wd w p m g N R (XB b c)) (hag : Agree G N R k) (hk : k ≤ 100) (ha : ActR w p m g b c a) (hkd : a.kind = 0) :
    Calls Try.prog 31 #[.pointer (some ⟨p, 0, none⟩), rv R, actV a] w (DoAny G p m g b c (k + 1) w) := by
  have hcnt := hag.count
  have hl := hag.last; have hs := hag.sent; have hc := hag.cnt
  have hlt := h.lts
  cases hso : sendOk N a.frm a.tgt with
  | false =>
    refine do_send p R a hkd 0 1 (SS p m g) (fun W => Net W p N) (KK G p m g (k + 1) (XX b c w)) _ w h.noS (fun _ _ _ h hf => h.fr hf) (fun W hb _ => ?_) (fun W hf _ hJ => ?_)
    · exact (send_bad p N a.frm a.tgt a.A a.n a.c W (h.netB hb) hso).mono (fun e w' ⟨h1, h2, h3⟩ => ⟨h1, Fr.of_below h3, h2⟩)
    · exact (rsend_bad R a.frm a.tgt a.A a.n a.c W (by rw [hag.sendOk]; exact hso)).mono (fun e w' ⟨h1, h2⟩ => ⟨R, h1, h2, h.same hbc hag hf hJ h2⟩)
  | true =>
    have hbl : a.body.length = a.n := by have := ha.body.1; simpa [bytesV] using this
    refine do_send p R a hkd (N.last + 1) 0 (SS p m g) (fun W => ∃ bb, w.heap.size + 3 ≤ bb ∧ Net W p (sentN N ⟨a.frm, a.tgt, a.body, bb⟩)) (KK G p m g (k + 1) (XX b c w)) _ w h.noS (fun _ _ _ h hf => h.fr hf) (fun W hb hsz => ?_) (fun W hf hsz hJ => ?_)
    · have hr := (ha.body.oldS (by omega) (Fr.of_below hb))
      refine (send_ok p N _ a.frm a.tgt a.A a.n a.c a.body W (h.netB hb) hso hr (by have := ha.nb; omega) hl.1 (by omega) hag.le (fun j hj hB => by have := hB.2; omega) (by simp) hs.1 (by omega)).mono ?_
      rintro e w' ⟨h1, ⟨bb, hbb, h2⟩, h3⟩
      exact ⟨h1, SS.of2 (by rw [← h.hm]; exact h3), bb, by omega, h2⟩
    · obtain ⟨bb, hbb, hn⟩ := hJ
      have hR := h.refS hf
      refine (rsend_ok R _ a.frm a.tgt a.A a.n a.c a.body W hR (by omega) (by rw [hag.nx]; exact hl.1) (by rw [hag.nx]; omega) (by rw [hag.sendOk]; exact hso) (by have := ha.nb; omega) (by rw [hag.st]; exact hs.1) (by rw [hag.st]; omega)).mono ?_
      rintro e w' ⟨A, c, h1, h2, h3⟩
      refine ⟨rsentR R A c ⟨R.next + 1, a.frm, a.tgt, a.A, a.n, a.c, a.body⟩, by rw [h1, hag.nx], h3, sentN N ⟨a.frm, a.tgt, a.body, bb⟩, hag.send _ _ _ _ _ _ _ _ _ (by have := ha.nb; omega) hso, ?_⟩
      have hR' := hR.below h3
      have hbd := (ha.body.oldS (by omega) hf).below h3 (fun j hj => by have := hf.size; omega)
      refine ⟨hn.below h3, h.hm, h.hg, ⟨hR'.grp.more (fun j hj => ⟨hj.1.1, hj.1.2.1, hj.1.2.2, by have := hj.2; simp only [XX]; omega⟩), ?_, ?_⟩, ?_, by simp only [XX]; omega, by simp only [XX]; omega, by simp only [XX]; omega⟩
      · have : Reads w' (W.heap.size ≤ ·) 4 A (R.items ++ [(⟨R.next + 1, a.frm, a.tgt, a.A, a.n, a.c, a.body⟩ : It)]).length (itcs (R.items ++ [(⟨R.next + 1, a.frm, a.tgt, a.A, a.n, a.c, a.body⟩ : It)])) := by simpa using h2
        exact this.more (fun j hj => by simp only [XX]; omega)
      · intro x hx
        rcases List.mem_append.1 hx with hx | hx
        · exact (hR'.bod x hx).more (fun j hj => ⟨hj.1.1, hj.1.2.1, hj.1.2.2, by have := hj.2; simp only [XX]; omega⟩)
        · simp at hx; subst hx
          exact hbd.more (fun j hj => ⟨hj.1.1, hj.1.2.1, hj.1.2.2, by have := hj.2; simp only [XX]; omega⟩)
      · intro x hx
        rcases List.mem_append.1 hx with hx | hx
        · have := h.blt hx; simp only [XX]; omega
        · simp at hx; subst hx; simp only [XX]; omega
theorem any_dup (hbc : b < w.heap.size ∧ c < w.heap.size) (h : Wd w p m g N R (XB b c)) (hag : Agree G N R k) (hk : k ≤ 100) (hkd : a.kind = 3) :
    Calls Try.prog 31 #[.pointer (some ⟨p, 0, none⟩), rv R, actV a] w (DoAny G p m g b c (k + 1) w) := by
  have hcnt := hag.count
  have hl := hag.last; have hs := hag.dbl; have hc := hag.cnt
  have hlt := h.lts
  cases hx : iget N.items a.id with
  | none =>
    refine do_dup p R a hkd 0 4 (SS p m g) (fun W => Net W p N) (KK G p m g (k + 1) (XX b c w)) _ w h.noS (fun _ _ _ h hf => h.fr hf) (fun W hb _ => ?_) (fun W hf _ hJ => ?_)
    · exact (dup_no p N a.id W (h.netB hb) hx).mono (fun e w' ⟨h1, h2, h3⟩ => ⟨h1, Fr.of_below h3, h2⟩)
    · exact (twice_no R _ a.id W (h.refS hf) (by omega) (hag.none_ hx)).mono (fun e w' ⟨h1, h2⟩ => ⟨R, h1, h2, h.same hbc hag hf hJ h2⟩)
  | some x =>
    have hxm := iget_mem hx
    have hxl := hag.len _ hxm
    simp only at hxl
    obtain ⟨y, hy, e1, e2, e3, hym⟩ := hag.some_ hx
    refine do_dup p R a hkd (N.last + 1) 0 (SS p m g) (fun W => ∃ bb, w.heap.size + 3 ≤ bb ∧ Net W p (dupN N ⟨x.frm, x.to, x.body, bb⟩)) (KK G p m g (k + 1) (XX b c w)) _ w h.noS (fun _ _ _ h hf => h.fr hf) (fun W hb hsz => ?_) (fun W hf hsz hJ => ?_)
    · refine (dup_ok p N a.id x W (h.netB hb) hx (by omega) hl.1 (by omega) hag.le hs.1 (by omega)).mono ?_
      rintro e w' ⟨h1, ⟨bb, hbb, h2⟩, h3⟩
      exact ⟨h1, SS.of2 (by rw [← h.hm]; exact h3), bb, by omega, h2⟩
    · obtain ⟨bb, hbb, hn⟩ := hJ
      have hR := h.refS hf
      refine (twice_ok R _ a.id y W hR (by omega) hy (by rw [hag.nx]; exact hl.1) (by rw [hag.nx]; omega) (by rw [hag.db]; exact hs.1) (by rw [hag.db]; omega)).mono ?_
      rintro e w' ⟨A, c, h1, h2, h3⟩
      have hag' := hag.dup x.frm x.to x.body bb A y.A y.n c y.c hxl (hag.ep _ hxm)
      rw [← e1, ← e2, ← e3] at hag' hn
      refine ⟨twiceR R A c ⟨R.next + 1, y.frm, y.to, y.A, y.n, y.c, y.body⟩, by rw [h1, hag.nx], h3, dupN N ⟨y.frm, y.to, y.body, bb⟩, hag', ?_⟩
      have hR' := hR.below h3
      refine ⟨hn.below h3, h.hm, h.hg, ⟨hR'.grp.more (fun j hj => ⟨hj.1.1, hj.1.2.1, hj.1.2.2, by have := hj.2; simp only [XX]; omega⟩), ?_, ?_⟩, ?_, by simp only [XX]; omega, by simp only [XX]; omega, by simp only [XX]; omega⟩
      · have : Reads w' (W.heap.size ≤ ·) 4 A (R.items ++ [(⟨R.next + 1, y.frm, y.to, y.A, y.n, y.c, y.body⟩ : It)]).length (itcs (R.items ++ [(⟨R.next + 1, y.frm, y.to, y.A, y.n, y.c, y.body⟩ : It)])) := by simpa using h2
        exact this.more (fun j hj => by simp only [XX]; omega)
      · intro z hz
        rcases List.mem_append.1 hz with hz | hz
        · exact (hR'.bod z hz).more (fun j hj => ⟨hj.1.1, hj.1.2.1, hj.1.2.2, by have := hj.2; simp only [XX]; omega⟩)
        · simp at hz; subst hz
          exact (hR'.bod y hym).more (fun j hj => ⟨hj.1.1, hj.1.2.1, hj.1.2.2, by have := hj.2; simp only [XX]; omega⟩)
      · intro z hz
        rcases List.mem_append.1 hz with hz | hz
        · have := h.blt hz; simp only [XX]; omega
        · simp at hz; subst hz; simp only [XX]; omega
theorem any_drop (hbc : b < w.heap.size ∧ c < w.heap.size) (h : Wd w p m g N R (XB b c)) (hag : Agree G N R k) (hk : k ≤ 100) (hkd : a.kind = 2) :
    Calls Try.prog 31 #[.pointer (some ⟨p, 0, none⟩), rv R, actV a] w (DoAny G p m g b c (k + 1) w) := by
  have hcnt := hag.count
  have hs := hag.lost; have hc := hag.cnt
  have hlt := h.lts
  cases hx : iget N.items a.id with
  | none =>
    refine do_drop p R a hkd 4 (SS p m g) (fun W => Net W p N) (KK G p m g (k + 1) (XX b c w)) _ w h.noS (fun _ _ _ h hf => h.fr hf) (fun W hb _ => ?_) (fun W hf _ hJ => ?_)
    · exact (drop_no p N a.id W (h.netB hb) hx).mono (fun e w' ⟨h1, h2, h3⟩ => ⟨h1, Fr.of_below h3, h2⟩)
    · exact (lose_no R _ a.id W (h.refS hf) (by omega) (hag.none_ hx)).mono (fun e w' ⟨h1, h2⟩ => ⟨R, h1, h2, h.same hbc hag hf hJ h2⟩)
  | some x =>
    obtain ⟨y, hy, e1, e2, e3, hym⟩ := hag.some_ hx
    refine do_drop p R a hkd 0 (SS p m g) (fun W => Net W p (lostN N a.id)) (KK G p m g (k + 1) (XX b c w)) _ w h.noS (fun _ _ _ h hf => h.fr hf) (fun W hb hsz => ?_) (fun W hf hsz hn => ?_)
    · exact (drop_ok p N a.id x W (h.netB hb) hx hs.1 (by omega)).mono fun e w' ⟨h1, h2, h3⟩ => ⟨h1, SS.of2 (by rw [← h.hm]; exact h3), h2⟩
    · have hR := h.refS hf
      refine (lose_ok R _ a.id y W hR (by omega) hy (by rw [hag.lo]; exact hs.1) (by rw [hag.lo]; omega)).mono ?_
      rintro e w' ⟨A, c, h1, h2, h3⟩
      refine ⟨lostR R A c a.id, h1, h3, lostN N a.id, hag.drop hx A c, ?_⟩
      have hR' := hR.below h3
      refine ⟨hn.below h3, h.hm, h.hg, ⟨hR'.grp.more (fun j hj => ⟨hj.1.1, hj.1.2.1, hj.1.2.2, by have := hj.2; simp only [XX]; omega⟩), ?_, ?_⟩, ?_, by simp only [XX]; omega, by simp only [XX]; omega, by simp only [XX]; omega⟩
      · exact h2.more (fun j hj => by simp only [XX]; omega)
      · intro z hz
        exact (hR'.bod z (List.mem_filter.1 hz).1).more (fun j hj => ⟨hj.1.1, hj.1.2.1, hj.1.2.2, by have := hj.2; simp only [XX]; omega⟩)
      · intro z hz
        have := h.blt (idel_mem hz); simp only [XX]; omega
theorem any_part (hbc : b < w.heap.size ∧ c < w.heap.size) (h : Wd w p m g N R (XB b c)) (hag : Agree G N R k) (ha : ActR w p m g b c a) (hkd : a.kind = 4) :
    Calls Try.prog 31 #[.pointer (some ⟨p, 0, none⟩), rv R, actV a] w (DoAny G p m g b c (k + 1) w) := by
  have hlt := h.lts
  have hgl := hag.gl
  by_cases hn : a.gn = N.groups.length
  · have hgr : a.groups.length = N.groups.length := by have := ha.grp.1; simp at this; omega
    refine do_part p R a hkd 0 (SS p m g) (fun W => Net W p { N with groups := a.groups }) (KK G p m g (k + 1) (XX b c w)) _ w h.noS (fun _ _ _ h hf => h.fr hf) (fun W hb hsz => ?_) (fun W hf hsz hJ => ?_)
    · have hr := (ha.grp.oldS (by omega) (Fr.of_below hb))
      exact (partition_ok p N _ a.GA a.gn a.gc a.groups W (h.netB hb) hn hr).mono fun e w' ⟨h1, h2, h3⟩ => ⟨h1, h3.mono (fun j _ hj => by rw [hj, h.hg]; simp [SS]), h2⟩
    · have hR := h.refS hf
      have hgn : a.gn = R.n := by rw [hag.n]; exact hn
      have hr := (ha.grp.oldS (by omega) hf)
      rw [hgn] at hr ⊢
      refine (split_ok R _ a.GA a.gc a.groups W hr (by rw [hag.n, hgl.1]; omega)).mono ?_
      rintro e w' ⟨A, c, h1, h2, h3⟩
      refine ⟨splitR R A c a.groups, h1, h3, { N with groups := a.groups }, hag.split _ hgr A c, ?_⟩
      have hR' := hR.below h3
      refine ⟨hJ.below h3, h.hm, h.hg, ⟨h2.more (fun j hj => by simp only [XX]; omega), hR'.its.more (fun j hj => ⟨hj.1.1, hj.1.2.1, hj.1.2.2, by have := hj.2; simp only [XX]; omega⟩), fun z hz => (hR'.bod z hz).more (fun j hj => ⟨hj.1.1, hj.1.2.1, hj.1.2.2, by have := hj.2; simp only [XX]; omega⟩)⟩, ?_, by simp only [XX]; omega, by simp only [XX]; omega, by simp only [XX]; omega⟩
      intro z hz
      have := h.blt hz; simp only [XX]; omega
  · refine do_part p R a hkd 1 (SS p m g) (fun W => Net W p N) (KK G p m g (k + 1) (XX b c w)) _ w h.noS (fun _ _ _ h hf => h.fr hf) (fun W hb _ => ?_) (fun W hf _ hJ => ?_)
    · exact (partition_bad p N a.GA a.gn a.gc W (h.netB hb) hn).mono (fun e w' ⟨h1, h2⟩ => ⟨h1, h2 ▸ Fr.refl _ _, h2 ▸ h.netB hb⟩)
    · exact (split_bad R a.GA a.gn a.gc W (by rw [hag.n]; exact hn)).mono (fun e w' ⟨h1, h2⟩ => ⟨R, h1, h2, h.same hbc hag hf hJ h2⟩)
theorem any_give (hbc : b < w.heap.size ∧ c < w.heap.size) (h : Wd w p m g N R (XB b c)) (hag : Agree G N R k) (hk : k ≤ 100) (hkd : a.kind = 1) :
    Calls Try.prog 31 #[.pointer (some ⟨p, 0, none⟩), rv R, actV a] w (DoAny G p m g b c (k + 1) w) := by
  have hcnt := hag.count
  have hs := hag.came; have hc := hag.cnt
  have hlt := h.lts
  have hzero : ∀ (R' : RefS) (W W' : World), KK G p m g (k + 1) (XX b c w) R' W → Below W.heap.size W W' → Calls Try.prog 20 #[.agg #[.int .i64 0, .int .i64 0, .slice none 0 0], .agg #[.int .i64 0, .int .i64 0, .slice none 0 0]] W' fun e w' => e = .returned (.bool true) ∧ Below W'.heap.size W' w' := fun R' W W' _ _ =>
    same_yes 0 0 none none 0 0 0 0 [] (fun _ => False) (fun _ => False) W' Reads.none_ Reads.none_ (fun _ _ => id) (fun _ _ => id)
  cases hx : iget N.items a.id with
  | none =>
    refine do_give p R a hkd 0 0 4 none none 0 0 0 0 (SS p m g) (fun W => Net W p N) (KK G p m g (k + 1) (XX b c w)) _ w h.noS (fun W o hn => hn.alloc o) (fun _ _ _ h hf => h.fr hf) (fun W hb _ => ?_) (fun W hf _ hJ => ?_) hzero
    · exact (deliver_no p N a.id W (h.netB hb) hx).mono (fun e w' ⟨h1, h2, h3⟩ => ⟨h1, Fr.of_below h3, h2⟩)
    · exact (give_no R _ a.id W (h.refS hf) (by omega) (hag.none_ hx)).mono (fun e w' ⟨h1, h2⟩ => ⟨R, h1, h2, h.same hbc hag hf hJ h2⟩)
  | some x =>
    have hxm := iget_mem hx
    obtain ⟨y, hy, e1, e2, e3, hym⟩ := hag.some_ hx
    cases hcon : conB N.groups x.frm x.to with
    | false =>
      refine do_give p R a hkd 0 0 16 none none 0 0 0 0 (SS p m g) (fun W => Net W p N) (KK G p m g (k + 1) (XX b c w)) _ w h.noS (fun W o hn => hn.alloc o) (fun _ _ _ h hf => h.fr hf) (fun W hb _ => ?_) (fun W hf _ hJ => ?_) hzero
      · exact (deliver_cut p N a.id x W (h.netB hb) hx hcon).mono (fun e w' ⟨h1, h2, h3⟩ => ⟨h1, Fr.of_below h3, h2⟩)
      · exact (give_cut R _ a.id y W (h.refS hf) (by omega) hy (by rw [hag.con, e1, e2]; exact hcon)).mono (fun e w' ⟨h1, h2⟩ => ⟨R, h1, h2, h.same hbc hag hf hJ h2⟩)
    | true =>
      have hxb := h.net.body _ hxm
      simp only at hxb
      have hxp : x.bb ≠ p := hxb.ne_ h.net.blk (by decide)
      have hxg : x.bb ≠ g := h.hg ▸ hxb.ne_ h.net.grp (by decide)
      have hxmm : x.bb ≠ m := h.hm ▸ (h.net.map.ne_blk hxb).symm
      refine do_give p R a hkd x.frm x.to 0 (some ⟨x.bb, 0, none⟩) y.A x.body.length y.n x.body.length y.c (SS p m g) (fun W => Net W p (cameN N a.id) ∧ Blk W x.bb 5 (bytesV x.body).toArray)
        (fun R' W => KK G p m g (k + 1) (XX b c w) R' W ∧ Blk W x.bb 5 (bytesV x.body).toArray ∧ Reads W (fun _ => True) 1 y.A y.n (bytesV x.body)) _ w h.noS (fun W o hn => ⟨hn.1.alloc o, hn.2.alloc o⟩) (fun _ _ _ h hf => h.1.fr hf) (fun W hb _ => ?_) (fun W hf _ hJ => ?_) ?_
      · refine (deliver_ok p N a.id x W (h.netB hb) hx hcon hs.1 (by omega)).mono ?_
        rintro e w' ⟨h1, h2, h3⟩
        have hF : Fr (SS p m g) W w' := SS.of2 (by rw [← h.hm]; exact h3)
        exact ⟨h1, hF, h2, (hxb.below hb hxb.lt).fr hF (by simp [SS, hxp, hxg, hxmm])⟩
      · have hR := h.refS hf
        rw [← e1, ← e2]
        refine (give_ok R _ a.id y W hR (by omega) hy (by rw [hag.con, e1, e2]; exact hcon) (by rw [hag.cm]; exact hs.1) (by rw [hag.cm]; omega)).mono ?_
        rintro e w' ⟨A, c, h1, h2, h3⟩
        have hR' := hR.below h3
        refine ⟨cameR R A c a.id, h1, h3, ⟨cameN N a.id, hag.give hx A c, ?_⟩, hJ.2.below h3 hJ.2.lt, ?_⟩
        · refine ⟨hJ.1.below h3, h.hm, h.hg, ⟨hR'.grp.more (fun j hj => ⟨hj.1.1, hj.1.2.1, hj.1.2.2, by have := hj.2; simp only [XX]; omega⟩), ?_, ?_⟩, ?_, by simp only [XX]; omega, by simp only [XX]; omega, by simp only [XX]; omega⟩
          · exact h2.more (fun j hj => by simp only [XX]; omega)
          · intro z hz
            exact (hR'.bod z (List.mem_filter.1 hz).1).more (fun j hj => ⟨hj.1.1, hj.1.2.1, hj.1.2.2, by have := hj.2; simp only [XX]; omega⟩)
          · intro z hz
            have := h.blt (idel_mem hz); simp only [XX]; omega
        · rw [← e3]; exact (hR'.bod y hym).more (fun _ _ => trivial)
      · rintro R' W W' ⟨-, hB, hr⟩ hbel
        have hB' := hB.below hbel hB.lt
        have hr' := ((hr.old (by omega)).more (B' := (· < W.heap.size)) (fun _ hk => hk.2)).below hbel (fun _ hk => hk)
        have hr1 := Reads.of_blk (w := W') (B := (· < W'.heap.size)) (n := x.body.length) (size := 1) hB' (by simp [bytesV]) hB'.lt
        have e4 : ((bytesV x.body).toArray.toList.take (x.body.length * 1)) = bytesV x.body := by
          rw [List.take_of_length_le (by simp [bytesV])]
        rw [e4] at hr1
        exact same_yes x.frm x.to _ _ _ _ _ _ x.body _ _ W' hr1 hr' (fun j hj hB => by omega) (fun j hj hB => by have := hbel.size; omega)
theorem any_do (hbc : b < w.heap.size ∧ c < w.heap.size) (h : Wd w p m g N R (XB b c)) (hag : Agree G N R k) (hk : k ≤ 100) (ha : ActR w p m g b c a) :
    Calls Try.prog 31 #[.pointer (some ⟨p, 0, none⟩), rv R, actV a] w (DoAny G p m g b c (k + 1) w) := by
  by_cases h0 : a.kind = 0
  · exact any_send hbc h hag hk ha h0
  by_cases h1 : a.kind = 1
  · exact any_give hbc h hag hk h1
  by_cases h2 : a.kind = 2
  · exact any_drop hbc h hag hk h2
  by_cases h3 : a.kind = 3
  · exact any_dup hbc h hag hk h3
  by_cases h4 : a.kind = 4
  · exact any_part hbc h hag ha h4
  refine (do_none p R a h0 h1 h2 h3 h4 w).mono ?_
  rintro e w' ⟨h1, h2⟩
  exact ⟨R, h1, Fr.of_below h2, KK.more (h.same hbc hag (Fr.refl _ _) h.net h2)⟩
end
end Go.Proofs.Ytgjkahndclijgaa

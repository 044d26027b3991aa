import Derived.Test.YtgjkahndclijgaaRef10
namespace Go.Proofs.Ytgjkahndclijgaa
open Go.RowKit Go.Own

/-! ### What the two networks have in common: plain -/
def key (x : Int × Pk) : Int × Int × Int × List Int := (x.1, x.2.frm, x.2.to, x.2.body)
def keyR (x : It) : Int × Int × Int × List Int := (x.id, x.frm, x.to, x.body)
structure Agree (G : Nat) (N : NetS) (R : RefS) (k : Nat) : Prop where
  n : R.n = N.groups.length
  grp : R.groups = N.groups
  nx : R.next = N.last
  st : R.sent = N.sent
  cm : R.came = N.came
  lo : R.lost = N.lost
  db : R.dbl = N.dbl
  it : N.items.map key = R.items.map keyR
  up : (N.items.map (·.1)).Pairwise (· < ·)
  le : ∀ x ∈ N.items, x.1 ≤ N.last
  len : ∀ x ∈ N.items, x.2.body.length ≤ 200
  last : 0 ≤ N.last ∧ N.last ≤ k
  sent : 0 ≤ N.sent ∧ N.sent ≤ k
  came : 0 ≤ N.came ∧ N.came ≤ k
  lost : 0 ≤ N.lost ∧ N.lost ≤ k
  dbl : 0 ≤ N.dbl ∧ N.dbl ≤ k
  cnt : N.items.length ≤ k
  acc : (N.items.length : Int) = N.sent + N.dbl - N.came - N.lost
  gl : N.groups.length = G ∧ G ≤ 512
  ep : ∀ x ∈ N.items, epB G x.2.frm = true ∧ epB G x.2.to = true ∧ x.2.frm ≠ x.2.to
theorem Agree.mono {G : Nat} {N : NetS} {R : RefS} {k k' : Nat} (h : Agree G N R k) (hk : k ≤ k') : Agree G N R k' :=
  { h with
    last := ⟨h.last.1, by have := h.last.2; omega⟩
    sent := ⟨h.sent.1, by have := h.sent.2; omega⟩
    came := ⟨h.came.1, by have := h.came.2; omega⟩
    lost := ⟨h.lost.1, by have := h.lost.2; omega⟩
    dbl := ⟨h.dbl.1, by have := h.dbl.2; omega⟩
    cnt := Nat.le_trans h.cnt hk }
theorem Agree.count {G : Nat} {N : NetS} {R : RefS} {k : Nat} (h : Agree G N R k) : R.items.length = N.items.length := by
  have := congrArg List.length h.it
  simpa using this.symm
theorem find_key (l : List (Int × Pk)) (id : Int) : (l.map key).find? (·.1 == id) = (l.find? (·.1 == id)).map key := by
  rw [List.find?_map]; rfl
theorem find_keyR (l : List It) (id : Int) : (l.map keyR).find? (·.1 == id) = (rfind l id).map keyR := by
  rw [List.find?_map]; rfl
theorem Agree.none_ {G : Nat} {N : NetS} {R : RefS} {k : Nat} (h : Agree G N R k) {id : Int} (hx : iget N.items id = none) : rfind R.items id = none := by
  have h1 := find_key N.items id
  rw [h.it, find_keyR] at h1
  unfold iget at hx
  rw [Option.map_eq_none_iff] at hx
  rw [hx] at h1
  simpa using h1
theorem Agree.some_ {G : Nat} {N : NetS} {R : RefS} {k : Nat} (h : Agree G N R k) {id : Int} {x : Pk} (hx : iget N.items id = some x) : ∃ y, rfind R.items id = some y ∧ y.frm = x.frm ∧ y.to = x.to ∧ y.body = x.body ∧ y ∈ R.items := by
  have h1 := find_key N.items id
  rw [h.it, find_keyR] at h1
  unfold iget at hx
  rw [Option.map_eq_some_iff] at hx
  obtain ⟨z, hz, rfl⟩ := hx
  rw [hz] at h1
  simp only [Option.map_some, Option.map_eq_some_iff] at h1
  obtain ⟨y, hy, e⟩ := h1
  simp only [keyR, key, Prod.mk.injEq] at e
  exact ⟨y, hy, e.2.1, e.2.2.1, e.2.2.2, List.mem_of_find?_eq_some hy⟩
theorem erase_filter : ∀ (l : List (Int × Pk)) (id : Int), (l.map (·.1)).Pairwise (· < ·) → l.eraseP (·.1 == id) = l.filter (fun x => !(x.1 == id))
  | [], _, _ => rfl
  | a :: r, id, h => by
    simp only [List.map_cons, List.pairwise_cons] at h
    rw [List.eraseP_cons, List.filter_cons]
    by_cases ha : a.1 = id
    · have e : (a.1 == id) = true := by simp [ha]
      simp only [e, cond_true, Bool.not_true, Bool.false_eq_true, if_false]
      symm
      rw [List.filter_eq_self]
      intro x hx
      have := h.1 x.1 (List.mem_map.2 ⟨x, hx, rfl⟩)
      simp; omega
    · have e : (a.1 == id) = false := by simp [ha]
      simp only [e, cond_false, Bool.not_false, if_true]
      rw [erase_filter r id h.2]
theorem filter_key (l : List (Int × Pk)) (id : Int) : (l.filter fun x => !(x.1 == id)).map key = (l.map key).filter fun x => !(x.1 == id) := by
  rw [List.filter_map]; rfl
theorem filter_keyR (l : List It) (id : Int) : (rdel l id).map keyR = (l.map keyR).filter fun x => !(x.1 == id) := by
  unfold rdel
  rw [List.filter_map]; rfl
theorem Agree.del {G : Nat} {N : NetS} {R : RefS} {k : Nat} (h : Agree G N R k) (id : Int) : (idel N.items id).map key = (rdel R.items id).map keyR := by
  unfold idel
  rw [erase_filter _ _ h.up, filter_key, h.it, filter_keyR]
theorem idel_length {l : List (Int × Pk)} {id : Int} {x : Pk} (h : iget l id = some x) : (idel l id).length + 1 = l.length := by
  have hm := iget_mem h
  have := List.length_eraseP_of_mem hm (p := (·.1 == id)) (by simp)
  unfold idel
  rw [this]
  have := List.length_pos_of_mem hm
  omega
theorem idel_up {l : List (Int × Pk)} (id : Int) (h : (l.map (·.1)).Pairwise (· < ·)) : ((idel l id).map (·.1)).Pairwise (· < ·) :=
  h.sublist (List.Sublist.map (fun x : Int × Pk => x.1) (List.eraseP_sublist (p := fun x : Int × Pk => x.1 == id)))
theorem snoc_up {l : List (Int × Pk)} {n : Int} (h : (l.map (·.1)).Pairwise (· < ·)) (hl : ∀ x ∈ l, x.1 ≤ n) (y : Pk) : ((l ++ [(n + 1, y)]).map (·.1)).Pairwise (· < ·) := by
  rw [List.map_append, List.pairwise_append]
  refine ⟨h, by simp, fun a ha b hb => ?_⟩
  obtain ⟨x, hx, rfl⟩ := List.mem_map.1 ha
  have := hl x hx
  simp at hb
  omega
theorem snoc_le {l : List (Int × Pk)} {n : Int} (hl : ∀ x ∈ l, x.1 ≤ n) (y : Pk) : ∀ x ∈ l ++ [(n + 1, y)], x.1 ≤ n + 1 := by
  intro x hx
  rcases List.mem_append.1 hx with hx | hx
  · have := hl x hx; omega
  · simp at hx; rw [hx]; simp
theorem snoc_len {l : List (Int × Pk)} {n : Int} {y : Pk} (hl : ∀ x ∈ l, x.2.body.length ≤ 200) (hy : y.body.length ≤ 200) : ∀ x ∈ l ++ [(n, y)], x.2.body.length ≤ 200 := by
  intro x hx
  rcases List.mem_append.1 hx with hx | hx
  · exact hl x hx
  · simp at hx; rw [hx]; exact hy
theorem snoc_ep {G : Nat} {l : List (Int × Pk)} {n : Int} {y : Pk} (hl : ∀ x ∈ l, epB G x.2.frm = true ∧ epB G x.2.to = true ∧ x.2.frm ≠ x.2.to) (hy : epB G y.frm = true ∧ epB G y.to = true ∧ y.frm ≠ y.to) : ∀ x ∈ l ++ [(n, y)], epB G x.2.frm = true ∧ epB G x.2.to = true ∧ x.2.frm ≠ x.2.to := by
  intro x hx
  rcases List.mem_append.1 hx with hx | hx
  · exact hl x hx
  · simp at hx; rw [hx]; exact hy
theorem Agree.send {G : Nat} {N : NetS} {R : RefS} {k : Nat} (h : Agree G N R k) (f t : Int) (body : List Int) (bb : Nat) (A A' : Option Addr) (n c c' : Nat) (hb : body.length ≤ 200) (hso : Go.Proofs.Ytgjkahndclijgaa.sendOk N f t = true) :
    Agree G (sentN N ⟨f, t, body, bb⟩) (rsentR R A c ⟨R.next + 1, f, t, A', n, c', body⟩) (k + 1) := by
  have := h.last; have := h.sent; have := h.came; have := h.lost; have := h.dbl; have := h.cnt; have := h.acc
  refine ⟨h.n, h.grp, by simp [sentN, putN, rsentR, rputR, h.nx], by simp [sentN, putN, rsentR, h.st], h.cm, h.lo, h.db, ?_, snoc_up h.up h.le _, snoc_le h.le _, snoc_len h.len hb, ?_, ?_, ?_, ?_, ?_, ?_, ?_, h.gl, snoc_ep h.ep (by obtain ⟨h1, h2, h3⟩ := sendOk_parts hso; rw [h.gl.1] at h1 h2; exact ⟨h1, h2, by simpa using h3⟩)⟩
  · simp [sentN, putN, rsentR, rputR, h.it, key, keyR, h.nx]
  all_goals simp [sentN, putN]; omega
theorem Agree.dup {G : Nat} {N : NetS} {R : RefS} {k : Nat} (h : Agree G N R k) (f t : Int) (body : List Int) (bb : Nat) (A A' : Option Addr) (n c c' : Nat) (hb : body.length ≤ 200) (hso : epB G f = true ∧ epB G t = true ∧ f ≠ t) :
    Agree G (dupN N ⟨f, t, body, bb⟩) (twiceR R A c ⟨R.next + 1, f, t, A', n, c', body⟩) (k + 1) := by
  have := h.last; have := h.sent; have := h.came; have := h.lost; have := h.dbl; have := h.cnt; have := h.acc
  refine ⟨h.n, h.grp, by simp [dupN, putN, twiceR, rputR, h.nx], h.st, h.cm, h.lo, by simp [dupN, putN, twiceR, h.db], ?_, snoc_up h.up h.le _, snoc_le h.le _, snoc_len h.len hb, ?_, ?_, ?_, ?_, ?_, ?_, ?_, h.gl, snoc_ep h.ep hso⟩
  · simp [dupN, putN, twiceR, rputR, h.it, key, keyR, h.nx]
  all_goals simp [dupN, putN]; omega
theorem Agree.drop {G : Nat} {N : NetS} {R : RefS} {k : Nat} (h : Agree G N R k) {id : Int} {x : Pk} (hx : iget N.items id = some x) (A : Option Addr) (c : Nat) :
    Agree G (lostN N id) (lostR R A c id) (k + 1) := by
  have := h.last; have := h.sent; have := h.came; have := h.lost; have := h.dbl; have := h.cnt; have := h.acc
  have := idel_length hx
  refine ⟨h.n, h.grp, h.nx, h.st, h.cm, by simp [lostN, lostR, h.lo], h.db, h.del id, idel_up id h.up, fun y hy => h.le y (idel_mem hy), fun y hy => h.len y (idel_mem hy), ?_, ?_, ?_, ?_, ?_, ?_, ?_, h.gl, fun y hy => h.ep y (idel_mem hy)⟩
  all_goals simp [lostN]; omega
theorem Agree.give {G : Nat} {N : NetS} {R : RefS} {k : Nat} (h : Agree G N R k) {id : Int} {x : Pk} (hx : iget N.items id = some x) (A : Option Addr) (c : Nat) :
    Agree G (cameN N id) (cameR R A c id) (k + 1) := by
  have := h.last; have := h.sent; have := h.came; have := h.lost; have := h.dbl; have := h.cnt; have := h.acc
  have := idel_length hx
  refine ⟨h.n, h.grp, h.nx, h.st, by simp [cameN, cameR, h.cm], h.lo, h.db, h.del id, idel_up id h.up, fun y hy => h.le y (idel_mem hy), fun y hy => h.len y (idel_mem hy), ?_, ?_, ?_, ?_, ?_, ?_, ?_, h.gl, fun y hy => h.ep y (idel_mem hy)⟩
  all_goals simp [cameN]; omega
theorem Agree.split {G : Nat} {N : NetS} {R : RefS} {k : Nat} (h : Agree G N R k) (gs : List Int) (hg : gs.length = N.groups.length) (A : Option Addr) (c : Nat) :
    Agree G { N with groups := gs } (splitR R A c gs) (k + 1) := by
  refine ⟨by simp [splitR, hg, h.n], rfl, h.nx, h.st, h.cm, h.lo, h.db, h.it, h.up, h.le, h.len, ?_, ?_, ?_, ?_, ?_, ?_, h.acc, by simp [hg, h.gl.1, h.gl.2], h.ep⟩
  · exact (h.mono (Nat.le_succ k)).last
  · exact (h.mono (Nat.le_succ k)).sent
  · exact (h.mono (Nat.le_succ k)).came
  · exact (h.mono (Nat.le_succ k)).lost
  · exact (h.mono (Nat.le_succ k)).dbl
  · exact (h.mono (Nat.le_succ k)).cnt
theorem Agree.con {G : Nat} {N : NetS} {R : RefS} {k : Nat} (h : Agree G N R k) (a b : Int) : joinB R a b = conB N.groups a b := by
  unfold joinB conB
  rw [h.n, h.grp, Bool.beq_eq_decide_eq]
theorem Agree.sendOk {G : Nat} {N : NetS} {R : RefS} {k : Nat} (h : Agree G N R k) (a b : Int) : rsendOk R a b = Go.Proofs.Ytgjkahndclijgaa.sendOk N a b := by
  unfold rsendOk Go.Proofs.Ytgjkahndclijgaa.sendOk
  rw [h.n]

/-! ### Both in one memory; X: blocks that neither may lie in -/
structure Wd (w : World) (p m g : Nat) (N : NetS) (R : RefS) (X : Nat → Prop) : Prop where
  net : Net w p N
  hm : N.m = m
  hg : N.g = g
  ref : Ref w (fun j => j ≠ p ∧ j ≠ m ∧ j ≠ g ∧ ¬ X j) R
  bX : ∀ x ∈ N.items, ¬ X x.2.bb
  pX : ¬ X p
  mX : ¬ X m
  gX : ¬ X g
theorem Wd.fr {w w' : World} {p m g : Nat} {N : NetS} {R : RefS} {X Y Z : Nat → Prop} (h : Wd w p m g N R X) (hf : Fr Y w w') (hY : ∀ j, Y j → X j) (hZ : ∀ j, Z j → X j) : Wd w' p m g N R Z :=
  have hf' := hf.mono (T := X) (fun j _ => hY j)
  ⟨h.net.fr hf' h.pX (h.hg ▸ h.gX) (h.hm ▸ h.mX) h.bX, h.hm, h.hg, (h.ref.fr hf' (fun _ hk => hk.2.2.2)).more (fun j hk => ⟨hk.1, hk.2.1, hk.2.2.1, fun hz => hk.2.2.2 (hZ j hz)⟩), fun x hx hz => h.bX x hx (hZ _ hz), fun hz => h.pX (hZ _ hz), fun hz => h.mX (hZ _ hz), fun hz => h.gX (hZ _ hz)⟩
end Go.Proofs.Ytgjkahndclijgaa

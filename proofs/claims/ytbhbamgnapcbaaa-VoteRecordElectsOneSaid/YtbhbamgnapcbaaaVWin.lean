import Derived.Test.YtbhbamgnapcbaaaItk
namespace Go.Quo
/-! ### The winner, plain -/
/-- Who voted for x. -/
def vot (l : List (Int × Int)) (x : Int) : List Int := (l.filter (fun p => p.2 == x)).map (·.1)
def WinIs (o n : List Int) (l : List (Int × Int)) (r : Int) : Prop := (r = -1 ∧ ∀ p ∈ l, 0 ≤ p.2 → reachB o n (vot l p.2) = false) ∨ (0 ≤ r ∧ (∃ p ∈ l, p.2 = r) ∧ reachB o n (vot l r) = true ∧ ∀ p ∈ l, 0 ≤ p.2 → reachB o n (vot l p.2) = true → r ≤ p.2)
theorem WinIs.uniq {o n : List Int} {l : List (Int × Int)} {r s : Int} (h : WinIs o n l r) (k : WinIs o n l s) : r = s := by
  rcases h with ⟨h1, h2⟩ | ⟨h1, ⟨p, hp, hpr⟩, h3, h4⟩
  · rcases k with ⟨k1, k2⟩ | ⟨k1, ⟨q, hq, hqs⟩, k3, k4⟩
    · omega
    · have := h2 q hq (by omega)
      rw [hqs, k3] at this; cases this
  · rcases k with ⟨k1, k2⟩ | ⟨k1, ⟨q, hq, hqs⟩, k3, k4⟩
    · have := k2 p hp (by omega)
      rw [hpr, h3] at this; cases this
    · have a := h4 q hq (by omega) (by rw [hqs]; exact k3)
      have b := k4 p hp (by omega) (by rw [hpr]; exact h3)
      omega
theorem vot_len (l : List (Int × Int)) (x : Int) : (vot l x).length ≤ l.length := by unfold vot; rw [List.length_map]; exact List.length_filter_le _ _
theorem vot_snoc (l : List (Int × Int)) (p : Int × Int) (x : Int) : vot (l ++ [p]) x = if p.2 = x then vot l x ++ [p.1] else vot l x := by
  unfold vot
  rw [List.filter_append, List.map_append]
  by_cases h : p.2 = x
  · rw [if_pos h, List.filter_cons_of_pos (by simpa using h)]; rfl
  · rw [if_neg h, List.filter_cons_of_neg (by simpa using h)]; simp
end Go.Quo
namespace Go.Proofs.Ytbhbamgnapcbaaa
set_option linter.unusedVariables false
open Go.RowKit Go.Own Go.Quo
theorem own_mput {w : World} {base m : Nat} {e : TypeId} {size n : Nat} {v : Value} {xs : List Value} (h : w.ownsRow base e size v n xs) (hm : ∀ g, v.ownBlock = some g → g ≠ m) (q : IntKind) (k : Int) (u : Value) : (mput w m q k u).ownsRow base e size v n xs := by
  rcases h.2 with ⟨e1, e2⟩ | ⟨g, cap, cur, e1, e2, e3, e4⟩
  · exact ⟨h.1, .inl ⟨e1, e2⟩⟩
  · exact ⟨h.1, .inr ⟨g, cap, cur, e1, e2, (mput_far w m q k u g (hm g (by rw [e1]; rfl))).trans e3, e4⟩⟩
theorem own_fr2 {w w' : World} {base : Nat} {e : TypeId} {size n : Nat} {v : Value} {xs : List Value} {S : Nat → Prop} (h : w.ownsRow base e size v n xs) (hf : Fr S w w') (hS : ∀ g, v.ownBlock = some g → ¬ S g) : w'.ownsRow base e size v n xs := by
  rcases h.2 with ⟨e1, e2⟩ | ⟨g, cap, cur, e1, e2, e3, e4⟩
  · exact ⟨h.1, .inl ⟨e1, e2⟩⟩
  · exact ⟨h.1, .inr ⟨g, cap, cur, e1, e2, (hf.block g (Array.getElem?_eq_some_iff.1 e3).1 (hS g (by rw [e1]; rfl))).trans e3, e4⟩⟩
/-- An entry of Winner's map. -/
structure En where
  x : Int
  g : Nat
  c : Nat
  ys : List Int
abbrev enS (e : En) : Value := .slice (some ⟨e.g, 0, none⟩) e.ys.length e.c
def enV (e : En) : Int × Value := (e.x, enS e)
structure Ents (w : World) (base mb : Nat) (l : List (Int × Int)) (es : List En) : Prop where
  m : MapB w mb .i64 (es.map enV)
  nd : (es.map (·.x)).Nodup
  own : ∀ e ∈ es, w.ownsRow base 3 1 (enS e) e.ys.length (e.ys.map (Value.int .i64))
  dj : (es.map (·.g)).Nodup
  ys : ∀ e ∈ es, e.ys = vot l e.x
  key : ∀ x, (∃ e ∈ es, e.x = x) ↔ 0 ≤ x ∧ ∃ p ∈ l, p.2 = x
theorem Ents.lt {w : World} {base mb : Nat} {l : List (Int × Int)} {es : List En} (h : Ents w base mb l es) {e : En} (he : e ∈ es) : base ≤ e.g ∧ e.g < w.heap.size := (h.own e he).lt e.g rfl
theorem Ents.ne {w : World} {base mb : Nat} {l : List (Int × Int)} {es : List En} (h : Ents w base mb l es) {e : En} (he : e ∈ es) : mb ≠ e.g := by
  intro hh
  rcases (h.own e he).2 with ⟨e1, e2⟩ | ⟨g, cap, cur, e1, e2, e3, e4⟩
  · cases e1
  · obtain ⟨es', clock, hm, -⟩ := h.m
    simp at e1
    rw [← e1.1, ← hh, hm] at e3
    cases e3
theorem Ents.fr {w w' : World} {base mb : Nat} {l : List (Int × Int)} {es : List En} {S : Nat → Prop} (h : Ents w base mb l es) (hf : Fr S w w') (hm : ¬ S mb) (hS : ∀ g, base ≤ g → ¬ S g) : Ents w' base mb l es :=
  ⟨h.m.fr hf hm, h.nd, fun e he => own_fr2 (h.own e he) hf (fun g hg => by cases hg; exact hS _ (h.lt he).1), h.dj, h.ys, h.key⟩
theorem kget_en : ∀ (es : List En) (x : Int), kget (es.map enV) x = (es.find? (fun e => e.x == x)).map enS
  | [], x => rfl
  | e :: r, x => by
    have ih := kget_en r x
    unfold kget at ih ⊢
    rw [List.map_cons, List.find?_cons, List.find?_cons]
    show Option.map (·.2) (match e.x == x with | true => some (enV e) | false => _) = _
    cases h : e.x == x with
    | true => rfl
    | false => exact ih
theorem kput_new : ∀ (es : List En) (x : Int) (u : Value), (∀ e ∈ es, e.x ≠ x) → kput (es.map enV) x u = es.map enV ++ [(x, u)]
  | [], x, u, _ => rfl
  | e :: r, x, u, h => by
    have h1 : (e.x == x) = false := by simpa using h e (by simp)
    show (if (enV e).1 == x then (x, u) :: r.map enV else enV e :: kput (r.map enV) x u) = _
    rw [show (enV e).1 = e.x from rfl, h1, kput_new r x u (fun e' he => h e' (by simp [he]))]
    rfl
theorem kput_old : ∀ (a : List En) (e : En) (b : List En) (u : Value), (∀ e' ∈ a, e'.x ≠ e.x) → kput ((a ++ e :: b).map enV) e.x u = a.map enV ++ (e.x, u) :: b.map enV
  | [], e, b, u, _ => by
    show (if (enV e).1 == e.x then (e.x, u) :: b.map enV else _) = _
    rw [show (enV e).1 = e.x from rfl, beq_self_eq_true]; rfl
  | e' :: r, e, b, u, h => by
    have h1 : (e'.x == e.x) = false := by simpa using h e' (by simp)
    show (if (enV e').1 == e.x then _ else enV e' :: kput ((r ++ e :: b).map enV) e.x u) = _
    rw [show (enV e').1 = e'.x from rfl, h1, kput_old r e b u (fun y hy => h y (by simp [hy]))]
    rfl
/-- A vote for nobody. -/
theorem Ents.neg {w : World} {base mb : Nat} {l : List (Int × Int)} {es : List En} (h : Ents w base mb l es) (p : Int × Int) (hp : p.2 < 0) : Ents w base mb (l ++ [p]) es := by
  have hk : ∀ e ∈ es, 0 ≤ e.x := fun e he => ((h.key e.x).1 ⟨e, he, rfl⟩).1
  refine ⟨h.m, h.nd, h.own, h.dj, fun e he => ?_, fun x => ?_⟩
  · rw [vot_snoc, if_neg (by have := hk e he; omega)]; exact h.ys e he
  · rw [h.key x]
    constructor
    · rintro ⟨h0, q, hq, e⟩
      exact ⟨h0, q, by simp [hq], e⟩
    · rintro ⟨h0, q, hq, e⟩
      rcases List.mem_append.1 hq with hq | hq
      · exact ⟨h0, q, hq, e⟩
      · obtain rfl : q = p := by simpa using hq
        omega
/-- A first vote. -/
theorem Ents.new {w w' : World} {base mb : Nat} {l : List (Int × Int)} {es : List En} (h : Ents w base mb l es) (p : Int × Int) (hp : 0 ≤ p.2) (hn : ∀ e ∈ es, e.x ≠ p.2) (g c : Nat) (hg : w.heap.size ≤ g) (hgr : Fr (fun _ => False) w w') (ho : w'.ownsRow base 3 1 (.slice (some ⟨g, 0, none⟩) 1 c) 1 [.int .i64 p.1]) :
    Ents (mput w' mb .i64 p.2 (.slice (some ⟨g, 0, none⟩) 1 c)) base mb (l ++ [p]) (es ++ [⟨p.2, g, c, [p.1]⟩]) := by
  have hml := h.m.lt
  have hv0 : vot l p.2 = [] := by
    have hno : ¬ ∃ q ∈ l, q.2 = p.2 := fun hx => by
      obtain ⟨e, he, hee⟩ := (h.key p.2).2 ⟨hp, hx⟩
      exact hn e he hee
    unfold vot
    rw [List.filter_eq_nil_iff.2 (fun q hq hh => hno ⟨q, hq, by simpa using hh⟩)]; rfl
  refine ⟨?_, ?_, ?_, ?_, ?_, ?_⟩
  · have := (h.m.fr hgr id).put p.2 (.slice (some ⟨g, 0, none⟩) 1 c)
    rw [kput_new es p.2 _ hn] at this
    rw [List.map_append]; exact this
  · rw [List.map_append, List.nodup_append]
    refine ⟨h.nd, by simp, fun a ha b hb => ?_⟩
    obtain ⟨e, he, rfl⟩ := List.mem_map.1 ha
    obtain rfl : b = p.2 := by simpa using hb
    exact hn e he
  · intro e he
    rcases List.mem_append.1 he with he | he
    · exact own_mput (own_fr2 (h.own e he) hgr (fun _ _ => id)) (fun g' hg' => by cases hg'; exact (h.ne he).symm) _ _ _
    · obtain rfl : e = ⟨p.2, g, c, [p.1]⟩ := by simpa using he
      exact own_mput ho (fun g' hg' => by cases hg'; show g ≠ mb; omega) _ _ _
  · rw [List.map_append, List.nodup_append]
    refine ⟨h.dj, by simp, fun a ha b hb => ?_⟩
    obtain ⟨e, he, rfl⟩ := List.mem_map.1 ha
    obtain rfl : b = g := by simpa using hb
    have := (h.lt he).2
    omega
  · intro e he
    rcases List.mem_append.1 he with he | he
    · rw [vot_snoc, if_neg (fun e' => hn e he e'.symm)]; exact h.ys e he
    · obtain rfl : e = ⟨p.2, g, c, [p.1]⟩ := by simpa using he
      rw [vot_snoc, if_pos rfl, hv0]; rfl
  · intro x
    constructor
    · rintro ⟨e, he, rfl⟩
      rcases List.mem_append.1 he with he | he
      · obtain ⟨h0, q, hq, hqe⟩ := (h.key e.x).1 ⟨e, he, rfl⟩
        exact ⟨h0, q, by simp [hq], hqe⟩
      · obtain rfl : e = ⟨p.2, g, c, [p.1]⟩ := by simpa using he
        exact ⟨hp, p, by simp, rfl⟩
    · rintro ⟨h0, q, hq, rfl⟩
      rcases List.mem_append.1 hq with hq | hq
      · obtain ⟨e, he, hee⟩ := (h.key q.2).2 ⟨h0, q, hq, rfl⟩
        exact ⟨e, by simp [he], hee⟩
      · obtain rfl : q = p := by simpa using hq
        exact ⟨⟨q.2, g, c, [q.1]⟩, by simp, rfl⟩
/-- A further vote. -/
theorem Ents.old {w w' : World} {base mb : Nat} {l : List (Int × Int)} {a b : List En} {e : En} (h : Ents w base mb l (a ++ e :: b)) (p : Int × Int) (hp : e.x = p.2) (g c : Nat) (hg : g = e.g ∨ w.heap.size ≤ g) (hgr : Fr (fun k => k = e.g) w w') (ho : w'.ownsRow base 3 1 (.slice (some ⟨g, 0, none⟩) (e.ys.length + 1) c) (e.ys.length + 1) (e.ys.map (Value.int .i64) ++ [.int .i64 p.1])) :
    Ents (mput w' mb .i64 p.2 (.slice (some ⟨g, 0, none⟩) (e.ys.length + 1) c)) base mb (l ++ [p]) (a ++ ⟨e.x, g, c, e.ys ++ [p.1]⟩ :: b) := by
  have hml := h.m.lt
  have hem : e ∈ a ++ e :: b := by simp
  have hoth : ∀ e' ∈ a ++ e :: b, e' ∈ a ∨ e' ∈ b → e'.g ≠ e.g ∧ e'.x ≠ e.x := by
    intro e' _ hor
    have h1 := h.dj
    have h2 := h.nd
    rw [List.map_append, List.map_cons, List.nodup_append, List.nodup_cons] at h1 h2
    rcases hor with ha | hb
    · exact ⟨h1.2.2 e'.g (List.mem_map_of_mem ha) e.g (by simp), h2.2.2 e'.x (List.mem_map_of_mem ha) e.x (by simp)⟩
    · exact ⟨fun hh => h1.2.1.1 (hh ▸ List.mem_map_of_mem hb), fun hh => h2.2.1.1 (hh ▸ List.mem_map_of_mem hb)⟩
  have hmem : ∀ e', e' ∈ a ++ ⟨e.x, g, c, e.ys ++ [p.1]⟩ :: b → (e' ∈ a ++ e :: b ∧ (e' ∈ a ∨ e' ∈ b)) ∨ e' = ⟨e.x, g, c, e.ys ++ [p.1]⟩ := by
    intro e' he
    rcases List.mem_append.1 he with he | he
    · exact .inl ⟨by simp [he], .inl he⟩
    · rcases List.mem_cons.1 he with he | he
      · exact .inr he
      · exact .inl ⟨by simp [he], .inr he⟩
  refine ⟨?_, ?_, ?_, ?_, ?_, ?_⟩
  · have := (h.m.fr hgr (fun hh => h.ne hem hh)).put p.2 (.slice (some ⟨g, 0, none⟩) (e.ys.length + 1) c)
    rw [← hp, kput_old a e b _ (fun e' he => (hoth e' (by simp [he]) (.inl he)).2)] at this
    rw [← hp, List.map_append, List.map_cons]
    simpa [enV, enS] using this
  · have := h.nd
    rw [List.map_append, List.map_cons] at this ⊢
    exact this
  · intro e' he
    rcases hmem e' he with ⟨he1, he2⟩ | rfl
    · exact own_mput (own_fr2 (h.own e' he1) hgr (fun g' hg' => by cases hg'; exact (hoth e' he1 he2).1)) (fun g' hg' => by cases hg'; exact (h.ne he1).symm) _ _ _
    · have : w'.ownsRow base 3 1 (enS ⟨e.x, g, c, e.ys ++ [p.1]⟩) (e.ys ++ [p.1]).length ((e.ys ++ [p.1]).map (Value.int .i64)) := by simpa [enS] using ho
      refine own_mput this (fun g' hg' => ?_) _ _ _
      cases hg'
      rcases hg with e' | e'
      · rw [e']; exact (h.ne hem).symm
      · show g ≠ mb
        omega
  · have h1 := h.dj
    rw [List.map_append, List.map_cons] at h1 ⊢
    rcases hg with rfl | hg
    · exact h1
    · rw [List.nodup_append, List.nodup_cons] at h1 ⊢
      have hlt : ∀ e' ∈ a ++ e :: b, e'.g ≠ g := fun e' he => by have := (h.lt he).2; omega
      refine ⟨h1.1, ⟨fun hh => ?_, h1.2.1.2⟩, fun x hx y hy => ?_⟩
      · obtain ⟨e', he', hh'⟩ := List.mem_map.1 hh
        exact hlt e' (by simp [he']) hh'
      · obtain ⟨e', he', rfl⟩ := List.mem_map.1 hx
        rcases List.mem_cons.1 hy with rfl | hy
        · exact hlt e' (by simp [he'])
        · exact h1.2.2 e'.g hx y (by simp [hy])
  · intro e' he
    rcases hmem e' he with ⟨he1, he2⟩ | rfl
    · rw [vot_snoc, if_neg (fun hh => (hoth e' he1 he2).2 (by rw [hp]; exact hh.symm))]; exact h.ys e' he1
    · rw [vot_snoc, if_pos hp.symm, ← h.ys e hem]
  · intro x
    have hx0 := (h.key e.x).1 ⟨e, hem, rfl⟩
    constructor
    · rintro ⟨e', he, rfl⟩
      rcases hmem e' he with ⟨he1, he2⟩ | rfl
      · obtain ⟨h0, q, hq, hqe⟩ := (h.key e'.x).1 ⟨e', he1, rfl⟩
        exact ⟨h0, q, by simp [hq], hqe⟩
      · exact ⟨hx0.1, p, by simp, hp.symm⟩
    · rintro ⟨h0, q, hq, rfl⟩
      have hfin : (∃ e' ∈ a ++ e :: b, e'.x = q.2) → ∃ e' ∈ a ++ ⟨e.x, g, c, e.ys ++ [p.1]⟩ :: b, e'.x = q.2 := by
        rintro ⟨e', he', hee⟩
        rcases List.mem_append.1 he' with he' | he'
        · exact ⟨e', by simp [he'], hee⟩
        · rcases List.mem_cons.1 he' with rfl | he'
          · exact ⟨⟨e'.x, g, c, e'.ys ++ [p.1]⟩, by simp, hee⟩
          · exact ⟨e', by simp [he'], hee⟩
      rcases List.mem_append.1 hq with hq | hq
      · exact hfin ((h.key q.2).2 ⟨h0, q, hq, rfl⟩)
      · obtain rfl : q = p := by simpa using hq
        exact hfin ⟨e, hem, hp⟩
end Go.Proofs.Ytbhbamgnapcbaaa

import Derived.Test.YtbhbamgnapcbaaaOpe3
namespace Go.Proofs.Ytbhbamgnapcbaaa
set_option linter.unusedVariables false
open Go.RowKit Go.Own Go.Quo Go.Wire
/-- What a vote record holds: its journal's records, the term and the vote. -/
structure St where
  recs : List (Int × List Int)
  t : Int
  n : Int
def advF (s : St) (x : Int) : St × Int := if validT x = false then (s, 1) else if x ≤ s.t then (s, 9) else (⟨s.recs ++ [(84, encI x)], x, -1⟩, 0)
def grtF (s : St) (x y : Int) : St × Int := if validT x = false ∨ validN y = false then (s, 1) else if x < s.t then (s, 9) else if x = s.t ∧ 0 ≤ s.n then (s, if s.n = y then 0 else 10) else (⟨s.recs ++ [(86, encI x ++ encI y)], x, y⟩, 0)
structure Good (s : St) (k : Nat) : Prop where
  rst : rAll s.recs (0, -1) = some (s.t, s.n)
  ok : ∀ x ∈ s.recs, Bytes x.2 ∧ x.2.length ≤ 20 ∧ 0 ≤ x.1 ∧ x.1 < 256
  len : s.recs.length ≤ k
  lo : -1 ≤ s.n
  t0 : 0 ≤ s.t
theorem Good.new : Good ⟨[], 0, -1⟩ 0 := ⟨rfl, by simp, by simp, by simp, by simp⟩
theorem Good.more {s : St} {k m : Nat} (h : Good s k) (hk : k ≤ m) : Good s m := ⟨h.rst, h.ok, Nat.le_trans h.len hk, h.lo, h.t0⟩
theorem rAll_snoc : ∀ (l : List (Int × List Int)) (x : Int × List Int) (s : Int × Int), rAll (l ++ [x]) s = (rAll l s).bind (rStep x)
  | [], x, s => by show (rStep x s).bind (rAll []) = rStep x s
                   cases rStep x s <;> rfl
  | y :: l, x, s => by
    show (rStep y s).bind (rAll (l ++ [x])) = ((rStep y s).bind (rAll l)).bind (rStep x)
    cases rStep y s with
    | none => rfl
    | some q => exact rAll_snoc l x q
theorem validT_r {x : Int} (h : ¬ validT x = false) : 1 ≤ x ∧ x ≤ 1099511627776 := by unfold validT at h; simpa using h
theorem validN_r {x : Int} (h : ¬ validN x = false) : 0 ≤ x ∧ x < 9 := by unfold validN at h; simpa using h
theorem rTerm_enc {x t : Int} (h : ¬ validT x = false) (ht : ¬ x ≤ t) : rTerm (encI x) t = some (x, -1) := by
  have hr := validT_r h
  have := rdI_enc (n := x) (by omega) (by omega) []
  rw [List.append_nil] at this
  unfold rTerm
  rw [this]
  have hv : validT x = true := by simpa using h
  rw [if_pos ⟨by simp [finE], hv, ht⟩]
theorem rVote_enc {x y t n : Int} (h : ¬ validT x = false) (hy : ¬ validN y = false) (ht : ¬ x < t) (hn : ¬ (x = t ∧ 0 ≤ n)) : rVote (encI x ++ encI y) t n = some (x, y) := by
  have hr := validT_r h
  have hry := validN_r hy
  have h1 := rdI_enc (n := x) (by omega) (by omega) (encI y)
  have h2 := rdI_enc (n := y) (by omega) (by omega) []
  rw [List.append_nil] at h2
  have hN : rdN (0, x, encI y) = (0, y, []) := by unfold rdN; rw [if_pos rfl]; exact h2
  unfold rVote
  rw [h1, hN]
  have hv : validT x = true := by simpa using h
  have hv2 : validN y = true := by simpa using hy
  rw [if_pos ⟨⟨by simp [finE], hv, hv2⟩, ht, hn⟩]
theorem Good.adv {s : St} {k : Nat} (h : Good s k) (x : Int) : Good (advF s x).1 (k + 1) := by
  unfold advF
  split
  · exact h.more (by omega)
  · next hv =>
    split
    · exact h.more (by omega)
    · next hx =>
      have hr := validT_r hv
      have hl := encI_len (n := x) (by omega) (by omega)
      refine ⟨?_, ?_, by have := h.len; simp; omega, by simp, by simp; omega⟩
      · show rAll (s.recs ++ [(84, encI x)]) (0, -1) = some (x, -1)
        rw [rAll_snoc, h.rst]
        exact rTerm_enc hv hx
      · intro y hy
        rcases List.mem_append.1 hy with hy | hy
        · exact h.ok y hy
        · obtain rfl : y = (84, encI x) := by simpa using hy
          exact ⟨encU_bytes _, by simp; omega, by simp, by simp⟩
theorem Good.grt {s : St} {k : Nat} (h : Good s k) (x y : Int) : Good (grtF s x y).1 (k + 1) := by
  unfold grtF
  split
  · exact h.more (by omega)
  · next hv =>
    have hv1 : ¬ validT x = false := fun e => hv (.inl e)
    have hv2 : ¬ validN y = false := fun e => hv (.inr e)
    split
    · exact h.more (by omega)
    · next hx =>
      split
      · exact h.more (by omega)
      · next hn =>
        have hr := validT_r hv1
        have hr2 := validN_r hv2
        have hl := encI_len (n := x) (by omega) (by omega)
        have hl2 := encI_len (n := y) (by omega) (by omega)
        refine ⟨?_, ?_, by have := h.len; simp; omega, by simp; omega, by simp; omega⟩
        · show rAll (s.recs ++ [(86, encI x ++ encI y)]) (0, -1) = some (x, y)
          rw [rAll_snoc, h.rst]
          exact rVote_enc hv1 hv2 hx hn
        · intro z hz
          rcases List.mem_append.1 hz with hz | hz
          · exact h.ok z hz
          · obtain rfl : z = (86, encI x ++ encI y) := by simpa using hz
            exact ⟨fun x hx => (List.mem_append.1 hx).elim (fun e => encU_bytes _ x e) (fun e => encU_bytes _ x e), by simp; omega, by simp, by simp⟩
theorem Good.fit {s : St} {k : Nat} (h : Good s k) (hk : k ≤ 1000) : (encJ initS s.recs).length ≤ 16777216 := by
  have := encJ_len s.recs initS (fun x hx => by have := (h.ok x hx).2.1; omega)
  have := h.len
  omega
theorem Good.recs {s : St} {k : Nat} (h : Good s k) : RecsOk s.recs := fun x hx => ⟨(h.ok x hx).1, by have := (h.ok x hx).2.1; omega, (h.ok x hx).2.2⟩
theorem advance_all (w : World) (Z : Nat → Prop) (p j v : Nat) (s : St) (k : Nat) (x : Int) (h : VS w Z p j v s.recs s.t s.n) (hg : Good s k) (hk : k ≤ 900) :
    Calls Try.prog 19 #[.pointer (some ⟨v, 0, none⟩), .int .i64 x] w (VPost Z p j v (advF s x).1.recs (advF s x).1.t (advF s x).1.n (advF s x).2 w) := by
  have hf := (hg.adv x).fit (by omega)
  have hl := hg.len
  unfold advF at *
  split
  · next hv => exact advance_bad w Z p j v _ _ _ x h hv
  · next hv =>
    have hv' : validT x = true := by simpa using hv
    rw [if_neg hv] at hf
    split
    · next hx => exact advance_stale w Z p j v _ _ _ x h hv' hx
    · next hx =>
      rw [if_neg hx] at hf
      exact advance_ok w Z p j v _ _ _ x h hv' hx hf (by omega)
theorem grant_all (w : World) (Z : Nat → Prop) (p j v : Nat) (s : St) (k : Nat) (x y : Int) (h : VS w Z p j v s.recs s.t s.n) (hg : Good s k) (hk : k ≤ 900) :
    Calls Try.prog 21 #[.pointer (some ⟨v, 0, none⟩), .int .i64 x, .int .i64 y] w (VPost Z p j v (grtF s x y).1.recs (grtF s x y).1.t (grtF s x y).1.n (grtF s x y).2 w) := by
  have hf := (hg.grt x y).fit (by omega)
  have hl := hg.len
  unfold grtF at *
  split
  · next hv => exact grant_bad w Z p j v _ _ _ x y h hv
  · next hv =>
    have hv1 : validT x = true := by have : ¬ validT x = false := fun e => hv (.inl e)
                                     simpa using this
    have hv2 : validN y = true := by have : ¬ validN y = false := fun e => hv (.inr e)
                                     simpa using this
    rw [if_neg hv] at hf
    split
    · next hx => exact grant_stale w Z p j v _ _ _ x y h hv1 hv2 hx
    · next hx =>
      rw [if_neg hx] at hf
      split
      · next hn =>
        obtain ⟨rfl, hn⟩ := hn
        exact grant_again w Z p j v _ _ _ y h hv1 hv2 hn _ rfl
      · next hn =>
        rw [if_neg hn] at hf
        exact grant_ok w Z p j v _ _ _ x y h hv1 hv2 hx hn hf (by omega)
theorem VS.file {w : World} {Z : Nat → Prop} {p j v : Nat} {recs : List (Int × List Int)} {t n : Int} (h : VS w Z p j v recs t n) : FileP w p Z (encJ initS recs) (encJ initS recs).length false := by
  obtain ⟨A, c, Ar, cr, As, cs, rs, h1, h2⟩ := h.js
  exact ⟨A, c, h1.fb, h1.fo, h1.zf⟩
theorem VS.zp {w : World} {Z : Nat → Prop} {p j v : Nat} {recs : List (Int × List Int)} {t n : Int} (h : VS w Z p j v recs t n) : Z p := by
  obtain ⟨A, c, Ar, cr, As, cs, rs, h1, h2⟩ := h.js
  exact h1.zp
theorem VS.zj {w : World} {Z : Nat → Prop} {p j v : Nat} {recs : List (Int × List Int)} {t n : Int} (h : VS w Z p j v recs t n) : Z j := by
  obtain ⟨A, c, Ar, cr, As, cs, rs, h1, h2⟩ := h.js
  exact h1.zj
end Go.Proofs.Ytbhbamgnapcbaaa

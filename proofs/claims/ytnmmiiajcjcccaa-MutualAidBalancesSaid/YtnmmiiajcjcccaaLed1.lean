import Derived.Test.YtnmmiiajcjcccaaAid2
namespace Go.Proofs.Ytnmmiiajcjcccaa
set_option linter.unusedVariables false
open Go.RowKit Go.Own Go.Quo Go.Aid
theorem info2 : (Try.prog.info? 2).map (fun i => (i.zero, i.size, i.bytes)) = some (some (.int .i64 0), 1, 8) := by kernel_rfl
theorem i2x : ∃ i, Try.prog.info? 2 = some i ∧ i.size = 1 := by obtain ⟨i, h, _, h2, _⟩ := info_parts info2; exact ⟨i, h, h2⟩
theorem zero56 (w : World) : (zeroValue 56).run Try.prog w = .ok (.agg #[.int .i64 0, .int .i64 0, .int .i64 0]) w := by kernel_rfl
def lnV (l : Ln) : Value := .agg #[.int .i64 l.f, .int .i64 l.t, .int .i64 l.u]
def lnKV (l : Ln) : Int × Value := (l.u, lnV l)
/-- The program's ledger. -/
structure Led (w : World) (p m g : Nat) (s : LSt) (ls : List Ln) : Prop where
  pb : Blk w p 72 #[.map (some m), .slice (some ⟨g, 0, none⟩) s.n s.n]
  mb : MapB w m .i64 (ls.map lnKV)
  gb : IB w g 2 (debts s.n s.all)
  pm : ls.Perm s.now
theorem Led.fr {S : Nat → Prop} {w w' : World} {p m g : Nat} {s : LSt} {ls : List Ln} (h : Led w p m g s ls) (hf : Fr S w w') (hp : ¬ S p) (hm : ¬ S m) (hg : ¬ S g) : Led w' p m g s ls := ⟨h.pb.fr hf hp, h.mb.fr hf hm, h.gb.fr hf hg, h.pm⟩
theorem Led.ne {w : World} {p m g : Nat} {s : LSt} {ls : List Ln} (h : Led w p m g s ls) : p ≠ m ∧ p ≠ g ∧ m ≠ g ∧ p < w.heap.size ∧ m < w.heap.size ∧ g < w.heap.size :=
  ⟨fun e => h.mb.ne_blk h.pb e.symm, h.pb.ne_ h.gb (by decide), h.mb.ne_blk h.gb, h.pb.lt, h.mb.lt, h.gb.lt⟩
theorem kget_ln (ls : List Ln) (u : Int) : kget (ls.map lnKV) u = (ls.find? (fun x => x.u == u)).map lnV := by
  unfold kget
  rw [List.find?_map]
  simp [Function.comp_def, lnKV]
theorem kget_none {ls : List Ln} {u : Int} (h : hasU ls u = false) : kget (ls.map lnKV) u = none := by
  rw [kget_ln, List.find?_eq_none.2]
  · rfl
  · intro x hx
    unfold hasU at h
    rw [List.any_eq_false] at h
    simpa using h x hx
theorem kget_some {ls : List Ln} {u : Int} (h : hasU ls u = true) : ∃ l, l ∈ ls ∧ l.u = u ∧ kget (ls.map lnKV) u = some (lnV l) := by
  rw [kget_ln]
  cases hf : ls.find? (fun x => x.u == u) with
  | none =>
    obtain ⟨x, hx, e⟩ := hasU_iff.1 h
    have := List.find?_eq_none.1 hf x hx
    simp [e] at this
  | some l => exact ⟨l, List.mem_of_find?_eq_some hf, by simpa using List.find?_some hf, rfl⟩
theorem hasU_perm {a b : List Ln} (h : a.Perm b) (u : Int) : hasU a u = hasU b u := by
  rw [Bool.eq_iff_iff, hasU_iff, hasU_iff]
  exact ⟨fun ⟨x, hx, e⟩ => ⟨x, h.mem_iff.1 hx, e⟩, fun ⟨x, hx, e⟩ => ⟨x, h.mem_iff.2 hx, e⟩⟩
theorem zrow_ib2 (n : Nat) (w : World) : IB (w.alloc (.cells (zrow (.int .i64 0) n) 2)) w.heap.size 2 (List.replicate n 0) := by
  have : zrow (.int .i64 0) n = ((List.replicate n (0 : Int)).map (Value.int .i64)).toArray := by
    apply Array.ext'
    simp [zrow]
  rw [this]
  exact Blk.new w 2 _
def NewPost (n : Int) (w : World) (e : Ending) (w' : World) : Prop := ∃ (d p m g : Nat), n = d ∧ e = .returned (.tuple #[.pointer (some ⟨p, 0, none⟩), .int .i64 0]) ∧ Led w' p m g ⟨d, [], []⟩ [] ∧ w.heap.size ≤ p ∧ w.heap.size ≤ m ∧ w.heap.size ≤ g ∧ Below w.heap.size w w'
set_option maxHeartbeats 1000000 in
theorem new_bad (n : Int) (w : World) (h : n < 1 ∨ 64 < n) : Calls Try.prog 18 #[.int .i64 n] w fun e w' => e = .returned (.tuple #[.pointer none, .int .i64 1]) ∧ w' = w := by
  rcases (by omega : n < 1 ∨ (¬ n < 1 ∧ 64 < n)) with h1 | ⟨h1, h2⟩
  all_goals
    clear h
    go_enter Try.func18, Try.ntmps18
    go_wp2_with fail
    exact bodyPost_ret (v := .tuple #[.pointer none, .int .i64 1]) (by simp [results, Try.results18, go_sem]) rfl ⟨rfl, rfl⟩
set_option maxHeartbeats 2000000 in
theorem new_ok (n : Int) (w : World) (h1 : ¬ n < 1) (h2 : ¬ 64 < n) : Calls Try.prog 18 #[.int .i64 n] w (NewPost n w) := by
  obtain ⟨d, rfl⟩ : ∃ d : Nat, n = d := ⟨n.toNat, by omega⟩
  have hmm := @run_makeMap Try.prog
  have hmk := run_make1 (P := Try.prog) 53 2 (.int .i64 0) 8 Try.underlying53 info2 rfl d (by omega) (by omega)
  go_enter Try.func18, Try.ntmps18
  go_wp2_with fail
  refine bodyPost_ret (v := .tuple #[.pointer (some ⟨w.heap.size + 2, 0, none⟩), .int .i64 0]) (by simp [results, Try.results18, go_sem]) rfl ?_
  have b1 : Below w.heap.size w (w.alloc (.map #[] 0)) := (Below.refl _ _).alloc (Nat.le_refl _) _
  have b2 := b1.alloc (by simp) (.cells (zrow (.int .i64 0) d) 2)
  refine ⟨d, w.heap.size + 2, w.heap.size, w.heap.size + 1, rfl, rfl, ⟨?_, ?_, ?_, List.Perm.refl _⟩, by omega, by omega, by omega, b2.alloc (by simp; omega) _⟩
  · simpa using Blk.new ((w.alloc (.map #[] 0)).alloc (.cells (zrow (.int .i64 0) d) 2)) 72 #[.map (some w.heap.size), .slice (some ⟨w.heap.size + 1, 0, none⟩) d d]
  · exact ((MapB.new w .i64).alloc _).alloc _
  · have := zrow_ib2 d (w.alloc (.map #[] 0))
    rw [show (w.alloc (.map #[] 0)).heap.size = w.heap.size + 1 by simp] at this
    exact Blk.alloc this _
def LendPost (p m g : Nat) (s : LSt) (w : World) (r : LSt × Int) (e : Ending) (w' : World) : Prop := e = .returned (.int .i64 r.2) ∧ ∃ ls, Led w' p m g r.1 ls ∧ Fr (fun k => k = m ∨ k = g) w w'
set_option maxRecDepth 10000 in
set_option maxHeartbeats 4000000 in
theorem lend_bad (p m g : Nat) (s : LSt) (ls : List Ln) (l : Ln) (w : World) (h : Led w p m g s ls) (hl : lnOk s.n l = false) :
    Calls Try.prog 26 #[.pointer (some ⟨p, 0, none⟩), lnV l] w (LendPost p m g s w (s, 1)) := by
  have HL := Lib.hid h
  obtain ⟨q0, q1, q2⟩ := h.pb.facts
  clear h
  obtain ⟨n, hn⟩ : ∃ n : Nat, s.n = n := ⟨_, rfl⟩
  have HE := Lib.hid (show ∀ w', Below w.heap.size w w' → ∃ ls, Led w' p m g s ls ∧ Fr (fun k => k = m ∨ k = g) w w' from fun w' hb => by
    obtain ⟨-, -, -, a, b, c⟩ := HL.out.ne
    have hf : Fr (fun k => w.heap.size ≤ k) w w' := Fr.of_below hb
    exact ⟨ls, HL.out.fr hf (by omega) (by omega) (by omega), Fr.of_below hb⟩)
  obtain ⟨f, t, u⟩ := l
  rw [hn] at hl q1
  clear hn HL
  simp only [lnOk, Bool.and_eq_false_iff, decide_eq_false_iff_not] at hl
  unfold lnV
  simp only
  rcases (by omega : f < 0 ∨ (¬ f < 0 ∧ (n : Int) ≤ f) ∨ (¬ f < 0 ∧ ¬ (n : Int) ≤ f ∧ t < 0) ∨ (¬ f < 0 ∧ ¬ (n : Int) ≤ f ∧ ¬ t < 0 ∧ (n : Int) ≤ t) ∨ (¬ f < 0 ∧ ¬ (n : Int) ≤ f ∧ ¬ t < 0 ∧ ¬ (n : Int) ≤ t ∧ f = t) ∨ (¬ f < 0 ∧ ¬ (n : Int) ≤ f ∧ ¬ t < 0 ∧ ¬ (n : Int) ≤ t ∧ f ≠ t ∧ u < 0)) with c1 | ⟨c1, c2⟩ | ⟨c1, c2, c3⟩ | ⟨c1, c2, c3, c4⟩ | ⟨c1, c2, c3, c4, rfl⟩ | ⟨c1, c2, c3, c4, c5, c6⟩
  case inr.inr.inr.inr.inr =>
    have c5' : (f == t) = false := by simpa using c5
    clear hl
    go_enter Try.func26, Try.ntmps26
    go_wp2_with fail
    go_ret
    exact ⟨rfl, HE.out _ ((Below.refl _ _).alloc (Nat.le_refl _) _)⟩
  all_goals
    clear hl
    go_enter Try.func26, Try.ntmps26
    go_wp2_with fail
    go_ret
    exact ⟨rfl, HE.out _ ((Below.refl _ _).alloc (Nat.le_refl _) _)⟩
set_option maxRecDepth 10000 in
set_option maxHeartbeats 4000000 in
theorem lend_dup (p m g : Nat) (s : LSt) (ls : List Ln) (l : Ln) (w : World) (h : Led w p m g s ls) (hl : lnOk s.n l = true) (hu : hasU s.now l.u = true) :
    Calls Try.prog 26 #[.pointer (some ⟨p, 0, none⟩), lnV l] w (LendPost p m g s w (s, 5)) := by
  have HL := Lib.hid h
  obtain ⟨q0, q1, q2⟩ := h.pb.facts
  obtain ⟨n, hn⟩ : ∃ n : Nat, s.n = n := ⟨_, rfl⟩
  have HE := Lib.hid (show ∀ w', Below w.heap.size w w' → ∃ ls, Led w' p m g s ls ∧ Fr (fun k => k = m ∨ k = g) w w' from fun w' hb => by
    obtain ⟨-, -, -, a, b, c⟩ := HL.out.ne
    have hf : Fr (fun k => w.heap.size ≤ k) w w' := Fr.of_below hb
    exact ⟨ls, HL.out.fr hf (by omega) (by omega) (by omega), Fr.of_below hb⟩)
  rw [← hasU_perm h.pm] at hu
  obtain ⟨x, hx, hxu, hkg⟩ := kget_some hu
  have hml := h.mb.lt
  have hpl := h.pb.lt
  have hmb := h.mb
  obtain ⟨kv, hkv⟩ : ∃ kv, ls.map lnKV = kv := ⟨_, rfl⟩
  rw [hkv] at hmb hkg
  have hlk : ∀ W : World, MapB W m .i64 kv → (Instr.lookup 70 (.map (some m)) (.int .i64 l.u) true).run Try.prog W = .ok (.tuple #[lnV x, .bool true]) W := fun W hW => by
    have := MapB.lookup (P := Try.prog) hW Try.underlying70 Try.underlying3 zero56 l.u true
    rw [hkg] at this
    simpa using this
  obtain ⟨f, t, u⟩ := l
  rw [hn] at hl q1
  clear hn HL h hu hxu hx hkg hkv
  simp only [lnOk, Bool.and_eq_true, decide_eq_true_eq] at hl
  obtain ⟨⟨⟨⟨⟨c1, c2⟩, c3⟩, c4⟩, c5⟩, c6⟩ := hl
  obtain ⟨xf, xt, xu⟩ := x
  simp only [lnV] at hlk ⊢
  have d1 : ¬ f < 0 := by omega
  have d2 : ¬ (n : Int) ≤ f := by omega
  have d3 : ¬ t < 0 := by omega
  have d4 : ¬ (n : Int) ≤ t := by omega
  have d5 : (f == t) = false := by simpa using c5
  have d6 : ¬ u < 0 := by omega
  have gx := Blk.new w 56 #[.int .i64 f, .int .i64 t, .int .i64 u]
  have hm1 := hmb.alloc (.cells #[.int .i64 f, .int .i64 t, .int .i64 u] 56)
  have hml2 : m < w.heap.size + 1 := by omega
  have hml3 : m < w.heap.size + 2 := by omega
  have hpl2 : p < w.heap.size + 1 := by omega
  clear c1 c2 c3 c4 c5 c6
  go_enter Try.func26, Try.ntmps26
  go_wp2_with fail
  go_region_law (fail)
  all_goals
    go_wp2_with fail
    go_ret
    exact ⟨rfl, HE.out _ ((((Below.refl _ _).alloc (Nat.le_refl _) _).alloc (by simp) _).drew)⟩
end Go.Proofs.Ytnmmiiajcjcccaa

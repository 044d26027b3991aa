import Derived.Test.YtnpfbpfobbadaaaQuo7
import Derived.Test.YtnpfbpfobbadaaaOpenQ
namespace Go.Own
open Go.RowKit
theorem step_append_g {P : Program} (w : World) {ops : Array Oper} {o : Oper} {a : Act} {K : Act → World → Prop} {Q : Exit → Act → World → Prop} {E : Prop} (hgd : Region.wanted o (yielded ops a.tmps) = true) (s x : Operand) (t : TypeId)
    (ho : o.op = .call { callee := .builtin .append, args := #[s, x], argTypes := #[t, t] })
    (base : Nat) (e : TypeId) (z : Value) (size bytes : Nat) (ht : P.underlying t = some (.slice e)) (hi : (P.info? e).map (fun i => (i.zero, i.size, i.bytes)) = some (some z, size, bytes)) (hzs : z.cells.size = size) (hsz : 0 < size)
    (v : Value) (n : Nat) (xs : List Value) (hs : a.eval s = v) (hown : w.ownsRow base e size v n xs)
    (B : Nat → Prop) (A : Option Addr) (m c : Nat) (news : List Value) (hx : a.eval x = .slice A m c) (hr : Reads w B size A m news) (h1 : ∀ u ∈ news, u.oneCell' = true)
    (h63 : n + m ≤ maxLen) (hbytes : (n + m) * bytes ≤ 140737488355328) (hbase : base ≤ w.heap.size)
    (h : ∀ A' c' w', w'.ownsRow base e size (.slice A' (n + m) c') (n + m) (xs ++ news) → w.grownBy w' v.ownBlock → ((Value.slice A' (n + m) c').ownBlock = v.ownBlock ∨ (Value.slice A' (n + m) c').ownBlock = some w.heap.size) → K (a.put o.dst (.slice A' (n + m) c')) w') :
    if Region.wanted o (yielded ops a.tmps) = true then Oper.wp P o a w K Q else E := by
  rw [if_pos hgd]
  exact wp_append_any w s x t ho base e z size bytes ht hi hzs hsz v n xs hs hown B A m c news hx hr h1 h63 hbytes hbase h
end Go.Own
namespace Go.Proofs.Ytnpfbpfobbadaaa
set_option linter.unusedVariables false
open Go.RowKit Go.Own Go.Quo
attribute [local irreducible] Go.wpQuiet
theorem ite_yes {c : Prop} [Decidable c] {p q : Prop} (h : c) (hp : p) : if c then p else q := by rw [if_pos h]; exact hp
theorem ite_no {c : Prop} [Decidable c] {p q : Prop} (h : ¬ c) (hq : q) : if c then p else q := by rw [if_neg h]; exact hq
def LawPost (w : World) (e : Ending) (w' : World) : Prop := e = .returned (.bool true) ∧ Below w.heap.size w w'
set_option maxRecDepth 10000 in
set_option maxHeartbeats 1000000 in
theorem reached_long (m : Ms) (A : Option Addr) (n c : Nat) (x : Int) (w : World) (h : 40 < m.o.length ∨ 40 < m.n.length ∨ 40 < n) :
    Calls Try.prog 3 #[msV m, .slice A n c, .int .i64 x] w (LawPost w) := by
  have HA := Lib.hid awake_any
  by_cases h1 : 40 < m.o.length
  · have h1' : (40 : Int) < m.o.length := by omega
    clear h
    go_enter Try.func3, Try.ntmps3
    go_wp2_with (go_at_call 10; ((with_reducible refine (HA.out _).mono ?_); rintro e w2 ⟨rfl, hb2⟩))
    go_ret
    exact ⟨rfl, ((Below.refl _ _).alloc (Nat.le_refl _) _).trans (hb2.mono (by simp))⟩
  have h1d : decide (40 < m.o.length) = false := by simpa using h1
  by_cases h2 : 40 < m.n.length
  · have h2' : (40 : Int) < m.n.length := by omega
    clear h
    go_enter Try.func3, Try.ntmps3
    go_wp2_with (go_at_call 10; ((with_reducible refine (HA.out _).mono ?_); rintro e w2 ⟨rfl, hb2⟩))
    go_ret
    exact ⟨rfl, ((Below.refl _ _).alloc (Nat.le_refl _) _).trans (hb2.mono (by simp))⟩
  have h2d : decide (40 < m.n.length) = false := by simpa using h2
  have h3 : 40 < n := by omega
  have h3' : (40 : Int) < n := by omega
  clear h
  go_enter Try.func3, Try.ntmps3
  go_wp2_with (go_at_call 10; ((with_reducible refine (HA.out _).mono ?_); rintro e w2 ⟨rfl, hb2⟩))
  go_ret
  exact ⟨rfl, ((Below.refl _ _).alloc (Nat.le_refl _) _).trans (hb2.mono (by simp))⟩
set_option maxRecDepth 10000 in
set_option maxHeartbeats 2000000 in
theorem reached_short (B B2 : Nat → Prop) (m : Ms) (A : Option Addr) (c : Nat) (yes : List Int) (x : Int) (w : World) (h : MR w B m) (hy : RI w B2 A yes) (h1 : m.o.length ≤ 40) (h2 : m.n.length ≤ 40) (h3 : yes.length ≤ 40) :
    Calls Try.prog 3 #[msV m, .slice A yes.length c, .int .i64 x] w (LawPost w) := by
  have HA := Lib.hid awake_any
  have h1d : decide (40 < m.o.length) = false := by simpa using h1
  have h2d : decide (40 < m.n.length) = false := by simpa using h2
  have h3d : decide (40 < yes.length) = false := by simpa using h3
  have hm1 := h.alloc (.cells (msC m) 24)
  have hy1 := hy.alloc (.cells (msC m) 24)
  have g1 : Blk (w.alloc (.cells (msC m) 24)) w.heap.size 24 (msC m) := Blk.new w 24 _
  have b1 : Below w.heap.size w (w.alloc (.cells (msC m) 24)) := (Below.refl _ _).alloc (Nat.le_refl _) _
  have HR := Lib.hid (reached_any B B2 m A c yes _ hm1 hy1 (by omega))
  clear h hy
  go_enter Try.func3, Try.ntmps3
  go_wp2_with fail
  generalize w.alloc (.cells (msC m) 24) = W1 at *
  refine HR.out.mono ?_
  rintro e W2 ⟨rfl, hB2⟩
  have hm2 := hm1.below hB2
  have hy2 := (hy1.old (by omega)).below hB2 (fun _ hk => hk.2)
  have g2 := g1.below hB2 g1.lt
  have b2 := b1.trans (hB2.mono b1.size)
  clear hm1 hy1 g1 b1 hB2 HR
  have HI := Lib.hid fun W' (hb : Below W2.heap.size W2 W') => is_any B _ m A c yes W' (hm2.below hb) ((hy2.old (by omega)).below hb (fun _ hk => hk.2)) (by omega)
  have HB := Lib.hid fun W' (hb : Below W2.heap.size W2 W') => (g2.below hb g2.lt).facts
  obtain ⟨q0, q1, q2⟩ := g2.facts
  cases hr : reachB m.o m.n yes with
  | false =>
    rw [hr] at HI
    clear hr
    go_wp2_with fail
    refine wp_region_quiet (C := fun w' => Below W2.heap.size W2 w') (by kernel_rfl) (by kernel_rfl) ((Below.refl _ _).drew) ?_
    repeat ((refine wpQuiet_step (fun K hK => ?_); have HK := Lib.hid hK; clear hK; first | (refine ite_no ?_ ?_; (focus (clear HK K; go_simp; done)); go_simp; refine HK.out _ ?_; clear HK K) | (refine ite_yes ?_ ?_; (focus (clear HK K; go_simp; done)); apply Exists.intro; refine ⟨fun wq hq => ?_, ?_⟩; (focus (((obtain ⟨r0, r1, r2⟩ := HB.out _ hq)); go_simp; (first | done | rfl | (first | ((with_reducible refine (HI.out _ hq).mono ?_); rintro e w3 ⟨rfl, hh⟩; exact ⟨rfl, hq.trans (hh.mono hq.size)⟩) | ((with_reducible refine (HA.out _).mono ?_); rintro e w3 ⟨rfl, hh⟩; exact ⟨rfl, hq.trans (hh.mono hq.size)⟩))))); go_simp; refine HK.out _ ?_; clear HK K)))
    refine wpQuiet_nil ?_
    intro w5 hw5
    go_wp2
    go_ret
    exact ⟨rfl, b2.trans (hw5.mono b2.size)⟩
  | true =>
    have HM := Lib.hid (reach_more hr x)
    rw [hr] at HI
    clear hr
    have HRm := Lib.hid fun W' A' c' (hb : Below W2.heap.size W2 W') (hr' : RI W' (W2.heap.size ≤ ·) A' (x :: yes)) => by
      have := reached_any B _ m A' c' (x :: yes) W' (hm2.below hb) hr' (by simp; omega)
      rw [HM.out] at this; exact this
    have hyo := hy2.old (by omega)
    go_wp2_with fail
    go_region_law (first
      | (refine step_append_g _ (by go_simp) (.tmp 38) (.tmp 39) _ (by rfl) W2.heap.size 3 (.int .i64 0) 1 8 Try.underlying22 info3 rfl (by omega) (.slice (some ⟨w3.heap.size, 0, none⟩) 1 1) 1 [.int .i64 x] (by rfl) (World.ownsRow_lit (base := W2.heap.size) (e := 3) (size := 1) w3 #[.int .i64 x] 1 B3.size (by simp only [maxLen]; omega) rfl) _ A yes.length c (yes.map (Value.int .i64)) (by rfl) ((hyo.below B3 (fun _ hk => hk.2)).alloc _) (ints_one _) (by simp only [maxLen]; omega) (by omega) (by have := B3.size; simp; omega) ?_
         intro A4 c4 w4 hown4 hgr4 hat4
         have B4 : Below W2.heap.size W2 w4 := (B3.alloc B3.size _).grown hgr4 (by have := B3.size; simp; omega) (fun g hg => by have := B3.size; simp [Value.ownBlock] at hg; omega)
         obtain ⟨s0, s1, s2⟩ := HB.out _ B4
         have hr4 : RI w4 (W2.heap.size ≤ ·) A4 (x :: yes) := by
           have e1 : (x :: yes).length = 1 + yes.length := by simp; omega
           show Reads w4 _ 1 A4 (x :: yes).length _
           rw [e1]
           exact (Reads.of_own hown4).more (fun k hk => (hown4.lt k hk).1)
         have HRm4 : Hid (Calls Try.prog 11 #[msV m, .slice A4 (1 + yes.length) c4] w4 fun e w' => e = .returned (.bool true) ∧ Below w4.heap.size w4 w') := by
           show Calls _ _ _ _ _
           have := HRm.out w4 A4 c4 B4 hr4
           rw [show (x :: yes).length = 1 + yes.length by simp; omega] at this
           exact this)
      | (go_simp; ((with_reducible refine (HI.out _ ((Below.refl _ _).drew)).mono ?_); rintro e w3 ⟨rfl, hB3⟩; have B3 := ((Below.refl W2.heap.size W2).drew).trans hB3; obtain ⟨r0, r1, r2⟩ := HB.out _ B3))
      | (go_simp; ((with_reducible refine HRm4.out.mono ?_); rintro e w5 ⟨rfl, hB5⟩; have B5 := B4.trans (hB5.mono B4.size)))
      | (go_simp; ((with_reducible refine (HA.out _).mono ?_); rintro e w6 ⟨rfl, hB6⟩; have B6 := B5.trans (hB6.mono B5.size))))
    all_goals
      go_wp2
      go_ret
      exact ⟨rfl, b2.trans (B6.mono b2.size)⟩
theorem reached_law (m : Ms) (A : Option Addr) (c : Nat) (yes : List Int) (x : Int) (w : World) (h : MO w m) (hy : RI w (· < w.heap.size) A yes) :
    Calls Try.prog 3 #[msV m, .slice A yes.length c, .int .i64 x] w (LawPost w) := by
  by_cases hl : 40 < m.o.length ∨ 40 < m.n.length ∨ 40 < yes.length
  · exact reached_long m A yes.length c x w hl
  · exact reached_short _ _ m A c yes x w ⟨h.o, h.n, by omega, by omega⟩ hy (by omega) (by omega) (by omega)
end Go.Proofs.Ytnpfbpfobbadaaa

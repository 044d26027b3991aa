import Derived.Test.YtgjkahndclijgaaRef5
import Derived.Deep.QuietTactic
namespace Go.Proofs.Ytgjkahndclijgaa
open Go.RowKit Go.Own
attribute [local irreducible] Go.wpQuiet
theorem ite_yes {c : Prop} [Decidable c] {p q : Prop} (h : c) (hp : p) : if c then p else q := by rw [if_pos h]; exact hp
theorem ite_no {c : Prop} [Decidable c] {p q : Prop} (h : ¬ c) (hq : q) : if c then p else q := by rw [if_neg h]; exact hq
theorem below_is {N : Nat} {W wq : World} {o : Obj} (h : Below N W wq) (hN : N ≤ W.heap.size) : Below N W (wq.alloc o) := h.alloc (Nat.le_trans hN h.size) _
def joinB (R : RefS) (a b : Int) : Bool := epB R.n a && epB R.n b && ((R.groups[a.toNat]?.getD 0) == (R.groups[b.toNat]?.getD 0))
set_option maxRecDepth 10000 in
set_option maxHeartbeats 1000000 in
theorem joined_n1 (R : RefS) (a b : Int) (w : World) (ha : epB R.n a = false) :
    Calls Try.prog 17 #[rv R, .int .i64 a, .int .i64 b] w fun e w' => e = .returned (.bool false) ∧ Below w.heap.size w w' := by
  have Ha := Lib.hid fun W => is_n R a W ha
  have Hb := Ha
  clear ha
  go_enter Try.func17, Try.ntmps17
  go_wp2
  generalize hW : w.alloc (.cells (refC R) 40) = W
  have hb0 : Blk W w.heap.size 40 (refC R) := by rw [← hW]; exact Blk.new w 40 (refC R)
  have hbW : Below w.heap.size w W := by rw [← hW]; exact (Below.refl _ _).alloc (Nat.le_refl _) _
  clear hW
  refine wp_region_quiet (C := fun w' => Below W.heap.size W w') (by kernel_rfl) (by kernel_rfl) ((Below.refl _ _).drew) ?_
  have HC := Lib.hid fun w' (h : Below W.heap.size W w') => (hb0.below h hb0.lt).facts
  repeat ((refine wpQuiet_step (fun K hK => ?_); have HK := Lib.hid hK; clear hK; first | (refine ite_no ?_ ?_; (focus (clear HK K; go_simp; done)); go_simp; refine HK.out _ ?_; clear HK K) | (refine ite_yes ?_ ?_; (focus (clear HK K; go_simp; done)); apply Exists.intro; refine ⟨fun wq hq => ?_, ?_⟩; (focus (((obtain ⟨lt0, c0, f0⟩ := HC.out _ hq; simp only [refC] at c0)); go_simp; (first | done | rfl | (first | ((with_reducible refine (Ha.out _).mono ?_); rintro e w1 ⟨rfl, rfl⟩; exact ⟨rfl, below_is hq (Nat.le_refl _)⟩) | ((with_reducible refine (Hb.out _).mono ?_); rintro e w1 ⟨rfl, rfl⟩; exact ⟨rfl, below_is hq (Nat.le_refl _)⟩))))); go_simp; refine HK.out _ ?_; clear HK K)))
  refine wpQuiet_nil ?_
  intro w2 hw2
  go_wp2
  go_ret
  exact ⟨rfl, hbW.trans (hw2.mono hbW.size)⟩
set_option maxRecDepth 10000 in
set_option maxHeartbeats 1000000 in
theorem joined_n2 (R : RefS) (a b : Int) (w : World) (ha : epB R.n a = true) (hb : epB R.n b = false) :
    Calls Try.prog 17 #[rv R, .int .i64 a, .int .i64 b] w fun e w' => e = .returned (.bool false) ∧ Below w.heap.size w w' := by
  have Ha := Lib.hid fun W => is_y R a W ha
  have Hb := Lib.hid fun W => is_n R b W hb
  clear ha hb
  go_enter Try.func17, Try.ntmps17
  go_wp2
  generalize hW : w.alloc (.cells (refC R) 40) = W
  have hb0 : Blk W w.heap.size 40 (refC R) := by rw [← hW]; exact Blk.new w 40 (refC R)
  have hbW : Below w.heap.size w W := by rw [← hW]; exact (Below.refl _ _).alloc (Nat.le_refl _) _
  clear hW
  refine wp_region_quiet (C := fun w' => Below W.heap.size W w') (by kernel_rfl) (by kernel_rfl) ((Below.refl _ _).drew) ?_
  have HC := Lib.hid fun w' (h : Below W.heap.size W w') => (hb0.below h hb0.lt).facts
  repeat ((refine wpQuiet_step (fun K hK => ?_); have HK := Lib.hid hK; clear hK; first | (refine ite_no ?_ ?_; (focus (clear HK K; go_simp; done)); go_simp; refine HK.out _ ?_; clear HK K) | (refine ite_yes ?_ ?_; (focus (clear HK K; go_simp; done)); apply Exists.intro; refine ⟨fun wq hq => ?_, ?_⟩; (focus (((obtain ⟨lt0, c0, f0⟩ := HC.out _ hq; simp only [refC] at c0)); go_simp; (first | done | rfl | (first | ((with_reducible refine (Ha.out _).mono ?_); rintro e w1 ⟨rfl, rfl⟩; exact ⟨rfl, below_is hq (Nat.le_refl _)⟩) | ((with_reducible refine (Hb.out _).mono ?_); rintro e w1 ⟨rfl, rfl⟩; exact ⟨rfl, below_is hq (Nat.le_refl _)⟩))))); go_simp; refine HK.out _ ?_; clear HK K)))
  refine wpQuiet_nil ?_
  intro w2 hw2
  go_wp2
  go_ret
  exact ⟨rfl, hbW.trans (hw2.mono hbW.size)⟩
theorem i3x : ∃ i, Try.prog.info? 3 = some i ∧ i.size = 1 := by obtain ⟨i, h, _, h2, _⟩ := info_parts info3; exact ⟨i, h, h2⟩
set_option maxRecDepth 10000 in
set_option maxHeartbeats 1000000 in
theorem joined_in (R : RefS) (B : Nat → Prop) (a b : Nat) (x y : Int) (w : World) (h : Ref w B R) (ha : epB R.n a = true) (hb : epB R.n b = true) (hx : R.groups[a]? = some x) (hy : R.groups[b]? = some y) :
    Calls Try.prog 17 #[rv R, .int .i64 a, .int .i64 b] w fun e w' => e = .returned (.bool (x == y)) ∧ Below w.heap.size w w' := by
  have han : a < R.n := by simp [epB] at ha; omega
  have hbn : b < R.n := by simp [epB] at hb; omega
  have Ha := Lib.hid fun W => is_y R a W ha
  have Hb := Lib.hid fun W => is_y R b W hb
  have hg := (h.grp.old (by omega)).more (B' := (· < w.heap.size)) (fun k hk => hk.2)
  have hsm := hg.plain (by omega)
  obtain ⟨i3, hi3, hi31⟩ := i3x
  have hia := fun W => run_indexAt2 (P := Try.prog) Try.underlying37 hi3 hi31 hsm R.gc a han W
  have hib := fun W => run_indexAt2 (P := Try.prog) Try.underlying37 hi3 hi31 hsm R.gc b hbn W
  simp only [Nat.mul_one] at hia hib
  clear ha hb h
  go_enter Try.func17, Try.ntmps17
  go_wp2
  generalize hW : w.alloc (.cells (refC R) 40) = W
  have hb0 : Blk W w.heap.size 40 (refC R) := by rw [← hW]; exact Blk.new w 40 (refC R)
  have hbW : Below w.heap.size w W := by rw [← hW]; exact (Below.refl _ _).alloc (Nat.le_refl _) _
  clear hW
  refine wp_region_quiet (C := fun w' => Below W.heap.size W w') (by kernel_rfl) (by kernel_rfl) ((Below.refl _ _).drew) ?_
  have HC := Lib.hid fun w' (h : Below W.heap.size W w') => (hb0.below h hb0.lt).facts
  have hA : ∀ w', Below W.heap.size W w' → w'.cell? ⟨bk R.ga, ofs R.ga + a, none⟩ = some (.int .i64 x) := fun w' hq => (((hg.below hbW (fun _ h => h)).below (hq.mono hbW.size) (fun _ h => h)).cell2 a (by omega) (by omega)).trans (by simp [hx])
  have hB : ∀ w', Below W.heap.size W w' → w'.cell? ⟨bk R.ga, ofs R.ga + b, none⟩ = some (.int .i64 y) := fun w' hq => (((hg.below hbW (fun _ h => h)).below (hq.mono hbW.size) (fun _ h => h)).cell2 b (by omega) (by omega)).trans (by simp [hy])
  have HA := Lib.hid hA
  have HB := Lib.hid hB
  clear hx hy hg hsm hA hB
  repeat ((refine wpQuiet_step (fun K hK => ?_); have HK := Lib.hid hK; clear hK; first | (refine ite_no ?_ ?_; (focus (clear HK K; go_simp; done)); go_simp; refine HK.out _ ?_; clear HK K) | (refine ite_yes ?_ ?_; (focus (clear HK K; go_simp; done)); apply Exists.intro; refine ⟨fun wq hq => ?_, ?_⟩; (focus (((obtain ⟨lt0, c0, f0⟩ := HC.out _ hq; simp only [refC] at c0; have ca := HA.out _ hq; have cb := HB.out _ hq)); go_simp; (first | done | rfl | (first | ((with_reducible refine (Ha.out _).mono ?_); rintro e w1 ⟨rfl, rfl⟩; exact ⟨rfl, below_is hq (Nat.le_refl _)⟩) | ((with_reducible refine (Hb.out _).mono ?_); rintro e w1 ⟨rfl, rfl⟩; exact ⟨rfl, below_is hq (Nat.le_refl _)⟩))))); go_simp; refine HK.out _ ?_; clear HK K)))
  refine wpQuiet_nil ?_
  intro w2 hw2
  go_wp2
  go_ret
  exact ⟨by simp, hbW.trans (hw2.mono hbW.size)⟩
theorem joined_any (R : RefS) (B : Nat → Prop) (a b : Int) (w : World) (h : Ref w B R) :
    Calls Try.prog 17 #[rv R, .int .i64 a, .int .i64 b] w fun e w' => e = .returned (.bool (joinB R a b)) ∧ Below w.heap.size w w' := by
  cases ha : epB R.n a with
  | false => simpa [joinB, ha] using joined_n1 R a b w ha
  | true =>
    cases hb : epB R.n b with
    | false => simpa [joinB, ha, hb] using joined_n2 R a b w ha hb
    | true =>
      have ha' := ha
      have hb' := hb
      simp [epB] at ha' hb'
      obtain ⟨i, rfl⟩ := Int.eq_ofNat_of_zero_le ha'.1
      obtain ⟨j, rfl⟩ := Int.eq_ofNat_of_zero_le hb'.1
      have hlen : R.groups.length = R.n := by have := h.grp.1; simpa using this
      have hi : i < R.groups.length := by omega
      have hj : j < R.groups.length := by omega
      have := joined_in R B i j _ _ w h ha hb (List.getElem?_eq_getElem hi) (List.getElem?_eq_getElem hj)
      simpa [joinB, ha, hb, hi, hj] using this
theorem joined_y (R : RefS) (B : Nat → Prop) (a b : Int) (w : World) (h : Ref w B R) (hj : joinB R a b = true) :
    Calls Try.prog 17 #[rv R, .int .i64 a, .int .i64 b] w fun e w' => e = .returned (.bool true) ∧ Below w.heap.size w w' := hj ▸ joined_any R B a b w h
theorem joined_n (R : RefS) (B : Nat → Prop) (a b : Int) (w : World) (h : Ref w B R) (hj : joinB R a b = false) :
    Calls Try.prog 17 #[rv R, .int .i64 a, .int .i64 b] w fun e w' => e = .returned (.bool false) ∧ Below w.heap.size w w' := hj ▸ joined_any R B a b w h
end Go.Proofs.Ytgjkahndclijgaa

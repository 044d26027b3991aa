import Derived.Test.YtgjkahndclijgaaPlay2
namespace Go.Proofs.Ytgjkahndclijgaa
set_option linter.unusedVariables false
open Go.RowKit Go.Own
attribute [local irreducible] Go.wpQuiet
theorem conB_comm (gs : List Int) (a b : Int) : conB gs b a = conB gs a b := by
  unfold conB
  rw [Bool.and_comm (epB gs.length b)]
  congr 1
  exact decide_eq_decide.2 eq_comm
theorem conB_self (gs : List Int) (a : Int) : conB gs a a = epB gs.length a := by simp [conB]
theorem Wd.below {w w' : World} {p m g : Nat} {N : NetS} {R : RefS} (h : Wd w p m g N R (fun _ => False)) (hb : Below w.heap.size w w') : Wd w' p m g N R (fun _ => False) :=
  h.fr (Fr.of_below hb) (fun _ h => h) (fun _ h => h)
theorem below_drewN {B : Nat} {w w' : World} (h : Below B w w') (n : Nat) : Below B w (w'.drewN n) := ⟨h.os, h.tape, h.output, h.size, h.block⟩
def LawPost (w : World) (e : Ending) (w' : World) : Prop := e = .returned (.bool true) ∧ Below w.heap.size w w'
set_option maxRecDepth 10000 in
set_option maxHeartbeats 1000000 in
theorem connected_nil (A : Option Addr) (c : Nat) (l : List ActS) (a b : Int) (w : World) (h : ActsR w A l) (hf : fewB l = false) :
    Calls Try.prog 4 #[.slice A l.length c, .int .i64 a, .int .i64 b] w (LawPost w) := by
  have HP := Lib.hid (played_many 5 A c l w h hf)
  have HA := Lib.hid awake_any
  clear h hf
  go_enter Try.func4, Try.ntmps4
  go_wp2_with (first
    | (go_at_call 15; ((with_reducible refine HP.out.mono ?_); rintro e w1 ⟨rfl, hb⟩))
    | (go_at_call 10; ((with_reducible refine (HA.out _).mono ?_); rintro e w2 ⟨rfl, hb2⟩)))
  go_ret
  refine ⟨rfl, ?_⟩
  have hs := hb.size
  exact (hb.alloc hs _).trans (hb2.mono (by simp; omega))
set_option maxRecDepth 10000 in
set_option maxHeartbeats 2000000 in
theorem connected_ok (A : Option Addr) (c : Nat) (l : List ActS) (a b : Int) (w : World) (h : ActsR w A l) (hf : fewB l = true) :
    Calls Try.prog 4 #[.slice A l.length c, .int .i64 a, .int .i64 b] w (LawPost w) := by
  have HP := Lib.hid (show Calls Try.prog 15 #[.int .i64 5, .slice A l.length c] w (PlayOk 5 w) from played_ok 5 (by omega) (by omega) A c l w h hf)
  have HA := Lib.hid awake_any
  clear h hf
  obtain ⟨c2, hc2⟩ : ∃ c2 : Bool, c2 = epB 5 a := ⟨_, rfl⟩
  have HC2 := Lib.hid hc2; clear hc2
  have hcase : (c2 = false ∧ decide (0 ≤ a) = false) ∨ (c2 = true ∧ decide (0 ≤ a) = true ∧ decide (a < 5) = true) ∨ (c2 = false ∧ decide (0 ≤ a) = true ∧ decide (a < 5) = false) := by
    rw [HC2.out]; simp [epB]; omega
  go_enter Try.func4, Try.ntmps4
  go_wp2_with (
    (go_at_call 15; ((with_reducible refine HP.out.mono ?_); rintro e w1 ⟨p, m, g, N, R, rfl, hag, hwd, hb, hp, hm, hg⟩)))
  generalize hW : w1.alloc (.cells (refC R) 40) = W
  have hb0 : Blk W w1.heap.size 40 (refC R) := by rw [← hW]; exact Blk.new w1 40 (refC R)
  have hwdW : Wd W p m g N R (fun _ => False) := by rw [← hW]; exact hwd.below ((Below.refl _ _).alloc (Nat.le_refl _) _)
  have hbW : Below w.heap.size w W := by rw [← hW]; exact hb.alloc hb.size _
  clear hW hwd
  have HC := Lib.hid fun w' (h : Below W.heap.size W w') => (hb0.below h hb0.lt).facts
  have HX := Lib.hid fun w' (h : Below W.heap.size W w') => connected_any p a b N w' (hwdW.below h).net
  have HY := Lib.hid fun w' (h : Below W.heap.size W w') => by
    have := connected_any p b a N w' (hwdW.below h).net
    rw [conB_comm] at this; exact this
  have HZ := Lib.hid fun w' (h : Below W.heap.size W w') => by
    have := connected_any p a a N w' (hwdW.below h).net
    rw [conB_self, hag.gl.1, ← HC2.out] at this; exact this
  have HJ := Lib.hid fun w' (h : Below W.heap.size W w') => by
    have := joined_any R _ a b w' (hwdW.below h).ref
    rw [hag.con] at this; exact this
  generalize conB N.groups a b = c1 at HX HY HJ
  clear hwdW hag hb0
  rcases hcase with ⟨rfl, h1⟩ | ⟨rfl, h1, h2⟩ | ⟨rfl, h1, h2⟩
  all_goals
    refine wp_region_quiet (C := fun w' => Below W.heap.size W w') (by kernel_rfl) (by kernel_rfl) ((Below.refl _ _).drew) ?_
    repeat ((refine wpQuiet_step (fun K hK => ?_); have HK := Lib.hid hK; clear hK; first | (refine ite_no ?_ ?_; (focus (clear HK K; go_simp; done)); go_simp; refine HK.out _ ?_; clear HK K) | (refine ite_yes ?_ ?_; (focus (clear HK K; go_simp; done)); apply Exists.intro; refine ⟨fun wq hq => ?_, ?_⟩; (focus (((obtain ⟨lt0, c0, f0⟩ := HC.out _ hq; simp only [refC] at c0)); go_simp; (first | done | rfl | (first | ((with_reducible refine (HX.out _ hq).mono ?_); rintro e w1 ⟨rfl, n, rfl⟩; exact ⟨rfl, below_drewN hq n⟩) | ((with_reducible refine (HY.out _ hq).mono ?_); rintro e w1 ⟨rfl, n, rfl⟩; exact ⟨rfl, below_drewN hq n⟩) | ((with_reducible refine (HZ.out _ hq).mono ?_); rintro e w1 ⟨rfl, n, rfl⟩; exact ⟨rfl, below_drewN hq n⟩) | ((with_reducible refine (HJ.out _ hq).mono ?_); rintro e w1 ⟨rfl, hh⟩; exact ⟨rfl, hq.trans (hh.mono hq.size)⟩) | ((with_reducible refine (HA.out _).mono ?_); rintro e w1 ⟨rfl, hh⟩; exact ⟨rfl, hq.trans (hh.mono hq.size)⟩))))); go_simp; refine HK.out _ ?_; clear HK K)))
    refine wpQuiet_nil ?_
    intro w2 hw2
    go_wp2
    go_ret
    exact ⟨rfl, hbW.trans (hw2.mono hbW.size)⟩
theorem connected_law (A : Option Addr) (c : Nat) (l : List ActS) (a b : Int) (w : World) (h : ActsR w A l) :
    Calls Try.prog 4 #[.slice A l.length c, .int .i64 a, .int .i64 b] w (LawPost w) := by
  cases hf : fewB l with
  | false => exact connected_nil A c l a b w h hf
  | true => exact connected_ok A c l a b w h hf
end Go.Proofs.Ytgjkahndclijgaa

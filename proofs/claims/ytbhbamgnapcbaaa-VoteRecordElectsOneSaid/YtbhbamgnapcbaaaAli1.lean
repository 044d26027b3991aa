import Derived.Test.YtbhbamgnapcbaaaVot2
import Derived.Test.YtbhbamgnapcbaaaOpe1
namespace Go.Proofs.Ytbhbamgnapcbaaa
set_option linter.unusedVariables false
open Go.RowKit Go.Own Go.Quo Go.Wire
set_option maxRecDepth 10000 in
set_option maxHeartbeats 1000000 in
theorem records_nil (w : World) (Z : Nat → Prop) (p j : Nat) (dur : Int) (off : Bool) (h : JS w Z p j [] dur off) :
    Calls Try.prog 38 #[.pointer (some ⟨j, 0, none⟩)] w fun e w' => e = .returned (.slice (some ⟨w.heap.size, 0, none⟩) 0 0) ∧ Below w.heap.size w w' := by
  obtain ⟨A, c, Ar, cr, As, cs, rs, h1, h2⟩ := h
  have hrs : rs = [] := List.map_eq_nil_iff.1 h2
  subst hrs
  obtain ⟨q0, q1, q2⟩ := h1.jb.facts
  obtain ⟨i, hi, hz, hsz, hby⟩ := info_parts info35
  have hmk : ∀ W : World, (Instr.makeSlice 74 (.int .i64 0) (.int .i64 0)).run Try.prog W = .ok (.slice (some ⟨W.heap.size, 0, none⟩) 0 0) (W.alloc (.cells (madeCells (Value.agg #[.int .u8 0, .slice none 0 0]).cells (0 * i.size)) 35)) := fun W => run_make_rowN (P := Try.prog) 74 35 i _ Try.underlying74 hi hz .i64 .i64 0 0 (Nat.le_refl _) (by simp) (by simp) W
  simp only [List.length_nil] at q1
  go_enter Try.func38, Try.ntmps38
  go_wp2_with fail
  go_loopw [17] (fun vi wr => vi = .int .i64 0 ∧ Below w.heap.size w wr) (fun _ _ => 0)
  case atStart => exact ⟨rfl, (Below.refl _ _).alloc (Nat.le_refl _) _⟩
  case round =>
    obtain ⟨rfl, hb⟩ := hrel
    go_wp2
    go_ret
    exact ⟨rfl, hb⟩
def VOPost (Z : Nat → Prop) (p j : Nat) (w : World) (e : Ending) (w' : World) : Prop := ∃ v, e = .returned (.tuple #[.pointer (some ⟨v, 0, none⟩), .int .i64 0]) ∧ w.heap.size ≤ v ∧ VS w' Z p j v [] 0 (-1) ∧ Below w.heap.size w w'
set_option maxRecDepth 10000 in
set_option maxHeartbeats 1000000 in
theorem vopen_nil (w : World) (Z : Nat → Prop) (p j : Nat) (h : JS w Z p j [] 0 false) (hZ : ∀ k, Z k → k < w.heap.size) :
    Calls Try.prog 13 #[.pointer (some ⟨j, 0, none⟩)] w (VOPost Z p j w) := by
  have hnil : ∀ (a : Addr) (W : World), (binOp .eql 25 (.pointer (some a)) (.pointer none)).run Try.prog W = .ok (.bool false) W := fun _ _ => by rfl
  have f1 : Fr (fun _ => False) w (w.alloc (.cells #[.pointer (some ⟨j, 0, none⟩), .int .i64 0, .int .i64 (-1)] 91)) := (Fr.refl _ _).alloc _
  have g1 : Blk (w.alloc (.cells #[.pointer (some ⟨j, 0, none⟩), .int .i64 0, .int .i64 (-1)] 91)) w.heap.size 91 #[.pointer (some ⟨j, 0, none⟩), .int .i64 0, .int .i64 (-1)] := Blk.new w 91 _
  have b1 : Below w.heap.size w (w.alloc (.cells #[.pointer (some ⟨j, 0, none⟩), .int .i64 0, .int .i64 (-1)] 91)) := (Below.refl _ _).alloc (Nat.le_refl _) _
  have h1 := h.fr f1 (fun _ _ => id)
  have HR := Lib.hid (records_nil _ Z p j 0 false h1)
  have HZ := Lib.hid hZ
  clear hZ h
  go_enter Try.func13, Try.ntmps13
  go_wp2_with fail
  generalize w.alloc (.cells #[.pointer (some ⟨j, 0, none⟩), .int .i64 0, .int .i64 (-1)] 91) = W1 at *
  refine HR.out.mono ?_
  rintro e w2 ⟨rfl, hB2⟩
  have b2 := b1.trans (hB2.mono b1.size)
  have g2 := g1.below hB2 g1.lt
  have h2 := h1.fr (Fr.of_below (S := fun _ => False) hB2) (fun _ _ => id)
  go_wp2_with fail
  go_loopw [16] (fun vi wr => vi = .int .i64 0 ∧ wr = w2) (fun _ _ => 0)
  case atStart => exact ⟨rfl, rfl⟩
  case round =>
    obtain ⟨rfl, rfl⟩ := hrel
    go_wp2
    refine bodyPost_ret (v := .tuple #[.pointer (some ⟨w.heap.size, 0, none⟩), .int .i64 0]) (by simp [results, Try.results13, go_sem]) rfl ⟨w.heap.size, rfl, Nat.le_refl _, ⟨g2, fun hz => by have := HZ.out _ hz; omega, h2, fun k hk => Nat.lt_of_lt_of_le (HZ.out k hk) b2.size⟩, b2⟩
end Go.Proofs.Ytbhbamgnapcbaaa

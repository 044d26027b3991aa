import Derived.Test.YtbhbamgnapcbaaaJou5
namespace Go.Proofs.Ytbhbamgnapcbaaa
set_option linter.unusedVariables false
open Go.RowKit Go.Own Go.Quo Go.Wire
def JOPost (p : Nat) (recs : List (Int × List Int)) (X : Nat → Prop) (w : World) (e : Ending) (w' : World) : Prop :=
  ∃ j, e = .returned (.tuple #[.pointer (some ⟨j, 0, none⟩), .int .i64 0]) ∧ w.heap.size ≤ j ∧ JS w' (fun k => k = p ∨ X k ∨ w.heap.size ≤ k) p j recs (encJ initS recs).length false ∧ Fr (fun k => k = p) w w'
set_option maxRecDepth 10000 in
set_option maxHeartbeats 2000000 in
theorem jopen_empty (w : World) (p : Nat) (X : Nat → Prop) (h : FileP w p X [] 0 false) :
    Calls Try.prog 10 #[.pointer (some ⟨p, 0, none⟩)] w (JOPost p [] X w) := by
  have HBy := Lib.hid (bytes_any w p X [] 0 h (by simp))
  have hnil : ∀ (a : Addr) (W : World), (binOp .eql 29 (.pointer (some a)) (.pointer none)).run Try.prog W = .ok (.bool false) W := fun _ _ => by rfl
  have HSum := Lib.hid fun W => sum_nil W
  have HRR := Lib.hid fun A c prev W => readRecord_nil A c prev W
  have hpl := h.lt
  go_enter Try.func10, Try.ntmps10
  go_wp2_with fail
  refine HBy.out.mono ?_
  rintro e w2 ⟨A2, c2, rfl, r2, hc2, hB2⟩
  have h2 := h.fr (Fr.of_below (S := fun _ => False) hB2) id (fun _ _ => id)
  have hs2 := hB2.size
  simp only [List.length_nil]
  have j2 : Blk (w2.alloc (.cells #[.pointer (some ⟨p, 0, none⟩), .slice none 0 0, .slice none 0 0] 77)) w2.heap.size 77 #[.pointer (some ⟨p, 0, none⟩), .slice none 0 0, .slice none 0 0] := Blk.new w2 77 _
  go_wp2_with (first
    | (go_at_call 31; ((with_reducible refine (HSum.out _).mono ?_); rintro e w3 ⟨rfl, rfl⟩; obtain ⟨q0, q1, q2⟩ := j2.facts))
    | (at_builtin; refine wpList_append_any _ rfl _ _ _ rfl 0 78 _ 1 8 Try.underlying75 info78 rfl (by omega) (.slice none 0 0) 0 [] rfl (World.ownsRow_nil _ _ _ _) _ (some ⟨w2.heap.size + 1, 0, none⟩) 1 1 [.int .u64 initS] rfl (Reads.newS _ [.int .u64 initS] 78 (0, 0) 1 1 rfl _ (by simp)) (by simp [Value.oneCell']) (by simp only [maxLen]; omega) (by omega) (by simp) ?_; intro A6 c6 w6 hown6 hgr6 hat6; have j6 := (j2.alloc _).grown hgr6 (by simp [Value.ownBlock]); obtain ⟨z0, z1, z2⟩ := j6.facts))
  have F7 : Fr (fun _ => False) w2 (w6.setCell ⟨w2.heap.size, 2, none⟩ (.slice A6 1 c6)) := ((((Fr.refl _ _).alloc _).alloc _).grown hgr6 (fun k hk => by cases hk)).setCell (.inr (by simp)) _
  have h7 := h2.fr F7 id (fun _ _ => id)
  have o6 : w6.ownsRow 0 78 1 (.slice A6 1 c6) 1 (u64s [initS]) := by simpa [u64s] using hown6
  have so7 := own_set o6 (own_ne o6 j6 (by decide)) (p := ⟨w2.heap.size, 2, none⟩) (.slice A6 1 c6)
  have jb7 := j6.set_ 2 (.slice A6 1 c6)
  simp only [List.setIfInBounds_toArray, List.set_cons_succ, List.set_cons_zero] at jb7
  have zs7 : ∀ g, (Value.slice A6 1 c6).ownBlock = some g → w2.heap.size < g := by
    intro g hg
    rcases hat6 with e | e
    · rw [show (0 + 1 : Nat) = 1 from rfl] at e; rw [e] at hg; cases hg
    · rw [show (0 + 1 : Nat) = 1 from rfl] at e; rw [e] at hg; simp at hg; omega
  have hcut : ∀ W : World, (Instr.slice 31 (.slice A2 0 c2) (some (.int .i64 0)) none none).run Try.prog W = .ok (.slice (cutA A2 c2 0) 0 c2) W := fun W => by simpa using run_cutB (A := A2) (n := 0) (c := c2) 0 (Nat.le_refl _) W
  have hcut2 : ∀ W : World, (Instr.sliceAt 31 (.slice A2 0 c2) (some (.int .i64 0)) none none).run Try.prog W = .ok (.slice (cutA A2 c2 0) 0 c2) W := fun W => by simpa using run_cutB2 (A := A2) (n := 0) (c := c2) 0 (Nat.le_refl _) W
  clear hown6 hgr6 hat6 j6 z0 z1 z2 o6 q0 q1 q2 j2 h2 HBy HSum h
  generalize w6.setCell ⟨w2.heap.size, 2, none⟩ (.slice A6 1 c6) = W7 at *
  have hs7 := F7.size
  have F07 : Fr (fun k => k = p) w W7 := (Fr.of_below hB2).trans (F7.mono (fun _ _ hh => hh.elim))
  go_loopw [7, 8] (fun vs vl wr => vs = .int .u64 initS ∧ vl = .int .i64 0 ∧ wr = W7) (fun _ _ _ => 0)
  case atStart => exact ⟨rfl, rfl, rfl⟩
  case round =>
    obtain ⟨rfl, rfl, rfl⟩ := hrel
    have HR7 := Lib.hid (HRR.out (cutA A2 c2 0) c2 initS wr)
    go_wp2_with fail
    refine HR7.out.mono ?_
    rintro e w8 ⟨rfl, hB8⟩
    have F8 : Fr (fun _ => False) wr (w8.alloc (.cells #[.int .u8 0, .slice none 0 0] 35)) := (Fr.of_below hB8).alloc _
    have h8 := h7.fr F8 id (fun _ _ => id)
    have jb8 := jb7.fr F8 id
    have so8 := own_fr so7 F8 (fun _ _ => id)
    have HTr := Lib.hid (truncate_full _ p X [] 0 h8 (by simp))
    have F08 := F07.trans (F8.mono (fun _ _ hh => hh.elim))
    have hs8 := F8.size
    go_wp2_with fail
    generalize w8.alloc (.cells #[.int .u8 0, .slice none 0 0] 35) = W8 at *
    refine HTr.out.mono ?_
    rintro e w9 ⟨rfl, h9, hf9⟩
    have HSy := Lib.hid (sync_any w9 p X [] 0 h9)
    go_wp2_with fail
    refine HSy.out.mono ?_
    rintro e w10 ⟨rfl, h10, hf10⟩
    go_wp2
    obtain ⟨Af, cf, fb, fo, zf⟩ := h10
    have F910 := hf9.trans hf10
    have jb10 := jb8.fr F910 (by omega)
    have so10 := own_fr so8 F910 (fun g hg e => by have := zs7 g hg; omega)
    refine bodyPost_ret (v := .tuple #[.pointer (some ⟨w2.heap.size, 0, none⟩), .int .i64 0]) (by simp [results, Try.results10, go_sem]) rfl ⟨w2.heap.size, rfl, hs2, ⟨Af, cf, none, 0, A6, c6, [], ⟨fb, fo, jb10, World.ownsRow_nil _ _ _ _, so10, .inl rfl, .inr (.inr hs2), fun g hg => .inr (.inl (zf g hg)), (fun g hg => by cases hg), fun g hg => .inr (.inr (by have := zs7 g hg; omega)), fun r hr => by simp at hr⟩, rfl⟩, F08.trans F910⟩
end Go.Proofs.Ytbhbamgnapcbaaa

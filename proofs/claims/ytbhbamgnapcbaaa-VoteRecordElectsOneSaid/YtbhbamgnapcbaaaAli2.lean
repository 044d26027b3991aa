import Derived.Test.YtbhbamgnapcbaaaAli1
namespace Go.Proofs.Ytbhbamgnapcbaaa
set_option linter.unusedVariables false
open Go.RowKit Go.Own Go.Quo Go.Wire
def OdPost (p : Nat) (w : World) (e : Ending) (w' : World) : Prop := ∃ (Z : Nat → Prop) (v j : Nat), e = .returned (.tuple #[.pointer (some ⟨v, 0, none⟩), .pointer (some ⟨j, 0, none⟩), .bool true]) ∧ VS w' Z p j v [] 0 (-1) ∧ (∀ k, Z k → k = p ∨ w.heap.size ≤ k) ∧ w.heap.size ≤ v ∧ Fr (fun k => k = p) w w'
set_option maxRecDepth 10000 in
set_option maxHeartbeats 1000000 in
theorem opened_new (w : World) (p : Nat) (h : FileP w p (fun _ => False) [] 0 false) :
    Calls Try.prog 17 #[.pointer (some ⟨p, 0, none⟩)] w (OdPost p w) := by
  have HJ := Lib.hid (jopen_empty w p _ h)
  have HV := Lib.hid fun W' Z j (x : JS W' Z p j [] 0 false) hZ => vopen_nil W' Z p j x hZ
  have hnil1 : ∀ (a : Addr) (W : World), (binOp .eql 25 (.pointer (some a)) (.pointer none)).run Try.prog W = .ok (.bool false) W := fun _ _ => by rfl
  have hnil2 : ∀ (a : Addr) (W : World), (binOp .neq 36 (.pointer (some a)) (.pointer none)).run Try.prog W = .ok (.bool true) W := fun _ _ => by rfl
  clear h
  go_enter Try.func17, Try.ntmps17
  go_wp2_with fail
  refine HJ.out.mono ?_
  rintro e w2 ⟨j, rfl, hj, hjs, hf⟩
  go_wp2_with fail
  refine (HV.out w2 _ j (hjs.cut) (fun k hk => hk.2)).mono ?_
  rintro e w3 ⟨v, rfl, hv, hvs, hB3⟩
  have hs2 := hf.size
  go_wp2
  refine bodyPost_ret (v := .tuple #[.pointer (some ⟨v, 0, none⟩), .pointer (some ⟨j, 0, none⟩), .bool true]) (by simp [results, Try.results17, go_sem]) rfl ⟨_, v, j, rfl, hvs, fun k hk => ?_, by omega, hf.trans (Fr.of_below hB3)⟩
  rcases hk.1 with e | e | e
  · exact .inl e
  · exact e.elim
  · exact .inr e
set_option maxRecDepth 10000 in
set_option maxHeartbeats 2000000 in
theorem alive_any (w : World) : Calls Try.prog 8 #[] w fun e w' => e = .returned (.bool true) ∧ Below w.heap.size w w' := by
  have HN := Lib.hid (storage_new w)
  have HO := Lib.hid fun W' p x => opened_new W' p x
  have HT := Lib.hid fun W' Z p j v recs term voted x => term_any W' Z p j v recs term voted x
  have HF := Lib.hid fun W' Z p j v recs term voted x => votedFor_any W' Z p j v recs term voted x
  have L1 := Lib.hid (show (encJ initS ([] ++ [(84, encI 3)])).length ≤ 16777216 by decide +kernel)
  have L2 := Lib.hid (show (encJ initS ([] ++ [(84, encI 3)] ++ [(86, encI 3 ++ encI 1)])).length ≤ 16777216 by decide +kernel)
  have L3 := Lib.hid (show (encJ initS ([] ++ [(84, encI 3)] ++ [(86, encI 3 ++ encI 1)] ++ [(86, encI 5 ++ encI 2)])).length ≤ 16777216 by decide +kernel)
  go_enter Try.func8, Try.ntmps8
  go_wp2_with fail
  refine HN.out.mono ?_
  rintro e w1 ⟨rfl, hF1, hB1⟩
  go_wp2_with fail
  refine (HO.out w1 _ hF1).mono ?_
  rintro e w2 ⟨Z2, v, j, rfl, h2, hz2, hv2, f2⟩
  go_wp2_with (first
    | (go_at_call 15; ((with_reducible refine (HT.out _ _ _ _ _ _ _ _ h2).mono ?_); rintro e w3 ⟨rfl, rfl⟩))
    | (go_at_call 16; ((with_reducible refine (HF.out _ _ _ _ _ _ _ _ h2).mono ?_); rintro e w3 ⟨rfl, rfl⟩))
    | (go_at_call 19; ((with_reducible refine (advance_ok _ _ _ _ _ _ _ _ 3 h2 (by decide) (by decide) L1.out (by decide)).mono ?_); rintro e w3 ⟨rfl, Z3, h3, hz3, f3⟩))
    | (go_at_call 21; ((with_reducible refine (grant_ok _ _ _ _ _ _ _ _ 3 1 h3 (by decide) (by decide) (by decide) (by decide) L2.out (by decide)).mono ?_); rintro e w4 ⟨rfl, Z4, h4, hz4, f4⟩))
    | (go_at_call 21; ((with_reducible refine (grant_again _ _ _ _ _ _ _ 3 2 h4 (by decide) (by decide) (by decide) 10 (by decide)).mono ?_); rintro e w5 ⟨rfl, Z5, h5, hz5, f5⟩))
    | (go_at_call 21; ((with_reducible refine (grant_again _ _ _ _ _ _ _ 3 1 h5 (by decide) (by decide) (by decide) 0 (by decide)).mono ?_); rintro e w6 ⟨rfl, Z6, h6, hz6, f6⟩))
    | (go_at_call 21; ((with_reducible refine (grant_stale _ _ _ _ _ _ _ _ 2 1 h6 (by decide) (by decide) (by decide)).mono ?_); rintro e w7 ⟨rfl, Z7, h7, hz7, f7⟩))
    | (go_at_call 21; ((with_reducible refine (grant_ok _ _ _ _ _ _ _ _ 5 2 h7 (by decide) (by decide) (by decide) (by decide) L3.out (by decide)).mono ?_); rintro e w8 ⟨rfl, Z8, h8, hz8, f8⟩))
    | (go_at_call 15; ((with_reducible refine (HT.out _ _ _ _ _ _ _ _ h8).mono ?_); rintro e w9 ⟨rfl, rfl⟩))
    | (go_at_call 16; ((with_reducible refine (HF.out _ _ _ _ _ _ _ _ h8).mono ?_); rintro e w9 ⟨rfl, rfl⟩)))
  go_ret
  have s1 := hB1.size
  have g2 : ∀ k, Z2 k → w.heap.size ≤ k := fun k hk => (hz2 k hk).elim (fun e => by omega) (fun e => by omega)
  have b2 := hB1.trans (f2.below (B := w.heap.size) s1 (fun k hk e => by omega))
  have g3 : ∀ k, Z3 k → w.heap.size ≤ k := fun k hk => (hz3 k hk).elim (g2 k) (fun e => by have := b2.size; omega)
  have b3 := b2.trans (f3.below (B := w.heap.size) b2.size (fun k hk e => e.elim (fun e => by have := g2 k e; omega) (fun e => by omega)))
  have g4 : ∀ k, Z4 k → w.heap.size ≤ k := fun k hk => (hz4 k hk).elim (g3 k) (fun e => by have := b3.size; omega)
  have b4 := b3.trans (f4.below (B := w.heap.size) b3.size (fun k hk e => e.elim (fun e => by have := g3 k e; omega) (fun e => by omega)))
  have g5 : ∀ k, Z5 k → w.heap.size ≤ k := fun k hk => (hz5 k hk).elim (g4 k) (fun e => by have := b4.size; omega)
  have b5 := b4.trans (f5.below (B := w.heap.size) b4.size (fun k hk e => e.elim (fun e => by have := g4 k e; omega) (fun e => by omega)))
  have g6 : ∀ k, Z6 k → w.heap.size ≤ k := fun k hk => (hz6 k hk).elim (g5 k) (fun e => by have := b5.size; omega)
  have b6 := b5.trans (f6.below (B := w.heap.size) b5.size (fun k hk e => e.elim (fun e => by have := g5 k e; omega) (fun e => by omega)))
  have g7 : ∀ k, Z7 k → w.heap.size ≤ k := fun k hk => (hz7 k hk).elim (g6 k) (fun e => by have := b6.size; omega)
  have b7 := b6.trans (f7.below (B := w.heap.size) b6.size (fun k hk e => e.elim (fun e => by have := g6 k e; omega) (fun e => by omega)))
  exact ⟨rfl, b7.trans (f8.below (B := w.heap.size) b7.size (fun k hk e => e.elim (fun e => by have := g7 k e; omega) (fun e => by omega)))⟩
end Go.Proofs.Ytbhbamgnapcbaaa

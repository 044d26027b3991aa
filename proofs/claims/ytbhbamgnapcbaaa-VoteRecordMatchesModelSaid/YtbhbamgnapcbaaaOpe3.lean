import Derived.Test.YtbhbamgnapcbaaaOpe2
import Derived.Test.YtbhbamgnapcbaaaRec2
import Derived.Test.YtbhbamgnapcbaaaOpn2
namespace Go.Proofs.Ytbhbamgnapcbaaa
set_option linter.unusedVariables false
open Go.RowKit Go.Own Go.Quo Go.Wire
/-- The records are such as a journal holds. -/
def RecsOk (recs : List (Int × List Int)) : Prop := ∀ x ∈ recs, Bytes x.2 ∧ x.2.length ≤ 8192 ∧ 0 ≤ x.1 ∧ x.1 < 256
theorem jopen_any (w : World) (p : Nat) (X : Nat → Prop) (recs : List (Int × List Int)) (h : FileP w p X (encJ initS recs) (encJ initS recs).length false) (hl : (encJ initS recs).length ≤ 16777216) (hrl : recs.length ≤ 1000000) (hb : RecsOk recs) :
    Calls Try.prog 10 #[.pointer (some ⟨p, 0, none⟩)] w (JOPost p recs X w) := by
  refine (jopen_cut w p _ recs (fun k hk => hk.2) h.cut hl hrl hb).mono ?_
  rintro e w' ⟨j, rfl, hj, hjs, hf⟩
  exact ⟨j, rfl, hj, hjs.wider (fun k hk => hk.elim .inl (fun e => e.elim (fun e => .inr (.inl e.1)) (fun e => .inr (.inr e)))), hf⟩
def OdP (p : Nat) (recs : List (Int × List Int)) (t n : Int) (X : Nat → Prop) (w : World) (e : Ending) (w' : World) : Prop := ∃ (Z : Nat → Prop) (v j : Nat), e = .returned (.tuple #[.pointer (some ⟨v, 0, none⟩), .pointer (some ⟨j, 0, none⟩), .bool true]) ∧ VS w' Z p j v recs t n ∧ (∀ k, Z k → k = p ∨ X k ∨ w.heap.size ≤ k) ∧ w.heap.size ≤ v ∧ w.heap.size ≤ j ∧ Fr (fun k => k = p) w w'
set_option maxRecDepth 10000 in
set_option maxHeartbeats 1000000 in
theorem opened_any (w : World) (p : Nat) (X : Nat → Prop) (recs : List (Int × List Int)) (t n : Int) (h : FileP w p X (encJ initS recs) (encJ initS recs).length false) (hl : (encJ initS recs).length ≤ 16777216) (hrl : recs.length ≤ 1000000) (hb : RecsOk recs) (hr : rAll recs (0, -1) = some (t, n)) :
    Calls Try.prog 17 #[.pointer (some ⟨p, 0, none⟩)] w (OdP p recs t n X w) := by
  have HJ := Lib.hid (jopen_any w p _ recs h hl hrl hb)
  have HV := Lib.hid fun W' Z j dur (x : JS W' Z p j recs dur false) => hr ▸ vopen_any W' Z p j recs dur x hrl (fun x hx => ⟨(hb x hx).1, by have := (hb x hx).2.1; omega⟩)
  have hnil1 : ∀ (a : Addr) (W : World), (binOp .eql 25 (.pointer (some a)) (.pointer none)).run Try.prog W = .ok (.bool false) W := fun _ _ => by rfl
  have hnil2 : ∀ (a : Addr) (W : World), (binOp .neq 36 (.pointer (some a)) (.pointer none)).run Try.prog W = .ok (.bool true) W := fun _ _ => by rfl
  clear h hl hrl hb hr
  go_enter Try.func17, Try.ntmps17
  go_wp2_with fail
  refine HJ.out.mono ?_
  rintro e w2 ⟨j, rfl, hj, hjs, hf⟩
  have HJS := Lib.hid hjs.cut
  have hs2 := hf.size
  clear hjs
  go_wp2_with fail
  refine (HV.out w2 _ j _ HJS.out).mono ?_
  rintro e w3 ⟨hy, -, hB3⟩
  obtain ⟨rfl, hb3⟩ := hy t n rfl
  have hs3 := hB3.size
  go_wp2
  have hj3 := HJS.out.fr (Fr.of_below (S := fun _ => False) hB3) (fun _ _ => id)
  refine bodyPost_ret (v := .tuple #[.pointer (some ⟨w2.heap.size, 0, none⟩), .pointer (some ⟨j, 0, none⟩), .bool true]) (by simp [results, Try.results17, go_sem]) rfl ⟨_, w2.heap.size, j, rfl, ⟨hb3, fun hz => by have := hz.2; omega, hj3, fun k hk => Nat.lt_of_lt_of_le hk.2 hs3⟩, fun k hk => hk.1, by omega, hj, hf.trans (Fr.of_below hB3)⟩
end Go.Proofs.Ytbhbamgnapcbaaa

import Derived.Test.YtbhbamgnapcbaaaAli1
namespace Go.Proofs.Ytbhbamgnapcbaaa
set_option linter.unusedVariables false
open Go.RowKit Go.Own Go.Quo Go.Wire
/-- The answer of Finish. -/
def finE (err : Int) (rest : List Int) : Int := if err = 0 then (if rest.length = 0 then 0 else 2) else err
/-- What follows a T record. -/
def rTerm (body : List Int) (term : Int) : Option (Int × Int) :=
  if finE (rdI body).1 (rdI body).2.2 = 0 ∧ validT (rdI body).2.1 = true ∧ ¬ (rdI body).2.1 ≤ term then some ((rdI body).2.1, -1) else none
/-- The second number, where the first may have failed. -/
def rdN (a : Int × Int × List Int) : Int × Int × List Int := if a.1 = 0 then rdI a.2.2 else (a.1, 0, a.2.2)
/-- What follows a V record. -/
def rVote (body : List Int) (term voted : Int) : Option (Int × Int) :=
  if (finE (rdN (rdI body)).1 (rdN (rdI body)).2.2 = 0 ∧ validT (rdI body).2.1 = true ∧ validN (rdN (rdI body)).2.1 = true) ∧ ¬ (rdI body).2.1 < term ∧ ¬ ((rdI body).2.1 = term ∧ 0 ≤ voted) then some ((rdI body).2.1, (rdN (rdI body)).2.1) else none
def RsPost (v j : Nat) (res : Option (Int × Int)) (w : World) (e : Ending) (w' : World) : Prop :=
  (∀ t n, res = some (t, n) → e = .returned (.bool true) ∧ Blk w' v 91 #[.pointer (some ⟨j, 0, none⟩), .int .i64 t, .int .i64 n]) ∧ (res = none → e = .returned (.bool false)) ∧ Fr (fun k => k = v) w w'
theorem fr_rd {w w1 w2 : World} {p : Nat} {S : Nat → Prop} (h1 : Fr S w w1) (h2 : Fr (fun x => x = p) w1 w2) (hp : w.heap.size ≤ p) : Fr S w w2 :=
  ⟨h2.os.trans h1.os, h2.tape.trans h1.tape, h2.output.trans h1.output, Nat.le_trans h1.size h2.size, fun k hk hn => (h2.block k (Nat.lt_of_lt_of_le hk h1.size) (by omega)).trans (h1.block k hk hn)⟩
set_option maxRecDepth 10000 in
set_option maxHeartbeats 2000000 in
theorem restoreTerm_any (B : Nat → Prop) (A : Option Addr) (c : Nat) (body : List Int) (w : World) (v j : Nat) (term voted : Int) (hv : Blk w v 91 #[.pointer (some ⟨j, 0, none⟩), .int .i64 term, .int .i64 voted]) (h : Reads w B 1 A body.length (bys body)) (hB : Bytes body) (hl : body.length ≤ 1000000) :
    Calls Try.prog 39 #[.pointer (some ⟨v, 0, none⟩), .slice A body.length c] w (RsPost v j (rTerm body term) w) := by
  have HN := Lib.hid (newReader_any B A c body w h (by omega))
  have HI := Lib.hid fun W' (x : RdP W' (w.heap.size + 1) (· = w.heap.size) body 0) => int_ok (w.heap.size + 1) _ body W' x (by omega) hB
  have HF := Lib.hid fun W' rest err (x : RdP W' (w.heap.size + 1) (· = w.heap.size) rest err) => finish_any (w.heap.size + 1) _ rest err W' x
  have hvl := hv.lt
  have HR := Lib.hid (show rTerm body term = if finE (rdI body).1 (rdI body).2.2 = 0 ∧ validT (rdI body).2.1 = true ∧ ¬ (rdI body).2.1 ≤ term then some ((rdI body).2.1, -1) else none from rfl)
  generalize rTerm body term = res at *
  generalize rdI body = a at *
  obtain ⟨er, t, rest⟩ := a
  simp only at HI
  have HQ := Lib.hid fun W' q (x : validT t = q) => validTerm_any t W' q x
  have HFe := Lib.hid (show (if er = 0 then (if rest.length = 0 then (0 : Int) else 2) else er) = finE er rest from rfl)
  have HR2 := Lib.hid (show res = if finE er rest = 0 ∧ validT t = true ∧ ¬ t ≤ term then some (t, -1) else none from HR.out)
  clear HR
  generalize finE er rest = fe at *
  have hcs : ¬ fe = 0 ∧ res = none ∨ (fe = 0 ∧ (validT t = false ∧ res = none ∨ validT t = true ∧ (t ≤ term ∧ res = none ∨ ¬ t ≤ term ∧ res = some (t, -1)))) := by
    rw [HR2.out]
    by_cases h1 : fe = 0
    · right
      refine ⟨h1, ?_⟩
      cases hvt : validT t
      · left; simp
      · right
        refine ⟨rfl, ?_⟩
        by_cases h2 : t ≤ term
        · left; exact ⟨h2, by simp [h2]⟩
        · right; exact ⟨h2, by rw [if_pos ⟨h1, rfl, h2⟩]⟩
    · left; exact ⟨h1, by simp [h1]⟩
  clear h hB HR2
  go_enter Try.func39, Try.ntmps39
  go_wp2_with fail
  refine HN.out.mono ?_
  rintro e w1 ⟨rfl, h1, hB1⟩
  have f1 : Fr (fun k => k = v) w w1 := Fr.of_below hB1
  go_wp2_with fail
  refine (HI.out w1 h1).mono ?_
  rintro e w2 ⟨rfl, h2, hf2⟩
  have f2 := fr_rd f1 hf2 (by omega)
  have hv2 := (hv.below hB1 hvl).fr hf2 (by omega)
  obtain ⟨q0, q1, q2⟩ := hv2.facts
  have HF2 := Lib.hid (HF.out w2 _ _ h2)
  rw [HFe.out] at HF2
  rcases hcs with ⟨x1, rfl⟩ | ⟨rfl, ⟨x2, rfl⟩ | ⟨x2, ⟨x3, rfl⟩ | ⟨x3, rfl⟩⟩⟩
  · go_wp2_with (go_at_call 61; ((with_reducible refine HF2.out.mono ?_); rintro e w3 ⟨rfl, rfl⟩))
    go_ret
    exact ⟨fun _ _ e => (by cases e), fun _ => rfl, f2⟩
  · have HV := Lib.hid (HQ.out w2 _ x2)
    go_wp2_with (first
      | (go_at_call 61; ((with_reducible refine HF2.out.mono ?_); rintro e w3 ⟨rfl, rfl⟩))
      | (go_at_call 45; ((with_reducible refine HV.out.mono ?_); rintro e w3 ⟨rfl, rfl⟩)))
    go_ret
    exact ⟨fun _ _ e => (by cases e), fun _ => rfl, f2⟩
  · have HV := Lib.hid (HQ.out w2 _ x2)
    go_wp2_with (first
      | (go_at_call 61; ((with_reducible refine HF2.out.mono ?_); rintro e w3 ⟨rfl, rfl⟩))
      | (go_at_call 45; ((with_reducible refine HV.out.mono ?_); rintro e w3 ⟨rfl, rfl⟩)))
    go_ret
    exact ⟨fun _ _ e => (by cases e), fun _ => rfl, f2⟩
  · have HV := Lib.hid (HQ.out w2 _ x2)
    go_wp2_with (first
      | (go_at_call 61; ((with_reducible refine HF2.out.mono ?_); rintro e w3 ⟨rfl, rfl⟩))
      | (go_at_call 45; ((with_reducible refine HV.out.mono ?_); rintro e w3 ⟨rfl, rfl⟩)))
    go_ret
    refine ⟨fun _ _ e => ?_, fun e => (by cases e), ?_⟩
    · cases e
      exact ⟨rfl, by simpa using (hv2.set_ 1 (.int .i64 t)).set_ 2 (.int .i64 (-1))⟩
    · exact f2.trans (((Fr.refl (fun x => x = v) _).setCell (.inl rfl) _).setCell (.inl rfl) _)
theorem int_gen (p : Nat) (B : Nat → Prop) (a : Int × Int × List Int) (w : World) (h : RdP w p B a.2.2 a.1) (hp : ¬ B p) (hB : Bytes a.2.2) :
    Calls Try.prog 60 #[.pointer (some ⟨p, 0, none⟩)] w fun e w' => e = .returned (.int .i64 (rdN a).2.1) ∧ RdP w' p B (rdN a).2.2 (rdN a).1 ∧ Fr (· = p) w w' := by
  obtain ⟨er, t, rest⟩ := a
  unfold rdN
  by_cases h0 : er = 0
  · subst h0
    exact int_ok p B rest w h hp hB
  · simp only [h0, if_false]
    refine (int_err p B rest er w h h0).mono ?_
    rintro e w' ⟨rfl, rfl⟩
    exact ⟨rfl, h, Fr.refl _ _⟩
set_option maxRecDepth 10000 in
set_option maxHeartbeats 2000000 in
theorem restoreVote_any (B : Nat → Prop) (A : Option Addr) (c : Nat) (body : List Int) (w : World) (v j : Nat) (term voted : Int) (hv : Blk w v 91 #[.pointer (some ⟨j, 0, none⟩), .int .i64 term, .int .i64 voted]) (h : Reads w B 1 A body.length (bys body)) (hB : Bytes body) (hl : body.length ≤ 1000000) :
    Calls Try.prog 40 #[.pointer (some ⟨v, 0, none⟩), .slice A body.length c] w (RsPost v j (rVote body term voted) w) := by
  have HN := Lib.hid (newReader_any B A c body w h (by omega))
  have HI := Lib.hid fun W' (x : RdP W' (w.heap.size + 1) (· = w.heap.size) body 0) => int_ok (w.heap.size + 1) _ body W' x (by omega) hB
  have HI2 := Lib.hid fun W' (x : RdP W' (w.heap.size + 1) (· = w.heap.size) (rdI body).2.2 (rdI body).1) => int_gen (w.heap.size + 1) _ (rdI body) W' x (by omega) (rdI_bytes hB)
  have HF := Lib.hid fun W' rest err (x : RdP W' (w.heap.size + 1) (· = w.heap.size) rest err) => finish_any (w.heap.size + 1) _ rest err W' x
  have hvl := hv.lt
  have HR := Lib.hid (show rVote body term voted = if (finE (rdN (rdI body)).1 (rdN (rdI body)).2.2 = 0 ∧ validT (rdI body).2.1 = true ∧ validN (rdN (rdI body)).2.1 = true) ∧ ¬ (rdI body).2.1 < term ∧ ¬ ((rdI body).2.1 = term ∧ 0 ≤ voted) then some ((rdI body).2.1, (rdN (rdI body)).2.1) else none from rfl)
  generalize rVote body term voted = res at *
  generalize rdI body = a at *
  generalize rdN a = b at *
  obtain ⟨er, t, rest⟩ := a
  obtain ⟨er2, n, rest2⟩ := b
  simp only at HI HI2
  have HQ := Lib.hid fun W' q (x : validT t = q) => validTerm_any t W' q x
  have HM := Lib.hid fun W' q (x : validN n = q) => validNode_any n W' q x
  have HFe := Lib.hid (show (if er2 = 0 then (if rest2.length = 0 then (0 : Int) else 2) else er2) = finE er2 rest2 from rfl)
  have HR2 := Lib.hid (show res = if (finE er2 rest2 = 0 ∧ validT t = true ∧ validN n = true) ∧ ¬ t < term ∧ ¬ (t = term ∧ 0 ≤ voted) then some (t, n) else none from HR.out)
  clear HR
  generalize finE er2 rest2 = fe at *
  have hcs : ¬ fe = 0 ∧ res = none ∨ (fe = 0 ∧ (validT t = false ∧ res = none ∨ validT t = true ∧ (validN n = false ∧ res = none ∨ validN n = true ∧ (t < term ∧ res = none ∨ ¬ t < term ∧ (t = term ∧ 0 ≤ voted ∧ res = none ∨ t = term ∧ ¬ 0 ≤ voted ∧ res = some (t, n) ∨ (t == term) = false ∧ res = some (t, n)))))) := by
    rw [HR2.out]
    by_cases h1 : fe = 0
    · right
      refine ⟨h1, ?_⟩
      cases hvt : validT t
      · left; simp
      · right
        refine ⟨rfl, ?_⟩
        cases hvn : validN n
        · left; simp
        · right
          refine ⟨rfl, ?_⟩
          by_cases h2 : t < term
          · left; exact ⟨h2, by simp [h2]⟩
          · right
            refine ⟨h2, ?_⟩
            by_cases h3 : t = term
            · by_cases h4 : 0 ≤ voted
              · left; exact ⟨h3, h4, by simp [h3, h4]⟩
              · right; left; exact ⟨h3, h4, by rw [if_pos ⟨⟨h1, rfl, rfl⟩, h2, fun hh => h4 hh.2⟩]⟩
            · right; right; exact ⟨by simpa using h3, by rw [if_pos ⟨⟨h1, rfl, rfl⟩, h2, fun hh => h3 hh.1⟩]⟩
    · left; exact ⟨h1, by simp [h1]⟩
  clear h hB HR2
  go_enter Try.func40, Try.ntmps40
  go_wp2_with fail
  refine HN.out.mono ?_
  rintro e w1 ⟨rfl, h1, hB1⟩
  have f1 : Fr (fun k => k = v) w w1 := Fr.of_below hB1
  go_wp2_with fail
  refine (HI.out w1 h1).mono ?_
  rintro e w2 ⟨rfl, h2, hf2⟩
  have f2 := fr_rd f1 hf2 (by omega)
  go_wp2_with fail
  refine (HI2.out w2 h2).mono ?_
  rintro e w3 ⟨rfl, h3, hf3⟩
  have f3 := fr_rd f2 hf3 (by omega)
  have hv2 := ((hv.below hB1 hvl).fr hf2 (by omega)).fr hf3 (by omega)
  obtain ⟨q0, q1, q2⟩ := hv2.facts
  have HF2 := Lib.hid (HF.out w3 _ _ h3)
  rw [HFe.out] at HF2
  rcases hcs with ⟨x1, rfl⟩ | ⟨rfl, ⟨x2, rfl⟩ | ⟨x2, ⟨x3, rfl⟩ | ⟨x3, ⟨x4, rfl⟩ | ⟨x4, ⟨rfl, x5, rfl⟩ | ⟨rfl, x5, rfl⟩ | ⟨x5, rfl⟩⟩⟩⟩⟩
  · go_wp2_with (go_at_call 61; ((with_reducible refine HF2.out.mono ?_); rintro e w4 ⟨rfl, rfl⟩))
    go_ret
    exact ⟨fun _ _ e => (by cases e), fun _ => rfl, f3⟩
  · have HV := Lib.hid (HQ.out w3 _ x2)
    go_wp2_with (first
      | (go_at_call 61; ((with_reducible refine HF2.out.mono ?_); rintro e w4 ⟨rfl, rfl⟩))
      | (go_at_call 45; ((with_reducible refine HV.out.mono ?_); rintro e w4 ⟨rfl, rfl⟩)))
    go_ret
    exact ⟨fun _ _ e => (by cases e), fun _ => rfl, f3⟩
  all_goals
    have HV := Lib.hid (HQ.out w3 _ x2)
    have HV2 := Lib.hid (HM.out w3 _ x3)
    go_wp2_with (first
      | (go_at_call 61; ((with_reducible refine HF2.out.mono ?_); rintro e w4 ⟨rfl, rfl⟩))
      | (go_at_call 45; ((with_reducible refine HV.out.mono ?_); rintro e w4 ⟨rfl, rfl⟩))
      | (go_at_call 50; ((with_reducible refine HV2.out.mono ?_); rintro e w4 ⟨rfl, rfl⟩)))
    go_ret
    first
      | exact ⟨fun _ _ e => (by cases e), fun _ => rfl, f3⟩
      | (refine ⟨fun _ _ e => ?_, fun e => (by cases e), ?_⟩
         · cases e
           exact ⟨rfl, by simpa using (hv2.set_ 1 (.int .i64 _)).set_ 2 (.int .i64 _)⟩
         · exact f3.trans (((Fr.refl (fun x => x = v) _).setCell (.inl rfl) _).setCell (.inl rfl) _))
end Go.Proofs.Ytbhbamgnapcbaaa

import Derived.Test.YtbhbamgnapcbaaaRf2
import Derived.Test.YtbhbamgnapcbaaaOnc2
namespace Go.Proofs.Ytbhbamgnapcbaaa
set_option linter.unusedVariables false
open Go.RowKit Go.Own Go.Quo Go.Wire
/-- The model's ballot at block mb, and the records that were collected; all their blocks satisfy N. -/
structure MaI (w : World) (N : Nat → Prop) (mb : Nat) (Ar : Option Addr) (cr : Nat) (rs : List Rc) (t n : Int) : Prop where
  m : Blk w mb 40 #[.int .i64 t, .int .i64 n]
  ro : w.ownsRow 0 33 2 (.slice Ar rs.length cr) rs.length (rs.flatMap rcL)
  zm : N mb
  zr : ∀ g, (Value.slice Ar rs.length cr).ownBlock = some g → N g
  bd : ∀ r ∈ rs, Reads w (fun g => N g ∧ g ≠ mb ∧ (Value.slice Ar rs.length cr).ownBlock ≠ some g) 1 r.A r.body.length (bys r.body)
theorem MaI.fr {w w' : World} {N S : Nat → Prop} {mb : Nat} {Ar : Option Addr} {cr : Nat} {rs : List Rc} {t n : Int} (h : MaI w N mb Ar cr rs t n) (hf : Fr S w w') (hS : ∀ g, N g → ¬ S g) : MaI w' N mb Ar cr rs t n :=
  ⟨h.m.fr hf (hS _ h.zm), own_fr h.ro hf (fun g hg => hS g (h.zr g hg)), h.zm, h.zr, fun r hr => (h.bd r hr).fr hf (fun g hg => hS g hg.1)⟩
theorem MaI.more {w : World} {N N' : Nat → Prop} {mb : Nat} {Ar : Option Addr} {cr : Nat} {rs : List Rc} {t n : Int} (h : MaI w N mb Ar cr rs t n) (hN : ∀ g, g < w.heap.size → N g → N' g) : MaI w N' mb Ar cr rs t n :=
  ⟨h.m, h.ro, hN _ h.m.lt h.zm, fun g hg => hN g (own_lt h.ro hg) (h.zr g hg), fun r hr => ((h.bd r hr).old (by omega)).more (fun g hg => ⟨hN g hg.2 hg.1.1, hg.1.2⟩)⟩
theorem MaI.set {w : World} {N : Nat → Prop} {mb : Nat} {Ar : Option Addr} {cr : Nat} {rs : List Rc} {t n : Int} (h : MaI w N mb Ar cr rs t n) (t' n' : Int) : MaI ((w.setCell ⟨mb, 0, none⟩ (.int .i64 t')).setCell ⟨mb, 1, none⟩ (.int .i64 n')) N mb Ar cr rs t' n' :=
  ⟨by simpa using (h.m.set_ 0 (.int .i64 t')).set_ 1 (.int .i64 n'), own_set (own_set h.ro (own_ne h.ro h.m (by decide)) _) (own_ne h.ro h.m (by decide)) _, h.zm, h.zr, fun r hr => ((h.bd r hr).setCell (fun hg => hg.2.1 rfl) _).setCell (fun hg => hg.2.1 rfl) _⟩
theorem MaI.app {w w' : World} {N : Nat → Prop} {b0 mb : Nat} {Ar : Option Addr} {cr : Nat} {rs nrs : List Rc} {t n : Int} (h : MaI w N mb Ar cr rs t n) {A' : Option Addr} {c' : Nat}
    (ho : w'.ownsRow 0 33 2 (.slice A' (rs.length + nrs.length) c') (rs.length + nrs.length) (rs.flatMap rcL ++ nrs.flatMap rcL)) (hg : w.grownBy w' (Value.slice Ar rs.length cr).ownBlock) (hat : (Value.slice A' (rs.length + nrs.length) c').ownBlock = (Value.slice Ar rs.length cr).ownBlock ∨ (Value.slice A' (rs.length + nrs.length) c').ownBlock = some w.heap.size)
    (hb : ∀ r ∈ nrs, Reads w (fun g => b0 ≤ g) 1 r.A r.body.length (bys r.body)) (hb0 : ∀ g, g < b0 → g < w.heap.size) (hm0 : mb < b0) (hr0 : ∀ g, (Value.slice Ar rs.length cr).ownBlock = some g → g < b0) (hN : ∀ g, b0 ≤ g → N g) :
    MaI w' N mb A' c' (rs ++ nrs) t n := by
  have hl : (rs ++ nrs).length = rs.length + nrs.length := List.length_append
  have hown : ∀ g, (Value.slice A' (rs.length + nrs.length) c').ownBlock = some g → (Value.slice Ar rs.length cr).ownBlock = some g ∨ g = w.heap.size := by
    intro g hg
    rcases hat with e | e
    · left; rw [← e]; exact hg
    · right; rw [e] at hg; injection hg with hg; exact hg.symm
  have hbw : b0 ≤ w.heap.size := by
    by_cases e : b0 ≤ w.heap.size
    · exact e
    · have := hb0 w.heap.size (by omega); omega
  refine ⟨h.m.grown hg (fun e => own_ne h.ro h.m (by decide) _ e.symm rfl), by rw [hl, List.flatMap_append]; exact ho, h.zm, fun g hg' => ?_, fun r hr => ?_⟩
  · rw [hl] at hg'
    rcases hown g hg' with e | e
    · exact h.zr g e
    · exact hN g (by omega)
  · rw [hl]
    rcases List.mem_append.1 hr with hr | hr
    · refine (((h.bd r hr).old (by omega)).grown hg (fun k hk e => hk.1.2.2 e.symm)).more (fun g hg' => ⟨hg'.1.1, hg'.1.2.1, fun e => ?_⟩)
      rcases hown g e with e' | e'
      · exact hg'.1.2.2 e'
      · have := hg'.2; omega
    · refine (((hb r hr).old (by omega)).grown hg (fun k hk e => by have := hr0 k e.symm; have := hk.1; omega)).more (fun g hg' => ⟨hN g hg'.1, by have := hg'.1; omega, fun e => ?_⟩)
      rcases hown g e with e' | e'
      · have := hr0 g e'; have := hg'.1; omega
      · have := hg'.2; omega
/-- What stands before each round. -/
def MaR (w : World) (p mb : Nat) (l : List Ac) (v4 v5 v6 v8 v29 : Value) (wr : World) : Prop :=
  ∃ (k : Nat) (s : St) (Z : Nat → Prop) (j v : Nat) (Ar : Option Addr) (cr : Nat) (rs : List Rc), k ≤ l.length ∧ v4 = .pointer (some ⟨v, 0, none⟩) ∧ v5 = .pointer (some ⟨j, 0, none⟩) ∧ v6 = .bool true ∧ v8 = .slice Ar rs.length cr ∧ v29 = .int .i64 k ∧ VS wr Z p j v s.recs s.t s.n ∧ Good s k ∧ rs.map recOf = s.recs ∧ MaI wr (fun g => ¬ Z g ∧ g ≠ v) mb Ar cr rs s.t s.n ∧ (∀ g, Z g → w.heap.size ≤ g) ∧ w.heap.size ≤ v ∧ w.heap.size ≤ mb ∧ (∀ g, (Value.slice Ar rs.length cr).ownBlock = some g → w.heap.size ≤ g) ∧ Below w.heap.size w wr
end Go.Proofs.Ytbhbamgnapcbaaa

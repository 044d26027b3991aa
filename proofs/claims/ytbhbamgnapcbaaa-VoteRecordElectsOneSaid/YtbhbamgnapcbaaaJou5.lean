import Derived.Test.YtbhbamgnapcbaaaJou4
namespace Go.Wire
def encJ : Int → List (Int × List Int) → List Int
  | _, [] => []
  | prev, (k, b) :: r => encR prev k b ++ encJ (chF prev k b) r
def sumsF : Int → List (Int × List Int) → List Int
  | prev, [] => [prev]
  | prev, (k, b) :: r => prev :: sumsF (chF prev k b) r
def lastS : Int → List (Int × List Int) → Int
  | prev, [] => prev
  | prev, (k, b) :: r => lastS (chF prev k b) r
theorem encJ_snoc : ∀ (l : List (Int × List Int)) (prev k : Int) (b : List Int), encJ prev (l ++ [(k, b)]) = encJ prev l ++ encR (lastS prev l) k b
  | [], prev, k, b => by simp [encJ, lastS]
  | (k', b') :: r, prev, k, b => by
    rw [List.cons_append, encJ, encJ_snoc r, encJ, lastS, List.append_assoc]
theorem sumsF_snoc : ∀ (l : List (Int × List Int)) (prev k : Int) (b : List Int), sumsF prev (l ++ [(k, b)]) = sumsF prev l ++ [chF (lastS prev l) k b]
  | [], prev, k, b => by simp [sumsF, lastS]
  | (k', b') :: r, prev, k, b => by
    rw [List.cons_append, sumsF, sumsF_snoc r, sumsF, lastS, List.cons_append]
theorem sumsF_len : ∀ (l : List (Int × List Int)) (prev : Int), (sumsF prev l).length = l.length + 1
  | [], prev => rfl
  | (k', b') :: r, prev => by rw [sumsF, List.length_cons, sumsF_len r, List.length_cons]
theorem sumsF_last : ∀ (l : List (Int × List Int)) (prev : Int), Quo.gd (sumsF prev l) l.length = lastS prev l
  | [], prev => rfl
  | (k', b') :: r, prev => by
    have := sumsF_last r (chF prev k' b')
    rw [sumsF, lastS, ← this]
    simp [Quo.gd]
end Go.Wire
namespace Go.Proofs.Ytbhbamgnapcbaaa
set_option linter.unusedVariables false
open Go.RowKit Go.Own Go.Quo Go.Wire
def recOf (r : Rc) : Int × List Int := (r.kind, r.body)
/-- A journal with these records upon a file with exactly their bytes. -/
def JS (w : World) (Z : Nat → Prop) (p j : Nat) (recs : List (Int × List Int)) (dur : Int) (off : Bool) : Prop :=
  ∃ (A : Option Addr) (c : Nat) (Ar : Option Addr) (cr : Nat) (As : Option Addr) (cs : Nat) (rs : List Rc), JZ w Z p j A c Ar cr As cs rs (sumsF initS recs) (encJ initS recs) dur off ∧ rs.map recOf = recs
theorem JS.fr {w w' : World} {Z S : Nat → Prop} {p j : Nat} {recs : List (Int × List Int)} {dur : Int} {off : Bool} (h : JS w Z p j recs dur off) (hf : Fr S w w') (hS : ∀ g, Z g → ¬ S g) : JS w' Z p j recs dur off := by
  obtain ⟨A, c, Ar, cr, As, cs, rs, h1, h2⟩ := h
  exact ⟨A, c, Ar, cr, As, cs, rs, h1.fr hf hS, h2⟩
def JSPost (Z : Nat → Prop) (p j : Nat) (recs : List (Int × List Int)) (dur : Int) (w : World) (e : Ending) (w' : World) : Prop := e = .returned (.int .i64 0) ∧ JS w' (fun k => Z k ∨ w.heap.size ≤ k) p j recs dur false ∧ Fr Z w w'
theorem js_append (w : World) (Z : Nat → Prop) (p j : Nat) (recs : List (Int × List Int)) (dur kind : Int) (A0 : Option Addr) (c0 : Nat) (body : List Int)
    (h : JS w Z p j recs dur false) (hk0 : 0 ≤ kind) (hk1 : kind < 256) (hB : Bytes body) (hbl : body.length ≤ 8192) (hb : Reads w (fun k => ¬ Z k) 1 A0 body.length (bys body))
    (hfit : (encJ initS (recs ++ [(kind, body)])).length ≤ 16777216) (hrl : recs.length ≤ 1000000) :
    Calls Try.prog 12 #[.pointer (some ⟨j, 0, none⟩), recV kind A0 body.length c0] w (JSPost Z p j (recs ++ [(kind, body)]) dur w) := by
  obtain ⟨A, c, Ar, cr, As, cs, rs, h1, h2⟩ := h
  have hl : rs.length = recs.length := by rw [← h2]; simp
  rw [encJ_snoc, List.length_append] at hfit
  refine (jappend_any w Z p j A c Ar cr As cs rs _ _ dur (lastS initS recs) kind A0 c0 body h1 hk0 hk1 hB hbl hb (by rw [sumsF_len, hl]) (by rw [hl, sumsF_last]) hfit (by omega)).mono ?_
  rintro e w' ⟨A', c', Ar', cr', As', cs', A5, c5, rfl, hj, hf⟩
  refine ⟨rfl, ⟨A', c', Ar', cr', As', cs', rs ++ [Rc.mk kind A5 c5 body], ?_, by rw [List.map_append, h2]; rfl⟩, hf⟩
  rw [sumsF_snoc, encJ_snoc]
  exact hj
set_option maxRecDepth 10000 in
set_option maxHeartbeats 1000000 in
theorem js_sync (w : World) (Z : Nat → Prop) (p j : Nat) (recs : List (Int × List Int)) (dur : Int) (h : JS w Z p j recs dur false) :
    Calls Try.prog 62 #[.pointer (some ⟨j, 0, none⟩)] w fun e w' => e = .returned (.int .i64 0) ∧ JS w' Z p j recs (encJ initS recs).length false ∧ Fr Z w w' := by
  obtain ⟨A, c, Ar, cr, As, cs, rs, h1, h2⟩ := h
  have hpj : p ≠ j := h1.fb.ne_ h1.jb (by decide)
  have HF := Lib.hid (sync_any w p (fun g => (Value.slice A (encJ initS recs).length c).ownBlock = some g) (encJ initS recs) dur ⟨A, c, h1.fb, h1.fo, fun g hg => hg⟩)
  obtain ⟨q0, q1, q2⟩ := h1.jb.facts
  have H2 := Lib.hid h2
  clear h2
  go_enter Try.func62, Try.ntmps62
  go_wp2_with (go_at_call 35; ((with_reducible refine HF.out.mono ?_); rintro e w2 ⟨rfl, hF2, hf2⟩))
  go_ret
  obtain ⟨A2, c2, fb2, fo2, zf2⟩ := hF2
  refine ⟨rfl, ⟨A2, c2, Ar, cr, As, cs, rs, ⟨fb2, fo2, h1.jb.fr hf2 (fun e => hpj e.symm), own_fr h1.ro hf2 (fun g hg e => own_ne h1.ro h1.fb (by decide) g hg e), own_fr h1.so hf2 (fun g hg e => own_ne h1.so h1.fb (by decide) g hg e), h1.zp, h1.zj, fun g hg => h1.zf g (zf2 g hg), h1.zr, h1.zs, fun r hr => ((h1.bd r hr).fr hf2 (fun k hk e => hk.2.1 e)).more (fun k hk => ⟨hk.1, hk.2.1, hk.2.2.1, fun e => hk.2.2.2.1 (zf2 k e), hk.2.2.2.2.1, hk.2.2.2.2.2⟩)⟩, H2.out⟩, hf2.mono (fun k _ e => e ▸ h1.zp)⟩
set_option maxRecDepth 10000 in
set_option maxHeartbeats 1000000 in
theorem store_any (w : World) (Z : Nat → Prop) (p j v : Nat) (recs : List (Int × List Int)) (dur kind term voted : Int) (A0 : Option Addr) (c0 : Nat) (body : List Int)
    (hv : Blk w v 91 #[.pointer (some ⟨j, 0, none⟩), .int .i64 term, .int .i64 voted]) (hvz : ¬ Z v) (h : JS w Z p j recs dur false) (hk0 : 0 ≤ kind) (hk1 : kind < 256) (hB : Bytes body) (hbl : body.length ≤ 8192) (hb : Reads w (fun k => ¬ Z k) 1 A0 body.length (bys body))
    (hfit : (encJ initS (recs ++ [(kind, body)])).length ≤ 16777216) (hrl : recs.length ≤ 1000000) :
    Calls Try.prog 47 #[.pointer (some ⟨v, 0, none⟩), .int .u8 kind, .slice A0 body.length c0] w (JSPost Z p j (recs ++ [(kind, body)]) (encJ initS (recs ++ [(kind, body)])).length w) := by
  have HA := Lib.hid (js_append w Z p j recs dur kind A0 c0 body h hk0 hk1 hB hbl hb hfit hrl)
  have HS := Lib.hid fun W' Z' dur' (x : JS W' Z' p j (recs ++ [(kind, body)]) dur' false) => js_sync W' Z' p j (recs ++ [(kind, body)]) dur' x
  obtain ⟨q0, q1, q2⟩ := hv.facts
  have hvl := hv.lt
  clear h hb hB hfit
  go_enter Try.func47, Try.ntmps47
  go_wp2_with fail
  refine HA.out.mono ?_
  rintro e w2 ⟨rfl, hj2, hf2⟩
  have hv2 := hv.fr hf2 hvz
  obtain ⟨x0, x1, x2⟩ := hv2.facts
  go_wp2_with fail
  refine (HS.out w2 _ _ hj2).mono ?_
  rintro e w3 ⟨rfl, hj3, hf3⟩
  go_wp2
  go_ret
  refine ⟨rfl, hj3, ?_⟩
  have hm : Fr Z w w3 := by
    refine ⟨hf3.os.trans hf2.os, hf3.tape.trans hf2.tape, hf3.output.trans hf2.output, Nat.le_trans hf2.size hf3.size, fun k hk hn => ?_⟩
    exact (hf3.block k (Nat.lt_of_lt_of_le hk hf2.size) (fun hh => hh.elim hn (fun e => by omega))).trans (hf2.block k hk hn)
  exact hm
end Go.Proofs.Ytbhbamgnapcbaaa

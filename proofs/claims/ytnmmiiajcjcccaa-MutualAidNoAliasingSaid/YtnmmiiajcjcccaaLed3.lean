import Derived.Test.YtnmmiiajcjcccaaLed2
import Derived.Test.YtnmmiiajcjcccaaAid4
namespace Go.Aid
open Go.Quo (gd gd_get)
theorem eraseP_filter {u : Int} : ∀ {ls : List Ln}, (ls.map (·.u)).Nodup → ls.eraseP (fun x => x.u == u) = delU ls u
  | [], _ => rfl
  | a :: r, h => by
    rw [List.map_cons, List.nodup_cons] at h
    rw [List.eraseP_cons]
    by_cases hc : a.u = u
    · have e1 : (a.u == u) = true := by simpa using hc
      rw [e1]
      have : delU r u = r := delU_none (fun x hx e => h.1 (by rw [hc, ← e]; exact List.mem_map_of_mem hx))
      show r = (a :: r).filter _
      rw [List.filter_cons_of_neg (by simp [hc])]
      exact this.symm
    · have e1 : (a.u == u) = false := by simpa using hc
      rw [e1]
      show a :: _ = (a :: r).filter _
      rw [List.filter_cons_of_pos (by simp [hc]), eraseP_filter h.2]
      rfl
theorem LOk.nodup {s : LSt} {k : Nat} (h : LOk s k) : (s.now.map (·.u)).Nodup := by
  rw [List.Nodup, List.pairwise_map]
  exact h.srt.imp (fun hab e => by omega)
end Go.Aid
namespace Go.Proofs.Ytnmmiiajcjcccaa
set_option linter.unusedVariables false
open Go.RowKit Go.Own Go.Quo Go.Aid
theorem kdel_ln (ls : List Ln) (u : Int) : kdel (ls.map lnKV) u = (ls.eraseP (fun x => x.u == u)).map lnKV := by
  unfold kdel
  induction ls with
  | nil => rfl
  | cons a r ih =>
    rw [List.map_cons, List.eraseP_cons, List.eraseP_cons]
    show cond (a.u == u) _ _ = _
    cases a.u == u with
    | true => rfl
    | false => simp only [cond_false, ih, List.map_cons]
set_option maxRecDepth 10000 in
set_option maxHeartbeats 4000000 in
theorem return_any (p m g : Nat) (s : LSt) (ls : List Ln) (u : Int) (w : World) (h : Led w p m g s ls) (hnd : (s.now.map (·.u)).Nodup) :
    Calls Try.prog 27 #[.pointer (some ⟨p, 0, none⟩), .int .i64 u] w (LendPost p m g s w (backF s u)) := by
  have HL := Lib.hid h
  obtain ⟨q0, q1, q2⟩ := h.pb.facts
  obtain ⟨npm, npg, nmg, hpl, hml, hgl⟩ := h.ne
  have hmb := h.mb
  have hml2 : m < w.heap.size + 1 := by omega
  have hpl2 : p < w.heap.size + 1 := by omega
  have hpe := hasU_perm h.pm u
  have HB := Lib.hid (show backF s u = if hasU s.now u = true then (⟨s.n, delU s.now u, s.all⟩, 0) else (s, 4) from rfl)
  have hnd2 : (ls.map (·.u)).Nodup := (h.pm.map _).symm.nodup hnd
  obtain ⟨kv, hkv⟩ : ∃ kv, ls.map lnKV = kv := ⟨_, rfl⟩
  have HMd := Lib.hid (show kdel kv u = (delU ls u).map lnKV by rw [← hkv, kdel_ln, eraseP_filter hnd2])
  have HPm := Lib.hid (show (delU ls u).Perm (delU s.now u) from h.pm.filter _)
  have HKv := Lib.hid hkv
  rw [hkv] at hmb
  have hdl := fun (W : World) (hW : MapB W m .i64 kv) (ty : TypeId) => MapB.delete (P := Try.prog) hW Try.underlying70 Try.underlying3 u ty 3
  cases hu : hasU s.now u with
  | false =>
    have hkg := kget_none (hpe.trans hu)
    rw [hkv] at hkg
    have hlk : ∀ W : World, MapB W m .i64 kv → (Instr.lookup 70 (.map (some m)) (.int .i64 u) true).run Try.prog W = .ok (.tuple #[.agg #[.int .i64 0, .int .i64 0, .int .i64 0], .bool false]) W := fun W hW => by
      have := MapB.lookup (P := Try.prog) hW Try.underlying70 Try.underlying3 zero56 u true
      rw [hkg] at this
      simpa using this
    rw [HB.out, if_neg (by rw [hu]; decide)]
    clear h hkv hkg hu hpe hnd hnd2 HB
    go_enter Try.func27, Try.ntmps27
    go_wp2_with fail
    go_ret
    have hf : Fr (fun _ => False) w (w.alloc (.cells #[.int .i64 0, .int .i64 0, .int .i64 0] 56)) := (Fr.refl _ _).alloc _
    exact ⟨rfl, ls, HL.out.fr hf id id id, hf.mono (fun _ _ h => h.elim)⟩
  | true =>
    obtain ⟨x, hx, hxu, hkg⟩ := kget_some (hpe.trans hu)
    rw [hkv] at hkg
    have hlk : ∀ W : World, MapB W m .i64 kv → (Instr.lookup 70 (.map (some m)) (.int .i64 u) true).run Try.prog W = .ok (.tuple #[lnV x, .bool true]) W := fun W hW => by
      have := MapB.lookup (P := Try.prog) hW Try.underlying70 Try.underlying3 zero56 u true
      rw [hkg] at this
      simpa using this
    rw [HB.out, if_pos hu]
    clear h hkv hkg hu hpe hnd hnd2 HB hx hxu
    obtain ⟨xf, xt, xu⟩ := x
    simp only [lnV] at hlk
    go_enter Try.func27, Try.ntmps27
    go_wp2_with fail
    go_ret
    have z1 : Blk (w.alloc (.cells #[.int .i64 xf, .int .i64 xt, .int .i64 xu] 56)) p 72 _ := HL.out.pb.alloc _
    have z2 : MapB (w.alloc (.cells #[.int .i64 xf, .int .i64 xt, .int .i64 xu] 56)) m .i64 kv := hmb.alloc _
    have z3 : IB (w.alloc (.cells #[.int .i64 xf, .int .i64 xt, .int .i64 xu] 56)) g 2 _ := HL.out.gb.alloc _
    refine ⟨rfl, delU ls u, ⟨z1.mdel m _ _, ?_, z3.mdel m _ _, HPm.out⟩, ((Fr.refl _ _).alloc _).mdel (.inl (.inl rfl)) _ _⟩
    rw [← HMd.out]
    exact z2.del u
/-- Fresh numbers of 64 bits. -/
def I64Post (l : List Int) (w : World) (e : Ending) (w' : World) : Prop :=
  ∃ g c, e = .returned (.slice (some ⟨g, 0, none⟩) l.length c) ∧ w'.ownsRow w.heap.size 2 1 (.slice (some ⟨g, 0, none⟩) l.length c) l.length (l.map (Value.int .i64)) ∧ Below w.heap.size w w'
set_option maxRecDepth 10000 in
set_option maxHeartbeats 1000000 in
theorem clone_any (B : Nat → Prop) (a : Addr) (c : Nat) (l : List Int) (w : World) (h : Reads w B 1 (some a) l.length (l.map (Value.int .i64))) (hl : l.length ≤ 1000) :
    Calls Try.prog 42 #[.slice (some a) l.length c] w (I64Post l w) := by
  have HR := Lib.hid h
  have hnil2 : ∀ (a : Addr) (n c : Nat) (W : World), (binOp .eql 53 (.slice (some a) n c) (.slice none 0 0)).run Try.prog W = .ok (.bool false) W := fun _ _ _ _ => by rfl
  clear h
  go_enter Try.func42, Try.ntmps42
  go_wp2_with (at_builtin; refine wpList_append_any _ rfl _ _ _ rfl w.heap.size 2 (.int .i64 0) 1 8 Try.underlying53 info2 rfl (by omega) (.slice (some ⟨w.heap.size, 0, none⟩) 0 0) 0 [] rfl (World.ownsRow_lit w #[] 0 (Nat.le_refl _) (by simp [maxLen]) (by simp)) _ (some a) l.length c (l.map (Value.int .i64)) rfl (HR.out.alloc _) (ints_one l) (by simp only [maxLen]; omega) (by omega) (by simp) ?_; intro A2 c2 w2 hown hgr hat)
  go_ret
  rw [Nat.zero_add] at *
  obtain ⟨g, rfl⟩ := own_not_nil hown hat
  refine ⟨g, c2, rfl, by simpa using hown, ?_⟩
  exact (Below.grown (row := some w.heap.size) ((Below.refl _ _).alloc (Nat.le_refl _) _) hgr (by simp) (fun k hk => by cases hk; exact Nat.le_refl _))
set_option maxHeartbeats 1000000 in
theorem balances_any (p m g : Nat) (s : LSt) (ls : List Ln) (w : World) (h : Led w p m g s ls) (hn : s.n ≤ 64) :
    Calls Try.prog 25 #[.pointer (some ⟨p, 0, none⟩)] w (I64Post (debts s.n s.all) w) := by
  obtain ⟨q0, q1, q2⟩ := h.pb.facts
  have C := clone_any (· = g) ⟨g, 0, none⟩ s.n (debts s.n s.all) w (IB.reads h.gb) (by rw [debts_len]; omega)
  rw [debts_len] at C
  have HC := Lib.hid C
  clear h C
  go_enter Try.func25, Try.ntmps25
  go_wp2_with fail
  refine HC.out.mono ?_
  rintro e w' ⟨g', c', rfl, ho, hb⟩
  go_wp2_with fail
  go_ret
  exact ⟨g', c', rfl, ho, hb⟩
end Go.Proofs.Ytnmmiiajcjcccaa

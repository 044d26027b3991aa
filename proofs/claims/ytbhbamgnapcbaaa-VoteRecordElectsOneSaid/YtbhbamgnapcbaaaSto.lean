import Derived.Test.YtbhbamgnapcbaaaChk
namespace Go.Proofs.Ytbhbamgnapcbaaa
set_option linter.unusedVariables false
open Go.RowKit Go.Own Go.Quo Go.Wire
/-- A file at block p; its bytes lie in an own row whose block satisfies X. -/
def FileP (w : World) (p : Nat) (X : Nat → Prop) (data : List Int) (dur : Int) (off : Bool) : Prop :=
  ∃ A c, Blk w p 86 #[.slice A data.length c, .int .i64 dur, .bool off] ∧ w.ownsRow 0 5 1 (.slice A data.length c) data.length (bys data) ∧ ∀ g, (Value.slice A data.length c).ownBlock = some g → X g
theorem FileP.fr {w w' : World} {p : Nat} {X S : Nat → Prop} {data : List Int} {dur : Int} {off : Bool} (h : FileP w p X data dur off) (hf : Fr S w w') (hp : ¬ S p) (hX : ∀ g, X g → ¬ S g) : FileP w' p X data dur off := by
  obtain ⟨A, c, h1, h2, h3⟩ := h
  refine ⟨A, c, h1.fr hf hp, ?_, h3⟩
  rcases h2.2 with ⟨e1, e2⟩ | ⟨g, cap, cur, e1, e2, e3, e4⟩
  · exact ⟨h2.1, .inl ⟨e1, e2⟩⟩
  · exact ⟨h2.1, .inr ⟨g, cap, cur, e1, e2, (hf.block g (Array.getElem?_eq_some_iff.1 e3).1 (hX g (h3 g (by rw [e1]; rfl)))).trans e3, e4⟩⟩
theorem FileP.more {w : World} {p : Nat} {X X' : Nat → Prop} {data : List Int} {dur : Int} {off : Bool} (h : FileP w p X data dur off) (hX : ∀ g, X g → X' g) : FileP w p X' data dur off := by
  obtain ⟨A, c, h1, h2, h3⟩ := h
  exact ⟨A, c, h1, h2, fun g hg => hX g (h3 g hg)⟩
theorem FileP.lt {w : World} {p : Nat} {X : Nat → Prop} {data : List Int} {dur : Int} {off : Bool} (h : FileP w p X data dur off) : p < w.heap.size := by obtain ⟨A, c, h1, _⟩ := h; exact h1.lt
theorem own_set {w : World} {base : Nat} {e : TypeId} {size n : Nat} {v : Value} {xs : List Value} (h : w.ownsRow base e size v n xs) {p : Addr} (hp : ∀ g, v.ownBlock = some g → g ≠ p.block) (u : Value) : (w.setCell p u).ownsRow base e size v n xs :=
  h.kept (row := some p.block) ⟨rfl, rfl, rfl, by simp, fun k hk hne => Below.heap_setCell w p u k (fun e => hne (by rw [e]))⟩ (by
    cases hv : v.ownBlock with
    | none => exact .inl rfl
    | some k => right; intro e; cases e; exact hp _ hv rfl)
/-- An own row is none of the struct's blocks. -/
theorem own_ne {w : World} {base p : Nat} {e t : TypeId} {size n : Nat} {v : Value} {xs : List Value} {cs : Array Value} (h : w.ownsRow base e size v n xs) (hb : Blk w p t cs) (hne : e ≠ t) : ∀ g, v.ownBlock = some g → g ≠ p := by
  intro g hg he
  subst he
  rcases h.2 with ⟨e1, e2⟩ | ⟨g', cap, cur, e1, e2, e3, e4⟩
  · rw [e1] at hg; cases hg
  · rw [e1] at hg
    simp [Value.ownBlock] at hg
    subst hg
    rw [hb] at e3
    injection e3 with e3
    injection e3 with _ e5
    exact hne e5.symm
theorem own_cap {w : World} {base : Nat} {e : TypeId} {size n c : Nat} {A : Option Addr} {xs : List Value} (h : w.ownsRow base e size (.slice A n c) n xs) : n ≤ c := by
  rcases h.2 with ⟨e1, e2⟩ | ⟨g, cap, cur, e1, e2, e3, e4, _⟩
  · have : n = 0 := e2
    omega
  · injection e1 with _ _ e6
    omega
set_option maxRecDepth 10000 in
set_option maxHeartbeats 1000000 in
theorem storage_new (w : World) : Calls Try.prog 11 #[] w fun e w' => e = .returned (.pointer (some ⟨w.heap.size, 0, none⟩)) ∧ FileP w' w.heap.size (fun _ => False) [] 0 false ∧ Below w.heap.size w w' := by
  go_enter Try.func11, Try.ntmps11
  go_wp2
  go_ret
  refine ⟨rfl, ⟨none, 0, Blk.new w 86 _, World.ownsRow_nil _ _ _ _, fun g hg => by cases hg⟩, (Below.refl _ _).alloc (Nat.le_refl _) _⟩
set_option maxRecDepth 10000 in
set_option maxHeartbeats 1000000 in
theorem sync_any (w : World) (p : Nat) (X : Nat → Prop) (data : List Int) (dur : Int) (h : FileP w p X data dur false) :
    Calls Try.prog 35 #[.pointer (some ⟨p, 0, none⟩)] w fun e w' => e = .returned (.int .i64 0) ∧ FileP w' p X data data.length false ∧ Fr (· = p) w w' := by
  obtain ⟨A, c, h1, h2, h3⟩ := h
  obtain ⟨q0, q1, q2⟩ := h1.facts
  go_enter Try.func35, Try.ntmps35
  go_wp2
  go_ret
  refine ⟨rfl, ⟨A, c, by simpa using h1.set_ 1 (.int .i64 data.length), own_set h2 (own_ne h2 h1 (by decide)) _, h3⟩, (Fr.refl (fun x => x = p) _).setCell (.inl rfl) _⟩
set_option maxRecDepth 10000 in
set_option maxHeartbeats 1000000 in
theorem powerOn_any (w : World) (p : Nat) (X : Nat → Prop) (data : List Int) (dur : Int) (off : Bool) (h : FileP w p X data dur off) :
    Calls Try.prog 24 #[.pointer (some ⟨p, 0, none⟩)] w fun e w' => e = .returned (.tuple #[]) ∧ FileP w' p X data dur false ∧ Fr (· = p) w w' := by
  obtain ⟨A, c, h1, h2, h3⟩ := h
  obtain ⟨q0, q1, q2⟩ := h1.facts
  go_enter Try.func24, Try.ntmps24
  go_wp2
  refine bodyPost_end (v := .tuple #[]) (by simp [results, Try.results24, go_sem]) rfl ⟨rfl, ⟨A, c, by simpa using h1.set_ 2 (.bool false), own_set h2 (own_ne h2 h1 (by decide)) _, h3⟩, (Fr.refl (fun x => x = p) _).setCell (.inl rfl) _⟩
set_option maxRecDepth 10000 in
set_option maxHeartbeats 1000000 in
theorem bytes_any (w : World) (p : Nat) (X : Nat → Prop) (data : List Int) (dur : Int) (h : FileP w p X data dur false) (hl : data.length ≤ 16777216) :
    Calls Try.prog 30 #[.pointer (some ⟨p, 0, none⟩)] w fun e w' => ∃ A c, e = .returned (.tuple #[.slice A data.length c, .int .i64 0]) ∧ Reads w' (w.heap.size ≤ ·) 1 A data.length (bys data) ∧ data.length ≤ c ∧ Below w.heap.size w w' := by
  obtain ⟨A, c, h1, h2, h3⟩ := h
  obtain ⟨q0, q1, q2⟩ := h1.facts
  have hr := Reads.of_own h2
  go_enter Try.func30, Try.ntmps30
  go_wp2_with (at_builtin; refine wpList_append_any _ rfl _ _ _ rfl w.heap.size 5 _ 1 1 Try.underlying31 info5 rfl (by omega) (.slice none 0 0) 0 [] rfl (World.ownsRow_nil _ _ _ _) _ A data.length c (bys data) rfl hr (bys_one data) (by simp only [maxLen]; omega) (by omega) (by simp) ?_; intro A4 c4 w4 hown4 hgr4 hat4)
  have hown4' : w4.ownsRow w.heap.size 5 1 (.slice A4 data.length c4) data.length (bys data) := by simpa using hown4
  exact bodyPost_ret (v := .tuple #[.slice A4 data.length c4, .int .i64 0]) (by simp [results, Try.results30, go_sem]) rfl ⟨A4, c4, rfl, (Reads.of_own hown4').more (fun g hg => (hown4'.lt g hg).1), own_cap hown4', (Below.refl _ _).grown hgr4 (Nat.le_refl _) (fun g hg => by cases hg)⟩
set_option maxRecDepth 10000 in
set_option maxHeartbeats 1000000 in
theorem write_any (w : World) (p : Nat) (X : Nat → Prop) (data : List Int) (dur : Int) (Bb : Nat → Prop) (Ab : Option Addr) (cb : Nat) (b : List Int) (h : FileP w p X data dur false) (hb : Reads w Bb 1 Ab b.length (bys b)) (hl : data.length + b.length ≤ 16777216) :
    Calls Try.prog 37 #[.pointer (some ⟨p, 0, none⟩), .slice Ab b.length cb] w fun e w' => e = .returned (.int .i64 0) ∧ FileP w' p (fun k => X k ∨ w.heap.size ≤ k) (data ++ b) dur false ∧ Fr (fun k => k = p ∨ X k) w w' := by
  obtain ⟨A, c, h1, h2, h3⟩ := h
  obtain ⟨q0, q1, q2⟩ := h1.facts
  have hn := own_ne h2 h1 (by decide)
  have hsp : ¬ ((16777216 : Int) - data.length < b.length) := by omega
  go_enter Try.func37, Try.ntmps37
  go_wp2_with (at_builtin; refine wpList_append_any _ rfl _ _ _ rfl 0 5 _ 1 1 Try.underlying31 info5 rfl (by omega) (.slice A data.length c) data.length (bys data) rfl h2 _ Ab b.length cb (bys b) rfl hb (bys_one b) (by simp only [maxLen]; omega) (by omega) (by simp) ?_; intro A4 c4 w4 hown4 hgr4 hat4; have j4 := h1.grown hgr4 (fun e => hn p e.symm rfl); obtain ⟨y0, y1, y2⟩ := j4.facts)
  go_ret
  have e4 : (data ++ b).length = data.length + b.length := List.length_append
  have o4 : w4.ownsRow 0 5 1 (.slice A4 (data ++ b).length c4) (data ++ b).length (bys (data ++ b)) := by rw [e4]; simpa [bys] using hown4
  have hat : ∀ g, (Value.slice A4 (data ++ b).length c4).ownBlock = some g → X g ∨ w.heap.size ≤ g := by
    intro g hg
    rw [e4] at hg
    rcases hat4 with h | h
    · rw [h] at hg; exact .inl (h3 g hg)
    · rw [h] at hg; cases hg; exact .inr (Nat.le_refl _)
  refine ⟨rfl, ⟨A4, c4, by rw [e4]; simpa using j4.set_ 0 (.slice A4 (data.length + b.length) c4), own_set o4 (own_ne o4 j4 (by decide)) _, hat⟩, ?_⟩
  exact ((Fr.refl (fun k => k = p ∨ X k) w).grown hgr4 (fun k hk => .inl (.inr (h3 k hk)))).setCell (.inl (.inl rfl)) _
theorem run_full {A : Option Addr} {n c : Nat} (hn : n ≤ c) (W : World) : (Instr.slice 31 (.slice A n c) none (some (.int .i64 (n : Int))) none).run Try.prog W = .ok (.slice A n c) W := by
  have hu : Try.prog.underlying 31 = some (.slice (Try.prog.elem 31)) := by kernel_rfl
  have he : Try.prog.elem 31 = 5 := by kernel_rfl
  obtain ⟨i, h1, h2⟩ := i5x
  rw [run_slice_h W 31 A n c hu .i64 (n : Int) (by omega) (by omega), he]
  cases A with
  | none => simp [sizeOf, typeInfo, h1, h2, sliced]
  | some a => simp [sizeOf, typeInfo, h1, h2, sliced, add_zero_]
theorem run_full2 {A : Option Addr} {n c : Nat} (hn : n ≤ c) (W : World) : (Instr.sliceAt 31 (.slice A n c) none (some (.int .i64 (n : Int))) none).run Try.prog W = .ok (.slice A n c) W := by
  have hu : Try.prog.underlying 31 = some (.slice (Try.prog.elem 31)) := by kernel_rfl
  rw [run_sliceAt_slice W 31 _ _ _ _ hu]
  exact run_full hn W
set_option maxRecDepth 10000 in
set_option maxHeartbeats 1000000 in
theorem truncate_full (w : World) (p : Nat) (X : Nat → Prop) (data : List Int) (dur : Int) (h : FileP w p X data dur false) (hd : dur ≤ data.length) :
    Calls Try.prog 34 #[.pointer (some ⟨p, 0, none⟩), .int .i64 (data.length : Int)] w fun e w' => e = .returned (.int .i64 0) ∧ FileP w' p X data dur false ∧ Fr (· = p) w w' := by
  obtain ⟨A, c, h1, h2, h3⟩ := h
  obtain ⟨q0, q1, q2⟩ := h1.facts
  have hc := own_cap h2
  have r1 := fun W => run_full (A := A) hc W
  have r2 := fun W => run_full2 (A := A) hc W
  have hmin : min dur (data.length : Int) = dur := Int.min_eq_left hd
  go_enter Try.func34, Try.ntmps34
  go_wp2
  go_ret
  refine ⟨rfl, ⟨A, c, by simpa using (h1.set_ 0 (.slice A data.length c)).set_ 1 (.int .i64 dur), own_set (own_set h2 (own_ne h2 h1 (by decide)) _) (own_ne h2 h1 (by decide)) _, h3⟩, ((Fr.refl (fun x => x = p) _).setCell (.inl rfl) _).setCell (.inl rfl) _⟩
set_option maxRecDepth 10000 in
set_option maxHeartbeats 2000000 in
theorem powerFail_any (w : World) (p : Nat) (X : Nat → Prop) (data : List Int) (keep mask : Int) (h : FileP w p X data data.length false) (hl : data.length ≤ 16777216) (hk0 : 0 ≤ keep) :
    Calls Try.prog 23 #[.pointer (some ⟨p, 0, none⟩), .int .i64 keep, .int .u8 mask] w fun e w' => e = .returned (.tuple #[]) ∧ FileP w' p X data data.length true ∧ Fr (· = p) w w' := by
  obtain ⟨A, c, h1, h2, h3⟩ := h
  have hc := own_cap h2
  have r1 := fun W => run_full (A := A) hc W
  have r2 := fun W => run_full2 (A := A) hc W
  have hmx : max keep 0 = keep := by omega
  have hmn : min keep 0 = 0 := by omega
  have hz : (data.length : Int) - data.length = 0 := by omega
  have hw0 : IntKind.i64.wrap ((data.length : Int) - data.length) = 0 := by rw [hz]; rfl
  have hw1 : IntKind.i64.wrap (data.length : Int) = data.length := IntWalk.i64_in _ (by omega)
  have k1 := h1.set_ 2 (.bool true)
  have o1 := own_set h2 (own_ne h2 h1 (by decide)) (p := ⟨p, 2, none⟩) (.bool true)
  have f1 : Fr (fun x => x = p) w (w.setCell ⟨p, 2, none⟩ (.bool true)) := (Fr.refl (fun x => x = p) _).setCell (.inl rfl) _
  simp only [List.setIfInBounds_toArray, List.set_cons_succ, List.set_cons_zero] at k1
  obtain ⟨q0, q1, q2⟩ := h1.facts
  have H3 := Lib.hid h3
  clear h3 hz
  rcases (show keep = 0 ∨ 0 < keep by omega) with rfl | hkp
  all_goals
    go_enter Try.func23, Try.ntmps23
    go_wp2_with fail
    generalize w.setCell ⟨p, 2, none⟩ (.bool true) = W1 at *
    clear q0 q1 q2
    obtain ⟨q0, q1, q2⟩ := k1.facts
    go_quiet (fail)
    go_wp2_with fail
    refine wp_tail 14 (by kernel_rfl) (by kernel_rfl) (fun T hT => ?_)
    simp only [List.take_succ_cons, List.take_zero]
    repeat still_step
    refine wpStill_nil (hT _ ?_)
    clear hT T
    simp only [List.drop_succ_cons, List.drop_zero]
    go_wp2_with fail
    have kk := (k1.set_ 0 (.slice A data.length c)).set_ 1 (.int .i64 data.length)
    simp only [List.setIfInBounds_toArray, List.set_cons_succ, List.set_cons_zero] at kk
    have oo := own_set (own_set o1 (own_ne o1 k1 (by decide)) (p := ⟨p, 0, none⟩) (.slice A data.length c)) (own_ne o1 k1 (by decide)) (p := ⟨p, 1, none⟩) (.int .i64 data.length)
    exact bodyPost_end (v := .tuple #[]) (by simp [results, Try.results23, go_sem]) rfl ⟨rfl, ⟨A, c, kk.drewN _, oo, H3.out⟩, ((f1.setCell (.inl rfl) _).setCell (.inl rfl) _).drewN _⟩
end Go.Proofs.Ytbhbamgnapcbaaa

import Derived.OrdersHeld
import Derived.RegionTactic
import Derived.NoCompiler
namespace Go.Own
set_option linter.unusedVariables false
set_option linter.unusedSimpArgs false

/-! ### A drawn region whose last operation waits for all the others: it may be split off. -/
section
variable {P : Program} {init : Array Oper} {last : Oper} {Q : Exit → Act → World → Prop} {S : World → Prop}

/-- The post of the front: at its end the last operation is still to be done. -/
def lastPost (P : Program) (ops : Array Oper) (n : Nat) (Q : Exit → Act → World → Prop) : Exit → Act → World → Prop
  | .normal, a, w => wpOps P ops Q [n] a w
  | e, a, w => Q e a w

/-- every edge of the front points to an earlier operation, every guard too; the last operation's edges reach the whole front in one or two steps -/
def lastOk (init : Array Oper) (last : Oper) : Bool :=
  ((List.range init.size).all fun i => match init[i]? with
    | some o => (o.after.all fun e => !Region.binds .any e || decide (e.on < i)) && (match o.guard with | none => true | some (g, _) => decide (g < init.size))
    | none => true) &&
  (last.after.all fun e => decide (e.on < init.size)) &&
  ((List.range init.size).all fun j => last.after.any fun e => Region.binds .any e && (e.on == j || (match init[e.on]? with
    | some o => o.after.any fun e' => Region.binds .any e' && e'.on == j
    | none => false)))

theorem push_get (init : Array Oper) (last : Oper) {i : Nat} (h : i < init.size) : (init.push last)[i]? = init[i]? := by
  rw [Array.getElem?_push]; simp; omega
theorem push_get_last (init : Array Oper) (last : Oper) : (init.push last)[init.size]? = some last := by
  rw [Array.getElem?_push]; simp

theorem lastPost_of (P : Program) (ops : Array Oper) (n : Nat) (Q : Exit → Act → World → Prop) (e : Exit) (a : Act) (w : World) (he : e ≠ .normal) : lastPost P ops n Q e a w = Q e a w := by
  cases e <;> first | rfl | exact absurd rfl he

theorem Oper.wp_post {o : Oper} {a : Act} {w : World} {K : Act → World → Prop} {Q Q' : Exit → Act → World → Prop} (h : ∀ e a w, e ≠ .normal → Q' e a w → Q e a w)
    (hh : o.wp P a w K Q') : o.wp P a w K Q := by
  unfold Oper.wp at *
  generalize (execOp a.eval o).run P w = r at *
  cases r with
  | ok n w' =>
    cases n <;> simp only [Oper.upon] at hh ⊢ <;>
      first
        | exact hh
        | exact Calls.mono hh (fun e w'' he => by
            cases e with
            | returned v => exact he
            | panicked c => exact h _ _ _ (by simp) he
            | outgrown => exact (by obtain ⟨a, w, q⟩ := he; exact ⟨a, w, h _ _ _ (by simp) q⟩))
  | halt x w' => cases x <;> simp only [Oper.upon] at hh ⊢ <;> first | exact hh | exact h _ _ _ (by simp) hh

theorem wpOp_front {i : Nat} {n : Nat} {a : Act} {w : World} {K : Act → World → Prop} (hi : i < init.size)
    (hg : ∀ o g b, init[i]? = some o → o.guard = some (g, b) → g < init.size)
    (h : wpOp P init (lastPost P (init.push last) n Q) i K a w) : wpOp P (init.push last) Q i K a w := by
  unfold wpOp at *
  rw [push_get init last hi]
  have ho : init[i]? = some init[i] := Array.getElem?_eq_getElem hi
  rw [ho] at h ⊢
  simp only at h ⊢
  have hw : Region.wanted init[i] (yielded (init.push last) a.tmps) = Region.wanted init[i] (yielded init a.tmps) := by
    unfold Region.wanted
    cases hgd : init[i].guard with
    | none => rfl
    | some gb =>
      obtain ⟨g, b⟩ := gb
      have := hg _ g b ho hgd
      simp only [yielded, push_get init last this]
  rw [hw]
  split
  · rename_i hww
    rw [if_pos hww] at h
    rcases h with h | ⟨h1, a', w', q⟩
    · exact .inl (Oper.wp_post (fun e a w he q => by rw [lastPost_of _ _ _ _ _ _ _ he] at q; exact q) h)
    · exact .inr ⟨h1, a', w', q⟩
  · rename_i hww
    rw [if_neg hww] at h
    exact h

/-- closed downwards -/
def Closed (init : Array Oper) (listed : Array Bool) : Prop :=
  ∀ (k : Nat) (o : Oper), listed.getD k false = true → init[k]? = some o → ∀ e ∈ o.after, Region.binds .any e = true → listed.getD e.on false = true

theorem getD_lt {listed : Array Bool} {j : Nat} (h : j < listed.size) (d d' : Bool) : listed.getD j d = listed.getD j d' := by
  simp [h]
theorem getD_ge {listed : Array Bool} {j : Nat} (h : listed.size ≤ j) (d : Bool) : listed.getD j d = d := by
  simp [Array.getElem?_eq_none h]
theorem getD_push_lt {listed : Array Bool} {j : Nat} (h : j < listed.size) (b d : Bool) : (listed.push b).getD j d = listed.getD j d := by
  have : j ≠ listed.size := by omega
  simp [Array.getElem?_push, this]
theorem getD_push_eq {listed : Array Bool} (b d : Bool) : (listed.push b).getD listed.size d = b := by
  simp [Array.getElem?_push]

theorem any_mem {α : Type} {xs : Array α} {p : α → Bool} (h : xs.any p = true) : ∃ x ∈ xs, p x = true := by
  rw [Array.any_eq_true] at h
  obtain ⟨i, hi, hp⟩ := h
  exact ⟨xs[i], Array.getElem_mem hi, hp⟩

theorem lastOk_spec (h : lastOk init last = true) :
    (∀ (i : Nat) (o : Oper), init[i]? = some o → (∀ e ∈ o.after, Region.binds .any e = true → e.on < i) ∧ ∀ g b, o.guard = some (g, b) → g < init.size) ∧
    (∀ e ∈ last.after, e.on < init.size) ∧
    (∀ j, j < init.size → ∃ e ∈ last.after, Region.binds .any e = true ∧ (e.on = j ∨ ∃ o, init[e.on]? = some o ∧ ∃ e' ∈ o.after, Region.binds .any e' = true ∧ e'.on = j)) := by
  unfold lastOk at h
  simp only [Bool.and_eq_true, List.all_eq_true, List.mem_range, Array.all_eq_true_iff_forall_mem, decide_eq_true_eq] at h
  obtain ⟨⟨h1, h2⟩, h3⟩ := h
  refine ⟨fun i o ho => ?_, h2, fun j hj => ?_⟩
  · have hi : i < init.size := by
      rcases Nat.lt_or_ge i init.size with h | h
      · exact h
      · rw [Array.getElem?_eq_none h] at ho; cases ho
    have := h1 i hi
    rw [ho] at this
    simp only [Bool.and_eq_true, Array.all_eq_true_iff_forall_mem, decide_eq_true_eq] at this
    refine ⟨fun e he hb => by have := this.1 e he; rw [hb] at this; simpa using this, fun g b hg => ?_⟩
    have := this.2
    rw [hg] at this
    simpa using this
  · have := h3 j hj
    obtain ⟨e, he, h⟩ := any_mem this
    simp only [Bool.and_eq_true, Bool.or_eq_true, beq_iff_eq] at h
    refine ⟨e, he, h.1, ?_⟩
    rcases h.2 with h | h
    · exact .inl h
    · right
      split at h
      · rename_i o ho
        obtain ⟨e', he', h⟩ := any_mem h
        simp only [Bool.and_eq_true, beq_iff_eq] at h
        exact ⟨o, ho, e', he', h.1, h.2⟩
      · cases h

/-- nothing of the front may come up: all of it has come up -/
theorem all_listed (hok : lastOk init last = true) {listed : Array Bool} (hs : listed.size = init.size) (h : Region.ready .any init listed = []) : ∀ j, j < init.size → listed.getD j false = true := by
  intro j
  induction j using Nat.strongRecOn with
  | ind j ih =>
    intro hj
    cases hb : listed.getD j false with
    | true => rfl
    | false =>
      have ho : init[j]? = some init[j] := Array.getElem?_eq_getElem hj
      have : j ∈ Region.ready .any init listed := mem_ready.2 ⟨by rw [getD_lt (by omega) true false]; exact hb, _, ho, fun e he hbd => by
        have := ((lastOk_spec hok).1 j _ ho).1 e he hbd
        exact ih _ this (by omega)⟩
      rw [h] at this
      cases this

theorem last_ready (hok : lastOk init last = true) {listed : Array Bool} (hs : listed.size = init.size) (h : ∀ j, j < init.size → listed.getD j false = true) :
    init.size ∈ Region.ready .any (init.push last) (listed.push false) := by
  refine mem_ready.2 ⟨?_, last, push_get_last _ _, fun e he hb => ?_⟩
  · rw [← hs, getD_push_eq]
  · have := (lastOk_spec hok).2.1 e he
    rw [getD_push_lt (by omega)]
    exact h _ this

theorem ready_push (hok : lastOk init last = true) {listed : Array Bool} (hs : listed.size = init.size) {b : Bool} {i : Nat} (hi : i < init.size) :
    i ∈ Region.ready .any (init.push last) (listed.push b) ↔ i ∈ Region.ready .any init listed := by
  rw [mem_ready, mem_ready, push_get init last hi, getD_push_lt (by omega)]
  have ho : init[i]? = some init[i] := Array.getElem?_eq_getElem hi
  constructor
  · rintro ⟨h1, o, h2, h3⟩
    refine ⟨h1, o, h2, fun e he hb => ?_⟩
    have h4 := h3 e he hb
    have := ((lastOk_spec hok).1 i o h2).1 e he hb
    rw [getD_push_lt (by omega)] at h4
    exact h4
  · rintro ⟨h1, o, h2, h3⟩
    refine ⟨h1, o, h2, fun e he hb => ?_⟩
    have h4 := h3 e he hb
    have := ((lastOk_spec hok).1 i o h2).1 e he hb
    rw [getD_push_lt (by omega)]
    exact h4

theorem ready_le {ops : Array Oper} {listed : Array Bool} {i : Nat} (h : i ∈ Region.ready .any ops listed) : i < ops.size := by
  obtain ⟨-, o, h, -⟩ := mem_ready.1 h
  rcases Nat.lt_or_ge i ops.size with h' | h'
  · exact h'
  · rw [Array.getElem?_eq_none h'] at h; cases h

theorem last_forced (hok : lastOk init last = true) {listed : Array Bool} (hs : listed.size = init.size) (hc : Closed init listed)
    (h : init.size ∈ Region.ready .any (init.push last) (listed.push false)) : Region.ready .any init listed = [] := by
  obtain ⟨-, o, ho, h3⟩ := mem_ready.1 h
  rw [push_get_last] at ho
  injection ho with ho
  subst ho
  have hall : ∀ j, j < init.size → listed.getD j false = true := fun j hj => by
    obtain ⟨e, he, hb, h⟩ := (lastOk_spec hok).2.2 j hj
    have h4 := h3 e he hb
    have hlt := (lastOk_spec hok).2.1 e he
    rw [getD_push_lt (by omega)] at h4
    rcases h with rfl | ⟨o, ho, e', he', hb', rfl⟩
    · exact h4
    · exact hc _ o h4 ho e' he' hb'
  cases hr : Region.ready .any init listed with
  | nil => rfl
  | cons x xs =>
    have hx : x ∈ Region.ready .any init listed := by rw [hr]; exact List.mem_cons_self
    have h1 := (mem_ready.1 hx).1
    have h2 := hall x (ready_le hx)
    rw [getD_lt (by have := ready_le hx; omega) true false, h2] at h1
    cases h1

theorem Closed.set {listed : Array Bool} {i : Nat} (hs : listed.size = init.size) (hc : Closed init listed) (hi : i ∈ Region.ready .any init listed) : Closed init (listed.setIfInBounds i true) := by
  intro k o hk ho e he hb
  by_cases hki : i = k
  · subst hki
    obtain ⟨-, o', ho', h⟩ := mem_ready.1 hi
    rw [ho] at ho'
    injection ho' with ho'
    subst ho'
    exact getD_set_true (h e he hb)
  · rw [getD_set_ne _ hki] at hk
    exact getD_set_true (hc k o hk ho e he hb)

theorem push_set {listed : Array Bool} {i : Nat} (h : i < listed.size) (b : Bool) : (listed.push b).setIfInBounds i true = (listed.setIfInBounds i true).push b := by
  apply Array.ext_getElem?
  intro j
  simp only [Array.getElem?_setIfInBounds, Array.getElem?_push, Array.size_setIfInBounds, Array.size_push]
  by_cases hij : i = j
  · subst hij
    have h1 : i ≠ listed.size := by omega
    have h2 : i < listed.size + 1 := by omega
    simp [h, h1, h2]
  · simp [hij]

theorem push_set_last {listed : Array Bool} : (listed.push false).setIfInBounds listed.size true = listed.push true := by
  apply Array.ext_getElem?
  intro j
  simp only [Array.getElem?_setIfInBounds, Array.getElem?_push, Array.size_push]
  by_cases hij : listed.size = j
  · subst hij
    simp
  · have : j ≠ listed.size := fun e => hij e.symm
    simp [hij, this]

theorem none_left (hok : lastOk init last = true) {listed : Array Bool} (hs : listed.size = init.size) (h : Region.ready .any init listed = []) : Region.ready .any (init.push last) (listed.push true) = [] := by
  cases hr : Region.ready .any (init.push last) (listed.push true) with
  | nil => rfl
  | cons x xs =>
    have hx : x ∈ Region.ready .any (init.push last) (listed.push true) := by rw [hr]; exact List.mem_cons_self
    have hxs := ready_le hx
    simp at hxs
    by_cases hxn : x = init.size
    · subst hxn
      have := (mem_ready.1 hx).1
      rw [← hs, getD_push_eq] at this
      cases this
    · have := (ready_push hok hs (by omega)).1 hx
      rw [h] at this
      cases this

theorem last_step (hok : lastOk init last = true) {listed : Array Bool} (hs : listed.size = init.size) (hr : Region.ready .any init listed = []) {m : Nat} {a : Act} {w : World}
    (h : wpOps P (init.push last) Q [init.size] a w) : wpOp P (init.push last) Q init.size (wpAny P .any (init.push last) Q m ((listed.push false).setIfInBounds init.size true)) a w := by
  rw [wpOps_cons] at h
  refine wpOp_mono (fun a w q => ?_) h
  have hn : Region.ready .any (init.push last) ((listed.push false).setIfInBounds init.size true) = [] := by rw [← hs, push_set_last]; exact none_left hok hs hr
  cases m with
  | zero => exact ⟨hn, q⟩
  | succ m => exact ⟨fun _ => q, fun i hi => (by rw [hn] at hi; cases hi)⟩

theorem wpAny_last (hok : lastOk init last = true) : ∀ (m : Nat) (listed : Array Bool) (a : Act) (w : World), listed.size = init.size → Closed init listed →
    wpAnyH P .any init (lastPost P (init.push last) init.size Q) S m listed a w → wpAny P .any (init.push last) Q (m + 1) (listed.push false) a w := by
  intro m
  induction m with
  | zero =>
    intro listed a w hs hc h
    obtain ⟨h0, h1⟩ := h
    have hl := last_ready hok hs (all_listed hok hs h0)
    refine ⟨fun h => (by rw [h] at hl; cases hl), fun i hi => ?_⟩
    have hle := ready_le hi
    simp at hle
    by_cases hin : i = init.size
    · subst hin; exact last_step hok hs h0 h1
    · have := (ready_push hok hs (by omega)).1 hi
      rw [h0] at this; cases this
  | succ m ih =>
    intro listed a w hs hc h
    obtain ⟨h0, h1⟩ := h
    refine ⟨fun h => ?_, fun i hi => ?_⟩
    · exfalso
      have hr : Region.ready .any init listed = [] := by
        cases hr : Region.ready .any init listed with
        | nil => rfl
        | cons x xs =>
          have hx : x ∈ Region.ready .any init listed := by rw [hr]; exact List.mem_cons_self
          have := (ready_push (b := false) hok hs (ready_le hx)).2 hx
          rw [h] at this; cases this
      have := last_ready hok hs (all_listed hok hs hr)
      rw [h] at this; cases this
    · have hle := ready_le hi
      simp at hle
      by_cases hin : i = init.size
      · subst hin
        have hr := last_forced hok hs hc hi
        exact last_step hok hs hr (h0 hr)
      · have hi' := (ready_push hok hs (by omega)).1 hi
        refine wpOp_mono (fun a w q => ?_) (wpOp_front (by omega) (fun o g b ho hg => ((lastOk_spec hok).1 i o ho).2 g b hg) (h1 i hi'))
        rw [push_set (by omega)]
        exact ih _ a w (by simp [hs]) (hc.set hs hi') q.2

/-- The last operation itself. -/
theorem last_do {ops : Array Oper} {n : Nat} {a : Act} {w : World} (o : Oper) (ho : ops[n]? = some o)
    (h : ∀ K' : Act → World → Prop, (∀ a w, Q .normal a w → K' a w) → if Region.wanted o (yielded ops a.tmps) = true then Oper.wp P o a w K' Q else K' (a.put o.dst undef) w) :
    lastPost P ops n Q .normal a w := by
  show wpOps P ops Q [n] a w
  rw [wpOps_cons]
  exact wpOp_step ho (fun K' hK => h K' (fun a w q => hK a w q))

theorem wp_region_last {ops : Array Oper} {id : Nat} {a : Act} {w : World} (init : Array Oper) (last : Oper) (hops : ops = init.push last) (hm : P.follows .mixedOrders = true) (hok : lastOk init last = true) (hS : S w.drew)
    (h : S w.drew → wpAnyH P .any init (lastPost P ops init.size Q) S init.size (Array.replicate init.size false) a w.drew) : (Code.region id ops true).wp P Q a w := by
  subst hops
  refine wp_region_any hm ?_
  have := wpAny_last hok init.size (Array.replicate init.size false) a w.drew (by simp) (fun k o hk ho => by
    exfalso
    rcases Nat.lt_or_ge k init.size with hlt | hge
    · simp [hlt] at hk
    · rw [Array.getElem?_eq_none hge] at ho; cases ho) (h hS)
  have hr : Array.replicate (init.push last).size false = (Array.replicate init.size false).push false := by
    rw [Array.size_push, Array.replicate_succ]
  rw [hr, Array.size_push]
  exact this
end
end Go.Own

import Derived.Test.YtnpfbpfobbadaaaQuo6
import Derived.Test.YtnpfbpfobbadaaaQCom
namespace Go.Quo
/-! ### The smallest quorum -/
def cIn (o S : List Int) : Nat := (S.filter (hasB o)).length
theorem cIn_split (o n S : List Int) : cIn o S = bothN o n S + oldN o n S := by
  unfold cIn bothN oldN
  induction S with
  | nil => rfl
  | cons m r ih => cases h1 : hasB o m <;> cases h2 : hasB n m <;> simp [h1, h2] <;> omega
theorem cIn_split2 (o n S : List Int) : cIn n S = bothN o n S + newN o n S := by
  unfold cIn bothN newN
  induction S with
  | nil => rfl
  | cons m r ih => cases h1 : hasB o m <;> cases h2 : hasB n m <;> simp [h1, h2] <;> omega
theorem len_split (o n S : List Int) : bothN o n S + oldN o n S + newN o n S ≤ S.length := by
  unfold bothN oldN newN
  induction S with
  | nil => simp
  | cons m r ih => cases h1 : hasB o m <;> cases h2 : hasB n m <;> simp [h1, h2] <;> omega
def okK (oo nn a b : Int) (k : Nat) : Prop := max (a - k) 0 ≤ oo ∧ max (b - k) 0 ≤ nn
def fK (a b : Int) (k : Nat) : Int := k + max (a - k) 0 + max (b - k) 0
theorem best_spec (oo nn a b : Int) : ∀ m : Nat, (∀ k, k < m → okK oo nn a b k → 0 ≤ bestUpTo oo nn a b m ∧ bestUpTo oo nn a b m ≤ fK a b k) ∧ (0 ≤ bestUpTo oo nn a b m → ∃ k, k < m ∧ okK oo nn a b k ∧ bestUpTo oo nn a b m = fK a b k)
  | 0 => ⟨fun k hk => absurd hk (by omega), fun h => by simp [bestUpTo] at h⟩
  | m + 1 => by
    obtain ⟨h1, h2⟩ := best_spec oo nn a b m
    rw [bestUpTo_succ]
    generalize bestUpTo oo nn a b m = B at *
    unfold bestStep upd
    have hf0 : 0 ≤ fK a b m := by unfold fK; omega
    by_cases hc : max (a - m) 0 ≤ oo ∧ max (b - m) 0 ≤ nn ∧ (B < 0 ∨ (m : Int) + max (a - m) 0 + max (b - m) 0 < B)
    · rw [if_pos hc]
      refine ⟨fun k hk hok => ?_, fun _ => ⟨m, by omega, ⟨hc.1, hc.2.1⟩, rfl⟩⟩
      rcases (show k < m ∨ k = m by omega) with h | h
      · have := h1 k h hok
        unfold fK at *; omega
      · subst h; unfold fK at *; omega
    · rw [if_neg hc]
      refine ⟨fun k hk hok => ?_, fun hB => ?_⟩
      · rcases (show k < m ∨ k = m by omega) with h | h
        · exact h1 k h hok
        · subst h
          unfold okK at hok; unfold fK at *; omega
      · obtain ⟨k, e1, e2, e3⟩ := h2 hB
        exact ⟨k, by omega, e2, e3⟩
def Qs (o n r : List Int) (a b : Int) (S : List Int) : Prop := S.Sublist r ∧ a ≤ cIn o S ∧ b ≤ cIn n S
theorem filter_sub_len {S r : List Int} (h : S.Sublist r) (f : Int → Bool) : (S.filter f).length ≤ (r.filter f).length := (h.filter f).length_le
theorem miss_le {o n r : List Int} {a b : Int} {S : List Int} (h : Qs o n r a b S) : 0 ≤ missF o n r a b ∧ missF o n r a b ≤ S.length := by
  obtain ⟨hs, h1, h2⟩ := h
  have e1 := cIn_split o n S
  have e2 := cIn_split2 o n S
  have e3 := len_split o n S
  have b1 : bothN o n S ≤ bothN o n r := filter_sub_len hs _
  have b2 : oldN o n S ≤ oldN o n r := filter_sub_len hs _
  have b3 : newN o n S ≤ newN o n r := filter_sub_len hs _
  have := (best_spec (oldN o n r) (newN o n r) a b (bothN o n r + 1)).1 (bothN o n S) (by omega) ⟨by omega, by omega⟩
  unfold missF
  unfold fK at this
  omega
theorem filt_cons (f : Int → Bool) (m : Int) (S : List Int) : ((m :: S).filter f).length = (if f m = true then 1 else 0) + (S.filter f).length := by
  cases h : f m with
  | true => rw [List.filter_cons_of_pos h]; simp; omega
  | false => rw [List.filter_cons_of_neg (by rw [h]; exact Bool.false_ne_true)]; simp
theorem build_sub (o n : List Int) : ∀ (r : List Int) (k x y : Nat), k ≤ bothN o n r → x ≤ oldN o n r → y ≤ newN o n r → ∃ S, S.Sublist r ∧ bothN o n S = k ∧ oldN o n S = x ∧ newN o n S = y ∧ S.length = k + x + y
  | [], k, x, y, h1, h2, h3 => by
    have : k = 0 ∧ x = 0 ∧ y = 0 := by unfold bothN at h1; unfold oldN at h2; unfold newN at h3; simp at h1 h2 h3; omega
    obtain ⟨rfl, rfl, rfl⟩ := this
    exact ⟨[], List.Sublist.refl _, rfl, rfl, rfl, rfl⟩
  | m :: r, k, x, y, h1, h2, h3 => by
    have sb : ∀ S, bothN o n (m :: S) = (if (hasB o m && hasB n m) = true then 1 else 0) + bothN o n S := fun S => filt_cons (fun m => hasB o m && hasB n m) m S
    have so : ∀ S, oldN o n (m :: S) = (if (hasB o m && !hasB n m) = true then 1 else 0) + oldN o n S := fun S => filt_cons (fun m => hasB o m && !hasB n m) m S
    have sn : ∀ S, newN o n (m :: S) = (if (!hasB o m && hasB n m) = true then 1 else 0) + newN o n S := fun S => filt_cons (fun m => !hasB o m && hasB n m) m S
    have hb := sb r
    have ho := so r
    have hn := sn r
    cases c1 : hasB o m <;> cases c2 : hasB n m <;> simp [c1, c2] at hb ho hn sb so sn
    · obtain ⟨S, s1, s2, s3, s4, s5⟩ := build_sub o n r k x y (by omega) (by omega) (by omega)
      exact ⟨S, s1.cons m, s2, s3, s4, s5⟩
    · by_cases hy : y = 0
      · obtain ⟨S, s1, s2, s3, s4, s5⟩ := build_sub o n r k x y (by omega) (by omega) (by omega)
        exact ⟨S, s1.cons m, s2, s3, s4, s5⟩
      · obtain ⟨S, s1, s2, s3, s4, s5⟩ := build_sub o n r k x (y - 1) (by omega) (by omega) (by omega)
        exact ⟨m :: S, s1.cons_cons m, by rw [sb]; omega, by rw [so]; omega, by rw [sn]; omega, by simp; omega⟩
    · by_cases hx : x = 0
      · obtain ⟨S, s1, s2, s3, s4, s5⟩ := build_sub o n r k x y (by omega) (by omega) (by omega)
        exact ⟨S, s1.cons m, s2, s3, s4, s5⟩
      · obtain ⟨S, s1, s2, s3, s4, s5⟩ := build_sub o n r k (x - 1) y (by omega) (by omega) (by omega)
        exact ⟨m :: S, s1.cons_cons m, by rw [sb]; omega, by rw [so]; omega, by rw [sn]; omega, by simp; omega⟩
    · by_cases hk : k = 0
      · obtain ⟨S, s1, s2, s3, s4, s5⟩ := build_sub o n r k x y (by omega) (by omega) (by omega)
        exact ⟨S, s1.cons m, s2, s3, s4, s5⟩
      · obtain ⟨S, s1, s2, s3, s4, s5⟩ := build_sub o n r (k - 1) x y (by omega) (by omega) (by omega)
        exact ⟨m :: S, s1.cons_cons m, by rw [sb]; omega, by rw [so]; omega, by rw [sn]; omega, by simp; omega⟩
theorem miss_ex {o n r : List Int} {a b : Int} (h : 0 ≤ missF o n r a b) : ∃ S, Qs o n r a b S ∧ (S.length : Int) = missF o n r a b := by
  unfold missF at h ⊢
  obtain ⟨k, hk, hok, e⟩ := (best_spec (oldN o n r) (newN o n r) a b (bothN o n r + 1)).2 h
  obtain ⟨S, s1, s2, s3, s4, s5⟩ := build_sub o n r k (max (a - k) 0).toNat (max (b - k) 0).toNat (by omega) (by have := hok.1; omega) (by have := hok.2; omega)
  refine ⟨S, ⟨s1, ?_, ?_⟩, ?_⟩
  · rw [cIn_split o n]; omega
  · rw [cIn_split2 o n]; omega
  · rw [e]; unfold fK; omega
/-! Lexicographic order -/
def lexB : List Int → List Int → Bool
  | x :: xs, y :: ys => if x = y then lexB xs ys else decide (x < y)
  | _, _ => false
theorem lexB_irrefl : ∀ l, lexB l l = false
  | [] => rfl
  | x :: xs => by rw [lexB, if_pos rfl]; exact lexB_irrefl xs
theorem lexB_asym : ∀ a b, lexB a b = true → lexB b a = false
  | [], b, h => by simp [lexB] at h
  | x :: xs, [], h => by simp [lexB] at h
  | x :: xs, y :: ys, h => by
    rw [lexB] at h ⊢
    by_cases e : x = y
    · rw [if_pos e] at h; rw [if_pos e.symm]; exact lexB_asym xs ys h
    · rw [if_neg e] at h; rw [if_neg (fun e' => e e'.symm)]
      simp at h ⊢; omega
theorem dec_cIn (o : List Int) (a : Int) (m : Int) (S : List Int) : a ≤ cIn o (m :: S) ↔ dec1 a (hasB o m) ≤ cIn o S := by
  unfold cIn dec1
  cases h : hasB o m with
  | true => rw [List.filter_cons_of_pos (by simpa using h)]; simp; omega
  | false => rw [List.filter_cons_of_neg (by simp [h])]; simp
theorem greedy {o n : List Int} : ∀ (r : List Int) (a b left : Int) (q : List Int), r.Pairwise (· < ·) → missF o n r a b = left → 0 ≤ left →
    ∃ T, smLoop o n r a b left q = q ++ T ∧ Qs o n r a b T ∧ (T.length : Int) = left ∧ ∀ S, Qs o n r a b S → (S.length : Int) = left → S ≠ T → lexB T S = true
  | [], a, b, left, q, hp, hm, h0 => by
    obtain ⟨S, hS, hl⟩ := miss_ex (hm ▸ h0 : 0 ≤ missF o n [] a b)
    have hS0 : S = [] := List.sublist_nil.1 hS.1
    subst hS0
    refine ⟨[], by simp [smLoop], hS, by rw [hl, hm], fun S' h' _ hne => absurd (List.sublist_nil.1 h'.1) hne⟩
  | m :: r, a, b, left, q, hp, hm, h0 => by
    obtain ⟨hp1, hp2⟩ := List.pairwise_cons.1 hp
    by_cases hl0 : left = 0
    · subst hl0
      obtain ⟨S, hS, hl⟩ := miss_ex (by rw [hm]; exact Int.le_refl _ : 0 ≤ missF o n (m :: r) a b)
      rw [hm] at hl
      have hS0 : S = [] := List.eq_nil_of_length_eq_zero (by omega)
      subst hS0
      exact ⟨[], by simp [smLoop], hS, rfl, fun S' _ h2 hne => absurd (List.eq_nil_of_length_eq_zero (by omega)) hne⟩
    · rw [smLoop, if_neg hl0]
      by_cases hc : missF o n r (dec1 a (hasB o m)) (dec1 b (hasB n m)) = left - 1
      · rw [if_pos hc]
        obtain ⟨T, t1, t2, t3, t4⟩ := greedy r _ _ (left - 1) (q ++ [m]) hp2 hc (by omega)
        refine ⟨m :: T, by rw [t1]; simp, ⟨t2.1.cons_cons m, (dec_cIn o a m T).2 t2.2.1, (dec_cIn n b m T).2 t2.2.2⟩, by simp; omega, fun S hS hlS hne => ?_⟩
        cases S with
        | nil => simp at hlS; omega
        | cons y S' =>
          by_cases hy : y = m
          · subst hy
            rw [lexB, if_pos rfl]
            refine t4 S' ⟨?_, (dec_cIn o a y S').1 hS.2.1, (dec_cIn n b y S').1 hS.2.2⟩ (by simp at hlS; omega) (fun e => hne (by rw [e]))
            have := hS.1
            simpa using this
          · rw [lexB, if_neg (fun e => hy e.symm)]
            have hyr : y ∈ r := by
              have : y ∈ m :: r := hS.1.subset (by simp)
              rcases List.mem_cons.1 this with h | h
              · exact absurd h hy
              · exact h
            simpa using hp1 y hyr
      · rw [if_neg hc]
        have hno : ∀ S', Qs o n (m :: r) a b (m :: S') → ((m :: S').length : Int) ≠ left := by
          intro S' hS' hlS'
          have hq : Qs o n r (dec1 a (hasB o m)) (dec1 b (hasB n m)) S' := ⟨by simpa using hS'.1, (dec_cIn o a m S').1 hS'.2.1, (dec_cIn n b m S').1 hS'.2.2⟩
          have k1 := miss_le hq
          obtain ⟨U, u1, u2⟩ := miss_ex k1.1
          have k2 := miss_le (o := o) (n := n) (r := m :: r) (a := a) (b := b) (S := m :: U) ⟨u1.1.cons_cons m, (dec_cIn o a m U).2 u1.2.1, (dec_cIn n b m U).2 u1.2.2⟩
          rw [hm] at k2
          simp at k2 hlS'
          apply hc; omega
        have hin : ∀ S, Qs o n (m :: r) a b S → (S.length : Int) = left → Qs o n r a b S := by
          intro S hS hlS
          refine ⟨?_, hS.2⟩
          cases hS.1 with
          | cons _ h => exact h
          | cons_cons _ h => exact absurd hlS (hno _ hS)
        obtain ⟨U, u1, u2⟩ := miss_ex (by rw [hm]; exact h0 : 0 ≤ missF o n (m :: r) a b)
        rw [hm] at u2
        have hU := hin U u1 u2
        have k1 := miss_le hU
        have hmr : missF o n r a b = left := by
          obtain ⟨V, v1, v2⟩ := miss_ex k1.1
          have k2 := miss_le (o := o) (n := n) (r := m :: r) (a := a) (b := b) (S := V) ⟨v1.1.cons m, v1.2⟩
          rw [hm] at k2; omega
        obtain ⟨T, t1, t2, t3, t4⟩ := greedy r a b left q hp2 hmr h0
        exact ⟨T, t1, ⟨t2.1.cons m, t2.2⟩, t3, fun S hS hlS hne => t4 S (hin S hS hlS) hlS hne⟩
/-! ### The exhaustive search -/
def pickF : List Int → Nat → List Int
  | [], _ => []
  | m :: r, b => if b % 2 = 1 then m :: pickF r (b / 2) else pickF r (b / 2)
theorem pick_sub : ∀ (l : List Int) (b : Nat), (pickF l b).Sublist l
  | [], _ => List.Sublist.refl _
  | m :: r, b => by
    rw [pickF]
    split
    · exact (pick_sub r _).cons_cons m
    · exact (pick_sub r _).cons m
theorem pick_all {S l : List Int} (h : S.Sublist l) : ∃ b, b < 2 ^ l.length ∧ pickF l b = S := by
  induction h with
  | slnil => exact ⟨0, by simp, rfl⟩
  | cons a _ ih =>
    obtain ⟨b, h1, h2⟩ := ih
    refine ⟨2 * b, by rw [List.length_cons, Nat.pow_succ]; omega, ?_⟩
    rw [pickF, if_neg (by omega), show 2 * b / 2 = b by omega]; exact h2
  | cons_cons a _ ih =>
    obtain ⟨b, h1, h2⟩ := ih
    refine ⟨2 * b + 1, by rw [List.length_cons, Nat.pow_succ]; omega, ?_⟩
    rw [pickF, if_pos (by omega), show (2 * b + 1) / 2 = b by omega, h2]
theorem pick_zero : ∀ l, pickF l 0 = []
  | [] => rfl
  | m :: r => by rw [pickF, if_neg (by omega)]; exact pick_zero r
def aheadB (a b : List Int) : Bool := if a.length = b.length then lexB a b else decide (a.length < b.length)
def betterB (s : Option (List Int)) (l : List Int) : Bool := match s with | none => true | some b => aheadB l b
def leastStep (p : List Int → Bool) (s : Option (List Int)) (l : List Int) : Option (List Int) :=
  if (p l && betterB s l) = true then some l else s
def leastTo (p : List Int → Bool) (al : List Int) (k : Nat) : Option (List Int) := ((List.range k).map fun i => pickF al (i + 1)).foldl (leastStep p) none
theorem leastTo_succ (p : List Int → Bool) (al : List Int) (k : Nat) : leastTo p al (k + 1) = leastStep p (leastTo p al k) (pickF al (k + 1)) := by
  unfold leastTo
  rw [List.range_succ, List.map_append, List.foldl_append]; rfl
theorem least_inv {p : List Int → Bool} {T : List Int} (hT : p T = true) (hu : ∀ l, p l = true → l ≠ T → aheadB T l = true ∧ aheadB l T = false) (hr : aheadB T T = false) :
    ∀ (ls : List (List Int)) (s : Option (List Int)), (∀ b, s = some b → p b = true) → (T ∈ ls ∨ s = some T) → ls.foldl (leastStep p) s = some T
  | [], s, _, h => by
    rcases h with h | h
    · simp at h
    · exact h
  | l :: ls, s, hs, h => by
    rw [List.foldl_cons]
    have hs' : ∀ b, leastStep p s l = some b → p b = true := by
      intro b hb
      unfold leastStep at hb
      by_cases hc : (p l && betterB s l) = true
      · rw [if_pos hc] at hb
        obtain rfl : l = b := by simpa using hb
        cases hp : p l with
        | true => rfl
        | false => rw [hp] at hc; simp at hc
      · rw [if_neg hc] at hb
        exact hs b hb
    refine least_inv hT hu hr ls _ hs' ?_
    by_cases hlT : l = T
    · right
      subst hlT
      unfold leastStep
      cases s with
      | none => simp [hT, betterB]
      | some b =>
        by_cases hb : b = l
        · subst hb
          simp [hr, betterB]
        · have := (hu b (hs b rfl) hb).1
          simp [hT, this, betterB]
    · rcases h with h | h
      · rcases List.mem_cons.1 h with h | h
        · exact absurd h.symm hlT
        · exact .inl h
      · right
        subst h
        unfold leastStep
        cases hp : p l with
        | false => simp
        | true =>
          have := (hu l hp hlT).2
          simp [this, betterB]
theorem asc_nodup {l : List Int} (h : ascB l = true) : l.Nodup := by
  have hs : ∀ i j, i < j → j < l.length → gd l i < gd l j := by
    intro i j hij hj
    induction j with
    | zero => omega
    | succ j ih =>
      have h1 : gd l j < gd l (j + 1) := by
        unfold ascB at h
        rw [List.all_eq_true] at h
        have := h (j + 1) (by simpa using hj)
        simp [okAt] at this
        exact this.2
      rcases (show i < j ∨ i = j by omega) with h2 | h2
      · have := ih h2 (by omega); omega
      · subst h2; exact h1
  refine List.pairwise_iff_getElem.2 (fun i j hi hj hij => ?_)
  have := hs i j hij hj
  rw [gd_get hi, gd_get hj] at this
  omega
theorem inter_count {a b : List Int} (ha : a.Nodup) (hb : b.Nodup) : (a.filter (hasB b)).length = (b.filter (hasB a)).length := by
  apply List.Perm.length_eq
  apply (List.perm_ext_iff_of_nodup (ha.sublist List.filter_sublist) (hb.sublist List.filter_sublist)).2
  intro x
  simp only [List.mem_filter, hasB_mem]
  exact ⟨fun h => ⟨h.2, h.1⟩, fun h => ⟨h.2, h.1⟩⟩
theorem reach_cIn {o n S : List Int} (hv : vB o n = true) (hS : S.Nodup) : reachB o n S = true ↔ majF o ≤ cIn o S ∧ majN n ≤ cIn n S := by
  obtain ⟨m1, m2⟩ := v_parts hv
  have no := asc_nodup (ml_asc m1).1
  have e1 : cnt o S = cIn o S := inter_count no hS
  unfold reachB conQ majF majN
  rw [hv, e1]
  by_cases h0 : n.length = 0
  · have : ¬ 0 < n.length := by omega
    simp [h0]
    omega
  · have hn : 0 < n.length := by omega
    have nn : n.Nodup := by
      rcases m2 with h | h
      · exact absurd h h0
      · exact asc_nodup (ml_asc h).1
    have e2 : cnt n S = cIn n S := inter_count nn hS
    rw [e2]
    simp [h0, hn, majF]
    omega
def leastF (o n : List Int) : Option (List Int) := leastTo (reachB o n) (if vB o n = true then memF o n else []) (2 ^ (if vB o n = true then memF o n else []).length - 1)
theorem small_least {o n : List Int} (hv : vB o n = true) : leastF o n = some (smallF o n) ∧ reachB o n (smallF o n) = true := by
  obtain ⟨l1, l2, l3⟩ := v_lens hv
  obtain ⟨m1, m2⟩ := v_parts hv
  have no := asc_nodup (ml_asc m1).1
  have hup := memF_up o n
  have hnd := memF_nodup o n
  have so : ∀ x ∈ o, x ∈ memF o n := fun x hx => (mem_memF o n x).2 ⟨v_range hv x (.inl hx), .inl hx⟩
  have sn : ∀ x ∈ n, x ∈ memF o n := fun x hx => (mem_memF o n x).2 ⟨v_range hv x (.inr hx), .inr hx⟩
  have c1 : cIn o (memF o n) = o.length := by
    have := inter_count no hnd
    unfold cIn
    rw [← this, List.filter_eq_self.2 (fun x hx => (hasB_mem _ _).2 (so x hx))]
  have c2 : majN n ≤ cIn n (memF o n) := by
    by_cases h0 : 0 < n.length
    · have nn : n.Nodup := by
        rcases m2 with h | h
        · omega
        · exact asc_nodup (ml_asc h).1
      have := inter_count nn hnd
      unfold cIn majN majF
      rw [if_pos h0, ← this, List.filter_eq_self.2 (fun x hx => (hasB_mem _ _).2 (sn x hx))]
      omega
    · unfold majN; rw [if_neg h0]; omega
  have hfe := miss_le (o := o) (n := n) (r := memF o n) (a := majF o) (b := majN n) (S := memF o n) ⟨List.Sublist.refl _, by unfold majF; omega, c2⟩
  obtain ⟨T, t1, t2, t3, t4⟩ := greedy (memF o n) (majF o) (majN n) _ [] hup rfl hfe.1
  have hT : smallF o n = T := by unfold smallF; rw [if_pos hv, t1]; rfl
  have hTr : reachB o n T = true := (reach_cIn hv (hnd.sublist t2.1)).2 t2.2
  refine ⟨?_, by rw [hT]; exact hTr⟩
  rw [hT]
  unfold leastF leastTo
  rw [if_pos hv]
  have hTl : 1 ≤ T.length := by
    have := t2.2.1
    have hle : cIn o T ≤ T.length := List.length_filter_le _ _
    unfold majF at this; omega
  -- only sublists of the members come up
  have key : ∀ ls : List (List Int), (∀ l ∈ ls, l.Sublist (memF o n)) → ∀ s : Option (List Int), ls.foldl (leastStep (reachB o n)) s = ls.foldl (leastStep (fun l => reachB o n l && decide (l.Sublist (memF o n)))) s := by
    intro ls
    induction ls with
    | nil => intro _ s; rfl
    | cons l ls ih =>
      intro h s
      rw [List.foldl_cons, List.foldl_cons, ih (fun x hx => h x (by simp [hx]))]
      congr 1
      unfold leastStep
      have := h l (by simp)
      simp [this]
  rw [key _ (by
    intro l hl
    obtain ⟨i, _, rfl⟩ := List.mem_map.1 hl
    exact pick_sub _ _)]
  have hp : ∀ l, (reachB o n l && decide (l.Sublist (memF o n))) = true → Qs o n (memF o n) (majF o) (majN n) l := by
    intro l hl
    simp at hl
    exact ⟨hl.2, (reach_cIn hv (hnd.sublist hl.2)).1 hl.1⟩
  refine least_inv (T := T) (by simp [hTr, t2.1]) (fun l hl hne => ?_) (by unfold aheadB; rw [if_pos rfl]; exact lexB_irrefl T) _ _ (by simp) (.inl ?_)
  · have hq := hp l hl
    have hle := miss_le hq
    unfold aheadB
    by_cases he : T.length = l.length
    · rw [if_pos he, if_pos he.symm]
      have := t4 l hq (by omega) hne
      exact ⟨this, lexB_asym _ _ this⟩
    · rw [if_neg he, if_neg (fun e => he e.symm)]
      simp; omega
  · obtain ⟨b, hb1, hb2⟩ := pick_all t2.1
    have hb0 : b ≠ 0 := by
      intro e
      rw [e, pick_zero] at hb2
      rw [← hb2] at hTl; simp at hTl
    refine List.mem_map.2 ⟨b - 1, by simp; omega, ?_⟩
    rw [show b - 1 + 1 = b by omega]; exact hb2
end Go.Quo

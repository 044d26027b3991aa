import Derived.Test.YtbhbamgnapcbaaaQ2
namespace Go.Proofs.Ytbhbamgnapcbaaa
set_option linter.unusedVariables false
open Go.RowKit Go.Own Go.Quo
/-- A membership in memory. -/
structure Ms where
  A : Option Addr
  c : Nat
  o : List Int
  A' : Option Addr
  c' : Nat
  n : List Int
abbrev msC (m : Ms) : Array Value := #[.slice m.A m.o.length m.c, .slice m.A' m.n.length m.c']
abbrev msV (m : Ms) : Value := .agg #[.slice m.A m.o.length m.c, .slice m.A' m.n.length m.c']
structure MR (w : World) (B : Nat → Prop) (m : Ms) : Prop where
  o : RI w B m.A m.o
  n : RI w B m.A' m.n
  ol : m.o.length ≤ 1000
  nl : m.n.length ≤ 1000
theorem MR.below {w w' : World} {B : Nat → Prop} {m : Ms} (h : MR w B m) (hb : Below w.heap.size w w') : MR w' B m :=
  ⟨h.o.fr (S := fun _ => False) (Fr.of_below hb) (fun _ _ => id), h.n.fr (S := fun _ => False) (Fr.of_below hb) (fun _ _ => id), h.ol, h.nl⟩
theorem MR.alloc {w : World} {B : Nat → Prop} {m : Ms} (h : MR w B m) (o : Obj) : MR (w.alloc o) B m := ⟨h.o.alloc o, h.n.alloc o, h.ol, h.nl⟩
theorem memberList_b (B : Nat → Prop) (A : Option Addr) (c : Nat) (l : List Int) (w : World) (h : RI w B A l) (hm : l.length ≤ 1000) (q : Bool) (hq : mlB l = q) :
    Calls Try.prog 76 #[.slice A l.length c] w fun e w' => e = .returned (.bool q) ∧ w = w' := hq ▸ memberList_any B A c l w h hm
theorem rmembers_b (B : Nat → Prop) (A : Option Addr) (c : Nat) (l : List Int) (w : World) (h : RI w B A l) (hm : l.length ≤ 1000) (q : Bool) (hq : mlB l = q) :
    Calls Try.prog 51 #[.slice A l.length c] w fun e w' => e = .returned (.bool q) ∧ w = w' := hq ▸ rmembers_any B A c l w h hm
set_option maxRecDepth 10000 in
set_option maxHeartbeats 1000000 in
theorem valid_any (B : Nat → Prop) (m : Ms) (w : World) (h : MR w B m) :
    Calls Try.prog 66 #[msV m] w fun e w' => e = .returned (.bool (vB m.o m.n)) ∧ w.alloc (.cells (msC m) 65) = w' := by
  have h1 := h.alloc (.cells (msC m) 65)
  cases ho : mlB m.o with
  | false =>
    have HO := Lib.hid (memberList_b B m.A m.c m.o _ h1.o h.ol false ho)
    have HV : Hid (vB m.o m.n = false) := by show _ = _; simp [vB, ho]
    clear ho h h1
    go_enter Try.func66, Try.ntmps66
    go_wp2_with (go_at_call 76; ((with_reducible refine HO.out.mono ?_); rintro e w1 ⟨rfl, rfl⟩))
    go_ret
    exact ⟨by rw [HV.out]; rfl, rfl⟩
  | true =>
    have HO := Lib.hid (memberList_b B m.A m.c m.o _ h1.o h.ol true ho)
    by_cases hn : m.n.length = 0
    · have HV : Hid (vB m.o m.n = true) := by show _ = _; simp only [vB, ho]; rw [decide_eq_true hn]; rfl
      have hn' : ((m.n.length : Int) == 0) = true := by rw [beq_iff_eq]; omega
      have hn'' : (m.n.length == 0) = true := by simp [hn]
      have HNN := Lib.hid hn
      clear ho h h1 hn
      go_enter Try.func66, Try.ntmps66
      go_wp2_with (go_at_call 76; ((with_reducible refine HO.out.mono ?_); rintro e w1 ⟨rfl, rfl⟩))
      go_ret
      exact ⟨by rw [HV.out]; rfl, rfl⟩
    · have hn' : ((m.n.length : Int) == 0) = false := by rw [beq_eq_false_iff_ne]; omega
      have hn'' : (m.n.length == 0) = false := by simp [hn]
      have HN := Lib.hid (memberList_b B m.A' m.c' m.n _ h1.n h.nl _ rfl)
      have HV : Hid (vB m.o m.n = mlB m.n) := by show _ = _; simp only [vB, ho]; rw [decide_eq_false hn]; rfl
      clear ho h h1 hn
      generalize mlB m.n = q at HN HV
      go_enter Try.func66, Try.ntmps66
      go_wp2_with (first
        | (go_at_call 76; ((with_reducible refine HO.out.mono ?_); rintro e w1 ⟨rfl, rfl⟩))
        | (go_at_call 76; ((with_reducible refine HN.out.mono ?_); rintro e w2 ⟨rfl, rfl⟩)))
      go_ret
      exact ⟨by rw [HV.out]; rfl, rfl⟩
set_option maxRecDepth 10000 in
set_option maxHeartbeats 1000000 in
theorem right_any (B : Nat → Prop) (m : Ms) (w : World) (h : MR w B m) :
    Calls Try.prog 27 #[msV m] w fun e w' => e = .returned (.bool (vB m.o m.n)) ∧ w.alloc (.cells (msC m) 65) = w' := by
  have h1 := h.alloc (.cells (msC m) 65)
  cases ho : mlB m.o with
  | false =>
    have HO := Lib.hid (rmembers_b B m.A m.c m.o _ h1.o h.ol false ho)
    have HV : Hid (vB m.o m.n = false) := by show _ = _; simp [vB, ho]
    clear ho h h1
    go_enter Try.func27, Try.ntmps27
    go_wp2_with (go_at_call 51; ((with_reducible refine HO.out.mono ?_); rintro e w1 ⟨rfl, rfl⟩))
    go_ret
    exact ⟨by rw [HV.out]; rfl, rfl⟩
  | true =>
    have HO := Lib.hid (rmembers_b B m.A m.c m.o _ h1.o h.ol true ho)
    by_cases hn : m.n.length = 0
    · have HV : Hid (vB m.o m.n = true) := by show _ = _; simp only [vB, ho]; rw [decide_eq_true hn]; rfl
      have hn' : ((m.n.length : Int) == 0) = true := by rw [beq_iff_eq]; omega
      have hn'' : (m.n.length == 0) = true := by simp [hn]
      have HNN := Lib.hid hn
      clear ho h h1 hn
      go_enter Try.func27, Try.ntmps27
      go_wp2_with (go_at_call 51; ((with_reducible refine HO.out.mono ?_); rintro e w1 ⟨rfl, rfl⟩))
      go_ret
      exact ⟨by rw [HV.out]; rfl, rfl⟩
    · have hn' : ((m.n.length : Int) == 0) = false := by rw [beq_eq_false_iff_ne]; omega
      have hn'' : (m.n.length == 0) = false := by simp [hn]
      have HN := Lib.hid (rmembers_b B m.A' m.c' m.n _ h1.n h.nl _ rfl)
      have HV : Hid (vB m.o m.n = mlB m.n) := by show _ = _; simp only [vB, ho]; rw [decide_eq_false hn]; rfl
      clear ho h h1 hn
      generalize mlB m.n = q at HN HV
      go_enter Try.func27, Try.ntmps27
      go_wp2_with (first
        | (go_at_call 51; ((with_reducible refine HO.out.mono ?_); rintro e w1 ⟨rfl, rfl⟩))
        | (go_at_call 51; ((with_reducible refine HN.out.mono ?_); rintro e w2 ⟨rfl, rfl⟩)))
      go_ret
      exact ⟨by rw [HV.out]; rfl, rfl⟩
theorem valid_b (B : Nat → Prop) (m : Ms) (w : World) (h : MR w B m) (q : Bool) (hq : vB m.o m.n = q) :
    Calls Try.prog 66 #[msV m] w fun e w' => e = .returned (.bool q) ∧ w.alloc (.cells (msC m) 65) = w' := hq ▸ valid_any B m w h
theorem right_b (B : Nat → Prop) (m : Ms) (w : World) (h : MR w B m) (q : Bool) (hq : vB m.o m.n = q) :
    Calls Try.prog 27 #[msV m] w fun e w' => e = .returned (.bool q) ∧ w.alloc (.cells (msC m) 65) = w' := hq ▸ right_any B m w h
set_option maxRecDepth 10000 in
set_option maxHeartbeats 1000000 in
theorem reached_any (B B2 : Nat → Prop) (m : Ms) (A2 : Option Addr) (c2 : Nat) (yes : List Int) (w : World) (h : MR w B m) (hy : RI w B2 A2 yes) (hl : yes.length ≤ 1000) :
    Calls Try.prog 54 #[msV m, .slice A2 yes.length c2] w fun e w' => e = .returned (.bool (reachB m.o m.n yes)) ∧ Below w.heap.size w w' := by
  have h1 := h.alloc (.cells (msC m) 65)
  have h2 := h1.alloc (.cells (msC m) 65)
  have hy2 := (hy.alloc (.cells (msC m) 65)).alloc (.cells (msC m) 65)
  have hfin : Below w.heap.size w ((w.alloc (.cells (msC m) 65)).alloc (.cells (msC m) 65)) := ((Below.refl _ _).alloc (Nat.le_refl _) _).alloc (by simp) _
  cases hv : vB m.o m.n with
  | false =>
    have HO := Lib.hid (valid_b B m _ h1 false hv)
    have HV : Hid (reachB m.o m.n yes = false) := by show _ = _; simp [reachB, hv]
    clear hv h h1 h2 hy hy2
    go_enter Try.func54, Try.ntmps54
    go_wp2_with (go_at_call 66; ((with_reducible refine HO.out.mono ?_); rintro e w1 ⟨rfl, rfl⟩))
    go_ret
    exact ⟨by rw [HV.out]; rfl, hfin⟩
  | true =>
    have HO := Lib.hid (valid_b B m _ h1 true hv)
    cases hc : conQ m.o yes with
    | false =>
      have HC := Lib.hid (hc ▸ conq_any B B2 m.A A2 m.c c2 m.o yes _ h2.o hy2 h.ol hl)
      have HV : Hid (reachB m.o m.n yes = false) := by show _ = _; simp [reachB, hc]
      clear hv h h1 h2 hy hy2 hc
      go_enter Try.func54, Try.ntmps54
      go_wp2_with (first
        | (go_at_call 66; ((with_reducible refine HO.out.mono ?_); rintro e w1 ⟨rfl, rfl⟩))
        | (go_at_call 67; ((with_reducible refine HC.out.mono ?_); rintro e w2 ⟨rfl, rfl⟩)))
      go_ret
      exact ⟨by rw [HV.out]; rfl, hfin⟩
    | true =>
      have HC := Lib.hid (hc ▸ conq_any B B2 m.A A2 m.c c2 m.o yes _ h2.o hy2 h.ol hl)
      by_cases hn : m.n.length = 0
      · have HV : Hid (reachB m.o m.n yes = true) := by show _ = _; simp only [reachB, hv, hc]; rw [decide_eq_true hn]; rfl
        have hn' : ((m.n.length : Int) == 0) = true := by rw [beq_iff_eq]; omega
        have hn'' : (m.n.length == 0) = true := by simp [hn]
        clear hv h h1 h2 hy hy2 hc hn
        go_enter Try.func54, Try.ntmps54
        go_wp2_with (first
          | (go_at_call 66; ((with_reducible refine HO.out.mono ?_); rintro e w1 ⟨rfl, rfl⟩))
          | (go_at_call 67; ((with_reducible refine HC.out.mono ?_); rintro e w2 ⟨rfl, rfl⟩)))
        go_ret
        exact ⟨by rw [HV.out]; rfl, hfin⟩
      · have hn' : ((m.n.length : Int) == 0) = false := by rw [beq_eq_false_iff_ne]; omega
        have hn'' : (m.n.length == 0) = false := by simp [hn]
        have HN := Lib.hid (conq_any B B2 m.A' A2 m.c' c2 m.n yes _ h2.n hy2 h.nl hl)
        have HV : Hid (reachB m.o m.n yes = conQ m.n yes) := by show _ = _; simp only [reachB, hv, hc]; rw [decide_eq_false hn]; rfl
        clear hv h h1 h2 hy hy2 hc hn
        generalize conQ m.n yes = q at HN HV
        go_enter Try.func54, Try.ntmps54
        go_wp2_with (first
          | (go_at_call 66; ((with_reducible refine HO.out.mono ?_); rintro e w1 ⟨rfl, rfl⟩))
          | (go_at_call 67; ((with_reducible refine HC.out.mono ?_); rintro e w2 ⟨rfl, rfl⟩))
          | (go_at_call 67; ((with_reducible refine HN.out.mono ?_); rintro e w3 ⟨rfl, rfl⟩)))
        go_ret
        exact ⟨by rw [HV.out]; rfl, hfin⟩
set_option maxRecDepth 10000 in
set_option maxHeartbeats 1000000 in
theorem is_any (B B2 : Nat → Prop) (m : Ms) (A2 : Option Addr) (c2 : Nat) (yes : List Int) (w : World) (h : MR w B m) (hy : RI w B2 A2 yes) (hl : yes.length ≤ 1000) :
    Calls Try.prog 55 #[msV m, .slice A2 yes.length c2] w fun e w' => e = .returned (.bool (reachB m.o m.n yes)) ∧ Below w.heap.size w w' := by
  have h1 := h.alloc (.cells (msC m) 65)
  have h2 := h1.alloc (.cells (msC m) 65)
  have hy2 := (hy.alloc (.cells (msC m) 65)).alloc (.cells (msC m) 65)
  have hfin : Below w.heap.size w ((w.alloc (.cells (msC m) 65)).alloc (.cells (msC m) 65)) := ((Below.refl _ _).alloc (Nat.le_refl _) _).alloc (by simp) _
  cases hv : vB m.o m.n with
  | false =>
    have HO := Lib.hid (right_b B m _ h1 false hv)
    have HV : Hid (reachB m.o m.n yes = false) := by show _ = _; simp [reachB, hv]
    clear hv h h1 h2 hy hy2
    go_enter Try.func55, Try.ntmps55
    go_wp2_with (go_at_call 27; ((with_reducible refine HO.out.mono ?_); rintro e w1 ⟨rfl, rfl⟩))
    go_ret
    exact ⟨by rw [HV.out]; rfl, hfin⟩
  | true =>
    have HO := Lib.hid (right_b B m _ h1 true hv)
    cases hc : conQ m.o yes with
    | false =>
      have HC := Lib.hid (hc ▸ most_any B B2 m.A A2 m.c c2 m.o yes _ h2.o hy2 h.ol hl)
      have HV : Hid (reachB m.o m.n yes = false) := by show _ = _; simp [reachB, hc]
      clear hv h h1 h2 hy hy2 hc
      go_enter Try.func55, Try.ntmps55
      go_wp2_with (first
        | (go_at_call 27; ((with_reducible refine HO.out.mono ?_); rintro e w1 ⟨rfl, rfl⟩))
        | (go_at_call 68; ((with_reducible refine HC.out.mono ?_); rintro e w2 ⟨rfl, rfl⟩)))
      go_ret
      exact ⟨by rw [HV.out]; rfl, hfin⟩
    | true =>
      have HC := Lib.hid (hc ▸ most_any B B2 m.A A2 m.c c2 m.o yes _ h2.o hy2 h.ol hl)
      by_cases hn : m.n.length = 0
      · have HV : Hid (reachB m.o m.n yes = true) := by show _ = _; simp only [reachB, hv, hc]; rw [decide_eq_true hn]; rfl
        have hn' : ((m.n.length : Int) == 0) = true := by rw [beq_iff_eq]; omega
        have hn'' : (m.n.length == 0) = true := by simp [hn]
        clear hv h h1 h2 hy hy2 hc hn
        go_enter Try.func55, Try.ntmps55
        go_wp2_with (first
          | (go_at_call 27; ((with_reducible refine HO.out.mono ?_); rintro e w1 ⟨rfl, rfl⟩))
          | (go_at_call 68; ((with_reducible refine HC.out.mono ?_); rintro e w2 ⟨rfl, rfl⟩)))
        go_ret
        exact ⟨by rw [HV.out]; rfl, hfin⟩
      · have hn' : ((m.n.length : Int) == 0) = false := by rw [beq_eq_false_iff_ne]; omega
        have hn'' : (m.n.length == 0) = false := by simp [hn]
        have HN := Lib.hid (most_any B B2 m.A' A2 m.c' c2 m.n yes _ h2.n hy2 h.nl hl)
        have HV : Hid (reachB m.o m.n yes = conQ m.n yes) := by show _ = _; simp only [reachB, hv, hc]; rw [decide_eq_false hn]; rfl
        clear hv h h1 h2 hy hy2 hc hn
        generalize conQ m.n yes = q at HN HV
        go_enter Try.func55, Try.ntmps55
        go_wp2_with (first
          | (go_at_call 27; ((with_reducible refine HO.out.mono ?_); rintro e w1 ⟨rfl, rfl⟩))
          | (go_at_call 68; ((with_reducible refine HC.out.mono ?_); rintro e w2 ⟨rfl, rfl⟩))
          | (go_at_call 68; ((with_reducible refine HN.out.mono ?_); rintro e w3 ⟨rfl, rfl⟩)))
        go_ret
        exact ⟨by rw [HV.out]; rfl, hfin⟩
end Go.Proofs.Ytbhbamgnapcbaaa

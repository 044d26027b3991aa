import Derived.Test.YtnpfbpfobbadaaaQSm
import Derived.Test.YtnpfbpfobbadaaaCom2
namespace Go.Quo
theorem pick_step (al : List Int) (b i : Nat) (hi : i < al.length) : pickF (al.drop i) (b / 2 ^ i) = (if b / 2 ^ i % 2 = 1 then [gd al i] else []) ++ pickF (al.drop (i + 1)) (b / 2 ^ (i + 1)) := by
  rw [List.drop_eq_getElem_cons hi, pickF, gd_get hi, Nat.pow_succ, ← Nat.div_div_eq_div_mul]
  split <;> rfl
theorem pick_end (al : List Int) (b i : Nat) (hi : al.length ≤ i) : pickF (al.drop i) (b / 2 ^ i) = [] := by
  rw [List.drop_eq_nil_of_le hi]; rfl
theorem lex_step {a b : List Int} {k : Nat} (h1 : k < a.length) (h2 : k < b.length) : lexB (a.drop k) (b.drop k) = if gd a k = gd b k then lexB (a.drop (k + 1)) (b.drop (k + 1)) else decide (gd a k < gd b k) := by
  rw [List.drop_eq_getElem_cons h1, List.drop_eq_getElem_cons h2, lexB, gd_get h1, gd_get h2]
theorem lex_end {a b : List Int} {k : Nat} (h1 : a.length ≤ k) : lexB (a.drop k) (b.drop k) = false := by
  rw [List.drop_eq_nil_of_le h1]; simp [lexB]
end Go.Quo
namespace Go.Proofs.Ytnpfbpfobbadaaa
set_option linter.unusedVariables false
open Go.RowKit Go.Own Go.Quo Go.Wire
set_option maxRecDepth 10000 in
set_option maxHeartbeats 2000000 in
theorem ahead_any (B1 B2 : Nat → Prop) (A1 A2 : Option Addr) (a b : List Int) (c1 c2 : Nat) (w : World) (h1 : RI w B1 A1 a) (h2 : RI w B2 A2 b) (ha : a.length ≤ 1000) (hb : b.length ≤ 1000) :
    Calls Try.prog 41 #[.slice A1 a.length c1, .slice A2 b.length c2] w fun e w' => e = .returned (.bool (aheadB a b)) ∧ Below w.heap.size w w' := by
  have p1 := h1.plain (by omega)
  have p2 := h2.plain (by omega)
  have H1 := Lib.hid h1
  have H2 := Lib.hid h2
  clear h1 h2
  by_cases hl : a.length = b.length
  · have HA := Lib.hid (show aheadB a b = lexB (a.drop 0) (b.drop 0) by unfold aheadB; rw [if_pos hl]; rfl)
    have hle1 : a.length ≤ b.length := by omega
    have hle2 : b.length ≤ a.length := by omega
    have hne : ((a.length : Int) != (b.length : Int)) = false := by simp [hl]
    have hne2 : ((a.length : Int) == (b.length : Int)) = true := by simp [hl]
    clear hl
    generalize aheadB a b = R at *
    go_enter Try.func41, Try.ntmps41
    go_wp2_with fail
    go_loopw [18] (fun i wr => ∃ k n : Nat, k ≤ a.length ∧ i = .int .i64 k ∧ R = lexB (a.drop k) (b.drop k) ∧ wr = w.drewN n) (fun i _ => a.length - (intOf i).toNat)
    case atStart => exact ⟨0, 0, Nat.zero_le _, rfl, HA.out, rfl⟩
    case round =>
      obtain ⟨k, n, hk, rfl, hR, rfl⟩ := hrel
      have HR := Lib.hid hR
      clear hR HA
      by_cases hlt : k < a.length
      · have hlt' : (k : Int) < a.length := by omega
        have hx1 := fun W => ix22 p1 c1 k hlt W
        have hx2 := fun W => ix22 p2 c2 k (show k < b.length by omega) W
        have d1 := RI.at_ H1.out hlt
        have d2 := RI.at_ H2.out (show k < b.length by omega)
        have HSt := Lib.hid (lex_step hlt (show k < b.length by omega))
        generalize gd a k = x at *
        generalize gd b k = y at *
        by_cases hxy : x = y
        · have hb1 : (x != y) = false := by simp [hxy]
          have hb2 : (x == y) = true := by simp [hxy]
          have HS1 := Lib.hid (show R = lexB (a.drop (k + 1)) (b.drop (k + 1)) by rw [HR.out, HSt.out, if_pos hxy])
          subst hxy
          go_wp2_with fail
          go_quiet (fail)
          go_wp2
          go_roundw
          case rel => exact ⟨k + 1, _, by omega, by go_num, HS1.out, rfl⟩
          case measure => simp [intOf]; omega
        · have hb1 : (x != y) = true := by simp [hxy]
          have hb2 : (x == y) = false := by simp [hxy]
          have HS1 := Lib.hid (show R = decide (x < y) by rw [HR.out, HSt.out, if_neg hxy])
          go_wp2_with fail
          go_quiet (fail)
          go_wp2_with fail
          go_quiet (fail)
          go_wp2
          go_ret
          exact ⟨by rw [HS1.out]; rfl, below_drewN (below_drewN (below_drewN (Below.refl _ _) _) _) _⟩
      · have hge : ¬ ((k : Int) < a.length) := by omega
        have HS1 := Lib.hid (show R = false by rw [HR.out, lex_end (by omega)])
        go_wp2
        go_ret
        exact ⟨by rw [HS1.out]; rfl, below_drewN (Below.refl _ _) _⟩
  · have HA := Lib.hid (show aheadB a b = decide (a.length < b.length) by unfold aheadB; rw [if_neg hl])
    have hne : ((a.length : Int) != (b.length : Int)) = true := by simp; omega
    have hne2 : ((a.length : Int) == (b.length : Int)) = false := by simp; omega
    have hnp : ¬ (a.length : Int) = b.length := by omega
    generalize aheadB a b = R at *
    clear hl
    go_enter Try.func41, Try.ntmps41
    go_wp2
    go_ret
    exact ⟨by rw [HA.out]; simp, Below.refl _ _⟩
set_option maxRecDepth 10000 in
set_option maxHeartbeats 2000000 in
theorem pick_any (B : Nat → Prop) (A : Option Addr) (al : List Int) (c b : Nat) (w : World) (h : RI w B A al) (hl : al.length ≤ 20) (hb : b < 1048576) :
    Calls Try.prog 40 #[.slice A al.length c, .int .i64 (b : Int)] w (IntsPost (pickF al b) w) := by
  have pA := h.plain (by omega)
  have HP := Lib.hid (show pickF al b = [] ++ pickF (al.drop 0) (b / 2 ^ 0) by simp)
  generalize pickF al b = R at *
  go_enter Try.func40, Try.ntmps40
  go_wp2_with fail
  go_loopw [5, 10] (fun vo vi wr => ∃ (i : Nat) (acc : List Int) (A' : Option Addr) (c' : Nat), i ≤ al.length ∧ vi = .int .i64 i ∧ vo = .slice A' acc.length c' ∧ acc.length ≤ i ∧ R = acc ++ pickF (al.drop i) (b / 2 ^ i) ∧ wr.ownsRow w.heap.size 3 1 (.slice A' acc.length c') acc.length (ivs acc) ∧ Below w.heap.size w wr) (fun _ i _ => al.length - (intOf i).toNat)
  case atStart => exact ⟨0, [], none, 0, Nat.zero_le _, rfl, rfl, by simp, HP.out, World.ownsRow_nil _ _ _ _, Below.refl _ _⟩
  case round =>
    obtain ⟨i, acc, A', c', hi, rfl, rfl, hacl, hR, hown, hbw⟩ := hrel
    have HR := Lib.hid hR
    clear hR HP
    have hs := hbw.size
    by_cases hlt : i < al.length
    · have hlt' : (i : Int) < al.length := by omega
      have hix := fun W => ix22 pA c i hlt W
      have hc := RI.at_ (h.fr (S := fun _ => False) (Fr.of_below hbw) (fun _ _ => id)) hlt
      have HSt := Lib.hid (pick_step al b i hlt)
      obtain ⟨q, hq⟩ : ∃ q : Nat, q = b / 2 ^ i := ⟨_, rfl⟩
      rw [← hq] at HR HSt
      have HQ := Lib.hid hq
      generalize gd al i = v at *
      have hqi : (b : Int) / 2 ^ i = (q : Int) := by rw [hq]; simp
      clear hq
      by_cases hodd : q % 2 = 1
      · have hob : (((b : Int) / 2 ^ i).tmod 2 == 1) = true := by rw [hqi, Int.tmod_eq_emod_of_nonneg (by omega)]; simp; omega
        have HS1 := Lib.hid (show R = (acc ++ [v]) ++ pickF (al.drop (i + 1)) (b / 2 ^ (i + 1)) by rw [HR.out, HSt.out, if_pos hodd]; simp)
        clear hqi hodd
        go_wp2_with (at_builtin; refine wpList_append_any _ rfl _ _ _ rfl w.heap.size 3 _ 1 8 Try.underlying22 info3 rfl (by omega) (.slice A' acc.length c') acc.length (ivs acc) rfl (hown.alloc _) _ (some ⟨wr.heap.size, 0, none⟩) 1 1 [.int .i64 v] rfl (Reads.newS _ [.int .i64 v] 3 (0, 0) 1 1 rfl _ rfl) (by simp [Value.oneCell']) (by simp only [maxLen]; omega) (by omega) (by simp; omega) ?_; intro A4 c4 w4 hown4 hgr4 hat4)
        have e4 : (acc ++ [v]).length = acc.length + 1 := by simp
        refine ⟨⟨i + 1, acc ++ [v], A4, c4, by omega, by go_num, by rw [e4], by omega, HS1.out, by simpa [ivs] using hown4, (hbw.alloc hs _).grown hgr4 (by simp; omega) (fun g hg => by have := (hown.lt g hg).1; omega)⟩, by simp [intOf]; omega⟩
      · have hob : (((b : Int) / 2 ^ i).tmod 2 == 1) = false := by rw [hqi, Int.tmod_eq_emod_of_nonneg (by omega)]; simp; omega
        have HS1 := Lib.hid (show R = acc ++ pickF (al.drop (i + 1)) (b / 2 ^ (i + 1)) by rw [HR.out, HSt.out, if_neg hodd]; simp)
        clear hqi hodd
        go_wp2_with fail
        exact ⟨⟨i + 1, acc, A', c', by omega, by go_num, rfl, by omega, HS1.out, hown, hbw⟩, by simp [intOf]; omega⟩
    · have hge : ¬ ((i : Int) < al.length) := by omega
      have HE := Lib.hid (show R = acc by rw [HR.out, pick_end al b i (by omega)]; simp)
      go_wp2
      go_ret
      rw [HE.out]
      exact ⟨A', c', rfl, (Reads.of_own hown).more (fun g hg => (hown.lt g hg).1), hbw⟩
end Go.Proofs.Ytnpfbpfobbadaaa

import Derived.Test.YtipkicijfedfoaaDoorMGP
import Derived.Test.YtipkicijfedfoaaDoorMRegLast
import Derived.Deep.RegionHeldLaw
namespace Go.Inc
open Go.Wire
theorem mS_len (s : Sd) : (mS s).2.2.length ≤ s.2.length := by
  have h : (sI s).2.2.length ≤ s.2.length := by
    unfold sI
    split
    · exact rdI_len s.2
    · exact Nat.le_refl _
  unfold mS
  split
  · split
    · exact Nat.zero_le _
    · split
      · exact Nat.zero_le _
      · exact h
  · exact h
theorem readA_zero (acc l : List Int) : readA 0 acc l = (0, acc, l) := rfl
end Go.Inc
namespace Go.Proofs.YtipkicijfedfoaaDoor.Wr
set_option linter.unusedVariables false
set_option linter.unusedSimpArgs false
open Go.RowKit Go.Own Go.Quo Go.Wire Go.Inc
theorem own_frB {w w' : World} {S : Nat → Prop} {base : Nat} {e : TypeId} {size n : Nat} {v : Value} {xs : List Value} (h : w.ownsRow base e size v n xs) (hf : Fr S w w') (hS : ∀ g, v.ownBlock = some g → ¬ S g) : w'.ownsRow base e size v n xs := by
  refine ⟨h.1, ?_⟩
  rcases h.2 with h0 | ⟨g, cap, cur, rfl, hb1, hg, r⟩
  · exact .inl h0
  · exact .inr ⟨g, cap, cur, rfl, hb1, (hf.block g (Array.getElem?_eq_some_iff.1 hg).1 (hS g rfl)).trans hg, r⟩
theorem rfp_grown {w w' : World} {p : Nat} {B : Nat → Prop} {s : Sd} {row : Option Nat} (h : RfP w p B s) (hg : w.grownBy w' row) (hp : some p ≠ row) (hB : ∀ j, B j → some j ≠ row) : RfP w' p B s := by
  obtain ⟨rest, A, c, h1, h2, h3, h4⟩ := h
  exact ⟨rest, A, c, h1.grown hg hp, h2.grown hg hB, h3, h4⟩
/-- what Get(4) yields -/
def GetL (p : Nat) (B : Nat → Prop) (R : List Int × Sd) (w : World) (e : Ending) (w' : World) : Prop := ∃ A c, e = .returned (.agg #[.int .i64 4, .int .i64 0, .bool false, .string ⟨#[]⟩, .slice A R.1.length c]) ∧ RI w' (w.heap.size ≤ ·) A R.1 ∧ RfP w' p B R.2 ∧ Fr (· = p) w w'
set_option maxRecDepth 10000 in
set_option maxHeartbeats 8000000 in
theorem rf_get4 (p : Nat) (B : Nat → Prop) (s : Sd) (w : World) (h : RfP w p B s) (hp : ¬ B p) (hBw : ∀ k, B k → k < w.heap.size) (hB : Bytes s.2) (hl : s.2.length ≤ 1000000) :
    Calls Tryd.prog 53 #[.pointer (some ⟨p, 0, none⟩), .int .i64 4] w (GetL p B (sL s) w) := by
  have HM := Lib.hid fun (W : World) (h : RfP W p B s) => rf_many p B s W h hp hB
  have HS := Lib.hid (sL_mS s)
  have hle := mS_le s
  have hby := mS_by hB
  have hlen := mS_len s
  have hm0 : (mS s).2.1 ≠ 0 → (mS s).1 = 0 := by
    unfold mS
    split
    · split
      · exact fun _ => rfl
      · split
        · exact fun _ => rfl
        · exact fun h => absurd (by assumption) h
    · exact fun _ => rfl
  generalize sL s = R at *
  generalize mS s = M at *
  obtain ⟨n0, e1, r1⟩ := M
  obtain ⟨xs, eR, rR⟩ := R
  simp only at HM HS hle hby hlen hm0
  have hpl := h.lt
  have HP := Lib.hid ((h.alloc (.cells #[.int .i64 0, .int .i64 0, .bool false, .string ⟨#[]⟩, .slice none 0 0] 69)).alloc (.cells #[.int .i64 4, .int .i64 0, .bool false, .string ⟨#[]⟩, .slice none 0 0] 69))
  have HZ := Lib.hid ((Blk.new w 69 #[.int .i64 0, .int .i64 0, .bool false, .string ⟨#[]⟩, .slice none 0 0]).alloc (.cells #[.int .i64 4, .int .i64 0, .bool false, .string ⟨#[]⟩, .slice none 0 0] 69))
  have HX := Lib.hid (show Blk ((w.alloc (.cells #[.int .i64 0, .int .i64 0, .bool false, .string ⟨#[]⟩, .slice none 0 0] 69)).alloc (.cells #[.int .i64 4, .int .i64 0, .bool false, .string ⟨#[]⟩, .slice none 0 0] 69)) (w.heap.size + 1) 69 #[.int .i64 4, .int .i64 0, .bool false, .string ⟨#[]⟩, .slice none 0 0] by
    have := Blk.new (w.alloc (.cells #[.int .i64 0, .int .i64 0, .bool false, .string ⟨#[]⟩, .slice none 0 0] 69)) 69 #[.int .i64 4, .int .i64 0, .bool false, .string ⟨#[]⟩, .slice none 0 0]
    simpa using this)
  have HF := Lib.hid (((Fr.refl (fun k => k = p) w).alloc (.cells #[.int .i64 0, .int .i64 0, .bool false, .string ⟨#[]⟩, .slice none 0 0] 69)).alloc (.cells #[.int .i64 4, .int .i64 0, .bool false, .string ⟨#[]⟩, .slice none 0 0] 69))
  have hz2 : ((w.alloc (.cells #[.int .i64 0, .int .i64 0, .bool false, .string ⟨#[]⟩, .slice none 0 0] 69)).alloc (.cells #[.int .i64 4, .int .i64 0, .bool false, .string ⟨#[]⟩, .slice none 0 0] 69)).heap.size = w.heap.size + 2 := by simp
  have hn : ∃ n : Nat, n0 = (n : Int) ∧ n ≤ 1000000 ∧ ((e1 = 0 ∧ (xs, eR, rR) = ((readA n [] r1).2.1, ((readA n [] r1).1, (readA n [] r1).2.2))) ∨ (e1 ≠ 0 ∧ xs = [] ∧ eR = e1)) := by
    by_cases h0 : e1 = 0
    · obtain ⟨h1, h2⟩ := hle h0
      refine ⟨n0.toNat, by omega, by omega, .inl ⟨h0, ?_⟩⟩
      have := HS.out
      rw [if_pos h0] at this
      exact this
    · have := HS.out
      rw [if_neg h0] at this
      injection this with a b
      injection b with b c
      exact ⟨0, hm0 h0, by omega, .inr ⟨h0, a, b⟩⟩
  obtain ⟨n, rfl, hn6, hrel0⟩ := hn
  have HR0 := Lib.hid hrel0
  obtain ⟨x0, x1, x2⟩ := HX.out.facts
  clear h hle hm0 HS hrel0 hlen
  go_enter Tryd.func53, Tryd.ntmps53
  go_upto_region 23 with fail
  generalize (w.alloc _).alloc _ = W2 at *
  clear x0 x1 x2
  go_upto_region 24 with (go_at_call 84; ((with_reducible refine (HM.out _ HP.out).mono ?_); rintro e w3 ⟨rfl, hq, hf⟩))
  have hs3 := hf.size
  have HI := Lib.hid (show ∃ (k : Nat) (acc : List Int) (st : Sd) (A : Option Addr) (c : Nat), k ≤ n ∧ Value.int .i64 0 = .int .i64 (k : Int) ∧ acc.length = k ∧ Blk w3 (w.heap.size + 1) 69 #[.int .i64 4, .int .i64 0, .bool false, .string ⟨#[]⟩, .slice A k c] ∧ w3.ownsRow (w.heap.size + 2) 3 1 (.slice A k c) k (acc.map (Value.int .i64)) ∧ Blk w3 w.heap.size 69 #[.int .i64 0, .int .i64 0, .bool false, .string ⟨#[]⟩, .slice none 0 0] ∧ RfP w3 p B st ∧ Bytes st.2 ∧ Fr (fun k => k = p) w w3 ∧ ((st.1 = 0 ∧ (xs, eR, rR) = ((readA (n - k) acc st.2).2.1, ((readA (n - k) acc st.2).1, (readA (n - k) acc st.2).2.2))) ∨ (st.1 ≠ 0 ∧ xs = [] ∧ eR = st.1)) from ⟨0, [], (e1, r1), none, 0, Nat.zero_le _, rfl, rfl, HX.out.fr hf (by show ¬ (w.heap.size + 1 = p); omega), World.ownsRow_nil _ _ _ _, HZ.out.fr hf (by show ¬ (w.heap.size = p); omega), hq, hby, HF.out.trans hf, HR0.out⟩)
  clear HM HP HZ HX HF HR0 hq hf hby
  go_wp2_with fail
  go_loopw [8] (fun vi wr => ∃ (k : Nat) (acc : List Int) (st : Sd) (A : Option Addr) (c : Nat), k ≤ n ∧ vi = .int .i64 (k : Int) ∧ acc.length = k ∧ Blk wr (w.heap.size + 1) 69 #[.int .i64 4, .int .i64 0, .bool false, .string ⟨#[]⟩, .slice A k c] ∧ wr.ownsRow (w.heap.size + 2) 3 1 (.slice A k c) k (acc.map (Value.int .i64)) ∧ Blk wr w.heap.size 69 #[.int .i64 0, .int .i64 0, .bool false, .string ⟨#[]⟩, .slice none 0 0] ∧ RfP wr p B st ∧ Bytes st.2 ∧ Fr (fun k => k = p) w wr ∧ ((st.1 = 0 ∧ (xs, eR, rR) = ((readA (n - k) acc st.2).2.1, ((readA (n - k) acc st.2).1, (readA (n - k) acc st.2).2.2))) ∨ (st.1 ≠ 0 ∧ xs = [] ∧ eR = st.1))) (fun vi _ => n - (intOf vi).toNat)
  case atStart => exact HI.out
  case round =>
    obtain ⟨k, acc, st, A, c, hk, rfl, hal, hX, hO, hZ, hP, hBy, hF, hR⟩ := hrel
    have HX := Lib.hid hX
    have HO := Lib.hid hO
    have HZ := Lib.hid hZ
    have HP := Lib.hid hP
    have HF := Lib.hid hF
    have HAl := Lib.hid hal
    obtain ⟨rest, Ab, cb, hK, -⟩ := hP
    obtain ⟨-, q1, q2⟩ := hK.facts
    have hql := hK.lt
    clear hX hO hZ hF HI hal hK
    by_cases hc : k < n ∧ st.1 = 0
    · obtain ⟨hlt, h0⟩ := hc
      have hlt' : (k : Int) < (n : Int) := by omega
      have h0b : (st.1 == 0) = true := by simpa using h0
      have HI := Lib.hid (fun (W : World) (h : RfP W p B st) => rf_int p B st W h hp hBy)
      have hBy2 := sI_by hBy
      have hNx : ((sI st).2.1 = 0 ∧ (xs, eR, rR) = ((readA (n - (k + 1)) (acc ++ [(sI st).1]) (sI st).2.2).2.1, ((readA (n - (k + 1)) (acc ++ [(sI st).1]) (sI st).2.2).1, (readA (n - (k + 1)) (acc ++ [(sI st).1]) (sI st).2.2).2.2))) ∨ ((sI st).2.1 ≠ 0 ∧ xs = [] ∧ eR = (sI st).2.1) := by
        rcases hR with ⟨_, h⟩ | ⟨h, _⟩
        · have e : sI st = ((rdI st.2).2.1, ((rdI st.2).1, (rdI st.2).2.2)) := by unfold sI; rw [if_pos h0]
          rw [e]
          dsimp only
          rw [show n - k = (n - (k + 1)) + 1 by omega, readA] at h
          by_cases hz : (rdI st.2).1 = 0
          · rw [if_pos hz] at h; exact .inl ⟨hz, h⟩
          · rw [if_neg hz] at h
            injection h with a b
            injection b with b c
            exact .inr ⟨hz, a, b⟩
        · exact absurd h0 h
      have HNx := Lib.hid hNx
      have HBy2 := Lib.hid hBy2
      generalize sI st = T at *
      obtain ⟨v, st2⟩ := T
      simp only at HI HNx HBy2
      clear hNx hR hBy hBy2
      go_upto_region 27 with fail
      clear q1 q2 h0 h0b
      refine wp_region_last (S := fun w' => Blk w' (w.heap.size + 1) 69 #[.int .i64 4, .int .i64 0, .bool false, .string ⟨#[]⟩, .slice A k c]) #[{ dst := some 105, op := Go.Op.fieldAddr 69 (Go.Operand.tmp 5) 4, type := 0, pos := "ref.go:153", after := #[], guard := none }, { dst := some 106, op := Go.Op.load 22 (Go.Operand.tmp 105), type := 22, pos := "ref.go:153", after := #[{ on := 0, ground := Go.Ground.data }], guard := none }, { dst := some 107, op := Go.Op.move (Go.Operand.tmp 0), type := 65, pos := "ref.go:153", after := #[], guard := none }, { dst := some 108, op := Go.Op.call { callee := Go.Callee.value (Go.Operand.func 52), args := #[Go.Operand.tmp 107], argTypes := #[65] }, type := 2, pos := "ref.go:153", after := #[{ on := 2, ground := Go.Ground.data }], guard := none }, { dst := some 109, op := Go.Op.buildSlice 22 1 #[(0, Go.Operand.tmp 108)], type := 22, pos := "ref.go:153", after := #[{ on := 3, ground := Go.Ground.data }], guard := none }, { dst := some 110, op := Go.Op.call { callee := Go.Callee.builtin Go.Builtin.append, args := #[Go.Operand.tmp 106, Go.Operand.tmp 109], argTypes := #[22, 22] }, type := 22, pos := "ref.go:153", after := #[{ on := 1, ground := Go.Ground.data }, { on := 4, ground := Go.Ground.data }, { on := 3, ground := Go.Ground.chain }], guard := none }, { dst := some 111, op := Go.Op.fieldAddr 69 (Go.Operand.tmp 5) 4, type := 0, pos := "ref.go:153", after := #[{ on := 0, ground := Go.Ground.phase }, { on := 1, ground := Go.Ground.phase }, { on := 2, ground := Go.Ground.phase }, { on := 3, ground := Go.Ground.phase }, { on := 4, ground := Go.Ground.phase }, { on := 5, ground := Go.Ground.phase }], guard := none }] { dst := none, op := Go.Op.store 22 (Go.Operand.tmp 111) (Go.Operand.tmp 110), type := 0, pos := "ref.go:153", after := #[{ on := 6, ground := Go.Ground.data }, { on := 5, ground := Go.Ground.data }, { on := 5, ground := Go.Ground.chain }, { on := 0, ground := Go.Ground.phase }, { on := 1, ground := Go.Ground.phase }, { on := 2, ground := Go.Ground.phase }, { on := 3, ground := Go.Ground.phase }, { on := 4, ground := Go.Ground.phase }, { on := 5, ground := Go.Ground.phase }], guard := none } (by rfl) (by kernel_rfl) (by kernel_rfl) ?_ (fun hHeld => ?_)
      · exact HX.out.drew
      replace HX := Lib.hid hHeld
      replace HO := Lib.hid (show wr.drew.ownsRow (w.heap.size + 2) 3 1 (.slice A k c) k (acc.map (Value.int .i64)) from HO.out)
      replace HP := Lib.hid (show RfP wr.drew p B st from HP.out)
      replace HZ := Lib.hid (show Blk wr.drew w.heap.size 69 #[.int .i64 0, .int .i64 0, .bool false, .string ⟨#[]⟩, .slice none 0 0] from HZ.out)
      replace HF := Lib.hid (show Fr (fun k => k = p) w wr.drew from HF.out.drew)
      generalize wr.drew = wx at *
      refine wpAnyH_take (i := 0) (oi := { dst := some 105, op := Go.Op.fieldAddr 69 (Go.Operand.tmp 5) 4, type := 0, pos := "ref.go:153", after := #[], guard := none }) (v := ?v0) rfl (by kernel_rfl) (by kernel_rfl) (by kernel_rfl) (fun _ _ _ h => h) (Or.inl ⟨by rfl, ?hy0⟩) hHeld ?rest0
      case hy0 =>
        intro w0 hSw
        obtain ⟨-, hS1, -⟩ := hSw.facts
        go_simp
        try with_reducible rfl
      try simp only [Act.put, List.setIfInBounds_toArray, List.set_cons_zero, List.set_cons_succ]
      refine wpAnyH_take (i := 1) (oi := { dst := some 106, op := Go.Op.load 22 (Go.Operand.tmp 105), type := 22, pos := "ref.go:153", after := #[{ on := 0, ground := Go.Ground.data }], guard := none }) (v := ?v1) rfl (by kernel_rfl) (by kernel_rfl) (by kernel_rfl) (fun _ _ _ h => h) (Or.inl ⟨by rfl, ?hy1⟩) hHeld ?rest1
      case hy1 =>
        intro w0 hSw
        obtain ⟨-, hS1, -⟩ := hSw.facts
        go_simp
        try with_reducible rfl
      try simp only [Act.put, List.setIfInBounds_toArray, List.set_cons_zero, List.set_cons_succ]
      refine wpAnyH_take (i := 2) (oi := { dst := some 107, op := Go.Op.move (Go.Operand.tmp 0), type := 65, pos := "ref.go:153", after := #[], guard := none }) (v := ?v2) rfl (by kernel_rfl) (by kernel_rfl) (by kernel_rfl) (fun _ _ _ h => h) (Or.inl ⟨by rfl, ?hy2⟩) hHeld ?rest2
      case hy2 =>
        intro w0 hSw
        obtain ⟨-, hS1, -⟩ := hSw.facts
        go_simp
        try with_reducible rfl
      try simp only [Act.put, List.setIfInBounds_toArray, List.set_cons_zero, List.set_cons_succ]
      refine wpAnyH_ready (rs := [3]) (by kernel_rfl) (by simp) ?_
      refine AllReadyH.cons (o := { dst := some 108, op := Go.Op.call { callee := Go.Callee.value (Go.Operand.func 52), args := #[Go.Operand.tmp 107], argTypes := #[65] }, type := 2, pos := "ref.go:153", after := #[{ on := 2, ground := Go.Ground.data }], guard := none }) rfl (fun K hK => ?_) ?_
      · skip
        go_simp
        go_wp2_with (go_at_call 52; ((with_reducible refine (HI.out _ HP.out).mono ?_); rintro e wz ⟨rfl, hq, hf⟩))
        replace HX := Lib.hid (HX.out.fr hf (by show ¬ (w.heap.size + 1 = p); omega))
        replace HZ := Lib.hid (HZ.out.fr hf (by show ¬ (w.heap.size = p); omega))
        replace HO := Lib.hid (own_frB HO.out hf (fun g hg e => by have := (HO.out.lt g hg).1; have e2 : g = p := e; omega))
        replace HP := Lib.hid hq
        replace HF := Lib.hid (HF.out.trans hf)
        clear hq hf
        obtain ⟨wx, hwx⟩ : ∃ wx, wx = wz := ⟨_, rfl⟩
        rw [← hwx] at HX HO HP HZ HF ⊢
        try rw [← hwx] at HB
        clear hwx
        refine hK.out _ _ ?_ (fun hHeld => ?_)
        · exact HX.out
        clear hK K
        try simp only [Act.put, List.setIfInBounds_toArray, List.set_cons_zero, List.set_cons_succ]
        refine wpAnyH_ready (rs := [4]) (by kernel_rfl) (by simp) ?_
        refine AllReadyH.cons (o := { dst := some 109, op := Go.Op.buildSlice 22 1 #[(0, Go.Operand.tmp 108)], type := 22, pos := "ref.go:153", after := #[{ on := 3, ground := Go.Ground.data }], guard := none }) rfl (fun K hK => ?_) ?_
        · skip
          go_simp
          have hbn := Reads.newS wx [.int .i64 v] 3 (0, 0) 1 1 rfl _ rfl
          have hgb := HX.out.lt
          replace HX := Lib.hid (HX.out.alloc (.cells #[.int .i64 v] 3))
          replace HZ := Lib.hid (HZ.out.alloc (.cells #[.int .i64 v] 3))
          replace HO := Lib.hid (HO.out.alloc (.cells #[.int .i64 v] 3))
          replace HP := Lib.hid (HP.out.alloc (.cells #[.int .i64 v] 3))
          replace HF := Lib.hid (HF.out.alloc (.cells #[.int .i64 v] 3))
          generalize wx.alloc _ = wz at *
          generalize wx.heap.size = gb at *
          have HB := Lib.hid hbn
          clear hbn
          obtain ⟨wx, hwx⟩ : ∃ wx, wx = wz := ⟨_, rfl⟩
          rw [← hwx] at HX HO HP HZ HF ⊢
          try rw [← hwx] at HB
          clear hwx
          refine hK.out _ _ ?_ (fun hHeld => ?_)
          · exact HX.out
          clear hK K
          try simp only [Act.put, List.setIfInBounds_toArray, List.set_cons_zero, List.set_cons_succ]
          refine wpAnyH_ready (rs := [5]) (by kernel_rfl) (by simp) ?_
          refine AllReadyH.cons (o := { dst := some 110, op := Go.Op.call { callee := Go.Callee.builtin Go.Builtin.append, args := #[Go.Operand.tmp 106, Go.Operand.tmp 109], argTypes := #[22, 22] }, type := 22, pos := "ref.go:153", after := #[{ on := 1, ground := Go.Ground.data }, { on := 4, ground := Go.Ground.data }, { on := 3, ground := Go.Ground.chain }], guard := none }) rfl (fun K hK => ?_) ?_
          · skip
            refine step_append_any _ (by rfl) (.tmp 106) (.tmp 109) _ (by rfl) (w.heap.size + 2) 3 (.int .i64 0) 1 8 Tryd.underlying22 info3 rfl (by omega) (.slice A k c) k (acc.map (Value.int .i64)) (by rfl) HO.out _ (some ⟨gb, 0, none⟩) 1 1 [.int .i64 v] (by rfl) HB.out (by simp [Value.oneCell']) (by simp only [maxLen]; omega) (by omega) (by have := HF.out.size; have := HX.out.lt; omega) ?_
            intro A3 c3 wz hown hgr hat
            have hne : ∀ j, j < w.heap.size + 2 → some j ≠ (Value.slice A k c).ownBlock := fun j hj e => by have := (HO.out.lt j e.symm).1; omega
            replace HX := Lib.hid (HX.out.grown hgr (hne _ (by omega)))
            replace HZ := Lib.hid (HZ.out.grown hgr (hne _ (by omega)))
            replace HP := Lib.hid (rfp_grown HP.out hgr (hne _ (by omega)) (fun j hj => hne j (by have := hBw j hj; omega)))
            replace HF := Lib.hid (HF.out.grown hgr (fun j hj => .inr (by have := (HO.out.lt j hj).1; omega)))
            replace HO := Lib.hid hown
            clear hown hgr hat HB hne
            obtain ⟨wx, hwx⟩ : ∃ wx, wx = wz := ⟨_, rfl⟩
            rw [← hwx] at HX HO HP HZ HF ⊢
            try rw [← hwx] at HB
            clear hwx
            refine hK.out _ _ ?_ (fun hHeld => ?_)
            · exact HX.out
            clear hK K
            try simp only [Act.put, List.setIfInBounds_toArray, List.set_cons_zero, List.set_cons_succ]
            refine wpAnyH_take (i := 6) (oi := { dst := some 111, op := Go.Op.fieldAddr 69 (Go.Operand.tmp 5) 4, type := 0, pos := "ref.go:153", after := #[{ on := 0, ground := Go.Ground.phase }, { on := 1, ground := Go.Ground.phase }, { on := 2, ground := Go.Ground.phase }, { on := 3, ground := Go.Ground.phase }, { on := 4, ground := Go.Ground.phase }, { on := 5, ground := Go.Ground.phase }], guard := none }) (v := ?v3) rfl (by kernel_rfl) (by kernel_rfl) (by kernel_rfl) (fun _ _ _ h => h) (Or.inl ⟨by rfl, ?hy3⟩) hHeld ?rest3
            case hy3 =>
              intro w0 hSw
              obtain ⟨-, hS1, -⟩ := hSw.facts
              go_simp
              try with_reducible rfl
            try simp only [Act.put, List.setIfInBounds_toArray, List.set_cons_zero, List.set_cons_succ]
            refine wpAnyH_done (by kernel_rfl) ?_ _
            refine last_do ({ dst := none, op := Go.Op.store 22 (Go.Operand.tmp 111) (Go.Operand.tmp 110), type := 0, pos := "ref.go:153", after := #[{ on := 6, ground := Go.Ground.data }, { on := 5, ground := Go.Ground.data }, { on := 5, ground := Go.Ground.chain }, { on := 0, ground := Go.Ground.phase }, { on := 1, ground := Go.Ground.phase }, { on := 2, ground := Go.Ground.phase }, { on := 3, ground := Go.Ground.phase }, { on := 4, ground := Go.Ground.phase }, { on := 5, ground := Go.Ground.phase }], guard := none }) rfl (fun K hK => ?_)
            obtain ⟨x0, x1, x2⟩ := HX.out.facts
            go_simp
            refine hK _ _ ?_
            go_wp2_with fail
            have f6 : Fr (fun j => j = w.heap.size + 1) wx (wx.setCell ⟨w.heap.size + 1, 4, none⟩ (.slice A3 (k + 1) c3)) := (Fr.refl (fun j => j = w.heap.size + 1) wx).setCell (p := ⟨w.heap.size + 1, 4, none⟩) (.inl rfl) _
            refine ⟨⟨k + 1, acc ++ [v], st2, A3, c3, by omega, by go_num, ?_, ?_, ?_, ?_, ?_, ?_, ?_, HNx.out⟩, by simp [intOf]; omega⟩
            · simp; exact HAl.out
            · have := HX.out.set_ 4 (.slice A3 (k + 1) c3)
              simpa using this
            · have := own_frB HO.out f6 (fun g hg e => by have := (HO.out.lt g hg).1; have e2 : g = w.heap.size + 1 := e; omega)
              simpa using this
            · exact HZ.out.fr f6 (by show ¬ (w.heap.size = w.heap.size + 1); omega)
            · exact HP.out.fr f6 (by show ¬ (p = w.heap.size + 1); omega) (fun j hj e => by have e2 : j = w.heap.size + 1 := e; have := hBw _ hj; omega)
            · exact HBy2.out
            · exact Fr.transB HF.out f6 (fun j e => .inr (by have e2 : j = w.heap.size + 1 := e; omega))
          exact AllReadyH.nil
        exact AllReadyH.nil
      exact AllReadyH.nil
    · have HNe := Lib.hid (show (xs, eR, rR) = (acc, (0, st.2)) ∧ st.1 = 0 ∨ (xs = [] ∧ eR = st.1 ∧ st.1 ≠ 0) by
        rcases hR with ⟨h0, h⟩ | ⟨h0, h1, h2⟩
        · have : n - k = 0 := by
            by_cases hlt : k < n
            · exact absurd ⟨hlt, h0⟩ hc
            · omega
          rw [this, readA_zero] at h
          exact .inl ⟨h, h0⟩
        · exact .inr ⟨h1, h2, h0⟩)
      have hnb : (decide ((k : Int) < (n : Int)) = false ∧ ¬ (k : Int) < (n : Int)) ∨ ((k : Int) < (n : Int) ∧ (st.1 == 0) = false) := by
        by_cases hlt : k < n
        · right; exact ⟨by omega, by have : st.1 ≠ 0 := fun h => hc ⟨hlt, h⟩; simpa using this⟩
        · left; exact ⟨by simp; omega, by omega⟩
      obtain ⟨x0, x1, x2⟩ := HX.out.facts
      clear hR hc hBy
      rcases HNe.out with ⟨hv, h0⟩ | ⟨hv1, hv2, h0⟩
      · have h0b : (st.1 != 0) = false := by simp [h0]
        injection hv with hv1 hv2
        injection hv2 with hv2 hv3
        have HV := Lib.hid (show xs = acc ∧ st = (eR, rR) from ⟨hv1, by rw [hv2, hv3]; exact Prod.ext h0 rfl⟩)
        clear hv1 hv2 hv3 HNe
        rcases hnb with ⟨-, hnb⟩ | ⟨-, hnb⟩
        case inr => exact absurd h0 (by simpa using hnb)
        clear h0
        go_wp2_with (refine wpList_storeBlk rfl (.tmp 4) (.tmp 118) 69 rfl w.heap.size 69 _ #[.int .i64 4, .int .i64 0, .bool false, .string ⟨#[]⟩, .slice A k c] _ 5 64 tinfo69 rfl rfl rfl HZ.out rfl (five_one (by simp [Value.oneCell'])) ?_; intro w4 hb4 hf4 hs4)
        refine bodyPost_ret (results_cell_row (p := 4) (ty := 69) Tryd.results53 _ _ w.heap.size 69 #[.int .i64 4, .int .i64 0, .bool false, .string ⟨#[]⟩, .slice A k c] (0, 0) _ rfl hb4 Tryd.underlying69 rfl tsize69) rfl ?_
        have hv := HV.out
        have ha := HAl.out
        refine ⟨A, c, by show _ = Ending.returned (.agg #[_, _, _, _, .slice A xs.length c]); rw [hv.1, ha], ?_, ?_, Fr.transB HF.out hf4 (fun k e => .inr (by have e2 : k = w.heap.size := e; omega))⟩
        · show RI w4 _ A xs
          rw [hv.1]
          have h5 := (Reads.of_own HO.out).more (B' := fun j => w.heap.size + 2 ≤ j) (fun j hj => (HO.out.lt j hj).1)
          have h6 := h5.fr hf4 (fun j hj e => by have e2 : j = w.heap.size := e; have h7 : w.heap.size + 2 ≤ j := hj; omega)
          rw [← ha] at h6
          exact h6.more (fun j hj => by have h7 : w.heap.size + 2 ≤ j := hj; show w.heap.size ≤ j; omega)
        · show RfP w4 p B (eR, rR)
          rw [← hv.2]; exact HP.out.fr hf4 (by show ¬ (p = w.heap.size); omega) (fun k hk e => by have e2 : k = w.heap.size := e; have := hBw _ hk; omega)
      · have h0b : (st.1 != 0) = true := by simpa [bne] using h0
        have HV := Lib.hid (show xs = [] ∧ eR = st.1 from ⟨hv1, hv2⟩)
        have H0 := Lib.hid h0
        clear hv1 hv2 HNe h0
        have HX4 := Lib.hid (show Blk (wr.setCell ⟨w.heap.size + 1, 4, none⟩ (.slice none 0 0)) (w.heap.size + 1) 69 #[.int .i64 4, .int .i64 0, .bool false, .string ⟨#[]⟩, .slice none 0 0] by
          have := HX.out.set_ 4 (.slice none 0 0)
          simpa using this)
        have f7 := (Fr.refl (fun j => j = w.heap.size + 1) wr).setCell (p := ⟨w.heap.size + 1, 4, none⟩) (.inl rfl) (.slice none 0 0)
        have HZ4 := Lib.hid (HZ.out.fr f7 (by show ¬ (w.heap.size = w.heap.size + 1); omega))
        have HP4 := Lib.hid (HP.out.fr f7 (by show ¬ (p = w.heap.size + 1); omega) (fun j hj e => by have e2 : j = w.heap.size + 1 := e; have := hBw _ hj; omega))
        have HF4 := Lib.hid (Fr.transB HF.out f7 (fun j e => .inr (by have e2 : j = w.heap.size + 1 := e; omega)))
        clear f7
        rcases hnb with ⟨-, hnb⟩ | ⟨hnb, hnb2⟩
        all_goals
          go_upto_region 30 with fail
          generalize wr.setCell _ _ = W4 at *
          clear x0 x1 x2 q1 q2
          obtain ⟨x0, x1, x2⟩ := HX4.out.facts
          go_wp2_with (refine wpList_storeBlk rfl (.tmp 4) (.tmp 118) 69 rfl w.heap.size 69 _ #[.int .i64 4, .int .i64 0, .bool false, .string ⟨#[]⟩, .slice none 0 0] _ 5 64 tinfo69 rfl rfl rfl HZ4.out rfl (five_one (by simp [Value.oneCell'])) ?_; intro w4 hb4 hf4 hs4)
          refine bodyPost_ret (results_cell_row (p := 4) (ty := 69) Tryd.results53 _ _ w.heap.size 69 #[.int .i64 4, .int .i64 0, .bool false, .string ⟨#[]⟩, .slice none 0 0] (0, 0) _ rfl hb4 Tryd.underlying69 rfl tsize69) rfl ?_
          have hv := HV.out
          refine ⟨none, 0, by show _ = Ending.returned (.agg #[_, _, _, _, .slice none xs.length 0]); rw [hv.1]; rfl, by show RI w4 _ none xs; rw [hv.1]; exact Reads.none_, ?_, Fr.transB HF4.out hf4 (fun k e => .inr (by have e2 : k = w.heap.size := e; omega))⟩
          have h8 := HP4.out.fr hf4 (by show ¬ (p = w.heap.size); omega) (fun k hk e => by have e2 : k = w.heap.size := e; have := hBw _ hk; omega)
          obtain ⟨r8, A8, c8, g1, g2, g3, g4⟩ := h8
          exact ⟨r8, A8, c8, by show Blk w4 p 67 #[_, .int .i64 eR]; rw [hv.2]; exact g1, g2, g3, fun h => absurd (show st.1 = 0 by rw [← hv.2]; exact h) H0.out⟩
end Go.Proofs.YtipkicijfedfoaaDoor.Wr

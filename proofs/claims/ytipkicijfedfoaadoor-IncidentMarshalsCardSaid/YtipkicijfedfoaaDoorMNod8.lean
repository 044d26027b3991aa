import Derived.Test.YtipkicijfedfoaaDoorMStBlk
import Derived.Deep.RegionHeldLaw
import Derived.Deep.Cut
import Derived.Deep.CutBlock
import Derived.Deep.DeepCutAuto
namespace Go.Proofs.YtipkicijfedfoaaDoor
set_option linter.unusedVariables false
set_option linter.unusedSimpArgs false
open Go.RowKit Go.Own Go.Quo Go.Inc
theorem words_size {ws : List Nat} (hl : ws.length = 64) : (wordsV ws).size = 64 := by unfold wordsV; simp [hl]
theorem words_one2 (ws : List Nat) : ∀ u ∈ (wordsV ws).toList, u.oneCell' = true := by
  intro u hu
  unfold wordsV at hu
  simp at hu
  obtain ⟨x, -, rfl⟩ := hu
  rfl
/-- the first k words are those of both -/
def andK (a b : List Nat) (k : Nat) : List Nat := (andW a b).take k ++ a.drop k
theorem andW_len {a b : List Nat} (ha : a.length = 64) (hb : b.length = 64) : (andW a b).length = 64 := by unfold andW; rw [List.length_zipWith, ha, hb]; rfl
theorem andK_len {a b : List Nat} (ha : a.length = 64) (hb : b.length = 64) {k : Nat} (hk : k ≤ 64) : (andK a b k).length = 64 := by
  unfold andK; rw [List.length_append, List.length_take, List.length_drop, andW_len ha hb]; omega
theorem andK_at {a b : List Nat} (ha : a.length = 64) (hb : b.length = 64) {k : Nat} (hk : k < 64) : gw (andK a b k) k = gw a k := by
  have hl := andW_len ha hb
  unfold andK gw
  rw [List.getD_eq_getElem?_getD, List.getD_eq_getElem?_getD, List.getElem?_append_right (by rw [List.length_take, hl]; omega), List.length_take, hl, show k - min k 64 = 0 by omega, List.getElem?_drop]
  rfl
theorem andK_set {a b : List Nat} (ha : a.length = 64) (hb : b.length = 64) {k : Nat} (hk : k < 64) : (andK a b k).set k (gw a k &&& gw b k) = andK a b (k + 1) := by
  have hl := andW_len ha hb
  have hv : (andW a b)[k]'(by omega) = gw a k &&& gw b k := by
    have := gw_and (a := a) (b := b) (by omega) k
    unfold gw at this ⊢
    rw [← this, List.getD_eq_getElem?_getD, List.getElem?_eq_getElem (show k < (andW a b).length by omega)]; rfl
  unfold andK
  rw [List.set_append_right _ _ (by rw [List.length_take, hl]; omega), List.length_take, hl, show k - min k 64 = 0 by omega]
  rw [List.drop_eq_getElem_cons (show k < a.length by omega), List.set_cons_zero, ← hv, List.take_succ_eq_append_getElem (show k < (andW a b).length by omega), List.append_assoc]
  rfl
theorem andK_0 (a b : List Nat) : andK a b 0 = a := by unfold andK; simp
theorem andK_64 {a b : List Nat} (ha : a.length = 64) (hb : b.length = 64) : andK a b 64 = andW a b := by
  unfold andK
  rw [List.take_of_length_le (by rw [andW_len ha hb]; omega), List.drop_of_length_le (by omega), List.append_nil]
theorem and_u64 (x y : Nat) (hx : x < 2 ^ 64) (hy : y < 2 ^ 64) : bits .and .u64 (x : Int) (y : Int) = ((x &&& y : Nat) : Int) := bits_and_u64_nat _ _ hx hy
set_option maxRecDepth 10000 in
set_option maxHeartbeats 8000000 in
theorem inter76 (g1 g2 : Nat) (ws1 ws2 : List Nat) (w : World) (h1 : WB w g1 ws1) (h2 : WB w g2 ws2) (hl1 : ws1.length = 64) (hl2 : ws2.length = 64) (hv1 : ∀ i, gw ws1 i < 2 ^ 64) (hv2 : ∀ i, gw ws2 i < 2 ^ 64) :
    Calls Tryd.prog 76 #[.agg #[.pointer (some ⟨g1, 0, none⟩)], .agg #[.pointer (some ⟨g2, 0, none⟩)]] w (SetPost (andW ws1 ws2) w) := by
  obtain ⟨W4, hW4⟩ : ∃ W4, W4 = ((w.alloc (.cells #[.pointer (some ⟨g1, 0, none⟩)] 96)).alloc (.cells #[.pointer (some ⟨g2, 0, none⟩)] 96)).alloc (.cells #[.pointer none] 96) := ⟨_, rfl⟩
  have HX2 := Lib.hid (show Blk W4 w.heap.size 96 #[.pointer (some ⟨g1, 0, none⟩)] by rw [hW4]; exact ((Blk.new w 96 _).alloc _).alloc _)
  have HX3 := Lib.hid (show Blk W4 (w.heap.size + 1) 96 #[.pointer (some ⟨g2, 0, none⟩)] by rw [hW4]; have := (Blk.new (w.alloc (.cells #[.pointer (some ⟨g1, 0, none⟩)] 96)) 96 #[.pointer (some ⟨g2, 0, none⟩)]).alloc (.cells #[.pointer none] 96); simpa using this)
  have HX4 := Lib.hid (show Blk W4 (w.heap.size + 2) 96 #[.pointer none] by rw [hW4]; have := Blk.new ((w.alloc (.cells #[.pointer (some ⟨g1, 0, none⟩)] 96)).alloc (.cells #[.pointer (some ⟨g2, 0, none⟩)] 96)) 96 #[.pointer none]; simpa using this)
  have HA := Lib.hid (show WB W4 g1 ws1 by rw [hW4]; exact ((Blk.alloc h1 _).alloc _).alloc _)
  have HB := Lib.hid (show WB W4 g2 ws2 by rw [hW4]; exact ((Blk.alloc h2 _).alloc _).alloc _)
  have HBe := Lib.hid (show Below w.heap.size w W4 by rw [hW4]; exact (((Below.refl w.heap.size w).alloc (Nat.le_refl _) _).alloc (by simp) _).alloc (by simp; omega) _)
  have HSz := Lib.hid (show W4.heap.size = w.heap.size + 3 by rw [hW4]; simp)
  have HV1 := Lib.hid hv1
  have HV2 := Lib.hid hv2
  clear h1 h2 hv1 hv2
  go_enter Tryd.func76, Tryd.ntmps76
  go_upto_region 1 with (fail)
  rw [← hW4]
  clear hW4
  go_cut [5, 6] (fun v5 v6 wx => ∃ g5 g6, v5 = .pointer (some ⟨g5, 0, none⟩) ∧ v6 = .pointer (some ⟨g6, 0, none⟩) ∧ g5 ≠ g6 ∧ W4.heap.size ≤ g5 ∧ W4.heap.size ≤ g6 ∧ WB wx g5 ws1 ∧ WB wx g6 ws2 ∧ Fr (fun _ => False) W4 wx)
  case first =>
    refine wp_region_last (S := fun w' => Fr (fun _ => False) W4 w') #[{ dst := some 8, op := Go.Op.load 96 (Go.Operand.tmp 2), type := 96, pos := "nodeset.go:86", after := #[], guard := none }, { dst := some 9, op := Go.Op.call { callee := Go.Callee.value (Go.Operand.func 91), args := #[Go.Operand.tmp 8], argTypes := #[96] }, type := 115, pos := "nodeset.go:86", after := #[{ on := 0, ground := Go.Ground.data }], guard := none }, { dst := some 10, op := Go.Op.load 96 (Go.Operand.tmp 3), type := 96, pos := "nodeset.go:86", after := #[], guard := none }, { dst := some 11, op := Go.Op.call { callee := Go.Callee.value (Go.Operand.func 91), args := #[Go.Operand.tmp 10], argTypes := #[96] }, type := 115, pos := "nodeset.go:86", after := #[{ on := 2, ground := Go.Ground.data }, { on := 1, ground := Go.Ground.chain }], guard := none }, { dst := some 5, op := Go.Op.alloc 115, type := 0, pos := "nodeset.go:86", after := #[], guard := none }, { dst := some 6, op := Go.Op.alloc 115, type := 0, pos := "nodeset.go:86", after := #[], guard := none }, { dst := none, op := Go.Op.store 115 (Go.Operand.tmp 5) (Go.Operand.tmp 9), type := 0, pos := "nodeset.go:86", after := #[{ on := 4, ground := Go.Ground.data }, { on := 1, ground := Go.Ground.data }, { on := 3, ground := Go.Ground.chain }, { on := 0, ground := Go.Ground.phase }, { on := 1, ground := Go.Ground.phase }, { on := 2, ground := Go.Ground.textOnly Go.Departure.lateStores }, { on := 3, ground := Go.Ground.phase }, { on := 4, ground := Go.Ground.phase }, { on := 5, ground := Go.Ground.phase }], guard := none }] { dst := none, op := Go.Op.store 115 (Go.Operand.tmp 6) (Go.Operand.tmp 11), type := 0, pos := "nodeset.go:86", after := #[{ on := 5, ground := Go.Ground.data }, { on := 3, ground := Go.Ground.data }, { on := 6, ground := Go.Ground.chain }, { on := 0, ground := Go.Ground.phase }, { on := 1, ground := Go.Ground.phase }, { on := 2, ground := Go.Ground.phase }, { on := 3, ground := Go.Ground.phase }, { on := 4, ground := Go.Ground.phase }, { on := 5, ground := Go.Ground.phase }, { on := 6, ground := Go.Ground.phase }], guard := none } (by rfl) (by kernel_rfl) (by kernel_rfl) ?_ (fun hHeld => ?_)
    · exact (Fr.refl _ _).drew
    have HR := Lib.hid hHeld
    generalize W4.drew = wx at *
    refine wpAnyH_take (i := 0) (oi := { dst := some 8, op := Go.Op.load 96 (Go.Operand.tmp 2), type := 96, pos := "nodeset.go:86", after := #[], guard := none }) (v := ?v0) rfl (by kernel_rfl) (by kernel_rfl) (by kernel_rfl) (fun _ _ _ h => h) (Or.inl ⟨by rfl, ?hy0⟩) hHeld ?rest0
    case hy0 =>
      intro w0 hSw
      obtain ⟨-, hS1, -⟩ := (HX2.out.fr hSw id).facts
      obtain ⟨-, hS2, -⟩ := (HX3.out.fr hSw id).facts
      go_simp
      try with_reducible rfl
    try simp only [Act.put, List.setIfInBounds_toArray, List.set_cons_zero, List.set_cons_succ]
    refine wpAnyH_take (i := 2) (oi := { dst := some 10, op := Go.Op.load 96 (Go.Operand.tmp 3), type := 96, pos := "nodeset.go:86", after := #[], guard := none }) (v := ?v1) rfl (by kernel_rfl) (by kernel_rfl) (by kernel_rfl) (fun _ _ _ h => h) (Or.inl ⟨by rfl, ?hy1⟩) hHeld ?rest1
    case hy1 =>
      intro w0 hSw
      obtain ⟨-, hS1, -⟩ := (HX2.out.fr hSw id).facts
      obtain ⟨-, hS2, -⟩ := (HX3.out.fr hSw id).facts
      go_simp
      try with_reducible rfl
    try simp only [Act.put, List.setIfInBounds_toArray, List.set_cons_zero, List.set_cons_succ]
    refine wpAnyH_ready (rs := [1, 4, 5]) (by kernel_rfl) (by simp) ?_
    refine AllReadyH.cons (o := { dst := some 9, op := Go.Op.call { callee := Go.Callee.value (Go.Operand.func 91), args := #[Go.Operand.tmp 8], argTypes := #[96] }, type := 115, pos := "nodeset.go:86", after := #[{ on := 0, ground := Go.Ground.data }], guard := none }) rfl (fun K hK => ?_) ?_
    · skip
      have hwa := Lib.hid (show WB wx g1 ws1 from Blk.fr HA.out HR.out id)
      go_simp
      go_wp2_with (go_at_call 91; ((with_reducible refine (bitmap91 g1 ws1 _ hwa.out hl1).mono ?_); rintro e wz ⟨rfl, hbz⟩))
      clear hwa
      have HR := Lib.hid (HR.out.trans (Fr.of_below (hbz) (S := fun _ => False)))
      try have H5 := Lib.hid (Blk.below H5.out hbz H5.out.lt)
      try have H6 := Lib.hid (Blk.below H6.out hbz H6.out.lt)
      clear hbz
      obtain ⟨wx, hwx⟩ : ∃ wx, wx = wz := ⟨_, rfl⟩
      rw [← hwx] at HR ⊢
      try rw [← hwx] at H5
      try rw [← hwx] at H6
      clear hwx
      refine hK.out _ _ ?_ (fun hHeld => ?_)
      · exact HR.out
      clear hK K
      try simp only [Act.put, List.setIfInBounds_toArray, List.set_cons_zero, List.set_cons_succ]
      refine wpAnyH_ready (rs := [3, 4, 5]) (by kernel_rfl) (by simp) ?_
      refine AllReadyH.cons (o := { dst := some 11, op := Go.Op.call { callee := Go.Callee.value (Go.Operand.func 91), args := #[Go.Operand.tmp 10], argTypes := #[96] }, type := 115, pos := "nodeset.go:86", after := #[{ on := 2, ground := Go.Ground.data }, { on := 1, ground := Go.Ground.chain }], guard := none }) rfl (fun K hK => ?_) ?_
      · skip
        have hwa := Lib.hid (show WB wx g2 ws2 from Blk.fr HB.out HR.out id)
        go_simp
        go_wp2_with (go_at_call 91; ((with_reducible refine (bitmap91 g2 ws2 _ hwa.out hl2).mono ?_); rintro e wz ⟨rfl, hbz⟩))
        clear hwa
        have HR := Lib.hid (HR.out.trans (Fr.of_below (hbz) (S := fun _ => False)))
        try have H5 := Lib.hid (Blk.below H5.out hbz H5.out.lt)
        try have H6 := Lib.hid (Blk.below H6.out hbz H6.out.lt)
        clear hbz
        obtain ⟨wx, hwx⟩ : ∃ wx, wx = wz := ⟨_, rfl⟩
        rw [← hwx] at HR ⊢
        try rw [← hwx] at H5
        try rw [← hwx] at H6
        clear hwx
        refine hK.out _ _ ?_ (fun hHeld => ?_)
        · exact HR.out
        clear hK K
        try simp only [Act.put, List.setIfInBounds_toArray, List.set_cons_zero, List.set_cons_succ]
        refine wpAnyH_ready (rs := [4, 5]) (by kernel_rfl) (by simp) ?_
        refine AllReadyH.cons (o := { dst := some 5, op := Go.Op.alloc 115, type := 0, pos := "nodeset.go:86", after := #[], guard := none }) rfl (fun K hK => ?_) ?_
        · skip
          go_simp
          try have HNX := Lib.hid (show _ < wx.heap.size from H6.out.lt)
          have hbn := Blk.new wx 115 (List.replicate 64 (Value.int .u64 0)).toArray
          have hrn := HR.out.alloc (.cells (List.replicate 64 (Value.int .u64 0)).toArray 115)
          try have H6 := Lib.hid (H6.out.alloc (.cells (List.replicate 64 (Value.int .u64 0)).toArray 115))
          have hge := HR.out.size
          simp only [List.replicate_succ, List.replicate_zero] at hbn hrn
          try simp only [List.replicate_succ, List.replicate_zero] at H6
          try rw [← HSx] at HNX
          generalize wx.alloc _ = wz at *
          generalize wx.heap.size = g5x at *
          have H5 := Lib.hid hbn
          have HG5 := Lib.hid hge
          have HR := Lib.hid hrn
          try have HNE := Lib.hid (show g5x ≠ g6x by have := HNX.out; omega)
          clear hbn hrn hge
          obtain ⟨wx, hwx⟩ : ∃ wx, wx = wz := ⟨_, rfl⟩
          rw [← hwx] at HR ⊢
          try rw [← hwx] at H5
          try rw [← hwx] at H6
          clear hwx
          refine hK.out _ _ ?_ (fun hHeld => ?_)
          · exact HR.out
          clear hK K
          try simp only [Act.put, List.setIfInBounds_toArray, List.set_cons_zero, List.set_cons_succ]
          refine wpAnyH_ready (rs := [5]) (by kernel_rfl) (by simp) ?_
          refine AllReadyH.cons (o := { dst := some 6, op := Go.Op.alloc 115, type := 0, pos := "nodeset.go:86", after := #[], guard := none }) rfl (fun K hK => ?_) ?_
          · skip
            go_simp
            try have HNX := Lib.hid (show _ < wx.heap.size from H5.out.lt)
            have hbn := Blk.new wx 115 (List.replicate 64 (Value.int .u64 0)).toArray
            have hrn := HR.out.alloc (.cells (List.replicate 64 (Value.int .u64 0)).toArray 115)
            try have H5 := Lib.hid (H5.out.alloc (.cells (List.replicate 64 (Value.int .u64 0)).toArray 115))
            have hge := HR.out.size
            simp only [List.replicate_succ, List.replicate_zero] at hbn hrn
            try simp only [List.replicate_succ, List.replicate_zero] at H5
            try rw [← HSx] at HNX
            generalize wx.alloc _ = wz at *
            generalize wx.heap.size = g6x at *
            have H6 := Lib.hid hbn
            have HG6 := Lib.hid hge
            have HR := Lib.hid hrn
            try have HNE := Lib.hid (show g5x ≠ g6x by have := HNX.out; omega)
            clear hbn hrn hge
            obtain ⟨wx, hwx⟩ : ∃ wx, wx = wz := ⟨_, rfl⟩
            rw [← hwx] at HR ⊢
            try rw [← hwx] at H5
            try rw [← hwx] at H6
            clear hwx
            refine hK.out _ _ ?_ (fun hHeld => ?_)
            · exact HR.out
            clear hK K
            try simp only [Act.put, List.setIfInBounds_toArray, List.set_cons_zero, List.set_cons_succ]
            refine wpAnyH_ready (rs := [6]) (by kernel_rfl) (by simp) ?_
            refine AllReadyH.cons (o := { dst := none, op := Go.Op.store 115 (Go.Operand.tmp 5) (Go.Operand.tmp 9), type := 0, pos := "nodeset.go:86", after := #[{ on := 4, ground := Go.Ground.data }, { on := 1, ground := Go.Ground.data }, { on := 3, ground := Go.Ground.chain }, { on := 0, ground := Go.Ground.phase }, { on := 1, ground := Go.Ground.phase }, { on := 2, ground := Go.Ground.textOnly Go.Departure.lateStores }, { on := 3, ground := Go.Ground.phase }, { on := 4, ground := Go.Ground.phase }, { on := 5, ground := Go.Ground.phase }], guard := none }) rfl (fun K hK => ?_) ?_
            · skip
              refine step_storeBlk _ (by rfl) (.tmp 5) (.tmp 9) 115 (by rfl) _ 115 _ (wordsV ws1) _ 64 512 info115z (by rfl) (by rfl) (words_size hl1).symm H5.out (by rw [words_size hl1]; rfl) (words_one2 ws1) ?_
              intro wz hbz hfz hsz
              have HR := Lib.hid (HR.out.trans_ hfz (fun i e => Or.inr (by have := HG5.out; omega)))
              have H6 := Lib.hid (H6.out.fr hfz (fun e => HNE.out e.symm))
              have H5 := Lib.hid hbz
              clear hbz hfz hsz
              obtain ⟨wx, hwx⟩ : ∃ wx, wx = wz := ⟨_, rfl⟩
              rw [← hwx] at HR ⊢
              try rw [← hwx] at H5
              try rw [← hwx] at H6
              clear hwx
              refine hK.out _ _ ?_ (fun hHeld => ?_)
              · exact HR.out
              clear hK K
              try simp only [Act.put, List.setIfInBounds_toArray, List.set_cons_zero, List.set_cons_succ]
              refine wpAnyH_done (by kernel_rfl) ?_ _
              refine last_do ({ dst := none, op := Go.Op.store 115 (Go.Operand.tmp 6) (Go.Operand.tmp 11), type := 0, pos := "nodeset.go:86", after := #[{ on := 5, ground := Go.Ground.data }, { on := 3, ground := Go.Ground.data }, { on := 6, ground := Go.Ground.chain }, { on := 0, ground := Go.Ground.phase }, { on := 1, ground := Go.Ground.phase }, { on := 2, ground := Go.Ground.phase }, { on := 3, ground := Go.Ground.phase }, { on := 4, ground := Go.Ground.phase }, { on := 5, ground := Go.Ground.phase }, { on := 6, ground := Go.Ground.phase }], guard := none }) rfl (fun K hK => ?_)
              refine step_storeBlk _ (by rfl) (.tmp 6) (.tmp 11) 115 (by rfl) _ 115 _ (wordsV ws2) _ 64 512 info115z (by rfl) (by rfl) (words_size hl2).symm H6.out (by rw [words_size hl2]; rfl) (words_one2 ws2) ?_
              intro wz hbz hfz hsz
              refine hK _ _ ?_
              simp only [Act.put]
              go_wp2_with fail
              go_meet
              case rel => exact ⟨_, _, rfl, rfl, HNE.out, HG5.out, HG6.out, Blk.fr H5.out hfz HNE.out, hbz, HR.out.trans_ hfz (fun i e => Or.inr (by have := HG6.out; omega))⟩
            exact AllReadyH.nil
          exact AllReadyH.nil
        refine AllReadyH.cons (o := { dst := some 6, op := Go.Op.alloc 115, type := 0, pos := "nodeset.go:86", after := #[], guard := none }) rfl (fun K hK => ?_) ?_
        · skip
          go_simp
          try have HNX := Lib.hid (show _ < wx.heap.size from H5.out.lt)
          have hbn := Blk.new wx 115 (List.replicate 64 (Value.int .u64 0)).toArray
          have hrn := HR.out.alloc (.cells (List.replicate 64 (Value.int .u64 0)).toArray 115)
          try have H5 := Lib.hid (H5.out.alloc (.cells (List.replicate 64 (Value.int .u64 0)).toArray 115))
          have hge := HR.out.size
          simp only [List.replicate_succ, List.replicate_zero] at hbn hrn
          try simp only [List.replicate_succ, List.replicate_zero] at H5
          try rw [← HSx] at HNX
          generalize wx.alloc _ = wz at *
          generalize wx.heap.size = g6x at *
          have H6 := Lib.hid hbn
          have HG6 := Lib.hid hge
          have HR := Lib.hid hrn
          try have HNE := Lib.hid (show g5x ≠ g6x by have := HNX.out; omega)
          clear hbn hrn hge
          obtain ⟨wx, hwx⟩ : ∃ wx, wx = wz := ⟨_, rfl⟩
          rw [← hwx] at HR ⊢
          try rw [← hwx] at H5
          try rw [← hwx] at H6
          clear hwx
          refine hK.out _ _ ?_ (fun hHeld => ?_)
          · exact HR.out
          clear hK K
          try simp only [Act.put, List.setIfInBounds_toArray, List.set_cons_zero, List.set_cons_succ]
          refine wpAnyH_ready (rs := [4]) (by kernel_rfl) (by simp) ?_
          refine AllReadyH.cons (o := { dst := some 5, op := Go.Op.alloc 115, type := 0, pos := "nodeset.go:86", after := #[], guard := none }) rfl (fun K hK => ?_) ?_
          · skip
            go_simp
            try have HNX := Lib.hid (show _ < wx.heap.size from H6.out.lt)
            have hbn := Blk.new wx 115 (List.replicate 64 (Value.int .u64 0)).toArray
            have hrn := HR.out.alloc (.cells (List.replicate 64 (Value.int .u64 0)).toArray 115)
            try have H6 := Lib.hid (H6.out.alloc (.cells (List.replicate 64 (Value.int .u64 0)).toArray 115))
            have hge := HR.out.size
            simp only [List.replicate_succ, List.replicate_zero] at hbn hrn
            try simp only [List.replicate_succ, List.replicate_zero] at H6
            try rw [← HSx] at HNX
            generalize wx.alloc _ = wz at *
            generalize wx.heap.size = g5x at *
            have H5 := Lib.hid hbn
            have HG5 := Lib.hid hge
            have HR := Lib.hid hrn
            try have HNE := Lib.hid (show g5x ≠ g6x by have := HNX.out; omega)
            clear hbn hrn hge
            obtain ⟨wx, hwx⟩ : ∃ wx, wx = wz := ⟨_, rfl⟩
            rw [← hwx] at HR ⊢
            try rw [← hwx] at H5
            try rw [← hwx] at H6
            clear hwx
            refine hK.out _ _ ?_ (fun hHeld => ?_)
            · exact HR.out
            clear hK K
            try simp only [Act.put, List.setIfInBounds_toArray, List.set_cons_zero, List.set_cons_succ]
            refine wpAnyH_ready (rs := [6]) (by kernel_rfl) (by simp) ?_
            refine AllReadyH.cons (o := { dst := none, op := Go.Op.store 115 (Go.Operand.tmp 5) (Go.Operand.tmp 9), type := 0, pos := "nodeset.go:86", after := #[{ on := 4, ground := Go.Ground.data }, { on := 1, ground := Go.Ground.data }, { on := 3, ground := Go.Ground.chain }, { on := 0, ground := Go.Ground.phase }, { on := 1, ground := Go.Ground.phase }, { on := 2, ground := Go.Ground.textOnly Go.Departure.lateStores }, { on := 3, ground := Go.Ground.phase }, { on := 4, ground := Go.Ground.phase }, { on := 5, ground := Go.Ground.phase }], guard := none }) rfl (fun K hK => ?_) ?_
            · skip
              refine step_storeBlk _ (by rfl) (.tmp 5) (.tmp 9) 115 (by rfl) _ 115 _ (wordsV ws1) _ 64 512 info115z (by rfl) (by rfl) (words_size hl1).symm H5.out (by rw [words_size hl1]; rfl) (words_one2 ws1) ?_
              intro wz hbz hfz hsz
              have HR := Lib.hid (HR.out.trans_ hfz (fun i e => Or.inr (by have := HG5.out; omega)))
              have H6 := Lib.hid (H6.out.fr hfz (fun e => HNE.out e.symm))
              have H5 := Lib.hid hbz
              clear hbz hfz hsz
              obtain ⟨wx, hwx⟩ : ∃ wx, wx = wz := ⟨_, rfl⟩
              rw [← hwx] at HR ⊢
              try rw [← hwx] at H5
              try rw [← hwx] at H6
              clear hwx
              refine hK.out _ _ ?_ (fun hHeld => ?_)
              · exact HR.out
              clear hK K
              try simp only [Act.put, List.setIfInBounds_toArray, List.set_cons_zero, List.set_cons_succ]
              refine wpAnyH_done (by kernel_rfl) ?_ _
              refine last_do ({ dst := none, op := Go.Op.store 115 (Go.Operand.tmp 6) (Go.Operand.tmp 11), type := 0, pos := "nodeset.go:86", after := #[{ on := 5, ground := Go.Ground.data }, { on := 3, ground := Go.Ground.data }, { on := 6, ground := Go.Ground.chain }, { on := 0, ground := Go.Ground.phase }, { on := 1, ground := Go.Ground.phase }, { on := 2, ground := Go.Ground.phase }, { on := 3, ground := Go.Ground.phase }, { on := 4, ground := Go.Ground.phase }, { on := 5, ground := Go.Ground.phase }, { on := 6, ground := Go.Ground.phase }], guard := none }) rfl (fun K hK => ?_)
              refine step_storeBlk _ (by rfl) (.tmp 6) (.tmp 11) 115 (by rfl) _ 115 _ (wordsV ws2) _ 64 512 info115z (by rfl) (by rfl) (words_size hl2).symm H6.out (by rw [words_size hl2]; rfl) (words_one2 ws2) ?_
              intro wz hbz hfz hsz
              refine hK _ _ ?_
              simp only [Act.put]
              go_wp2_with fail
              go_meet
              case rel => exact ⟨_, _, rfl, rfl, HNE.out, HG5.out, HG6.out, Blk.fr H5.out hfz HNE.out, hbz, HR.out.trans_ hfz (fun i e => Or.inr (by have := HG6.out; omega))⟩
            exact AllReadyH.nil
          exact AllReadyH.nil
        exact AllReadyH.nil
      refine AllReadyH.cons (o := { dst := some 5, op := Go.Op.alloc 115, type := 0, pos := "nodeset.go:86", after := #[], guard := none }) rfl (fun K hK => ?_) ?_
      · skip
        go_simp
        try have HNX := Lib.hid (show _ < wx.heap.size from H6.out.lt)
        have hbn := Blk.new wx 115 (List.replicate 64 (Value.int .u64 0)).toArray
        have hrn := HR.out.alloc (.cells (List.replicate 64 (Value.int .u64 0)).toArray 115)
        try have H6 := Lib.hid (H6.out.alloc (.cells (List.replicate 64 (Value.int .u64 0)).toArray 115))
        have hge := HR.out.size
        simp only [List.replicate_succ, List.replicate_zero] at hbn hrn
        try simp only [List.replicate_succ, List.replicate_zero] at H6
        try rw [← HSx] at HNX
        generalize wx.alloc _ = wz at *
        generalize wx.heap.size = g5x at *
        have H5 := Lib.hid hbn
        have HG5 := Lib.hid hge
        have HR := Lib.hid hrn
        try have HNE := Lib.hid (show g5x ≠ g6x by have := HNX.out; omega)
        clear hbn hrn hge
        obtain ⟨wx, hwx⟩ : ∃ wx, wx = wz := ⟨_, rfl⟩
        rw [← hwx] at HR ⊢
        try rw [← hwx] at H5
        try rw [← hwx] at H6
        clear hwx
        refine hK.out _ _ ?_ (fun hHeld => ?_)
        · exact HR.out
        clear hK K
        try simp only [Act.put, List.setIfInBounds_toArray, List.set_cons_zero, List.set_cons_succ]
        refine wpAnyH_ready (rs := [3, 5]) (by kernel_rfl) (by simp) ?_
        refine AllReadyH.cons (o := { dst := some 11, op := Go.Op.call { callee := Go.Callee.value (Go.Operand.func 91), args := #[Go.Operand.tmp 10], argTypes := #[96] }, type := 115, pos := "nodeset.go:86", after := #[{ on := 2, ground := Go.Ground.data }, { on := 1, ground := Go.Ground.chain }], guard := none }) rfl (fun K hK => ?_) ?_
        · skip
          have hwa := Lib.hid (show WB wx g2 ws2 from Blk.fr HB.out HR.out id)
          go_simp
          go_wp2_with (go_at_call 91; ((with_reducible refine (bitmap91 g2 ws2 _ hwa.out hl2).mono ?_); rintro e wz ⟨rfl, hbz⟩))
          clear hwa
          have HR := Lib.hid (HR.out.trans (Fr.of_below (hbz) (S := fun _ => False)))
          try have H5 := Lib.hid (Blk.below H5.out hbz H5.out.lt)
          try have H6 := Lib.hid (Blk.below H6.out hbz H6.out.lt)
          clear hbz
          obtain ⟨wx, hwx⟩ : ∃ wx, wx = wz := ⟨_, rfl⟩
          rw [← hwx] at HR ⊢
          try rw [← hwx] at H5
          try rw [← hwx] at H6
          clear hwx
          refine hK.out _ _ ?_ (fun hHeld => ?_)
          · exact HR.out
          clear hK K
          try simp only [Act.put, List.setIfInBounds_toArray, List.set_cons_zero, List.set_cons_succ]
          refine wpAnyH_ready (rs := [5]) (by kernel_rfl) (by simp) ?_
          refine AllReadyH.cons (o := { dst := some 6, op := Go.Op.alloc 115, type := 0, pos := "nodeset.go:86", after := #[], guard := none }) rfl (fun K hK => ?_) ?_
          · skip
            go_simp
            try have HNX := Lib.hid (show _ < wx.heap.size from H5.out.lt)
            have hbn := Blk.new wx 115 (List.replicate 64 (Value.int .u64 0)).toArray
            have hrn := HR.out.alloc (.cells (List.replicate 64 (Value.int .u64 0)).toArray 115)
            try have H5 := Lib.hid (H5.out.alloc (.cells (List.replicate 64 (Value.int .u64 0)).toArray 115))
            have hge := HR.out.size
            simp only [List.replicate_succ, List.replicate_zero] at hbn hrn
            try simp only [List.replicate_succ, List.replicate_zero] at H5
            try rw [← HSx] at HNX
            generalize wx.alloc _ = wz at *
            generalize wx.heap.size = g6x at *
            have H6 := Lib.hid hbn
            have HG6 := Lib.hid hge
            have HR := Lib.hid hrn
            try have HNE := Lib.hid (show g5x ≠ g6x by have := HNX.out; omega)
            clear hbn hrn hge
            obtain ⟨wx, hwx⟩ : ∃ wx, wx = wz := ⟨_, rfl⟩
            rw [← hwx] at HR ⊢
            try rw [← hwx] at H5
            try rw [← hwx] at H6
            clear hwx
            refine hK.out _ _ ?_ (fun hHeld => ?_)
            · exact HR.out
            clear hK K
            try simp only [Act.put, List.setIfInBounds_toArray, List.set_cons_zero, List.set_cons_succ]
            refine wpAnyH_ready (rs := [6]) (by kernel_rfl) (by simp) ?_
            refine AllReadyH.cons (o := { dst := none, op := Go.Op.store 115 (Go.Operand.tmp 5) (Go.Operand.tmp 9), type := 0, pos := "nodeset.go:86", after := #[{ on := 4, ground := Go.Ground.data }, { on := 1, ground := Go.Ground.data }, { on := 3, ground := Go.Ground.chain }, { on := 0, ground := Go.Ground.phase }, { on := 1, ground := Go.Ground.phase }, { on := 2, ground := Go.Ground.textOnly Go.Departure.lateStores }, { on := 3, ground := Go.Ground.phase }, { on := 4, ground := Go.Ground.phase }, { on := 5, ground := Go.Ground.phase }], guard := none }) rfl (fun K hK => ?_) ?_
            · skip
              refine step_storeBlk _ (by rfl) (.tmp 5) (.tmp 9) 115 (by rfl) _ 115 _ (wordsV ws1) _ 64 512 info115z (by rfl) (by rfl) (words_size hl1).symm H5.out (by rw [words_size hl1]; rfl) (words_one2 ws1) ?_
              intro wz hbz hfz hsz
              have HR := Lib.hid (HR.out.trans_ hfz (fun i e => Or.inr (by have := HG5.out; omega)))
              have H6 := Lib.hid (H6.out.fr hfz (fun e => HNE.out e.symm))
              have H5 := Lib.hid hbz
              clear hbz hfz hsz
              obtain ⟨wx, hwx⟩ : ∃ wx, wx = wz := ⟨_, rfl⟩
              rw [← hwx] at HR ⊢
              try rw [← hwx] at H5
              try rw [← hwx] at H6
              clear hwx
              refine hK.out _ _ ?_ (fun hHeld => ?_)
              · exact HR.out
              clear hK K
              try simp only [Act.put, List.setIfInBounds_toArray, List.set_cons_zero, List.set_cons_succ]
              refine wpAnyH_done (by kernel_rfl) ?_ _
              refine last_do ({ dst := none, op := Go.Op.store 115 (Go.Operand.tmp 6) (Go.Operand.tmp 11), type := 0, pos := "nodeset.go:86", after := #[{ on := 5, ground := Go.Ground.data }, { on := 3, ground := Go.Ground.data }, { on := 6, ground := Go.Ground.chain }, { on := 0, ground := Go.Ground.phase }, { on := 1, ground := Go.Ground.phase }, { on := 2, ground := Go.Ground.phase }, { on := 3, ground := Go.Ground.phase }, { on := 4, ground := Go.Ground.phase }, { on := 5, ground := Go.Ground.phase }, { on := 6, ground := Go.Ground.phase }], guard := none }) rfl (fun K hK => ?_)
              refine step_storeBlk _ (by rfl) (.tmp 6) (.tmp 11) 115 (by rfl) _ 115 _ (wordsV ws2) _ 64 512 info115z (by rfl) (by rfl) (words_size hl2).symm H6.out (by rw [words_size hl2]; rfl) (words_one2 ws2) ?_
              intro wz hbz hfz hsz
              refine hK _ _ ?_
              simp only [Act.put]
              go_wp2_with fail
              go_meet
              case rel => exact ⟨_, _, rfl, rfl, HNE.out, HG5.out, HG6.out, Blk.fr H5.out hfz HNE.out, hbz, HR.out.trans_ hfz (fun i e => Or.inr (by have := HG6.out; omega))⟩
            exact AllReadyH.nil
          exact AllReadyH.nil
        refine AllReadyH.cons (o := { dst := some 6, op := Go.Op.alloc 115, type := 0, pos := "nodeset.go:86", after := #[], guard := none }) rfl (fun K hK => ?_) ?_
        · skip
          go_simp
          try have HNX := Lib.hid (show _ < wx.heap.size from H5.out.lt)
          have hbn := Blk.new wx 115 (List.replicate 64 (Value.int .u64 0)).toArray
          have hrn := HR.out.alloc (.cells (List.replicate 64 (Value.int .u64 0)).toArray 115)
          try have H5 := Lib.hid (H5.out.alloc (.cells (List.replicate 64 (Value.int .u64 0)).toArray 115))
          have hge := HR.out.size
          simp only [List.replicate_succ, List.replicate_zero] at hbn hrn
          try simp only [List.replicate_succ, List.replicate_zero] at H5
          try rw [← HSx] at HNX
          generalize wx.alloc _ = wz at *
          generalize wx.heap.size = g6x at *
          have H6 := Lib.hid hbn
          have HG6 := Lib.hid hge
          have HR := Lib.hid hrn
          try have HNE := Lib.hid (show g5x ≠ g6x by have := HNX.out; omega)
          clear hbn hrn hge
          obtain ⟨wx, hwx⟩ : ∃ wx, wx = wz := ⟨_, rfl⟩
          rw [← hwx] at HR ⊢
          try rw [← hwx] at H5
          try rw [← hwx] at H6
          clear hwx
          refine hK.out _ _ ?_ (fun hHeld => ?_)
          · exact HR.out
          clear hK K
          try simp only [Act.put, List.setIfInBounds_toArray, List.set_cons_zero, List.set_cons_succ]
          refine wpAnyH_ready (rs := [3]) (by kernel_rfl) (by simp) ?_
          refine AllReadyH.cons (o := { dst := some 11, op := Go.Op.call { callee := Go.Callee.value (Go.Operand.func 91), args := #[Go.Operand.tmp 10], argTypes := #[96] }, type := 115, pos := "nodeset.go:86", after := #[{ on := 2, ground := Go.Ground.data }, { on := 1, ground := Go.Ground.chain }], guard := none }) rfl (fun K hK => ?_) ?_
          · skip
            have hwa := Lib.hid (show WB wx g2 ws2 from Blk.fr HB.out HR.out id)
            go_simp
            go_wp2_with (go_at_call 91; ((with_reducible refine (bitmap91 g2 ws2 _ hwa.out hl2).mono ?_); rintro e wz ⟨rfl, hbz⟩))
            clear hwa
            have HR := Lib.hid (HR.out.trans (Fr.of_below (hbz) (S := fun _ => False)))
            try have H5 := Lib.hid (Blk.below H5.out hbz H5.out.lt)
            try have H6 := Lib.hid (Blk.below H6.out hbz H6.out.lt)
            clear hbz
            obtain ⟨wx, hwx⟩ : ∃ wx, wx = wz := ⟨_, rfl⟩
            rw [← hwx] at HR ⊢
            try rw [← hwx] at H5
            try rw [← hwx] at H6
            clear hwx
            refine hK.out _ _ ?_ (fun hHeld => ?_)
            · exact HR.out
            clear hK K
            try simp only [Act.put, List.setIfInBounds_toArray, List.set_cons_zero, List.set_cons_succ]
            refine wpAnyH_ready (rs := [6]) (by kernel_rfl) (by simp) ?_
            refine AllReadyH.cons (o := { dst := none, op := Go.Op.store 115 (Go.Operand.tmp 5) (Go.Operand.tmp 9), type := 0, pos := "nodeset.go:86", after := #[{ on := 4, ground := Go.Ground.data }, { on := 1, ground := Go.Ground.data }, { on := 3, ground := Go.Ground.chain }, { on := 0, ground := Go.Ground.phase }, { on := 1, ground := Go.Ground.phase }, { on := 2, ground := Go.Ground.textOnly Go.Departure.lateStores }, { on := 3, ground := Go.Ground.phase }, { on := 4, ground := Go.Ground.phase }, { on := 5, ground := Go.Ground.phase }], guard := none }) rfl (fun K hK => ?_) ?_
            · skip
              refine step_storeBlk _ (by rfl) (.tmp 5) (.tmp 9) 115 (by rfl) _ 115 _ (wordsV ws1) _ 64 512 info115z (by rfl) (by rfl) (words_size hl1).symm H5.out (by rw [words_size hl1]; rfl) (words_one2 ws1) ?_
              intro wz hbz hfz hsz
              have HR := Lib.hid (HR.out.trans_ hfz (fun i e => Or.inr (by have := HG5.out; omega)))
              have H6 := Lib.hid (H6.out.fr hfz (fun e => HNE.out e.symm))
              have H5 := Lib.hid hbz
              clear hbz hfz hsz
              obtain ⟨wx, hwx⟩ : ∃ wx, wx = wz := ⟨_, rfl⟩
              rw [← hwx] at HR ⊢
              try rw [← hwx] at H5
              try rw [← hwx] at H6
              clear hwx
              refine hK.out _ _ ?_ (fun hHeld => ?_)
              · exact HR.out
              clear hK K
              try simp only [Act.put, List.setIfInBounds_toArray, List.set_cons_zero, List.set_cons_succ]
              refine wpAnyH_done (by kernel_rfl) ?_ _
              refine last_do ({ dst := none, op := Go.Op.store 115 (Go.Operand.tmp 6) (Go.Operand.tmp 11), type := 0, pos := "nodeset.go:86", after := #[{ on := 5, ground := Go.Ground.data }, { on := 3, ground := Go.Ground.data }, { on := 6, ground := Go.Ground.chain }, { on := 0, ground := Go.Ground.phase }, { on := 1, ground := Go.Ground.phase }, { on := 2, ground := Go.Ground.phase }, { on := 3, ground := Go.Ground.phase }, { on := 4, ground := Go.Ground.phase }, { on := 5, ground := Go.Ground.phase }, { on := 6, ground := Go.Ground.phase }], guard := none }) rfl (fun K hK => ?_)
              refine step_storeBlk _ (by rfl) (.tmp 6) (.tmp 11) 115 (by rfl) _ 115 _ (wordsV ws2) _ 64 512 info115z (by rfl) (by rfl) (words_size hl2).symm H6.out (by rw [words_size hl2]; rfl) (words_one2 ws2) ?_
              intro wz hbz hfz hsz
              refine hK _ _ ?_
              simp only [Act.put]
              go_wp2_with fail
              go_meet
              case rel => exact ⟨_, _, rfl, rfl, HNE.out, HG5.out, HG6.out, Blk.fr H5.out hfz HNE.out, hbz, HR.out.trans_ hfz (fun i e => Or.inr (by have := HG6.out; omega))⟩
            exact AllReadyH.nil
          exact AllReadyH.nil
        exact AllReadyH.nil
      refine AllReadyH.cons (o := { dst := some 6, op := Go.Op.alloc 115, type := 0, pos := "nodeset.go:86", after := #[], guard := none }) rfl (fun K hK => ?_) ?_
      · skip
        go_simp
        try have HNX := Lib.hid (show _ < wx.heap.size from H5.out.lt)
        have hbn := Blk.new wx 115 (List.replicate 64 (Value.int .u64 0)).toArray
        have hrn := HR.out.alloc (.cells (List.replicate 64 (Value.int .u64 0)).toArray 115)
        try have H5 := Lib.hid (H5.out.alloc (.cells (List.replicate 64 (Value.int .u64 0)).toArray 115))
        have hge := HR.out.size
        simp only [List.replicate_succ, List.replicate_zero] at hbn hrn
        try simp only [List.replicate_succ, List.replicate_zero] at H5
        try rw [← HSx] at HNX
        generalize wx.alloc _ = wz at *
        generalize wx.heap.size = g6x at *
        have H6 := Lib.hid hbn
        have HG6 := Lib.hid hge
        have HR := Lib.hid hrn
        try have HNE := Lib.hid (show g5x ≠ g6x by have := HNX.out; omega)
        clear hbn hrn hge
        obtain ⟨wx, hwx⟩ : ∃ wx, wx = wz := ⟨_, rfl⟩
        rw [← hwx] at HR ⊢
        try rw [← hwx] at H5
        try rw [← hwx] at H6
        clear hwx
        refine hK.out _ _ ?_ (fun hHeld => ?_)
        · exact HR.out
        clear hK K
        try simp only [Act.put, List.setIfInBounds_toArray, List.set_cons_zero, List.set_cons_succ]
        refine wpAnyH_ready (rs := [3, 4]) (by kernel_rfl) (by simp) ?_
        refine AllReadyH.cons (o := { dst := some 11, op := Go.Op.call { callee := Go.Callee.value (Go.Operand.func 91), args := #[Go.Operand.tmp 10], argTypes := #[96] }, type := 115, pos := "nodeset.go:86", after := #[{ on := 2, ground := Go.Ground.data }, { on := 1, ground := Go.Ground.chain }], guard := none }) rfl (fun K hK => ?_) ?_
        · skip
          have hwa := Lib.hid (show WB wx g2 ws2 from Blk.fr HB.out HR.out id)
          go_simp
          go_wp2_with (go_at_call 91; ((with_reducible refine (bitmap91 g2 ws2 _ hwa.out hl2).mono ?_); rintro e wz ⟨rfl, hbz⟩))
          clear hwa
          have HR := Lib.hid (HR.out.trans (Fr.of_below (hbz) (S := fun _ => False)))
          try have H5 := Lib.hid (Blk.below H5.out hbz H5.out.lt)
          try have H6 := Lib.hid (Blk.below H6.out hbz H6.out.lt)
          clear hbz
          obtain ⟨wx, hwx⟩ : ∃ wx, wx = wz := ⟨_, rfl⟩
          rw [← hwx] at HR ⊢
          try rw [← hwx] at H5
          try rw [← hwx] at H6
          clear hwx
          refine hK.out _ _ ?_ (fun hHeld => ?_)
          · exact HR.out
          clear hK K
          try simp only [Act.put, List.setIfInBounds_toArray, List.set_cons_zero, List.set_cons_succ]
          refine wpAnyH_ready (rs := [4]) (by kernel_rfl) (by simp) ?_
          refine AllReadyH.cons (o := { dst := some 5, op := Go.Op.alloc 115, type := 0, pos := "nodeset.go:86", after := #[], guard := none }) rfl (fun K hK => ?_) ?_
          · skip
            go_simp
            try have HNX := Lib.hid (show _ < wx.heap.size from H6.out.lt)
            have hbn := Blk.new wx 115 (List.replicate 64 (Value.int .u64 0)).toArray
            have hrn := HR.out.alloc (.cells (List.replicate 64 (Value.int .u64 0)).toArray 115)
            try have H6 := Lib.hid (H6.out.alloc (.cells (List.replicate 64 (Value.int .u64 0)).toArray 115))
            have hge := HR.out.size
            simp only [List.replicate_succ, List.replicate_zero] at hbn hrn
            try simp only [List.replicate_succ, List.replicate_zero] at H6
            try rw [← HSx] at HNX
            generalize wx.alloc _ = wz at *
            generalize wx.heap.size = g5x at *
            have H5 := Lib.hid hbn
            have HG5 := Lib.hid hge
            have HR := Lib.hid hrn
            try have HNE := Lib.hid (show g5x ≠ g6x by have := HNX.out; omega)
            clear hbn hrn hge
            obtain ⟨wx, hwx⟩ : ∃ wx, wx = wz := ⟨_, rfl⟩
            rw [← hwx] at HR ⊢
            try rw [← hwx] at H5
            try rw [← hwx] at H6
            clear hwx
            refine hK.out _ _ ?_ (fun hHeld => ?_)
            · exact HR.out
            clear hK K
            try simp only [Act.put, List.setIfInBounds_toArray, List.set_cons_zero, List.set_cons_succ]
            refine wpAnyH_ready (rs := [6]) (by kernel_rfl) (by simp) ?_
            refine AllReadyH.cons (o := { dst := none, op := Go.Op.store 115 (Go.Operand.tmp 5) (Go.Operand.tmp 9), type := 0, pos := "nodeset.go:86", after := #[{ on := 4, ground := Go.Ground.data }, { on := 1, ground := Go.Ground.data }, { on := 3, ground := Go.Ground.chain }, { on := 0, ground := Go.Ground.phase }, { on := 1, ground := Go.Ground.phase }, { on := 2, ground := Go.Ground.textOnly Go.Departure.lateStores }, { on := 3, ground := Go.Ground.phase }, { on := 4, ground := Go.Ground.phase }, { on := 5, ground := Go.Ground.phase }], guard := none }) rfl (fun K hK => ?_) ?_
            · skip
              refine step_storeBlk _ (by rfl) (.tmp 5) (.tmp 9) 115 (by rfl) _ 115 _ (wordsV ws1) _ 64 512 info115z (by rfl) (by rfl) (words_size hl1).symm H5.out (by rw [words_size hl1]; rfl) (words_one2 ws1) ?_
              intro wz hbz hfz hsz
              have HR := Lib.hid (HR.out.trans_ hfz (fun i e => Or.inr (by have := HG5.out; omega)))
              have H6 := Lib.hid (H6.out.fr hfz (fun e => HNE.out e.symm))
              have H5 := Lib.hid hbz
              clear hbz hfz hsz
              obtain ⟨wx, hwx⟩ : ∃ wx, wx = wz := ⟨_, rfl⟩
              rw [← hwx] at HR ⊢
              try rw [← hwx] at H5
              try rw [← hwx] at H6
              clear hwx
              refine hK.out _ _ ?_ (fun hHeld => ?_)
              · exact HR.out
              clear hK K
              try simp only [Act.put, List.setIfInBounds_toArray, List.set_cons_zero, List.set_cons_succ]
              refine wpAnyH_done (by kernel_rfl) ?_ _
              refine last_do ({ dst := none, op := Go.Op.store 115 (Go.Operand.tmp 6) (Go.Operand.tmp 11), type := 0, pos := "nodeset.go:86", after := #[{ on := 5, ground := Go.Ground.data }, { on := 3, ground := Go.Ground.data }, { on := 6, ground := Go.Ground.chain }, { on := 0, ground := Go.Ground.phase }, { on := 1, ground := Go.Ground.phase }, { on := 2, ground := Go.Ground.phase }, { on := 3, ground := Go.Ground.phase }, { on := 4, ground := Go.Ground.phase }, { on := 5, ground := Go.Ground.phase }, { on := 6, ground := Go.Ground.phase }], guard := none }) rfl (fun K hK => ?_)
              refine step_storeBlk _ (by rfl) (.tmp 6) (.tmp 11) 115 (by rfl) _ 115 _ (wordsV ws2) _ 64 512 info115z (by rfl) (by rfl) (words_size hl2).symm H6.out (by rw [words_size hl2]; rfl) (words_one2 ws2) ?_
              intro wz hbz hfz hsz
              refine hK _ _ ?_
              simp only [Act.put]
              go_wp2_with fail
              go_meet
              case rel => exact ⟨_, _, rfl, rfl, HNE.out, HG5.out, HG6.out, Blk.fr H5.out hfz HNE.out, hbz, HR.out.trans_ hfz (fun i e => Or.inr (by have := HG6.out; omega))⟩
            exact AllReadyH.nil
          exact AllReadyH.nil
        refine AllReadyH.cons (o := { dst := some 5, op := Go.Op.alloc 115, type := 0, pos := "nodeset.go:86", after := #[], guard := none }) rfl (fun K hK => ?_) ?_
        · skip
          go_simp
          try have HNX := Lib.hid (show _ < wx.heap.size from H6.out.lt)
          have hbn := Blk.new wx 115 (List.replicate 64 (Value.int .u64 0)).toArray
          have hrn := HR.out.alloc (.cells (List.replicate 64 (Value.int .u64 0)).toArray 115)
          try have H6 := Lib.hid (H6.out.alloc (.cells (List.replicate 64 (Value.int .u64 0)).toArray 115))
          have hge := HR.out.size
          simp only [List.replicate_succ, List.replicate_zero] at hbn hrn
          try simp only [List.replicate_succ, List.replicate_zero] at H6
          try rw [← HSx] at HNX
          generalize wx.alloc _ = wz at *
          generalize wx.heap.size = g5x at *
          have H5 := Lib.hid hbn
          have HG5 := Lib.hid hge
          have HR := Lib.hid hrn
          try have HNE := Lib.hid (show g5x ≠ g6x by have := HNX.out; omega)
          clear hbn hrn hge
          obtain ⟨wx, hwx⟩ : ∃ wx, wx = wz := ⟨_, rfl⟩
          rw [← hwx] at HR ⊢
          try rw [← hwx] at H5
          try rw [← hwx] at H6
          clear hwx
          refine hK.out _ _ ?_ (fun hHeld => ?_)
          · exact HR.out
          clear hK K
          try simp only [Act.put, List.setIfInBounds_toArray, List.set_cons_zero, List.set_cons_succ]
          refine wpAnyH_ready (rs := [3]) (by kernel_rfl) (by simp) ?_
          refine AllReadyH.cons (o := { dst := some 11, op := Go.Op.call { callee := Go.Callee.value (Go.Operand.func 91), args := #[Go.Operand.tmp 10], argTypes := #[96] }, type := 115, pos := "nodeset.go:86", after := #[{ on := 2, ground := Go.Ground.data }, { on := 1, ground := Go.Ground.chain }], guard := none }) rfl (fun K hK => ?_) ?_
          · skip
            have hwa := Lib.hid (show WB wx g2 ws2 from Blk.fr HB.out HR.out id)
            go_simp
            go_wp2_with (go_at_call 91; ((with_reducible refine (bitmap91 g2 ws2 _ hwa.out hl2).mono ?_); rintro e wz ⟨rfl, hbz⟩))
            clear hwa
            have HR := Lib.hid (HR.out.trans (Fr.of_below (hbz) (S := fun _ => False)))
            try have H5 := Lib.hid (Blk.below H5.out hbz H5.out.lt)
            try have H6 := Lib.hid (Blk.below H6.out hbz H6.out.lt)
            clear hbz
            obtain ⟨wx, hwx⟩ : ∃ wx, wx = wz := ⟨_, rfl⟩
            rw [← hwx] at HR ⊢
            try rw [← hwx] at H5
            try rw [← hwx] at H6
            clear hwx
            refine hK.out _ _ ?_ (fun hHeld => ?_)
            · exact HR.out
            clear hK K
            try simp only [Act.put, List.setIfInBounds_toArray, List.set_cons_zero, List.set_cons_succ]
            refine wpAnyH_ready (rs := [6]) (by kernel_rfl) (by simp) ?_
            refine AllReadyH.cons (o := { dst := none, op := Go.Op.store 115 (Go.Operand.tmp 5) (Go.Operand.tmp 9), type := 0, pos := "nodeset.go:86", after := #[{ on := 4, ground := Go.Ground.data }, { on := 1, ground := Go.Ground.data }, { on := 3, ground := Go.Ground.chain }, { on := 0, ground := Go.Ground.phase }, { on := 1, ground := Go.Ground.phase }, { on := 2, ground := Go.Ground.textOnly Go.Departure.lateStores }, { on := 3, ground := Go.Ground.phase }, { on := 4, ground := Go.Ground.phase }, { on := 5, ground := Go.Ground.phase }], guard := none }) rfl (fun K hK => ?_) ?_
            · skip
              refine step_storeBlk _ (by rfl) (.tmp 5) (.tmp 9) 115 (by rfl) _ 115 _ (wordsV ws1) _ 64 512 info115z (by rfl) (by rfl) (words_size hl1).symm H5.out (by rw [words_size hl1]; rfl) (words_one2 ws1) ?_
              intro wz hbz hfz hsz
              have HR := Lib.hid (HR.out.trans_ hfz (fun i e => Or.inr (by have := HG5.out; omega)))
              have H6 := Lib.hid (H6.out.fr hfz (fun e => HNE.out e.symm))
              have H5 := Lib.hid hbz
              clear hbz hfz hsz
              obtain ⟨wx, hwx⟩ : ∃ wx, wx = wz := ⟨_, rfl⟩
              rw [← hwx] at HR ⊢
              try rw [← hwx] at H5
              try rw [← hwx] at H6
              clear hwx
              refine hK.out _ _ ?_ (fun hHeld => ?_)
              · exact HR.out
              clear hK K
              try simp only [Act.put, List.setIfInBounds_toArray, List.set_cons_zero, List.set_cons_succ]
              refine wpAnyH_done (by kernel_rfl) ?_ _
              refine last_do ({ dst := none, op := Go.Op.store 115 (Go.Operand.tmp 6) (Go.Operand.tmp 11), type := 0, pos := "nodeset.go:86", after := #[{ on := 5, ground := Go.Ground.data }, { on := 3, ground := Go.Ground.data }, { on := 6, ground := Go.Ground.chain }, { on := 0, ground := Go.Ground.phase }, { on := 1, ground := Go.Ground.phase }, { on := 2, ground := Go.Ground.phase }, { on := 3, ground := Go.Ground.phase }, { on := 4, ground := Go.Ground.phase }, { on := 5, ground := Go.Ground.phase }, { on := 6, ground := Go.Ground.phase }], guard := none }) rfl (fun K hK => ?_)
              refine step_storeBlk _ (by rfl) (.tmp 6) (.tmp 11) 115 (by rfl) _ 115 _ (wordsV ws2) _ 64 512 info115z (by rfl) (by rfl) (words_size hl2).symm H6.out (by rw [words_size hl2]; rfl) (words_one2 ws2) ?_
              intro wz hbz hfz hsz
              refine hK _ _ ?_
              simp only [Act.put]
              go_wp2_with fail
              go_meet
              case rel => exact ⟨_, _, rfl, rfl, HNE.out, HG5.out, HG6.out, Blk.fr H5.out hfz HNE.out, hbz, HR.out.trans_ hfz (fun i e => Or.inr (by have := HG6.out; omega))⟩
            exact AllReadyH.nil
          exact AllReadyH.nil
        exact AllReadyH.nil
      exact AllReadyH.nil
    refine AllReadyH.cons (o := { dst := some 5, op := Go.Op.alloc 115, type := 0, pos := "nodeset.go:86", after := #[], guard := none }) rfl (fun K hK => ?_) ?_
    · skip
      go_simp
      try have HNX := Lib.hid (show _ < wx.heap.size from H6.out.lt)
      have hbn := Blk.new wx 115 (List.replicate 64 (Value.int .u64 0)).toArray
      have hrn := HR.out.alloc (.cells (List.replicate 64 (Value.int .u64 0)).toArray 115)
      try have H6 := Lib.hid (H6.out.alloc (.cells (List.replicate 64 (Value.int .u64 0)).toArray 115))
      have hge := HR.out.size
      simp only [List.replicate_succ, List.replicate_zero] at hbn hrn
      try simp only [List.replicate_succ, List.replicate_zero] at H6
      try rw [← HSx] at HNX
      generalize wx.alloc _ = wz at *
      generalize wx.heap.size = g5x at *
      have H5 := Lib.hid hbn
      have HG5 := Lib.hid hge
      have HR := Lib.hid hrn
      try have HNE := Lib.hid (show g5x ≠ g6x by have := HNX.out; omega)
      clear hbn hrn hge
      obtain ⟨wx, hwx⟩ : ∃ wx, wx = wz := ⟨_, rfl⟩
      rw [← hwx] at HR ⊢
      try rw [← hwx] at H5
      try rw [← hwx] at H6
      clear hwx
      refine hK.out _ _ ?_ (fun hHeld => ?_)
      · exact HR.out
      clear hK K
      try simp only [Act.put, List.setIfInBounds_toArray, List.set_cons_zero, List.set_cons_succ]
      refine wpAnyH_ready (rs := [1, 5]) (by kernel_rfl) (by simp) ?_
      refine AllReadyH.cons (o := { dst := some 9, op := Go.Op.call { callee := Go.Callee.value (Go.Operand.func 91), args := #[Go.Operand.tmp 8], argTypes := #[96] }, type := 115, pos := "nodeset.go:86", after := #[{ on := 0, ground := Go.Ground.data }], guard := none }) rfl (fun K hK => ?_) ?_
      · skip
        have hwa := Lib.hid (show WB wx g1 ws1 from Blk.fr HA.out HR.out id)
        go_simp
        go_wp2_with (go_at_call 91; ((with_reducible refine (bitmap91 g1 ws1 _ hwa.out hl1).mono ?_); rintro e wz ⟨rfl, hbz⟩))
        clear hwa
        have HR := Lib.hid (HR.out.trans (Fr.of_below (hbz) (S := fun _ => False)))
        try have H5 := Lib.hid (Blk.below H5.out hbz H5.out.lt)
        try have H6 := Lib.hid (Blk.below H6.out hbz H6.out.lt)
        clear hbz
        obtain ⟨wx, hwx⟩ : ∃ wx, wx = wz := ⟨_, rfl⟩
        rw [← hwx] at HR ⊢
        try rw [← hwx] at H5
        try rw [← hwx] at H6
        clear hwx
        refine hK.out _ _ ?_ (fun hHeld => ?_)
        · exact HR.out
        clear hK K
        try simp only [Act.put, List.setIfInBounds_toArray, List.set_cons_zero, List.set_cons_succ]
        refine wpAnyH_ready (rs := [3, 5]) (by kernel_rfl) (by simp) ?_
        refine AllReadyH.cons (o := { dst := some 11, op := Go.Op.call { callee := Go.Callee.value (Go.Operand.func 91), args := #[Go.Operand.tmp 10], argTypes := #[96] }, type := 115, pos := "nodeset.go:86", after := #[{ on := 2, ground := Go.Ground.data }, { on := 1, ground := Go.Ground.chain }], guard := none }) rfl (fun K hK => ?_) ?_
        · skip
          have hwa := Lib.hid (show WB wx g2 ws2 from Blk.fr HB.out HR.out id)
          go_simp
          go_wp2_with (go_at_call 91; ((with_reducible refine (bitmap91 g2 ws2 _ hwa.out hl2).mono ?_); rintro e wz ⟨rfl, hbz⟩))
          clear hwa
          have HR := Lib.hid (HR.out.trans (Fr.of_below (hbz) (S := fun _ => False)))
          try have H5 := Lib.hid (Blk.below H5.out hbz H5.out.lt)
          try have H6 := Lib.hid (Blk.below H6.out hbz H6.out.lt)
          clear hbz
          obtain ⟨wx, hwx⟩ : ∃ wx, wx = wz := ⟨_, rfl⟩
          rw [← hwx] at HR ⊢
          try rw [← hwx] at H5
          try rw [← hwx] at H6
          clear hwx
          refine hK.out _ _ ?_ (fun hHeld => ?_)
          · exact HR.out
          clear hK K
          try simp only [Act.put, List.setIfInBounds_toArray, List.set_cons_zero, List.set_cons_succ]
          refine wpAnyH_ready (rs := [5]) (by kernel_rfl) (by simp) ?_
          refine AllReadyH.cons (o := { dst := some 6, op := Go.Op.alloc 115, type := 0, pos := "nodeset.go:86", after := #[], guard := none }) rfl (fun K hK => ?_) ?_
          · skip
            go_simp
            try have HNX := Lib.hid (show _ < wx.heap.size from H5.out.lt)
            have hbn := Blk.new wx 115 (List.replicate 64 (Value.int .u64 0)).toArray
            have hrn := HR.out.alloc (.cells (List.replicate 64 (Value.int .u64 0)).toArray 115)
            try have H5 := Lib.hid (H5.out.alloc (.cells (List.replicate 64 (Value.int .u64 0)).toArray 115))
            have hge := HR.out.size
            simp only [List.replicate_succ, List.replicate_zero] at hbn hrn
            try simp only [List.replicate_succ, List.replicate_zero] at H5
            try rw [← HSx] at HNX
            generalize wx.alloc _ = wz at *
            generalize wx.heap.size = g6x at *
            have H6 := Lib.hid hbn
            have HG6 := Lib.hid hge
            have HR := Lib.hid hrn
            try have HNE := Lib.hid (show g5x ≠ g6x by have := HNX.out; omega)
            clear hbn hrn hge
            obtain ⟨wx, hwx⟩ : ∃ wx, wx = wz := ⟨_, rfl⟩
            rw [← hwx] at HR ⊢
            try rw [← hwx] at H5
            try rw [← hwx] at H6
            clear hwx
            refine hK.out _ _ ?_ (fun hHeld => ?_)
            · exact HR.out
            clear hK K
            try simp only [Act.put, List.setIfInBounds_toArray, List.set_cons_zero, List.set_cons_succ]
            refine wpAnyH_ready (rs := [6]) (by kernel_rfl) (by simp) ?_
            refine AllReadyH.cons (o := { dst := none, op := Go.Op.store 115 (Go.Operand.tmp 5) (Go.Operand.tmp 9), type := 0, pos := "nodeset.go:86", after := #[{ on := 4, ground := Go.Ground.data }, { on := 1, ground := Go.Ground.data }, { on := 3, ground := Go.Ground.chain }, { on := 0, ground := Go.Ground.phase }, { on := 1, ground := Go.Ground.phase }, { on := 2, ground := Go.Ground.textOnly Go.Departure.lateStores }, { on := 3, ground := Go.Ground.phase }, { on := 4, ground := Go.Ground.phase }, { on := 5, ground := Go.Ground.phase }], guard := none }) rfl (fun K hK => ?_) ?_
            · skip
              refine step_storeBlk _ (by rfl) (.tmp 5) (.tmp 9) 115 (by rfl) _ 115 _ (wordsV ws1) _ 64 512 info115z (by rfl) (by rfl) (words_size hl1).symm H5.out (by rw [words_size hl1]; rfl) (words_one2 ws1) ?_
              intro wz hbz hfz hsz
              have HR := Lib.hid (HR.out.trans_ hfz (fun i e => Or.inr (by have := HG5.out; omega)))
              have H6 := Lib.hid (H6.out.fr hfz (fun e => HNE.out e.symm))
              have H5 := Lib.hid hbz
              clear hbz hfz hsz
              obtain ⟨wx, hwx⟩ : ∃ wx, wx = wz := ⟨_, rfl⟩
              rw [← hwx] at HR ⊢
              try rw [← hwx] at H5
              try rw [← hwx] at H6
              clear hwx
              refine hK.out _ _ ?_ (fun hHeld => ?_)
              · exact HR.out
              clear hK K
              try simp only [Act.put, List.setIfInBounds_toArray, List.set_cons_zero, List.set_cons_succ]
              refine wpAnyH_done (by kernel_rfl) ?_ _
              refine last_do ({ dst := none, op := Go.Op.store 115 (Go.Operand.tmp 6) (Go.Operand.tmp 11), type := 0, pos := "nodeset.go:86", after := #[{ on := 5, ground := Go.Ground.data }, { on := 3, ground := Go.Ground.data }, { on := 6, ground := Go.Ground.chain }, { on := 0, ground := Go.Ground.phase }, { on := 1, ground := Go.Ground.phase }, { on := 2, ground := Go.Ground.phase }, { on := 3, ground := Go.Ground.phase }, { on := 4, ground := Go.Ground.phase }, { on := 5, ground := Go.Ground.phase }, { on := 6, ground := Go.Ground.phase }], guard := none }) rfl (fun K hK => ?_)
              refine step_storeBlk _ (by rfl) (.tmp 6) (.tmp 11) 115 (by rfl) _ 115 _ (wordsV ws2) _ 64 512 info115z (by rfl) (by rfl) (words_size hl2).symm H6.out (by rw [words_size hl2]; rfl) (words_one2 ws2) ?_
              intro wz hbz hfz hsz
              refine hK _ _ ?_
              simp only [Act.put]
              go_wp2_with fail
              go_meet
              case rel => exact ⟨_, _, rfl, rfl, HNE.out, HG5.out, HG6.out, Blk.fr H5.out hfz HNE.out, hbz, HR.out.trans_ hfz (fun i e => Or.inr (by have := HG6.out; omega))⟩
            exact AllReadyH.nil
          exact AllReadyH.nil
        refine AllReadyH.cons (o := { dst := some 6, op := Go.Op.alloc 115, type := 0, pos := "nodeset.go:86", after := #[], guard := none }) rfl (fun K hK => ?_) ?_
        · skip
          go_simp
          try have HNX := Lib.hid (show _ < wx.heap.size from H5.out.lt)
          have hbn := Blk.new wx 115 (List.replicate 64 (Value.int .u64 0)).toArray
          have hrn := HR.out.alloc (.cells (List.replicate 64 (Value.int .u64 0)).toArray 115)
          try have H5 := Lib.hid (H5.out.alloc (.cells (List.replicate 64 (Value.int .u64 0)).toArray 115))
          have hge := HR.out.size
          simp only [List.replicate_succ, List.replicate_zero] at hbn hrn
          try simp only [List.replicate_succ, List.replicate_zero] at H5
          try rw [← HSx] at HNX
          generalize wx.alloc _ = wz at *
          generalize wx.heap.size = g6x at *
          have H6 := Lib.hid hbn
          have HG6 := Lib.hid hge
          have HR := Lib.hid hrn
          try have HNE := Lib.hid (show g5x ≠ g6x by have := HNX.out; omega)
          clear hbn hrn hge
          obtain ⟨wx, hwx⟩ : ∃ wx, wx = wz := ⟨_, rfl⟩
          rw [← hwx] at HR ⊢
          try rw [← hwx] at H5
          try rw [← hwx] at H6
          clear hwx
          refine hK.out _ _ ?_ (fun hHeld => ?_)
          · exact HR.out
          clear hK K
          try simp only [Act.put, List.setIfInBounds_toArray, List.set_cons_zero, List.set_cons_succ]
          refine wpAnyH_ready (rs := [3]) (by kernel_rfl) (by simp) ?_
          refine AllReadyH.cons (o := { dst := some 11, op := Go.Op.call { callee := Go.Callee.value (Go.Operand.func 91), args := #[Go.Operand.tmp 10], argTypes := #[96] }, type := 115, pos := "nodeset.go:86", after := #[{ on := 2, ground := Go.Ground.data }, { on := 1, ground := Go.Ground.chain }], guard := none }) rfl (fun K hK => ?_) ?_
          · skip
            have hwa := Lib.hid (show WB wx g2 ws2 from Blk.fr HB.out HR.out id)
            go_simp
            go_wp2_with (go_at_call 91; ((with_reducible refine (bitmap91 g2 ws2 _ hwa.out hl2).mono ?_); rintro e wz ⟨rfl, hbz⟩))
            clear hwa
            have HR := Lib.hid (HR.out.trans (Fr.of_below (hbz) (S := fun _ => False)))
            try have H5 := Lib.hid (Blk.below H5.out hbz H5.out.lt)
            try have H6 := Lib.hid (Blk.below H6.out hbz H6.out.lt)
            clear hbz
            obtain ⟨wx, hwx⟩ : ∃ wx, wx = wz := ⟨_, rfl⟩
            rw [← hwx] at HR ⊢
            try rw [← hwx] at H5
            try rw [← hwx] at H6
            clear hwx
            refine hK.out _ _ ?_ (fun hHeld => ?_)
            · exact HR.out
            clear hK K
            try simp only [Act.put, List.setIfInBounds_toArray, List.set_cons_zero, List.set_cons_succ]
            refine wpAnyH_ready (rs := [6]) (by kernel_rfl) (by simp) ?_
            refine AllReadyH.cons (o := { dst := none, op := Go.Op.store 115 (Go.Operand.tmp 5) (Go.Operand.tmp 9), type := 0, pos := "nodeset.go:86", after := #[{ on := 4, ground := Go.Ground.data }, { on := 1, ground := Go.Ground.data }, { on := 3, ground := Go.Ground.chain }, { on := 0, ground := Go.Ground.phase }, { on := 1, ground := Go.Ground.phase }, { on := 2, ground := Go.Ground.textOnly Go.Departure.lateStores }, { on := 3, ground := Go.Ground.phase }, { on := 4, ground := Go.Ground.phase }, { on := 5, ground := Go.Ground.phase }], guard := none }) rfl (fun K hK => ?_) ?_
            · skip
              refine step_storeBlk _ (by rfl) (.tmp 5) (.tmp 9) 115 (by rfl) _ 115 _ (wordsV ws1) _ 64 512 info115z (by rfl) (by rfl) (words_size hl1).symm H5.out (by rw [words_size hl1]; rfl) (words_one2 ws1) ?_
              intro wz hbz hfz hsz
              have HR := Lib.hid (HR.out.trans_ hfz (fun i e => Or.inr (by have := HG5.out; omega)))
              have H6 := Lib.hid (H6.out.fr hfz (fun e => HNE.out e.symm))
              have H5 := Lib.hid hbz
              clear hbz hfz hsz
              obtain ⟨wx, hwx⟩ : ∃ wx, wx = wz := ⟨_, rfl⟩
              rw [← hwx] at HR ⊢
              try rw [← hwx] at H5
              try rw [← hwx] at H6
              clear hwx
              refine hK.out _ _ ?_ (fun hHeld => ?_)
              · exact HR.out
              clear hK K
              try simp only [Act.put, List.setIfInBounds_toArray, List.set_cons_zero, List.set_cons_succ]
              refine wpAnyH_done (by kernel_rfl) ?_ _
              refine last_do ({ dst := none, op := Go.Op.store 115 (Go.Operand.tmp 6) (Go.Operand.tmp 11), type := 0, pos := "nodeset.go:86", after := #[{ on := 5, ground := Go.Ground.data }, { on := 3, ground := Go.Ground.data }, { on := 6, ground := Go.Ground.chain }, { on := 0, ground := Go.Ground.phase }, { on := 1, ground := Go.Ground.phase }, { on := 2, ground := Go.Ground.phase }, { on := 3, ground := Go.Ground.phase }, { on := 4, ground := Go.Ground.phase }, { on := 5, ground := Go.Ground.phase }, { on := 6, ground := Go.Ground.phase }], guard := none }) rfl (fun K hK => ?_)
              refine step_storeBlk _ (by rfl) (.tmp 6) (.tmp 11) 115 (by rfl) _ 115 _ (wordsV ws2) _ 64 512 info115z (by rfl) (by rfl) (words_size hl2).symm H6.out (by rw [words_size hl2]; rfl) (words_one2 ws2) ?_
              intro wz hbz hfz hsz
              refine hK _ _ ?_
              simp only [Act.put]
              go_wp2_with fail
              go_meet
              case rel => exact ⟨_, _, rfl, rfl, HNE.out, HG5.out, HG6.out, Blk.fr H5.out hfz HNE.out, hbz, HR.out.trans_ hfz (fun i e => Or.inr (by have := HG6.out; omega))⟩
            exact AllReadyH.nil
          exact AllReadyH.nil
        exact AllReadyH.nil
      refine AllReadyH.cons (o := { dst := some 6, op := Go.Op.alloc 115, type := 0, pos := "nodeset.go:86", after := #[], guard := none }) rfl (fun K hK => ?_) ?_
      · skip
        go_simp
        try have HNX := Lib.hid (show _ < wx.heap.size from H5.out.lt)
        have hbn := Blk.new wx 115 (List.replicate 64 (Value.int .u64 0)).toArray
        have hrn := HR.out.alloc (.cells (List.replicate 64 (Value.int .u64 0)).toArray 115)
        try have H5 := Lib.hid (H5.out.alloc (.cells (List.replicate 64 (Value.int .u64 0)).toArray 115))
        have hge := HR.out.size
        simp only [List.replicate_succ, List.replicate_zero] at hbn hrn
        try simp only [List.replicate_succ, List.replicate_zero] at H5
        try rw [← HSx] at HNX
        generalize wx.alloc _ = wz at *
        generalize wx.heap.size = g6x at *
        have H6 := Lib.hid hbn
        have HG6 := Lib.hid hge
        have HR := Lib.hid hrn
        try have HNE := Lib.hid (show g5x ≠ g6x by have := HNX.out; omega)
        clear hbn hrn hge
        obtain ⟨wx, hwx⟩ : ∃ wx, wx = wz := ⟨_, rfl⟩
        rw [← hwx] at HR ⊢
        try rw [← hwx] at H5
        try rw [← hwx] at H6
        clear hwx
        refine hK.out _ _ ?_ (fun hHeld => ?_)
        · exact HR.out
        clear hK K
        try simp only [Act.put, List.setIfInBounds_toArray, List.set_cons_zero, List.set_cons_succ]
        refine wpAnyH_ready (rs := [1]) (by kernel_rfl) (by simp) ?_
        refine AllReadyH.cons (o := { dst := some 9, op := Go.Op.call { callee := Go.Callee.value (Go.Operand.func 91), args := #[Go.Operand.tmp 8], argTypes := #[96] }, type := 115, pos := "nodeset.go:86", after := #[{ on := 0, ground := Go.Ground.data }], guard := none }) rfl (fun K hK => ?_) ?_
        · skip
          have hwa := Lib.hid (show WB wx g1 ws1 from Blk.fr HA.out HR.out id)
          go_simp
          go_wp2_with (go_at_call 91; ((with_reducible refine (bitmap91 g1 ws1 _ hwa.out hl1).mono ?_); rintro e wz ⟨rfl, hbz⟩))
          clear hwa
          have HR := Lib.hid (HR.out.trans (Fr.of_below (hbz) (S := fun _ => False)))
          try have H5 := Lib.hid (Blk.below H5.out hbz H5.out.lt)
          try have H6 := Lib.hid (Blk.below H6.out hbz H6.out.lt)
          clear hbz
          obtain ⟨wx, hwx⟩ : ∃ wx, wx = wz := ⟨_, rfl⟩
          rw [← hwx] at HR ⊢
          try rw [← hwx] at H5
          try rw [← hwx] at H6
          clear hwx
          refine hK.out _ _ ?_ (fun hHeld => ?_)
          · exact HR.out
          clear hK K
          try simp only [Act.put, List.setIfInBounds_toArray, List.set_cons_zero, List.set_cons_succ]
          refine wpAnyH_ready (rs := [3]) (by kernel_rfl) (by simp) ?_
          refine AllReadyH.cons (o := { dst := some 11, op := Go.Op.call { callee := Go.Callee.value (Go.Operand.func 91), args := #[Go.Operand.tmp 10], argTypes := #[96] }, type := 115, pos := "nodeset.go:86", after := #[{ on := 2, ground := Go.Ground.data }, { on := 1, ground := Go.Ground.chain }], guard := none }) rfl (fun K hK => ?_) ?_
          · skip
            have hwa := Lib.hid (show WB wx g2 ws2 from Blk.fr HB.out HR.out id)
            go_simp
            go_wp2_with (go_at_call 91; ((with_reducible refine (bitmap91 g2 ws2 _ hwa.out hl2).mono ?_); rintro e wz ⟨rfl, hbz⟩))
            clear hwa
            have HR := Lib.hid (HR.out.trans (Fr.of_below (hbz) (S := fun _ => False)))
            try have H5 := Lib.hid (Blk.below H5.out hbz H5.out.lt)
            try have H6 := Lib.hid (Blk.below H6.out hbz H6.out.lt)
            clear hbz
            obtain ⟨wx, hwx⟩ : ∃ wx, wx = wz := ⟨_, rfl⟩
            rw [← hwx] at HR ⊢
            try rw [← hwx] at H5
            try rw [← hwx] at H6
            clear hwx
            refine hK.out _ _ ?_ (fun hHeld => ?_)
            · exact HR.out
            clear hK K
            try simp only [Act.put, List.setIfInBounds_toArray, List.set_cons_zero, List.set_cons_succ]
            refine wpAnyH_ready (rs := [6]) (by kernel_rfl) (by simp) ?_
            refine AllReadyH.cons (o := { dst := none, op := Go.Op.store 115 (Go.Operand.tmp 5) (Go.Operand.tmp 9), type := 0, pos := "nodeset.go:86", after := #[{ on := 4, ground := Go.Ground.data }, { on := 1, ground := Go.Ground.data }, { on := 3, ground := Go.Ground.chain }, { on := 0, ground := Go.Ground.phase }, { on := 1, ground := Go.Ground.phase }, { on := 2, ground := Go.Ground.textOnly Go.Departure.lateStores }, { on := 3, ground := Go.Ground.phase }, { on := 4, ground := Go.Ground.phase }, { on := 5, ground := Go.Ground.phase }], guard := none }) rfl (fun K hK => ?_) ?_
            · skip
              refine step_storeBlk _ (by rfl) (.tmp 5) (.tmp 9) 115 (by rfl) _ 115 _ (wordsV ws1) _ 64 512 info115z (by rfl) (by rfl) (words_size hl1).symm H5.out (by rw [words_size hl1]; rfl) (words_one2 ws1) ?_
              intro wz hbz hfz hsz
              have HR := Lib.hid (HR.out.trans_ hfz (fun i e => Or.inr (by have := HG5.out; omega)))
              have H6 := Lib.hid (H6.out.fr hfz (fun e => HNE.out e.symm))
              have H5 := Lib.hid hbz
              clear hbz hfz hsz
              obtain ⟨wx, hwx⟩ : ∃ wx, wx = wz := ⟨_, rfl⟩
              rw [← hwx] at HR ⊢
              try rw [← hwx] at H5
              try rw [← hwx] at H6
              clear hwx
              refine hK.out _ _ ?_ (fun hHeld => ?_)
              · exact HR.out
              clear hK K
              try simp only [Act.put, List.setIfInBounds_toArray, List.set_cons_zero, List.set_cons_succ]
              refine wpAnyH_done (by kernel_rfl) ?_ _
              refine last_do ({ dst := none, op := Go.Op.store 115 (Go.Operand.tmp 6) (Go.Operand.tmp 11), type := 0, pos := "nodeset.go:86", after := #[{ on := 5, ground := Go.Ground.data }, { on := 3, ground := Go.Ground.data }, { on := 6, ground := Go.Ground.chain }, { on := 0, ground := Go.Ground.phase }, { on := 1, ground := Go.Ground.phase }, { on := 2, ground := Go.Ground.phase }, { on := 3, ground := Go.Ground.phase }, { on := 4, ground := Go.Ground.phase }, { on := 5, ground := Go.Ground.phase }, { on := 6, ground := Go.Ground.phase }], guard := none }) rfl (fun K hK => ?_)
              refine step_storeBlk _ (by rfl) (.tmp 6) (.tmp 11) 115 (by rfl) _ 115 _ (wordsV ws2) _ 64 512 info115z (by rfl) (by rfl) (words_size hl2).symm H6.out (by rw [words_size hl2]; rfl) (words_one2 ws2) ?_
              intro wz hbz hfz hsz
              refine hK _ _ ?_
              simp only [Act.put]
              go_wp2_with fail
              go_meet
              case rel => exact ⟨_, _, rfl, rfl, HNE.out, HG5.out, HG6.out, Blk.fr H5.out hfz HNE.out, hbz, HR.out.trans_ hfz (fun i e => Or.inr (by have := HG6.out; omega))⟩
            exact AllReadyH.nil
          exact AllReadyH.nil
        exact AllReadyH.nil
      exact AllReadyH.nil
    refine AllReadyH.cons (o := { dst := some 6, op := Go.Op.alloc 115, type := 0, pos := "nodeset.go:86", after := #[], guard := none }) rfl (fun K hK => ?_) ?_
    · skip
      go_simp
      try have HNX := Lib.hid (show _ < wx.heap.size from H5.out.lt)
      have hbn := Blk.new wx 115 (List.replicate 64 (Value.int .u64 0)).toArray
      have hrn := HR.out.alloc (.cells (List.replicate 64 (Value.int .u64 0)).toArray 115)
      try have H5 := Lib.hid (H5.out.alloc (.cells (List.replicate 64 (Value.int .u64 0)).toArray 115))
      have hge := HR.out.size
      simp only [List.replicate_succ, List.replicate_zero] at hbn hrn
      try simp only [List.replicate_succ, List.replicate_zero] at H5
      try rw [← HSx] at HNX
      generalize wx.alloc _ = wz at *
      generalize wx.heap.size = g6x at *
      have H6 := Lib.hid hbn
      have HG6 := Lib.hid hge
      have HR := Lib.hid hrn
      try have HNE := Lib.hid (show g5x ≠ g6x by have := HNX.out; omega)
      clear hbn hrn hge
      obtain ⟨wx, hwx⟩ : ∃ wx, wx = wz := ⟨_, rfl⟩
      rw [← hwx] at HR ⊢
      try rw [← hwx] at H5
      try rw [← hwx] at H6
      clear hwx
      refine hK.out _ _ ?_ (fun hHeld => ?_)
      · exact HR.out
      clear hK K
      try simp only [Act.put, List.setIfInBounds_toArray, List.set_cons_zero, List.set_cons_succ]
      refine wpAnyH_ready (rs := [1, 4]) (by kernel_rfl) (by simp) ?_
      refine AllReadyH.cons (o := { dst := some 9, op := Go.Op.call { callee := Go.Callee.value (Go.Operand.func 91), args := #[Go.Operand.tmp 8], argTypes := #[96] }, type := 115, pos := "nodeset.go:86", after := #[{ on := 0, ground := Go.Ground.data }], guard := none }) rfl (fun K hK => ?_) ?_
      · skip
        have hwa := Lib.hid (show WB wx g1 ws1 from Blk.fr HA.out HR.out id)
        go_simp
        go_wp2_with (go_at_call 91; ((with_reducible refine (bitmap91 g1 ws1 _ hwa.out hl1).mono ?_); rintro e wz ⟨rfl, hbz⟩))
        clear hwa
        have HR := Lib.hid (HR.out.trans (Fr.of_below (hbz) (S := fun _ => False)))
        try have H5 := Lib.hid (Blk.below H5.out hbz H5.out.lt)
        try have H6 := Lib.hid (Blk.below H6.out hbz H6.out.lt)
        clear hbz
        obtain ⟨wx, hwx⟩ : ∃ wx, wx = wz := ⟨_, rfl⟩
        rw [← hwx] at HR ⊢
        try rw [← hwx] at H5
        try rw [← hwx] at H6
        clear hwx
        refine hK.out _ _ ?_ (fun hHeld => ?_)
        · exact HR.out
        clear hK K
        try simp only [Act.put, List.setIfInBounds_toArray, List.set_cons_zero, List.set_cons_succ]
        refine wpAnyH_ready (rs := [3, 4]) (by kernel_rfl) (by simp) ?_
        refine AllReadyH.cons (o := { dst := some 11, op := Go.Op.call { callee := Go.Callee.value (Go.Operand.func 91), args := #[Go.Operand.tmp 10], argTypes := #[96] }, type := 115, pos := "nodeset.go:86", after := #[{ on := 2, ground := Go.Ground.data }, { on := 1, ground := Go.Ground.chain }], guard := none }) rfl (fun K hK => ?_) ?_
        · skip
          have hwa := Lib.hid (show WB wx g2 ws2 from Blk.fr HB.out HR.out id)
          go_simp
          go_wp2_with (go_at_call 91; ((with_reducible refine (bitmap91 g2 ws2 _ hwa.out hl2).mono ?_); rintro e wz ⟨rfl, hbz⟩))
          clear hwa
          have HR := Lib.hid (HR.out.trans (Fr.of_below (hbz) (S := fun _ => False)))
          try have H5 := Lib.hid (Blk.below H5.out hbz H5.out.lt)
          try have H6 := Lib.hid (Blk.below H6.out hbz H6.out.lt)
          clear hbz
          obtain ⟨wx, hwx⟩ : ∃ wx, wx = wz := ⟨_, rfl⟩
          rw [← hwx] at HR ⊢
          try rw [← hwx] at H5
          try rw [← hwx] at H6
          clear hwx
          refine hK.out _ _ ?_ (fun hHeld => ?_)
          · exact HR.out
          clear hK K
          try simp only [Act.put, List.setIfInBounds_toArray, List.set_cons_zero, List.set_cons_succ]
          refine wpAnyH_ready (rs := [4]) (by kernel_rfl) (by simp) ?_
          refine AllReadyH.cons (o := { dst := some 5, op := Go.Op.alloc 115, type := 0, pos := "nodeset.go:86", after := #[], guard := none }) rfl (fun K hK => ?_) ?_
          · skip
            go_simp
            try have HNX := Lib.hid (show _ < wx.heap.size from H6.out.lt)
            have hbn := Blk.new wx 115 (List.replicate 64 (Value.int .u64 0)).toArray
            have hrn := HR.out.alloc (.cells (List.replicate 64 (Value.int .u64 0)).toArray 115)
            try have H6 := Lib.hid (H6.out.alloc (.cells (List.replicate 64 (Value.int .u64 0)).toArray 115))
            have hge := HR.out.size
            simp only [List.replicate_succ, List.replicate_zero] at hbn hrn
            try simp only [List.replicate_succ, List.replicate_zero] at H6
            try rw [← HSx] at HNX
            generalize wx.alloc _ = wz at *
            generalize wx.heap.size = g5x at *
            have H5 := Lib.hid hbn
            have HG5 := Lib.hid hge
            have HR := Lib.hid hrn
            try have HNE := Lib.hid (show g5x ≠ g6x by have := HNX.out; omega)
            clear hbn hrn hge
            obtain ⟨wx, hwx⟩ : ∃ wx, wx = wz := ⟨_, rfl⟩
            rw [← hwx] at HR ⊢
            try rw [← hwx] at H5
            try rw [← hwx] at H6
            clear hwx
            refine hK.out _ _ ?_ (fun hHeld => ?_)
            · exact HR.out
            clear hK K
            try simp only [Act.put, List.setIfInBounds_toArray, List.set_cons_zero, List.set_cons_succ]
            refine wpAnyH_ready (rs := [6]) (by kernel_rfl) (by simp) ?_
            refine AllReadyH.cons (o := { dst := none, op := Go.Op.store 115 (Go.Operand.tmp 5) (Go.Operand.tmp 9), type := 0, pos := "nodeset.go:86", after := #[{ on := 4, ground := Go.Ground.data }, { on := 1, ground := Go.Ground.data }, { on := 3, ground := Go.Ground.chain }, { on := 0, ground := Go.Ground.phase }, { on := 1, ground := Go.Ground.phase }, { on := 2, ground := Go.Ground.textOnly Go.Departure.lateStores }, { on := 3, ground := Go.Ground.phase }, { on := 4, ground := Go.Ground.phase }, { on := 5, ground := Go.Ground.phase }], guard := none }) rfl (fun K hK => ?_) ?_
            · skip
              refine step_storeBlk _ (by rfl) (.tmp 5) (.tmp 9) 115 (by rfl) _ 115 _ (wordsV ws1) _ 64 512 info115z (by rfl) (by rfl) (words_size hl1).symm H5.out (by rw [words_size hl1]; rfl) (words_one2 ws1) ?_
              intro wz hbz hfz hsz
              have HR := Lib.hid (HR.out.trans_ hfz (fun i e => Or.inr (by have := HG5.out; omega)))
              have H6 := Lib.hid (H6.out.fr hfz (fun e => HNE.out e.symm))
              have H5 := Lib.hid hbz
              clear hbz hfz hsz
              obtain ⟨wx, hwx⟩ : ∃ wx, wx = wz := ⟨_, rfl⟩
              rw [← hwx] at HR ⊢
              try rw [← hwx] at H5
              try rw [← hwx] at H6
              clear hwx
              refine hK.out _ _ ?_ (fun hHeld => ?_)
              · exact HR.out
              clear hK K
              try simp only [Act.put, List.setIfInBounds_toArray, List.set_cons_zero, List.set_cons_succ]
              refine wpAnyH_done (by kernel_rfl) ?_ _
              refine last_do ({ dst := none, op := Go.Op.store 115 (Go.Operand.tmp 6) (Go.Operand.tmp 11), type := 0, pos := "nodeset.go:86", after := #[{ on := 5, ground := Go.Ground.data }, { on := 3, ground := Go.Ground.data }, { on := 6, ground := Go.Ground.chain }, { on := 0, ground := Go.Ground.phase }, { on := 1, ground := Go.Ground.phase }, { on := 2, ground := Go.Ground.phase }, { on := 3, ground := Go.Ground.phase }, { on := 4, ground := Go.Ground.phase }, { on := 5, ground := Go.Ground.phase }, { on := 6, ground := Go.Ground.phase }], guard := none }) rfl (fun K hK => ?_)
              refine step_storeBlk _ (by rfl) (.tmp 6) (.tmp 11) 115 (by rfl) _ 115 _ (wordsV ws2) _ 64 512 info115z (by rfl) (by rfl) (words_size hl2).symm H6.out (by rw [words_size hl2]; rfl) (words_one2 ws2) ?_
              intro wz hbz hfz hsz
              refine hK _ _ ?_
              simp only [Act.put]
              go_wp2_with fail
              go_meet
              case rel => exact ⟨_, _, rfl, rfl, HNE.out, HG5.out, HG6.out, Blk.fr H5.out hfz HNE.out, hbz, HR.out.trans_ hfz (fun i e => Or.inr (by have := HG6.out; omega))⟩
            exact AllReadyH.nil
          exact AllReadyH.nil
        refine AllReadyH.cons (o := { dst := some 5, op := Go.Op.alloc 115, type := 0, pos := "nodeset.go:86", after := #[], guard := none }) rfl (fun K hK => ?_) ?_
        · skip
          go_simp
          try have HNX := Lib.hid (show _ < wx.heap.size from H6.out.lt)
          have hbn := Blk.new wx 115 (List.replicate 64 (Value.int .u64 0)).toArray
          have hrn := HR.out.alloc (.cells (List.replicate 64 (Value.int .u64 0)).toArray 115)
          try have H6 := Lib.hid (H6.out.alloc (.cells (List.replicate 64 (Value.int .u64 0)).toArray 115))
          have hge := HR.out.size
          simp only [List.replicate_succ, List.replicate_zero] at hbn hrn
          try simp only [List.replicate_succ, List.replicate_zero] at H6
          try rw [← HSx] at HNX
          generalize wx.alloc _ = wz at *
          generalize wx.heap.size = g5x at *
          have H5 := Lib.hid hbn
          have HG5 := Lib.hid hge
          have HR := Lib.hid hrn
          try have HNE := Lib.hid (show g5x ≠ g6x by have := HNX.out; omega)
          clear hbn hrn hge
          obtain ⟨wx, hwx⟩ : ∃ wx, wx = wz := ⟨_, rfl⟩
          rw [← hwx] at HR ⊢
          try rw [← hwx] at H5
          try rw [← hwx] at H6
          clear hwx
          refine hK.out _ _ ?_ (fun hHeld => ?_)
          · exact HR.out
          clear hK K
          try simp only [Act.put, List.setIfInBounds_toArray, List.set_cons_zero, List.set_cons_succ]
          refine wpAnyH_ready (rs := [3]) (by kernel_rfl) (by simp) ?_
          refine AllReadyH.cons (o := { dst := some 11, op := Go.Op.call { callee := Go.Callee.value (Go.Operand.func 91), args := #[Go.Operand.tmp 10], argTypes := #[96] }, type := 115, pos := "nodeset.go:86", after := #[{ on := 2, ground := Go.Ground.data }, { on := 1, ground := Go.Ground.chain }], guard := none }) rfl (fun K hK => ?_) ?_
          · skip
            have hwa := Lib.hid (show WB wx g2 ws2 from Blk.fr HB.out HR.out id)
            go_simp
            go_wp2_with (go_at_call 91; ((with_reducible refine (bitmap91 g2 ws2 _ hwa.out hl2).mono ?_); rintro e wz ⟨rfl, hbz⟩))
            clear hwa
            have HR := Lib.hid (HR.out.trans (Fr.of_below (hbz) (S := fun _ => False)))
            try have H5 := Lib.hid (Blk.below H5.out hbz H5.out.lt)
            try have H6 := Lib.hid (Blk.below H6.out hbz H6.out.lt)
            clear hbz
            obtain ⟨wx, hwx⟩ : ∃ wx, wx = wz := ⟨_, rfl⟩
            rw [← hwx] at HR ⊢
            try rw [← hwx] at H5
            try rw [← hwx] at H6
            clear hwx
            refine hK.out _ _ ?_ (fun hHeld => ?_)
            · exact HR.out
            clear hK K
            try simp only [Act.put, List.setIfInBounds_toArray, List.set_cons_zero, List.set_cons_succ]
            refine wpAnyH_ready (rs := [6]) (by kernel_rfl) (by simp) ?_
            refine AllReadyH.cons (o := { dst := none, op := Go.Op.store 115 (Go.Operand.tmp 5) (Go.Operand.tmp 9), type := 0, pos := "nodeset.go:86", after := #[{ on := 4, ground := Go.Ground.data }, { on := 1, ground := Go.Ground.data }, { on := 3, ground := Go.Ground.chain }, { on := 0, ground := Go.Ground.phase }, { on := 1, ground := Go.Ground.phase }, { on := 2, ground := Go.Ground.textOnly Go.Departure.lateStores }, { on := 3, ground := Go.Ground.phase }, { on := 4, ground := Go.Ground.phase }, { on := 5, ground := Go.Ground.phase }], guard := none }) rfl (fun K hK => ?_) ?_
            · skip
              refine step_storeBlk _ (by rfl) (.tmp 5) (.tmp 9) 115 (by rfl) _ 115 _ (wordsV ws1) _ 64 512 info115z (by rfl) (by rfl) (words_size hl1).symm H5.out (by rw [words_size hl1]; rfl) (words_one2 ws1) ?_
              intro wz hbz hfz hsz
              have HR := Lib.hid (HR.out.trans_ hfz (fun i e => Or.inr (by have := HG5.out; omega)))
              have H6 := Lib.hid (H6.out.fr hfz (fun e => HNE.out e.symm))
              have H5 := Lib.hid hbz
              clear hbz hfz hsz
              obtain ⟨wx, hwx⟩ : ∃ wx, wx = wz := ⟨_, rfl⟩
              rw [← hwx] at HR ⊢
              try rw [← hwx] at H5
              try rw [← hwx] at H6
              clear hwx
              refine hK.out _ _ ?_ (fun hHeld => ?_)
              · exact HR.out
              clear hK K
              try simp only [Act.put, List.setIfInBounds_toArray, List.set_cons_zero, List.set_cons_succ]
              refine wpAnyH_done (by kernel_rfl) ?_ _
              refine last_do ({ dst := none, op := Go.Op.store 115 (Go.Operand.tmp 6) (Go.Operand.tmp 11), type := 0, pos := "nodeset.go:86", after := #[{ on := 5, ground := Go.Ground.data }, { on := 3, ground := Go.Ground.data }, { on := 6, ground := Go.Ground.chain }, { on := 0, ground := Go.Ground.phase }, { on := 1, ground := Go.Ground.phase }, { on := 2, ground := Go.Ground.phase }, { on := 3, ground := Go.Ground.phase }, { on := 4, ground := Go.Ground.phase }, { on := 5, ground := Go.Ground.phase }, { on := 6, ground := Go.Ground.phase }], guard := none }) rfl (fun K hK => ?_)
              refine step_storeBlk _ (by rfl) (.tmp 6) (.tmp 11) 115 (by rfl) _ 115 _ (wordsV ws2) _ 64 512 info115z (by rfl) (by rfl) (words_size hl2).symm H6.out (by rw [words_size hl2]; rfl) (words_one2 ws2) ?_
              intro wz hbz hfz hsz
              refine hK _ _ ?_
              simp only [Act.put]
              go_wp2_with fail
              go_meet
              case rel => exact ⟨_, _, rfl, rfl, HNE.out, HG5.out, HG6.out, Blk.fr H5.out hfz HNE.out, hbz, HR.out.trans_ hfz (fun i e => Or.inr (by have := HG6.out; omega))⟩
            exact AllReadyH.nil
          exact AllReadyH.nil
        exact AllReadyH.nil
      refine AllReadyH.cons (o := { dst := some 5, op := Go.Op.alloc 115, type := 0, pos := "nodeset.go:86", after := #[], guard := none }) rfl (fun K hK => ?_) ?_
      · skip
        go_simp
        try have HNX := Lib.hid (show _ < wx.heap.size from H6.out.lt)
        have hbn := Blk.new wx 115 (List.replicate 64 (Value.int .u64 0)).toArray
        have hrn := HR.out.alloc (.cells (List.replicate 64 (Value.int .u64 0)).toArray 115)
        try have H6 := Lib.hid (H6.out.alloc (.cells (List.replicate 64 (Value.int .u64 0)).toArray 115))
        have hge := HR.out.size
        simp only [List.replicate_succ, List.replicate_zero] at hbn hrn
        try simp only [List.replicate_succ, List.replicate_zero] at H6
        try rw [← HSx] at HNX
        generalize wx.alloc _ = wz at *
        generalize wx.heap.size = g5x at *
        have H5 := Lib.hid hbn
        have HG5 := Lib.hid hge
        have HR := Lib.hid hrn
        try have HNE := Lib.hid (show g5x ≠ g6x by have := HNX.out; omega)
        clear hbn hrn hge
        obtain ⟨wx, hwx⟩ : ∃ wx, wx = wz := ⟨_, rfl⟩
        rw [← hwx] at HR ⊢
        try rw [← hwx] at H5
        try rw [← hwx] at H6
        clear hwx
        refine hK.out _ _ ?_ (fun hHeld => ?_)
        · exact HR.out
        clear hK K
        try simp only [Act.put, List.setIfInBounds_toArray, List.set_cons_zero, List.set_cons_succ]
        refine wpAnyH_ready (rs := [1]) (by kernel_rfl) (by simp) ?_
        refine AllReadyH.cons (o := { dst := some 9, op := Go.Op.call { callee := Go.Callee.value (Go.Operand.func 91), args := #[Go.Operand.tmp 8], argTypes := #[96] }, type := 115, pos := "nodeset.go:86", after := #[{ on := 0, ground := Go.Ground.data }], guard := none }) rfl (fun K hK => ?_) ?_
        · skip
          have hwa := Lib.hid (show WB wx g1 ws1 from Blk.fr HA.out HR.out id)
          go_simp
          go_wp2_with (go_at_call 91; ((with_reducible refine (bitmap91 g1 ws1 _ hwa.out hl1).mono ?_); rintro e wz ⟨rfl, hbz⟩))
          clear hwa
          have HR := Lib.hid (HR.out.trans (Fr.of_below (hbz) (S := fun _ => False)))
          try have H5 := Lib.hid (Blk.below H5.out hbz H5.out.lt)
          try have H6 := Lib.hid (Blk.below H6.out hbz H6.out.lt)
          clear hbz
          obtain ⟨wx, hwx⟩ : ∃ wx, wx = wz := ⟨_, rfl⟩
          rw [← hwx] at HR ⊢
          try rw [← hwx] at H5
          try rw [← hwx] at H6
          clear hwx
          refine hK.out _ _ ?_ (fun hHeld => ?_)
          · exact HR.out
          clear hK K
          try simp only [Act.put, List.setIfInBounds_toArray, List.set_cons_zero, List.set_cons_succ]
          refine wpAnyH_ready (rs := [3]) (by kernel_rfl) (by simp) ?_
          refine AllReadyH.cons (o := { dst := some 11, op := Go.Op.call { callee := Go.Callee.value (Go.Operand.func 91), args := #[Go.Operand.tmp 10], argTypes := #[96] }, type := 115, pos := "nodeset.go:86", after := #[{ on := 2, ground := Go.Ground.data }, { on := 1, ground := Go.Ground.chain }], guard := none }) rfl (fun K hK => ?_) ?_
          · skip
            have hwa := Lib.hid (show WB wx g2 ws2 from Blk.fr HB.out HR.out id)
            go_simp
            go_wp2_with (go_at_call 91; ((with_reducible refine (bitmap91 g2 ws2 _ hwa.out hl2).mono ?_); rintro e wz ⟨rfl, hbz⟩))
            clear hwa
            have HR := Lib.hid (HR.out.trans (Fr.of_below (hbz) (S := fun _ => False)))
            try have H5 := Lib.hid (Blk.below H5.out hbz H5.out.lt)
            try have H6 := Lib.hid (Blk.below H6.out hbz H6.out.lt)
            clear hbz
            obtain ⟨wx, hwx⟩ : ∃ wx, wx = wz := ⟨_, rfl⟩
            rw [← hwx] at HR ⊢
            try rw [← hwx] at H5
            try rw [← hwx] at H6
            clear hwx
            refine hK.out _ _ ?_ (fun hHeld => ?_)
            · exact HR.out
            clear hK K
            try simp only [Act.put, List.setIfInBounds_toArray, List.set_cons_zero, List.set_cons_succ]
            refine wpAnyH_ready (rs := [6]) (by kernel_rfl) (by simp) ?_
            refine AllReadyH.cons (o := { dst := none, op := Go.Op.store 115 (Go.Operand.tmp 5) (Go.Operand.tmp 9), type := 0, pos := "nodeset.go:86", after := #[{ on := 4, ground := Go.Ground.data }, { on := 1, ground := Go.Ground.data }, { on := 3, ground := Go.Ground.chain }, { on := 0, ground := Go.Ground.phase }, { on := 1, ground := Go.Ground.phase }, { on := 2, ground := Go.Ground.textOnly Go.Departure.lateStores }, { on := 3, ground := Go.Ground.phase }, { on := 4, ground := Go.Ground.phase }, { on := 5, ground := Go.Ground.phase }], guard := none }) rfl (fun K hK => ?_) ?_
            · skip
              refine step_storeBlk _ (by rfl) (.tmp 5) (.tmp 9) 115 (by rfl) _ 115 _ (wordsV ws1) _ 64 512 info115z (by rfl) (by rfl) (words_size hl1).symm H5.out (by rw [words_size hl1]; rfl) (words_one2 ws1) ?_
              intro wz hbz hfz hsz
              have HR := Lib.hid (HR.out.trans_ hfz (fun i e => Or.inr (by have := HG5.out; omega)))
              have H6 := Lib.hid (H6.out.fr hfz (fun e => HNE.out e.symm))
              have H5 := Lib.hid hbz
              clear hbz hfz hsz
              obtain ⟨wx, hwx⟩ : ∃ wx, wx = wz := ⟨_, rfl⟩
              rw [← hwx] at HR ⊢
              try rw [← hwx] at H5
              try rw [← hwx] at H6
              clear hwx
              refine hK.out _ _ ?_ (fun hHeld => ?_)
              · exact HR.out
              clear hK K
              try simp only [Act.put, List.setIfInBounds_toArray, List.set_cons_zero, List.set_cons_succ]
              refine wpAnyH_done (by kernel_rfl) ?_ _
              refine last_do ({ dst := none, op := Go.Op.store 115 (Go.Operand.tmp 6) (Go.Operand.tmp 11), type := 0, pos := "nodeset.go:86", after := #[{ on := 5, ground := Go.Ground.data }, { on := 3, ground := Go.Ground.data }, { on := 6, ground := Go.Ground.chain }, { on := 0, ground := Go.Ground.phase }, { on := 1, ground := Go.Ground.phase }, { on := 2, ground := Go.Ground.phase }, { on := 3, ground := Go.Ground.phase }, { on := 4, ground := Go.Ground.phase }, { on := 5, ground := Go.Ground.phase }, { on := 6, ground := Go.Ground.phase }], guard := none }) rfl (fun K hK => ?_)
              refine step_storeBlk _ (by rfl) (.tmp 6) (.tmp 11) 115 (by rfl) _ 115 _ (wordsV ws2) _ 64 512 info115z (by rfl) (by rfl) (words_size hl2).symm H6.out (by rw [words_size hl2]; rfl) (words_one2 ws2) ?_
              intro wz hbz hfz hsz
              refine hK _ _ ?_
              simp only [Act.put]
              go_wp2_with fail
              go_meet
              case rel => exact ⟨_, _, rfl, rfl, HNE.out, HG5.out, HG6.out, Blk.fr H5.out hfz HNE.out, hbz, HR.out.trans_ hfz (fun i e => Or.inr (by have := HG6.out; omega))⟩
            exact AllReadyH.nil
          exact AllReadyH.nil
        exact AllReadyH.nil
      exact AllReadyH.nil
    exact AllReadyH.nil
  case rest =>
    obtain ⟨g5, g6, rfl, rfl, hne, hg5, hg6, hz5, hz6, hfr⟩ := hcut
    have hW := HSz.out
    have HZ5 := Lib.hid (show WB wc g5 (andK ws1 ws2 0) by rw [andK_0]; exact hz5)
    have HZ6 := Lib.hid hz6
    have HX := Lib.hid (Blk.fr HX4.out hfr id)
    have HBc := Lib.hid (HBe.out.trans (hfr.below (B := w.heap.size) (by omega) (fun k hk e => e)))
    have HNE := Lib.hid hne
    have n5 : w.heap.size + 3 ≤ g5 := by omega
    have n6 : w.heap.size + 3 ≤ g6 := by omega
    have HK1 := Lib.hid (fun k (hk : k < 64) => andK_at (b := ws2) hl1 hl2 hk)
    have HK2 := Lib.hid (fun k (hk : k < 64) => andK_set hl1 hl2 hk)
    have HKl := Lib.hid (fun k (hk : k ≤ 64) => andK_len hl1 hl2 hk)
    have HE := Lib.hid (andK_64 hl1 hl2)
    have HL2 := Lib.hid hl2
    have HS := Lib.hid (fun (W : World) (hW : WB W g5 (andW ws1 ws2)) => setOf90 g5 _ W hW (andW_len hl1 hl2))
    clear hz5 hz6 hfr hne hl1 hl2 HX2 HX3 HX4 HA HB HBe HSz hW hg5 hg6
    go_wp2_with fail
    go_loopw [12] (fun vi wr => ∃ (k : Nat), k ≤ 64 ∧ vi = .int .i64 k ∧ WB wr g5 (andK ws1 ws2 k) ∧ WB wr g6 ws2 ∧ Blk wr (w.heap.size + 2) 96 #[.pointer none] ∧ Below w.heap.size w wr) (fun vi _ => 64 - (intOf vi).toNat)
    case atStart => exact ⟨0, Nat.zero_le _, rfl, HZ5.out, HZ6.out, HX.out, HBc.out⟩
    case round =>
      obtain ⟨k, hk, rfl, hz5, hz6, hx, hbel⟩ := hrel
      have G5 := Lib.hid hz5
      have G6 := Lib.hid hz6
      have GX := Lib.hid hx
      have GB := Lib.hid hbel
      clear hz5 hz6 hx hbel HZ5 HZ6 HX HBc
      by_cases hlt : k < 64
      · have hlt' : (k : Int) < 64 := by omega
        have hc5 := G5.out.at_ (i := k) (by rw [HKl.out k hk]; exact hlt)
        rw [HK1.out k hlt] at hc5
        have hc6 := G6.out.at_ (i := k) (by rw [HL2.out]; exact hlt)
        have hf5 := Blk.frozen G5.out
        have s5 := Blk.lt G5.out
        have s6 := Blk.lt G6.out
        have HN := Lib.hid (show WB (wr.drew.setCell ⟨g5, k, none⟩ (.int .u64 ((gw ws1 k &&& gw ws2 k : Nat) : Int))) g5 (andK ws1 ws2 (k + 1)) by
          rw [← HK2.out k hlt]
          have := Blk.set_ (show Blk wr.drew g5 115 _ from G5.out) k (.int .u64 ((gw ws1 k &&& gw ws2 k : Nat) : Int))
          unfold WB
          have e : wordsV ((andK ws1 ws2 k).set k (gw ws1 k &&& gw ws2 k)) = (wordsV (andK ws1 ws2 k)).setIfInBounds k (.int .u64 ((gw ws1 k &&& gw ws2 k : Nat) : Int)) := by
            unfold wordsV; rw [List.map_set]; simp
          rw [e]; exact this)
        have hand := and_u64 _ _ (HV1.out k) (HV2.out k)
        have HN6 := Lib.hid (fun (u : Value) => show WB (wr.drew.setCell ⟨g5, k, none⟩ u) g6 ws2 from Blk.far (show Blk wr.drew g6 115 _ from G6.out) (fun e => HNE.out e.symm) u)
        have HNX := Lib.hid (fun (u : Value) => Blk.far (p := ⟨g5, k, none⟩) (show Blk wr.drew (w.heap.size + 2) 96 _ from GX.out) (by simp; omega) u)
        have HNB := Lib.hid (fun (u : Value) => (GB.out.drew).setCell (p := ⟨g5, k, none⟩) (by simp; omega) u)
        generalize gw ws1 k = v1 at *
        generalize gw ws2 k = v2 at *
        go_wp2_with fail
        go_region_law (fail)
        all_goals
          go_wp2_with fail
          exact ⟨⟨k + 1, by omega, by go_num, HN.out, HN6.out _, HNX.out _, HNB.out _⟩, by simp [intOf]; omega⟩
      · have hlt' : ¬ (k : Int) < 64 := by omega
        obtain rfl : k = 64 := by omega
        have hx := GX.out
        have GZ := Lib.hid (show WB wr g5 (andW ws1 ws2) by rw [← HE.out]; exact G5.out)
        have hsr := GB.out.size
        have hgl := Blk.lt GZ.out
        have hxl := GX.out.lt
        cases hzz : zeroW (andW ws1 ws2) with
        | false =>
          rw [hzz] at HS
          go_wp2_with (go_at_call 90; ((with_reducible refine (HS.out _ GZ.out).mono ?_); rintro e w3 ⟨rfl, hb3⟩; have HX3 := Lib.hid (GX.out.below hb3 hxl); have HZ3 := Lib.hid (show WB w3 _ _ from Blk.below GZ.out hb3 hgl); have HB3 := Lib.hid (GB.out.trans (hb3.mono hsr)); obtain ⟨x0, x1, x2⟩ := HX3.out.facts))
          have HF := Lib.hid (fun (u : Value) => (((Fr.of_below HB3.out (S := fun _ => False)).setCell (p := ⟨w.heap.size + 2, 0, none⟩) (.inr (by simp)) u).below (B := w.heap.size) (Nat.le_refl _) (fun _ _ => id)))
          have HW := Lib.hid (fun (u : Value) => Blk.far (p := ⟨w.heap.size + 2, 0, none⟩) HZ3.out (by simp; omega) u)
          have hc3 : (w3.cell? ⟨w.heap.size + 2, 0, none⟩).isSome = true := by rw [x1]; rfl
          refine bodyPost_ret (v := .agg #[.pointer (some ⟨g5, 0, none⟩)]) (by simp [results, Tryd.results76, go_sem, hc3]) rfl ⟨g5, by omega, by simp [hzz], HW.out _, HF.out _⟩
        | true =>
          rw [hzz] at HS
          go_wp2_with (go_at_call 90; ((with_reducible refine (HS.out _ GZ.out).mono ?_); rintro e w3 ⟨rfl, hb3⟩; have HX3 := Lib.hid (GX.out.below hb3 hxl); have HZ3 := Lib.hid (show WB w3 _ _ from Blk.below GZ.out hb3 hgl); have HB3 := Lib.hid (GB.out.trans (hb3.mono hsr)); obtain ⟨x0, x1, x2⟩ := HX3.out.facts))
          have HF := Lib.hid (fun (u : Value) => (((Fr.of_below HB3.out (S := fun _ => False)).setCell (p := ⟨w.heap.size + 2, 0, none⟩) (.inr (by simp)) u).below (B := w.heap.size) (Nat.le_refl _) (fun _ _ => id)))
          have HW := Lib.hid (fun (u : Value) => Blk.far (p := ⟨w.heap.size + 2, 0, none⟩) HZ3.out (by simp; omega) u)
          have hc3 : (w3.cell? ⟨w.heap.size + 2, 0, none⟩).isSome = true := by rw [x1]; rfl
          refine bodyPost_ret (v := .agg #[.pointer none]) (by simp [results, Tryd.results76, go_sem, hc3]) rfl ⟨g5, by omega, by simp [hzz], HW.out _, HF.out _⟩
end Go.Proofs.YtipkicijfedfoaaDoor

import Derived.Test.YtnmmiiajcjcccaaAsk2
import Derived.Test.YtnmmiiajcjcccaaRegLast
import Derived.Deep.RegionHeldLaw
namespace Go.Proofs.Ytnmmiiajcjcccaa
set_option linter.unusedVariables false
set_option linter.unusedSimpArgs false
open Go.RowKit Go.Own Go.Quo Go.Aid
def subx : List Bool → Code → Code
  | [], c => c
  | true :: p, .seq _ y => subx p y
  | false :: p, .seq x _ => subx p x
  | _ :: p, .loop x => subx p x
  | _ :: p, .block _ x => subx p x
  | false :: p, .cond _ x _ => subx p x
  | true :: p, .cond _ _ y => subx p y
  | _, c => c
/-- the way out is the common one -/
def onlyN (K : Act → World → Prop) : Exit → Act → World → Prop
  | .normal, a, w => K a w
  | _, _, _ => False
theorem nats_one (l : List Nat) : ∀ u ∈ l.map natV, u.oneCell' = true := by
  intro u hu
  obtain ⟨x, -, rfl⟩ := List.mem_map.1 hu
  rfl
set_option maxRecDepth 10000 in
set_option maxHeartbeats 8000000 in
theorem rask_r12 (B : Nat → Prop) (i k : Nat) (xs : List Nat) (A : Option Addr) (c : Nat) (W4 : World) (hk : k ≤ xs.length) (hc : xs.length ≤ c) (hl : xs.length ≤ 1000)
    (HT4 : RowKit.Hid (Reads W4 (fun j => B j ∧ j < W4.heap.size) 1 A k ((xs.take k).map natV))) (HD4 : RowKit.Hid (Reads W4 (fun j => B j ∧ j < W4.heap.size) 1 (cutG A c k 1) (xs.length - k) ((xs.drop k).map natV)))
    (K0 : Act → World → Prop) (x0 x1 x2 x3 x4 x5 x6 x8 x11 x12 x13 x14 x15 x16 x17 x18 x19 x20 x21 x22 x23 x24 x25 x26 x27 x28 x29 x30 x31 x32 x33 x34 x35 x36 x37 x38 x39 x40 x41 x42 x43 x44 x45 x46 x47 x48 x49 x50 x51 x52 x53 x54 x55 x56 x57 x58 x59 x60 x61 x62 x63 x64 x65 x66 x67 x68 x69 x70 x71 x72 x73 x74 x75 x76 x77 x78 x79 x80 x81 x82 x83 x84 x85 x86 x87 x88 x89 x90 x91 x92 x93 x94 x95 x96 x97 x98 x99 x100 x101 x102 x103 x104 x105 x106 x107 x108 x109 x110 x111 x112 : Value)
    (HQ : RowKit.Hid (∀ (A3 : Option Addr) (c3 : Nat) (wx : World) (v100 v101 v102 v103 v104 v105 v106 v107 v108 v109 v110 v111 : Value), xs.length + 1 ≤ c3 → Reads wx (fun j => W4.heap.size ≤ j) 1 A3 (xs.length + 1) ((xs.take k ++ [i] ++ xs.drop k).map natV) → Fr (fun _ => False) W4 wx → K0 ⟨#[x0, x1, x2, x3, x4, x5, x6, .slice A3 (xs.length + 1) c3, x8, .int .i64 (i : Int), .int .i64 (k : Int), x11, x12, x13, x14, x15, x16, x17, x18, x19, x20, x21, x22, x23, x24, x25, x26, x27, x28, x29, x30, x31, x32, x33, x34, x35, x36, x37, x38, x39, x40, x41, x42, x43, x44, x45, x46, x47, x48, x49, x50, x51, x52, x53, x54, x55, x56, x57, x58, x59, x60, x61, x62, x63, x64, x65, x66, x67, x68, x69, x70, x71, x72, x73, x74, x75, x76, x77, x78, x79, x80, x81, x82, x83, x84, x85, x86, x87, x88, x89, x90, x91, x92, x93, x94, x95, x96, x97, x98, x99, v100, v101, v102, v103, v104, v105, v106, v107, v108, v109, v110, v111, x112], []⟩ wx)) :
    (subx [true, true, true, true, false, true, false, false, true, false, false, true, true, true] (Try.f24.body.getD .skip)).wp Try.prog (onlyN K0) ⟨#[x0, x1, x2, x3, x4, x5, x6, .slice A xs.length c, x8, .int .i64 (i : Int), .int .i64 (k : Int), x11, x12, x13, x14, x15, x16, x17, x18, x19, x20, x21, x22, x23, x24, x25, x26, x27, x28, x29, x30, x31, x32, x33, x34, x35, x36, x37, x38, x39, x40, x41, x42, x43, x44, x45, x46, x47, x48, x49, x50, x51, x52, x53, x54, x55, x56, x57, x58, x59, x60, x61, x62, x63, x64, x65, x66, x67, x68, x69, x70, x71, x72, x73, x74, x75, x76, x77, x78, x79, x80, x81, x82, x83, x84, x85, x86, x87, x88, x89, x90, x91, x92, x93, x94, x95, x96, x97, x98, x99, x100, x101, x102, x103, x104, x105, x106, x107, x108, x109, x110, x111, x112], []⟩ W4 := by
  have hkl : (0 : Int) ≤ (k : Int) := by omega
  have hkl2 : (k : Int) ≤ (xs.length : Int) := by omega
  have hkl3 : (k : Int) ≤ (c : Int) := by omega
  have HD5 := Lib.hid (show Reads W4 (fun j => B j ∧ j < W4.heap.size) 1 (if c = k then A else Option.map (fun x => x.add k) A) (xs.length - k) ((xs.drop k).map natV) by simpa [cutG] using HD4.out)
  generalize hQ : onlyN K0 = Q'
  dsimp only [subx, Try.f24, Option.getD]
  subst hQ
  refine wp_region_last (S := fun w' => Fr (fun _ => False) W4 w') #[{ dst := some 100, op := Go.Op.buildSlice 22 0 #[], type := 22, pos := "ref.go:171", after := #[], guard := none }, { dst := some 101, op := Go.Op.move (Go.Operand.tmp 7), type := 22, pos := "ref.go:171", after := #[], guard := none }, { dst := some 102, op := Go.Op.move (Go.Operand.tmp 10), type := 3, pos := "ref.go:171", after := #[], guard := none }, { dst := some 103, op := Go.Op.slice 22 (Go.Operand.tmp 101) none (some (Go.Operand.tmp 102)) none, type := 22, pos := "ref.go:171", after := #[{ on := 1, ground := Go.Ground.data }, { on := 2, ground := Go.Ground.data }], guard := none }, { dst := some 104, op := Go.Op.call { callee := Go.Callee.builtin Go.Builtin.append, args := #[Go.Operand.tmp 100, Go.Operand.tmp 103], argTypes := #[22, 22] }, type := 22, pos := "ref.go:171", after := #[{ on := 0, ground := Go.Ground.data }, { on := 3, ground := Go.Ground.data }], guard := none }, { dst := some 105, op := Go.Op.move (Go.Operand.tmp 9), type := 3, pos := "ref.go:171", after := #[], guard := none }, { dst := some 106, op := Go.Op.buildSlice 22 1 #[(0, Go.Operand.tmp 105)], type := 22, pos := "ref.go:171", after := #[{ on := 5, ground := Go.Ground.data }], guard := none }, { dst := some 107, op := Go.Op.call { callee := Go.Callee.builtin Go.Builtin.append, args := #[Go.Operand.tmp 104, Go.Operand.tmp 106], argTypes := #[22, 22] }, type := 22, pos := "ref.go:171", after := #[{ on := 4, ground := Go.Ground.data }, { on := 6, ground := Go.Ground.data }, { on := 4, ground := Go.Ground.chain }], guard := none }, { dst := some 108, op := Go.Op.move (Go.Operand.tmp 7), type := 22, pos := "ref.go:171", after := #[], guard := none }, { dst := some 109, op := Go.Op.move (Go.Operand.tmp 10), type := 3, pos := "ref.go:171", after := #[], guard := none }, { dst := some 110, op := Go.Op.slice 22 (Go.Operand.tmp 108) (some (Go.Operand.tmp 109)) none none, type := 22, pos := "ref.go:171", after := #[{ on := 8, ground := Go.Ground.data }, { on := 9, ground := Go.Ground.data }], guard := none }, { dst := some 111, op := Go.Op.call { callee := Go.Callee.builtin Go.Builtin.append, args := #[Go.Operand.tmp 107, Go.Operand.tmp 110], argTypes := #[22, 22] }, type := 22, pos := "ref.go:171", after := #[{ on := 7, ground := Go.Ground.data }, { on := 10, ground := Go.Ground.data }, { on := 7, ground := Go.Ground.chain }], guard := none }] { dst := some 7, op := Go.Op.assign (Go.Operand.tmp 111), type := 22, pos := "ref.go:171", after := #[{ on := 11, ground := Go.Ground.data }, { on := 11, ground := Go.Ground.chain }, { on := 0, ground := Go.Ground.phase }, { on := 1, ground := Go.Ground.phase }, { on := 2, ground := Go.Ground.phase }, { on := 3, ground := Go.Ground.phase }, { on := 4, ground := Go.Ground.phase }, { on := 5, ground := Go.Ground.phase }, { on := 6, ground := Go.Ground.phase }, { on := 7, ground := Go.Ground.phase }, { on := 8, ground := Go.Ground.phase }, { on := 9, ground := Go.Ground.phase }, { on := 10, ground := Go.Ground.phase }, { on := 11, ground := Go.Ground.phase }], guard := none } (by rfl) (by kernel_rfl) (by kernel_rfl) ?_ (fun hHeld => ?_)
  · exact (Fr.refl _ _).drew
  have HR := Lib.hid hHeld
  generalize W4.drew = wx at *
  refine wpAnyH_take (i := 1) (oi := { dst := some 101, op := Go.Op.move (Go.Operand.tmp 7), type := 22, pos := "ref.go:171", after := #[], guard := none }) (v := ?v0) rfl (by kernel_rfl) (by kernel_rfl) (by kernel_rfl) (fun _ _ _ h => h) (Or.inl ⟨by rfl, ?hy0⟩) hHeld ?rest0
  case hy0 =>
    intro w0 hSw
    go_simp
    try with_reducible rfl
  try simp only [Act.put, List.setIfInBounds_toArray, List.set_cons_zero, List.set_cons_succ]
  refine wpAnyH_take (i := 2) (oi := { dst := some 102, op := Go.Op.move (Go.Operand.tmp 10), type := 3, pos := "ref.go:171", after := #[], guard := none }) (v := ?v1) rfl (by kernel_rfl) (by kernel_rfl) (by kernel_rfl) (fun _ _ _ h => h) (Or.inl ⟨by rfl, ?hy1⟩) hHeld ?rest1
  case hy1 =>
    intro w0 hSw
    go_simp
    try with_reducible rfl
  try simp only [Act.put, List.setIfInBounds_toArray, List.set_cons_zero, List.set_cons_succ]
  refine wpAnyH_take (i := 3) (oi := { dst := some 103, op := Go.Op.slice 22 (Go.Operand.tmp 101) none (some (Go.Operand.tmp 102)) none, type := 22, pos := "ref.go:171", after := #[{ on := 1, ground := Go.Ground.data }, { on := 2, ground := Go.Ground.data }], guard := none }) (v := ?v2) rfl (by kernel_rfl) (by kernel_rfl) (by kernel_rfl) (fun _ _ _ h => h) (Or.inl ⟨by rfl, ?hy2⟩) hHeld ?rest2
  case hy2 =>
    intro w0 hSw
    go_simp
    try with_reducible rfl
  try simp only [Act.put, List.setIfInBounds_toArray, List.set_cons_zero, List.set_cons_succ]
  refine wpAnyH_take (i := 5) (oi := { dst := some 105, op := Go.Op.move (Go.Operand.tmp 9), type := 3, pos := "ref.go:171", after := #[], guard := none }) (v := ?v3) rfl (by kernel_rfl) (by kernel_rfl) (by kernel_rfl) (fun _ _ _ h => h) (Or.inl ⟨by rfl, ?hy3⟩) hHeld ?rest3
  case hy3 =>
    intro w0 hSw
    go_simp
    try with_reducible rfl
  try simp only [Act.put, List.setIfInBounds_toArray, List.set_cons_zero, List.set_cons_succ]
  refine wpAnyH_take (i := 8) (oi := { dst := some 108, op := Go.Op.move (Go.Operand.tmp 7), type := 22, pos := "ref.go:171", after := #[], guard := none }) (v := ?v4) rfl (by kernel_rfl) (by kernel_rfl) (by kernel_rfl) (fun _ _ _ h => h) (Or.inl ⟨by rfl, ?hy4⟩) hHeld ?rest4
  case hy4 =>
    intro w0 hSw
    go_simp
    try with_reducible rfl
  try simp only [Act.put, List.setIfInBounds_toArray, List.set_cons_zero, List.set_cons_succ]
  refine wpAnyH_take (i := 9) (oi := { dst := some 109, op := Go.Op.move (Go.Operand.tmp 10), type := 3, pos := "ref.go:171", after := #[], guard := none }) (v := ?v5) rfl (by kernel_rfl) (by kernel_rfl) (by kernel_rfl) (fun _ _ _ h => h) (Or.inl ⟨by rfl, ?hy5⟩) hHeld ?rest5
  case hy5 =>
    intro w0 hSw
    go_simp
    try with_reducible rfl
  try simp only [Act.put, List.setIfInBounds_toArray, List.set_cons_zero, List.set_cons_succ]
  refine wpAnyH_take (i := 10) (oi := { dst := some 110, op := Go.Op.slice 22 (Go.Operand.tmp 108) (some (Go.Operand.tmp 109)) none none, type := 22, pos := "ref.go:171", after := #[{ on := 8, ground := Go.Ground.data }, { on := 9, ground := Go.Ground.data }], guard := none }) (v := ?v6) rfl (by kernel_rfl) (by kernel_rfl) (by kernel_rfl) (fun _ _ _ h => h) (Or.inl ⟨by rfl, ?hy6⟩) hHeld ?rest6
  case hy6 =>
    intro w0 hSw
    go_simp
    try with_reducible rfl
  try simp only [Act.put, List.setIfInBounds_toArray, List.set_cons_zero, List.set_cons_succ]
  refine wpAnyH_ready (rs := [0, 6]) (by kernel_rfl) (by simp) ?_
  refine AllReadyH.cons (o := { dst := some 100, op := Go.Op.buildSlice 22 0 #[], type := 22, pos := "ref.go:171", after := #[], guard := none }) rfl (fun K hK => ?_) ?_
  · skip
    go_simp
    have HO := Lib.hid (World.ownsRow_lit (base := W4.heap.size) (e := 3) (size := 1) wx #[] 0 HR.out.size (by simp [maxLen]) (by simp))
    try have HL := Lib.hid (HL.out.alloc (.cells #[] 3))
    have HR := Lib.hid (HR.out.alloc (.cells #[] 3))
    have HsA := Lib.hid (show (wx.alloc (.cells #[] 3)).heap.size = wx.heap.size + 1 by simp)
    obtain ⟨wz, hwz⟩ : ∃ wz, wz = wx.alloc (.cells #[] 3) := ⟨_, rfl⟩
    rw [← hwz] at HR HsA ⊢
    try rw [← hwz] at HO
    try rw [← hwz] at HL
    clear hwz
    obtain ⟨wx, hwx⟩ : ∃ wx, wx = wz := ⟨_, rfl⟩
    rw [← hwx] at HR HsA ⊢
    try rw [← hwx] at HO
    try rw [← hwx] at HL
    clear hwx
    refine hK.out _ _ ?_ (fun hHeld => ?_)
    · exact HR.out
    clear hK K
    try simp only [Act.put, List.setIfInBounds_toArray, List.set_cons_zero, List.set_cons_succ]
    refine wpAnyH_ready (rs := [4, 6]) (by kernel_rfl) (by simp) ?_
    refine AllReadyH.cons (o := { dst := some 104, op := Go.Op.call { callee := Go.Callee.builtin Go.Builtin.append, args := #[Go.Operand.tmp 100, Go.Operand.tmp 103], argTypes := #[22, 22] }, type := 22, pos := "ref.go:171", after := #[{ on := 0, ground := Go.Ground.data }, { on := 3, ground := Go.Ground.data }], guard := none }) rfl (fun K hK => ?_) ?_
    · skip
      refine step_append_any _ (by rfl) (.tmp 100) (.tmp 103) _ (by rfl) W4.heap.size 3 _ 1 8 Try.underlying22 info3 rfl (by omega) _ _ _ (by rfl) HO.out _ A k c ((xs.take k).map natV) (by rfl) (HT4.out.fr HR.out (fun _ _ => id)) (nats_one _) (by simp only [maxLen]; omega) (by omega) HR.out.size ?_
      intro A7 c7 wz hown7 hgr7 hat7
      try rw [Nat.zero_add] at hown7 ⊢
      try rw [List.nil_append] at hown7
      skip
      have hFr7 := fun (j : Nat) hj => (HO.out.lt j hj).1
      have HR := Lib.hid (HR.out.grown hgr7 (fun j hj => .inr (hFr7 j hj)))
      try have HL := Lib.hid (HL.out.grown hgr7 (fun j hj => by have qa := HsA.out; have qb := HsB.out; subst hj; simp [Value.ownBlock]; omega))
      clear HO hFr7
      have HO := Lib.hid hown7
      obtain ⟨wx, hwx⟩ : ∃ wx, wx = wz := ⟨_, rfl⟩
      rw [← hwx] at HR HO ⊢
      try rw [← hwx] at HL
      clear hown7 hgr7 hat7 hwx
      refine hK.out _ _ ?_ (fun hHeld => ?_)
      · exact HR.out
      clear hK K
      try simp only [Act.put, List.setIfInBounds_toArray, List.set_cons_zero, List.set_cons_succ]
      refine wpAnyH_ready (rs := [6]) (by kernel_rfl) (by simp) ?_
      refine AllReadyH.cons (o := { dst := some 106, op := Go.Op.buildSlice 22 1 #[(0, Go.Operand.tmp 105)], type := 22, pos := "ref.go:171", after := #[{ on := 5, ground := Go.Ground.data }], guard := none }) rfl (fun K hK => ?_) ?_
      · skip
        go_simp
        have HL := Lib.hid (Reads.newS wx [.int .i64 (i : Int)] 3 (0, 0) 1 1 rfl _ rfl)
        try have HO := Lib.hid (HO.out.alloc (.cells #[.int .i64 (i : Int)] 3))
        have HR := Lib.hid (HR.out.alloc (.cells #[.int .i64 (i : Int)] 3))
        have HsB := Lib.hid (show (wx.alloc (.cells #[.int .i64 (i : Int)] 3)).heap.size = wx.heap.size + 1 by simp)
        obtain ⟨wz, hwz⟩ : ∃ wz, wz = wx.alloc (.cells #[.int .i64 (i : Int)] 3) := ⟨_, rfl⟩
        rw [← hwz] at HR HsB ⊢
        try rw [← hwz] at HO
        try rw [← hwz] at HL
        clear hwz
        obtain ⟨wx, hwx⟩ : ∃ wx, wx = wz := ⟨_, rfl⟩
        rw [← hwx] at HR HsB ⊢
        try rw [← hwx] at HO
        try rw [← hwx] at HL
        clear hwx
        refine hK.out _ _ ?_ (fun hHeld => ?_)
        · exact HR.out
        clear hK K
        try simp only [Act.put, List.setIfInBounds_toArray, List.set_cons_zero, List.set_cons_succ]
        refine wpAnyH_ready (rs := [7]) (by kernel_rfl) (by simp) ?_
        refine AllReadyH.cons (o := { dst := some 107, op := Go.Op.call { callee := Go.Callee.builtin Go.Builtin.append, args := #[Go.Operand.tmp 104, Go.Operand.tmp 106], argTypes := #[22, 22] }, type := 22, pos := "ref.go:171", after := #[{ on := 4, ground := Go.Ground.data }, { on := 6, ground := Go.Ground.data }, { on := 4, ground := Go.Ground.chain }], guard := none }) rfl (fun K hK => ?_) ?_
        · skip
          refine step_append_any _ (by rfl) (.tmp 104) (.tmp 106) _ (by rfl) W4.heap.size 3 _ 1 8 Try.underlying22 info3 rfl (by omega) _ _ _ (by rfl) HO.out _ _ _ _ _ (by rfl) HL.out (by simp [Value.oneCell']) (by simp only [maxLen]; omega) (by omega) HR.out.size ?_
          intro A7 c7 wz hown7 hgr7 hat7
          try rw [Nat.zero_add] at hown7 ⊢
          try rw [List.nil_append] at hown7
          skip
          have hFr7 := fun (j : Nat) hj => (HO.out.lt j hj).1
          have HR := Lib.hid (HR.out.grown hgr7 (fun j hj => .inr (hFr7 j hj)))
          clear HL
          clear HO hFr7
          have HO := Lib.hid hown7
          obtain ⟨wx, hwx⟩ : ∃ wx, wx = wz := ⟨_, rfl⟩
          rw [← hwx] at HR HO ⊢
          try rw [← hwx] at HL
          clear hown7 hgr7 hat7 hwx
          refine hK.out _ _ ?_ (fun hHeld => ?_)
          · exact HR.out
          clear hK K
          try simp only [Act.put, List.setIfInBounds_toArray, List.set_cons_zero, List.set_cons_succ]
          refine wpAnyH_ready (rs := [11]) (by kernel_rfl) (by simp) ?_
          refine AllReadyH.cons (o := { dst := some 111, op := Go.Op.call { callee := Go.Callee.builtin Go.Builtin.append, args := #[Go.Operand.tmp 107, Go.Operand.tmp 110], argTypes := #[22, 22] }, type := 22, pos := "ref.go:171", after := #[{ on := 7, ground := Go.Ground.data }, { on := 10, ground := Go.Ground.data }, { on := 7, ground := Go.Ground.chain }], guard := none }) rfl (fun K hK => ?_) ?_
          · skip
            refine step_append_any _ (by rfl) (.tmp 107) (.tmp 110) _ (by rfl) W4.heap.size 3 _ 1 8 Try.underlying22 info3 rfl (by omega) _ _ _ (by rfl) HO.out _ (if c = k then A else Option.map (fun x => x.add k) A) (xs.length - k) (c - k) ((xs.drop k).map natV) (by rfl) (HD5.out.fr HR.out (fun _ _ => id)) (nats_one _) (by simp only [maxLen]; omega) (by omega) HR.out.size ?_
            intro A7 c7 wz hown7 hgr7 hat7
            try rw [Nat.zero_add] at hown7 ⊢
            try rw [List.nil_append] at hown7
            rw [show k + 1 + (xs.length - k) = xs.length + 1 by omega] at hown7 ⊢
            have hFr7 := fun (j : Nat) hj => (HO.out.lt j hj).1
            have HR := Lib.hid (HR.out.grown hgr7 (fun j hj => .inr (hFr7 j hj)))
            skip
            clear HO hFr7
            have HO := Lib.hid hown7
            obtain ⟨wx, hwx⟩ : ∃ wx, wx = wz := ⟨_, rfl⟩
            rw [← hwx] at HR HO ⊢
            try rw [← hwx] at HL
            clear hown7 hgr7 hat7 hwx
            refine hK.out _ _ ?_ (fun hHeld => ?_)
            · exact HR.out
            clear hK K
            try simp only [Act.put, List.setIfInBounds_toArray, List.set_cons_zero, List.set_cons_succ]
            refine wpAnyH_done (by kernel_rfl) ?_ _
            refine last_do ({ dst := some 7, op := Go.Op.assign (Go.Operand.tmp 111), type := 22, pos := "ref.go:171", after := #[{ on := 11, ground := Go.Ground.data }, { on := 11, ground := Go.Ground.chain }, { on := 0, ground := Go.Ground.phase }, { on := 1, ground := Go.Ground.phase }, { on := 2, ground := Go.Ground.phase }, { on := 3, ground := Go.Ground.phase }, { on := 4, ground := Go.Ground.phase }, { on := 5, ground := Go.Ground.phase }, { on := 6, ground := Go.Ground.phase }, { on := 7, ground := Go.Ground.phase }, { on := 8, ground := Go.Ground.phase }, { on := 9, ground := Go.Ground.phase }, { on := 10, ground := Go.Ground.phase }, { on := 11, ground := Go.Ground.phase }], guard := none }) rfl (fun K hK => ?_)
            have HK := Lib.hid hK
            clear hK
            go_simp
            refine HK.out _ _ ?_
            clear HK
            have hr := (Reads.of_own HO.out).more (B' := fun j => W4.heap.size ≤ j) (fun j hj => (HO.out.lt j hj).1)
            exact HQ.out _ _ wx _ _ _ _ _ _ _ _ _ _ _ _ (own_cap HO.out) (by simpa [natV] using hr) HR.out
          exact AllReadyH.nil
        exact AllReadyH.nil
      exact AllReadyH.nil
    refine AllReadyH.cons (o := { dst := some 106, op := Go.Op.buildSlice 22 1 #[(0, Go.Operand.tmp 105)], type := 22, pos := "ref.go:171", after := #[{ on := 5, ground := Go.Ground.data }], guard := none }) rfl (fun K hK => ?_) ?_
    · skip
      go_simp
      have HL := Lib.hid (Reads.newS wx [.int .i64 (i : Int)] 3 (0, 0) 1 1 rfl _ rfl)
      try have HO := Lib.hid (HO.out.alloc (.cells #[.int .i64 (i : Int)] 3))
      have HR := Lib.hid (HR.out.alloc (.cells #[.int .i64 (i : Int)] 3))
      have HsB := Lib.hid (show (wx.alloc (.cells #[.int .i64 (i : Int)] 3)).heap.size = wx.heap.size + 1 by simp)
      obtain ⟨wz, hwz⟩ : ∃ wz, wz = wx.alloc (.cells #[.int .i64 (i : Int)] 3) := ⟨_, rfl⟩
      rw [← hwz] at HR HsB ⊢
      try rw [← hwz] at HO
      try rw [← hwz] at HL
      clear hwz
      obtain ⟨wx, hwx⟩ : ∃ wx, wx = wz := ⟨_, rfl⟩
      rw [← hwx] at HR HsB ⊢
      try rw [← hwx] at HO
      try rw [← hwx] at HL
      clear hwx
      refine hK.out _ _ ?_ (fun hHeld => ?_)
      · exact HR.out
      clear hK K
      try simp only [Act.put, List.setIfInBounds_toArray, List.set_cons_zero, List.set_cons_succ]
      refine wpAnyH_ready (rs := [4]) (by kernel_rfl) (by simp) ?_
      refine AllReadyH.cons (o := { dst := some 104, op := Go.Op.call { callee := Go.Callee.builtin Go.Builtin.append, args := #[Go.Operand.tmp 100, Go.Operand.tmp 103], argTypes := #[22, 22] }, type := 22, pos := "ref.go:171", after := #[{ on := 0, ground := Go.Ground.data }, { on := 3, ground := Go.Ground.data }], guard := none }) rfl (fun K hK => ?_) ?_
      · skip
        refine step_append_any _ (by rfl) (.tmp 100) (.tmp 103) _ (by rfl) W4.heap.size 3 _ 1 8 Try.underlying22 info3 rfl (by omega) _ _ _ (by rfl) HO.out _ A k c ((xs.take k).map natV) (by rfl) (HT4.out.fr HR.out (fun _ _ => id)) (nats_one _) (by simp only [maxLen]; omega) (by omega) HR.out.size ?_
        intro A7 c7 wz hown7 hgr7 hat7
        try rw [Nat.zero_add] at hown7 ⊢
        try rw [List.nil_append] at hown7
        skip
        have hFr7 := fun (j : Nat) hj => (HO.out.lt j hj).1
        have HR := Lib.hid (HR.out.grown hgr7 (fun j hj => .inr (hFr7 j hj)))
        try have HL := Lib.hid (HL.out.grown hgr7 (fun j hj => by have qa := HsA.out; have qb := HsB.out; subst hj; simp [Value.ownBlock]; omega))
        clear HO hFr7
        have HO := Lib.hid hown7
        obtain ⟨wx, hwx⟩ : ∃ wx, wx = wz := ⟨_, rfl⟩
        rw [← hwx] at HR HO ⊢
        try rw [← hwx] at HL
        clear hown7 hgr7 hat7 hwx
        refine hK.out _ _ ?_ (fun hHeld => ?_)
        · exact HR.out
        clear hK K
        try simp only [Act.put, List.setIfInBounds_toArray, List.set_cons_zero, List.set_cons_succ]
        refine wpAnyH_ready (rs := [7]) (by kernel_rfl) (by simp) ?_
        refine AllReadyH.cons (o := { dst := some 107, op := Go.Op.call { callee := Go.Callee.builtin Go.Builtin.append, args := #[Go.Operand.tmp 104, Go.Operand.tmp 106], argTypes := #[22, 22] }, type := 22, pos := "ref.go:171", after := #[{ on := 4, ground := Go.Ground.data }, { on := 6, ground := Go.Ground.data }, { on := 4, ground := Go.Ground.chain }], guard := none }) rfl (fun K hK => ?_) ?_
        · skip
          refine step_append_any _ (by rfl) (.tmp 104) (.tmp 106) _ (by rfl) W4.heap.size 3 _ 1 8 Try.underlying22 info3 rfl (by omega) _ _ _ (by rfl) HO.out _ _ _ _ _ (by rfl) HL.out (by simp [Value.oneCell']) (by simp only [maxLen]; omega) (by omega) HR.out.size ?_
          intro A7 c7 wz hown7 hgr7 hat7
          try rw [Nat.zero_add] at hown7 ⊢
          try rw [List.nil_append] at hown7
          skip
          have hFr7 := fun (j : Nat) hj => (HO.out.lt j hj).1
          have HR := Lib.hid (HR.out.grown hgr7 (fun j hj => .inr (hFr7 j hj)))
          clear HL
          clear HO hFr7
          have HO := Lib.hid hown7
          obtain ⟨wx, hwx⟩ : ∃ wx, wx = wz := ⟨_, rfl⟩
          rw [← hwx] at HR HO ⊢
          try rw [← hwx] at HL
          clear hown7 hgr7 hat7 hwx
          refine hK.out _ _ ?_ (fun hHeld => ?_)
          · exact HR.out
          clear hK K
          try simp only [Act.put, List.setIfInBounds_toArray, List.set_cons_zero, List.set_cons_succ]
          refine wpAnyH_ready (rs := [11]) (by kernel_rfl) (by simp) ?_
          refine AllReadyH.cons (o := { dst := some 111, op := Go.Op.call { callee := Go.Callee.builtin Go.Builtin.append, args := #[Go.Operand.tmp 107, Go.Operand.tmp 110], argTypes := #[22, 22] }, type := 22, pos := "ref.go:171", after := #[{ on := 7, ground := Go.Ground.data }, { on := 10, ground := Go.Ground.data }, { on := 7, ground := Go.Ground.chain }], guard := none }) rfl (fun K hK => ?_) ?_
          · skip
            refine step_append_any _ (by rfl) (.tmp 107) (.tmp 110) _ (by rfl) W4.heap.size 3 _ 1 8 Try.underlying22 info3 rfl (by omega) _ _ _ (by rfl) HO.out _ (if c = k then A else Option.map (fun x => x.add k) A) (xs.length - k) (c - k) ((xs.drop k).map natV) (by rfl) (HD5.out.fr HR.out (fun _ _ => id)) (nats_one _) (by simp only [maxLen]; omega) (by omega) HR.out.size ?_
            intro A7 c7 wz hown7 hgr7 hat7
            try rw [Nat.zero_add] at hown7 ⊢
            try rw [List.nil_append] at hown7
            rw [show k + 1 + (xs.length - k) = xs.length + 1 by omega] at hown7 ⊢
            have hFr7 := fun (j : Nat) hj => (HO.out.lt j hj).1
            have HR := Lib.hid (HR.out.grown hgr7 (fun j hj => .inr (hFr7 j hj)))
            skip
            clear HO hFr7
            have HO := Lib.hid hown7
            obtain ⟨wx, hwx⟩ : ∃ wx, wx = wz := ⟨_, rfl⟩
            rw [← hwx] at HR HO ⊢
            try rw [← hwx] at HL
            clear hown7 hgr7 hat7 hwx
            refine hK.out _ _ ?_ (fun hHeld => ?_)
            · exact HR.out
            clear hK K
            try simp only [Act.put, List.setIfInBounds_toArray, List.set_cons_zero, List.set_cons_succ]
            refine wpAnyH_done (by kernel_rfl) ?_ _
            refine last_do ({ dst := some 7, op := Go.Op.assign (Go.Operand.tmp 111), type := 22, pos := "ref.go:171", after := #[{ on := 11, ground := Go.Ground.data }, { on := 11, ground := Go.Ground.chain }, { on := 0, ground := Go.Ground.phase }, { on := 1, ground := Go.Ground.phase }, { on := 2, ground := Go.Ground.phase }, { on := 3, ground := Go.Ground.phase }, { on := 4, ground := Go.Ground.phase }, { on := 5, ground := Go.Ground.phase }, { on := 6, ground := Go.Ground.phase }, { on := 7, ground := Go.Ground.phase }, { on := 8, ground := Go.Ground.phase }, { on := 9, ground := Go.Ground.phase }, { on := 10, ground := Go.Ground.phase }, { on := 11, ground := Go.Ground.phase }], guard := none }) rfl (fun K hK => ?_)
            have HK := Lib.hid hK
            clear hK
            go_simp
            refine HK.out _ _ ?_
            clear HK
            have hr := (Reads.of_own HO.out).more (B' := fun j => W4.heap.size ≤ j) (fun j hj => (HO.out.lt j hj).1)
            exact HQ.out _ _ wx _ _ _ _ _ _ _ _ _ _ _ _ (own_cap HO.out) (by simpa [natV] using hr) HR.out
          exact AllReadyH.nil
        exact AllReadyH.nil
      exact AllReadyH.nil
    exact AllReadyH.nil
  refine AllReadyH.cons (o := { dst := some 106, op := Go.Op.buildSlice 22 1 #[(0, Go.Operand.tmp 105)], type := 22, pos := "ref.go:171", after := #[{ on := 5, ground := Go.Ground.data }], guard := none }) rfl (fun K hK => ?_) ?_
  · skip
    go_simp
    have HL := Lib.hid (Reads.newS wx [.int .i64 (i : Int)] 3 (0, 0) 1 1 rfl _ rfl)
    try have HO := Lib.hid (HO.out.alloc (.cells #[.int .i64 (i : Int)] 3))
    have HR := Lib.hid (HR.out.alloc (.cells #[.int .i64 (i : Int)] 3))
    have HsB := Lib.hid (show (wx.alloc (.cells #[.int .i64 (i : Int)] 3)).heap.size = wx.heap.size + 1 by simp)
    obtain ⟨wz, hwz⟩ : ∃ wz, wz = wx.alloc (.cells #[.int .i64 (i : Int)] 3) := ⟨_, rfl⟩
    rw [← hwz] at HR HsB ⊢
    try rw [← hwz] at HO
    try rw [← hwz] at HL
    clear hwz
    obtain ⟨wx, hwx⟩ : ∃ wx, wx = wz := ⟨_, rfl⟩
    rw [← hwx] at HR HsB ⊢
    try rw [← hwx] at HO
    try rw [← hwx] at HL
    clear hwx
    refine hK.out _ _ ?_ (fun hHeld => ?_)
    · exact HR.out
    clear hK K
    try simp only [Act.put, List.setIfInBounds_toArray, List.set_cons_zero, List.set_cons_succ]
    refine wpAnyH_ready (rs := [0]) (by kernel_rfl) (by simp) ?_
    refine AllReadyH.cons (o := { dst := some 100, op := Go.Op.buildSlice 22 0 #[], type := 22, pos := "ref.go:171", after := #[], guard := none }) rfl (fun K hK => ?_) ?_
    · skip
      go_simp
      have HO := Lib.hid (World.ownsRow_lit (base := W4.heap.size) (e := 3) (size := 1) wx #[] 0 HR.out.size (by simp [maxLen]) (by simp))
      try have HL := Lib.hid (HL.out.alloc (.cells #[] 3))
      have HR := Lib.hid (HR.out.alloc (.cells #[] 3))
      have HsA := Lib.hid (show (wx.alloc (.cells #[] 3)).heap.size = wx.heap.size + 1 by simp)
      obtain ⟨wz, hwz⟩ : ∃ wz, wz = wx.alloc (.cells #[] 3) := ⟨_, rfl⟩
      rw [← hwz] at HR HsA ⊢
      try rw [← hwz] at HO
      try rw [← hwz] at HL
      clear hwz
      obtain ⟨wx, hwx⟩ : ∃ wx, wx = wz := ⟨_, rfl⟩
      rw [← hwx] at HR HsA ⊢
      try rw [← hwx] at HO
      try rw [← hwx] at HL
      clear hwx
      refine hK.out _ _ ?_ (fun hHeld => ?_)
      · exact HR.out
      clear hK K
      try simp only [Act.put, List.setIfInBounds_toArray, List.set_cons_zero, List.set_cons_succ]
      refine wpAnyH_ready (rs := [4]) (by kernel_rfl) (by simp) ?_
      refine AllReadyH.cons (o := { dst := some 104, op := Go.Op.call { callee := Go.Callee.builtin Go.Builtin.append, args := #[Go.Operand.tmp 100, Go.Operand.tmp 103], argTypes := #[22, 22] }, type := 22, pos := "ref.go:171", after := #[{ on := 0, ground := Go.Ground.data }, { on := 3, ground := Go.Ground.data }], guard := none }) rfl (fun K hK => ?_) ?_
      · skip
        refine step_append_any _ (by rfl) (.tmp 100) (.tmp 103) _ (by rfl) W4.heap.size 3 _ 1 8 Try.underlying22 info3 rfl (by omega) _ _ _ (by rfl) HO.out _ A k c ((xs.take k).map natV) (by rfl) (HT4.out.fr HR.out (fun _ _ => id)) (nats_one _) (by simp only [maxLen]; omega) (by omega) HR.out.size ?_
        intro A7 c7 wz hown7 hgr7 hat7
        try rw [Nat.zero_add] at hown7 ⊢
        try rw [List.nil_append] at hown7
        skip
        have hFr7 := fun (j : Nat) hj => (HO.out.lt j hj).1
        have HR := Lib.hid (HR.out.grown hgr7 (fun j hj => .inr (hFr7 j hj)))
        try have HL := Lib.hid (HL.out.grown hgr7 (fun j hj => by have qa := HsA.out; have qb := HsB.out; subst hj; simp [Value.ownBlock]; omega))
        clear HO hFr7
        have HO := Lib.hid hown7
        obtain ⟨wx, hwx⟩ : ∃ wx, wx = wz := ⟨_, rfl⟩
        rw [← hwx] at HR HO ⊢
        try rw [← hwx] at HL
        clear hown7 hgr7 hat7 hwx
        refine hK.out _ _ ?_ (fun hHeld => ?_)
        · exact HR.out
        clear hK K
        try simp only [Act.put, List.setIfInBounds_toArray, List.set_cons_zero, List.set_cons_succ]
        refine wpAnyH_ready (rs := [7]) (by kernel_rfl) (by simp) ?_
        refine AllReadyH.cons (o := { dst := some 107, op := Go.Op.call { callee := Go.Callee.builtin Go.Builtin.append, args := #[Go.Operand.tmp 104, Go.Operand.tmp 106], argTypes := #[22, 22] }, type := 22, pos := "ref.go:171", after := #[{ on := 4, ground := Go.Ground.data }, { on := 6, ground := Go.Ground.data }, { on := 4, ground := Go.Ground.chain }], guard := none }) rfl (fun K hK => ?_) ?_
        · skip
          refine step_append_any _ (by rfl) (.tmp 104) (.tmp 106) _ (by rfl) W4.heap.size 3 _ 1 8 Try.underlying22 info3 rfl (by omega) _ _ _ (by rfl) HO.out _ _ _ _ _ (by rfl) HL.out (by simp [Value.oneCell']) (by simp only [maxLen]; omega) (by omega) HR.out.size ?_
          intro A7 c7 wz hown7 hgr7 hat7
          try rw [Nat.zero_add] at hown7 ⊢
          try rw [List.nil_append] at hown7
          skip
          have hFr7 := fun (j : Nat) hj => (HO.out.lt j hj).1
          have HR := Lib.hid (HR.out.grown hgr7 (fun j hj => .inr (hFr7 j hj)))
          clear HL
          clear HO hFr7
          have HO := Lib.hid hown7
          obtain ⟨wx, hwx⟩ : ∃ wx, wx = wz := ⟨_, rfl⟩
          rw [← hwx] at HR HO ⊢
          try rw [← hwx] at HL
          clear hown7 hgr7 hat7 hwx
          refine hK.out _ _ ?_ (fun hHeld => ?_)
          · exact HR.out
          clear hK K
          try simp only [Act.put, List.setIfInBounds_toArray, List.set_cons_zero, List.set_cons_succ]
          refine wpAnyH_ready (rs := [11]) (by kernel_rfl) (by simp) ?_
          refine AllReadyH.cons (o := { dst := some 111, op := Go.Op.call { callee := Go.Callee.builtin Go.Builtin.append, args := #[Go.Operand.tmp 107, Go.Operand.tmp 110], argTypes := #[22, 22] }, type := 22, pos := "ref.go:171", after := #[{ on := 7, ground := Go.Ground.data }, { on := 10, ground := Go.Ground.data }, { on := 7, ground := Go.Ground.chain }], guard := none }) rfl (fun K hK => ?_) ?_
          · skip
            refine step_append_any _ (by rfl) (.tmp 107) (.tmp 110) _ (by rfl) W4.heap.size 3 _ 1 8 Try.underlying22 info3 rfl (by omega) _ _ _ (by rfl) HO.out _ (if c = k then A else Option.map (fun x => x.add k) A) (xs.length - k) (c - k) ((xs.drop k).map natV) (by rfl) (HD5.out.fr HR.out (fun _ _ => id)) (nats_one _) (by simp only [maxLen]; omega) (by omega) HR.out.size ?_
            intro A7 c7 wz hown7 hgr7 hat7
            try rw [Nat.zero_add] at hown7 ⊢
            try rw [List.nil_append] at hown7
            rw [show k + 1 + (xs.length - k) = xs.length + 1 by omega] at hown7 ⊢
            have hFr7 := fun (j : Nat) hj => (HO.out.lt j hj).1
            have HR := Lib.hid (HR.out.grown hgr7 (fun j hj => .inr (hFr7 j hj)))
            skip
            clear HO hFr7
            have HO := Lib.hid hown7
            obtain ⟨wx, hwx⟩ : ∃ wx, wx = wz := ⟨_, rfl⟩
            rw [← hwx] at HR HO ⊢
            try rw [← hwx] at HL
            clear hown7 hgr7 hat7 hwx
            refine hK.out _ _ ?_ (fun hHeld => ?_)
            · exact HR.out
            clear hK K
            try simp only [Act.put, List.setIfInBounds_toArray, List.set_cons_zero, List.set_cons_succ]
            refine wpAnyH_done (by kernel_rfl) ?_ _
            refine last_do ({ dst := some 7, op := Go.Op.assign (Go.Operand.tmp 111), type := 22, pos := "ref.go:171", after := #[{ on := 11, ground := Go.Ground.data }, { on := 11, ground := Go.Ground.chain }, { on := 0, ground := Go.Ground.phase }, { on := 1, ground := Go.Ground.phase }, { on := 2, ground := Go.Ground.phase }, { on := 3, ground := Go.Ground.phase }, { on := 4, ground := Go.Ground.phase }, { on := 5, ground := Go.Ground.phase }, { on := 6, ground := Go.Ground.phase }, { on := 7, ground := Go.Ground.phase }, { on := 8, ground := Go.Ground.phase }, { on := 9, ground := Go.Ground.phase }, { on := 10, ground := Go.Ground.phase }, { on := 11, ground := Go.Ground.phase }], guard := none }) rfl (fun K hK => ?_)
            have HK := Lib.hid hK
            clear hK
            go_simp
            refine HK.out _ _ ?_
            clear HK
            have hr := (Reads.of_own HO.out).more (B' := fun j => W4.heap.size ≤ j) (fun j hj => (HO.out.lt j hj).1)
            exact HQ.out _ _ wx _ _ _ _ _ _ _ _ _ _ _ _ (own_cap HO.out) (by simpa [natV] using hr) HR.out
          exact AllReadyH.nil
        exact AllReadyH.nil
      exact AllReadyH.nil
    exact AllReadyH.nil
  exact AllReadyH.nil
theorem rask_q (B : Nat → Prop) (i k : Nat) (xs : List Nat) (A : Option Addr) (c : Nat) (W4 : World) (hk : k ≤ xs.length) (hc : xs.length ≤ c) (hl : xs.length ≤ 1000)
    (HT4 : RowKit.Hid (Reads W4 (fun j => B j ∧ j < W4.heap.size) 1 A k ((xs.take k).map natV))) (HD4 : RowKit.Hid (Reads W4 (fun j => B j ∧ j < W4.heap.size) 1 (cutG A c k 1) (xs.length - k) ((xs.drop k).map natV)))
    (Q : Exit → Act → World → Prop) (x0 x1 x2 x3 x4 x5 x6 x8 x11 x12 x13 x14 x15 x16 x17 x18 x19 x20 x21 x22 x23 x24 x25 x26 x27 x28 x29 x30 x31 x32 x33 x34 x35 x36 x37 x38 x39 x40 x41 x42 x43 x44 x45 x46 x47 x48 x49 x50 x51 x52 x53 x54 x55 x56 x57 x58 x59 x60 x61 x62 x63 x64 x65 x66 x67 x68 x69 x70 x71 x72 x73 x74 x75 x76 x77 x78 x79 x80 x81 x82 x83 x84 x85 x86 x87 x88 x89 x90 x91 x92 x93 x94 x95 x96 x97 x98 x99 x100 x101 x102 x103 x104 x105 x106 x107 x108 x109 x110 x111 x112 : Value)
    (HQ : ∀ (A3 : Option Addr) (c3 : Nat) (wx : World) (v100 v101 v102 v103 v104 v105 v106 v107 v108 v109 v110 v111 : Value), xs.length + 1 ≤ c3 → Reads wx (fun j => W4.heap.size ≤ j) 1 A3 (xs.length + 1) ((xs.take k ++ [i] ++ xs.drop k).map natV) → Fr (fun _ => False) W4 wx → Q .normal ⟨#[x0, x1, x2, x3, x4, x5, x6, .slice A3 (xs.length + 1) c3, x8, .int .i64 (i : Int), .int .i64 (k : Int), x11, x12, x13, x14, x15, x16, x17, x18, x19, x20, x21, x22, x23, x24, x25, x26, x27, x28, x29, x30, x31, x32, x33, x34, x35, x36, x37, x38, x39, x40, x41, x42, x43, x44, x45, x46, x47, x48, x49, x50, x51, x52, x53, x54, x55, x56, x57, x58, x59, x60, x61, x62, x63, x64, x65, x66, x67, x68, x69, x70, x71, x72, x73, x74, x75, x76, x77, x78, x79, x80, x81, x82, x83, x84, x85, x86, x87, x88, x89, x90, x91, x92, x93, x94, x95, x96, x97, x98, x99, v100, v101, v102, v103, v104, v105, v106, v107, v108, v109, v110, v111, x112], []⟩ wx) :
    (subx [true, true, true, true, false, true, false, false, true, false, false, true, true, true] (Try.f24.body.getD .skip)).wp Try.prog Q ⟨#[x0, x1, x2, x3, x4, x5, x6, .slice A xs.length c, x8, .int .i64 (i : Int), .int .i64 (k : Int), x11, x12, x13, x14, x15, x16, x17, x18, x19, x20, x21, x22, x23, x24, x25, x26, x27, x28, x29, x30, x31, x32, x33, x34, x35, x36, x37, x38, x39, x40, x41, x42, x43, x44, x45, x46, x47, x48, x49, x50, x51, x52, x53, x54, x55, x56, x57, x58, x59, x60, x61, x62, x63, x64, x65, x66, x67, x68, x69, x70, x71, x72, x73, x74, x75, x76, x77, x78, x79, x80, x81, x82, x83, x84, x85, x86, x87, x88, x89, x90, x91, x92, x93, x94, x95, x96, x97, x98, x99, x100, x101, x102, x103, x104, x105, x106, x107, x108, x109, x110, x111, x112], []⟩ W4 :=
  wp_mono (rask_r12 B i k xs A c W4 hk hc hl HT4 HD4 (Q .normal) x0 x1 x2 x3 x4 x5 x6 x8 x11 x12 x13 x14 x15 x16 x17 x18 x19 x20 x21 x22 x23 x24 x25 x26 x27 x28 x29 x30 x31 x32 x33 x34 x35 x36 x37 x38 x39 x40 x41 x42 x43 x44 x45 x46 x47 x48 x49 x50 x51 x52 x53 x54 x55 x56 x57 x58 x59 x60 x61 x62 x63 x64 x65 x66 x67 x68 x69 x70 x71 x72 x73 x74 x75 x76 x77 x78 x79 x80 x81 x82 x83 x84 x85 x86 x87 x88 x89 x90 x91 x92 x93 x94 x95 x96 x97 x98 x99 x100 x101 x102 x103 x104 x105 x106 x107 x108 x109 x110 x111 x112 (Lib.hid HQ)) (fun e a w h => by cases e <;> first | exact h | exact h.elim)

end Go.Proofs.Ytnmmiiajcjcccaa

import Derived.Test.YtnmmiiajcjcccaaBk4
import Derived.Test.YtnmmiiajcjcccaaAid9
import Derived.Test.YtnmmiiajcjcccaaRegLast
import Derived.Deep.RegionHeldLaw
import Derived.Deep.DeepCutAuto
import Derived.Deep.CutBlock
namespace Go.Proofs.Ytnmmiiajcjcccaa
set_option linter.unusedVariables false
set_option linter.unusedSimpArgs false
open Go.RowKit Go.Own Go.Quo Go.Aid
set_option maxRecDepth 10000 in
set_option maxHeartbeats 8000000 in
theorem rlend_t9 (B : Nat → Prop) (r bl : Nat) (n : Nat) (m : Nat) (nv : List Value) (al : List Ln) (A3 A2 : Option Addr) (c3 c2 : Nat) (f t u : Int) (w W4 : World)
    (HRb4 : RowKit.Hid (Blk W4 r 39 #[.int .i64 (n : Int), .slice A3 m c3, .slice A2 al.length c2])) (HN4 : RowKit.Hid (Reads W4 (fun j => B j ∧ j < W4.heap.size) 3 A3 m nv)) (HA4 : RowKit.Hid (Reads W4 (fun j => B j ∧ j < W4.heap.size) 3 A2 al.length (al.flatMap lnL)))
    (Hx4 : RowKit.Hid (Blk W4 bl 42 #[.int .i64 f, .int .i64 t, .int .i64 u])) (HF4 : RowKit.Hid (Fr (fun k => k = r) w W4)) (HB : RowKit.Hid (∀ k, w.heap.size ≤ k → B k)) (HBr : RowKit.Hid (¬ B r)) (hl2 : al.length ≤ 1000) (R : Ending → World → Prop)
    (HYes : RowKit.Hid (∀ w' A5 c5, al.length + 1 ≤ c5 → Blk w' r 39 #[.int .i64 (n : Int), .slice A3 m c3, .slice A5 (al.length + 1) c5] → Reads w' B 3 A3 m nv → Reads w' B 3 A5 (al.length + 1) ((al ++ [(⟨f, t, u⟩ : Ln)]).flatMap lnL) → Fr (fun k => k = r) w w' → R (.returned (.int .i64 0)) w'))
    (x1 x2 x4 x5 x6 x7 x8 x9 x10 x11 x12 x13 x14 x15 x16 x17 x18 x19 x20 x21 x22 x23 x24 x25 x26 x27 x28 x29 x30 x31 x32 x33 x34 x35 x36 x37 x38 x39 x40 x41 x42 x43 x44 x45 x46 x47 x48 x49 x50 x51 x52 x53 x54 x55 x56 x57 x58 x59 x60 x61 x62 x63 x64 x65 x66 x67 x68 x69 x70 x71 x72 x73 x74 x75 x76 x77 x78 x79 x80 x81 x82 x83 x84 x85 x86 x87 x88 x89 x90 x91 x92 x93 x94 x95 x96 x97 x98 x99 x100 x101 x102 x103 : Value) :
    (sub [true, true, true, true, true, true] (Try.f35.body.getD .skip)).wp Try.prog (bodyPost Try.prog Try.f35 R) ⟨#[.pointer (some ⟨r, 0, none⟩), x1, x2, .pointer (some ⟨bl, 0, none⟩), x4, x5, x6, x7, x8, x9, x10, x11, x12, x13, x14, x15, x16, x17, x18, x19, x20, x21, x22, x23, x24, x25, x26, x27, x28, x29, x30, x31, x32, x33, x34, x35, x36, x37, x38, x39, x40, x41, x42, x43, x44, x45, x46, x47, x48, x49, x50, x51, x52, x53, x54, x55, x56, x57, x58, x59, x60, x61, x62, x63, x64, x65, x66, x67, x68, x69, x70, x71, x72, x73, x74, x75, x76, x77, x78, x79, x80, x81, x82, x83, x84, x85, x86, x87, x88, x89, x90, x91, x92, x93, x94, x95, x96, x97, x98, x99, x100, x101, x102, x103], []⟩ W4 := by
  generalize hQ : bodyPost Try.prog Try.f35 R = Q
  dsimp only [sub, Try.f35, Option.getD]
  subst hQ
  refine wp_seq_k (fun KK hKK => ?_)
  have HKK := Lib.hid hKK
  clear hKK
  refine wp_region_last (S := fun w' => Fr (fun _ => False) W4 w') #[{ dst := some 92, op := Go.Op.move (Go.Operand.tmp 0), type := 36, pos := "ref.go:132", after := #[], guard := none }, { dst := some 93, op := Go.Op.buildSlice 37 0 #[], type := 37, pos := "ref.go:132", after := #[], guard := none }, { dst := some 94, op := Go.Op.move (Go.Operand.tmp 0), type := 36, pos := "ref.go:132", after := #[], guard := none }, { dst := some 95, op := Go.Op.nilCheck (Go.Operand.tmp 94), type := 0, pos := "ref.go:132", after := #[{ on := 2, ground := Go.Ground.data }], guard := none }, { dst := some 96, op := Go.Op.fieldAddr 39 (Go.Operand.tmp 95) 2, type := 0, pos := "ref.go:132", after := #[{ on := 3, ground := Go.Ground.data }], guard := none }, { dst := some 97, op := Go.Op.load 37 (Go.Operand.tmp 96), type := 37, pos := "ref.go:132", after := #[{ on := 4, ground := Go.Ground.data }], guard := none }, { dst := some 98, op := Go.Op.call { callee := Go.Callee.builtin Go.Builtin.append, args := #[Go.Operand.tmp 93, Go.Operand.tmp 97], argTypes := #[37, 37] }, type := 37, pos := "ref.go:132", after := #[{ on := 1, ground := Go.Ground.data }, { on := 5, ground := Go.Ground.data }], guard := none }, { dst := some 99, op := Go.Op.load 42 (Go.Operand.tmp 3), type := 42, pos := "ref.go:132", after := #[], guard := none }, { dst := some 100, op := Go.Op.buildSlice 37 1 #[(0, Go.Operand.tmp 99)], type := 37, pos := "ref.go:132", after := #[{ on := 7, ground := Go.Ground.data }], guard := none }, { dst := some 101, op := Go.Op.call { callee := Go.Callee.builtin Go.Builtin.append, args := #[Go.Operand.tmp 98, Go.Operand.tmp 100], argTypes := #[37, 37] }, type := 37, pos := "ref.go:132", after := #[{ on := 6, ground := Go.Ground.data }, { on := 8, ground := Go.Ground.data }, { on := 6, ground := Go.Ground.chain }], guard := none }, { dst := some 102, op := Go.Op.nilCheck (Go.Operand.tmp 92), type := 0, pos := "ref.go:132", after := #[{ on := 0, ground := Go.Ground.data }, { on := 0, ground := Go.Ground.phase }, { on := 1, ground := Go.Ground.phase }, { on := 2, ground := Go.Ground.phase }, { on := 3, ground := Go.Ground.phase }, { on := 4, ground := Go.Ground.phase }, { on := 5, ground := Go.Ground.phase }, { on := 6, ground := Go.Ground.phase }, { on := 7, ground := Go.Ground.phase }, { on := 8, ground := Go.Ground.phase }, { on := 9, ground := Go.Ground.phase }], guard := none }, { dst := some 103, op := Go.Op.fieldAddr 39 (Go.Operand.tmp 102) 2, type := 0, pos := "ref.go:132", after := #[{ on := 10, ground := Go.Ground.data }, { on := 0, ground := Go.Ground.phase }, { on := 1, ground := Go.Ground.phase }, { on := 2, ground := Go.Ground.phase }, { on := 3, ground := Go.Ground.phase }, { on := 4, ground := Go.Ground.phase }, { on := 5, ground := Go.Ground.phase }, { on := 6, ground := Go.Ground.phase }, { on := 7, ground := Go.Ground.phase }, { on := 8, ground := Go.Ground.phase }, { on := 9, ground := Go.Ground.phase }], guard := none }] { dst := none, op := Go.Op.store 37 (Go.Operand.tmp 103) (Go.Operand.tmp 101), type := 0, pos := "ref.go:132", after := #[{ on := 11, ground := Go.Ground.data }, { on := 9, ground := Go.Ground.data }, { on := 9, ground := Go.Ground.chain }, { on := 0, ground := Go.Ground.phase }, { on := 1, ground := Go.Ground.phase }, { on := 2, ground := Go.Ground.phase }, { on := 3, ground := Go.Ground.phase }, { on := 4, ground := Go.Ground.phase }, { on := 5, ground := Go.Ground.phase }, { on := 6, ground := Go.Ground.phase }, { on := 7, ground := Go.Ground.phase }, { on := 8, ground := Go.Ground.phase }, { on := 9, ground := Go.Ground.phase }], guard := none } (by rfl) (by kernel_rfl) (by kernel_rfl) ?_ (fun hHeld => ?_)
  · exact (Fr.refl _ _).drew
  have HR := Lib.hid hHeld
  generalize W4.drew = wx at *
  refine wpAnyH_take (i := 0) (oi := { dst := some 92, op := Go.Op.move (Go.Operand.tmp 0), type := 36, pos := "ref.go:132", after := #[], guard := none }) (v := ?v0) rfl (by kernel_rfl) (by kernel_rfl) (by kernel_rfl) (fun _ _ _ h => h) (Or.inl ⟨by rfl, ?hy0⟩) hHeld ?rest0
  case hy0 =>
    intro w0 hSw
    obtain ⟨-, hS1, -⟩ := (HRb4.out.fr hSw id).facts
    obtain ⟨-, hS2, -⟩ := (Hx4.out.fr hSw id).facts
    go_simp
    try with_reducible rfl
  try simp only [Act.put, List.setIfInBounds_toArray, List.set_cons_zero, List.set_cons_succ]
  refine wpAnyH_take (i := 2) (oi := { dst := some 94, op := Go.Op.move (Go.Operand.tmp 0), type := 36, pos := "ref.go:132", after := #[], guard := none }) (v := ?v1) rfl (by kernel_rfl) (by kernel_rfl) (by kernel_rfl) (fun _ _ _ h => h) (Or.inl ⟨by rfl, ?hy1⟩) hHeld ?rest1
  case hy1 =>
    intro w0 hSw
    obtain ⟨-, hS1, -⟩ := (HRb4.out.fr hSw id).facts
    obtain ⟨-, hS2, -⟩ := (Hx4.out.fr hSw id).facts
    go_simp
    try with_reducible rfl
  try simp only [Act.put, List.setIfInBounds_toArray, List.set_cons_zero, List.set_cons_succ]
  refine wpAnyH_take (i := 3) (oi := { dst := some 95, op := Go.Op.nilCheck (Go.Operand.tmp 94), type := 0, pos := "ref.go:132", after := #[{ on := 2, ground := Go.Ground.data }], guard := none }) (v := ?v2) rfl (by kernel_rfl) (by kernel_rfl) (by kernel_rfl) (fun _ _ _ h => h) (Or.inl ⟨by rfl, ?hy2⟩) hHeld ?rest2
  case hy2 =>
    intro w0 hSw
    obtain ⟨-, hS1, -⟩ := (HRb4.out.fr hSw id).facts
    obtain ⟨-, hS2, -⟩ := (Hx4.out.fr hSw id).facts
    go_simp
    try with_reducible rfl
  try simp only [Act.put, List.setIfInBounds_toArray, List.set_cons_zero, List.set_cons_succ]
  refine wpAnyH_take (i := 4) (oi := { dst := some 96, op := Go.Op.fieldAddr 39 (Go.Operand.tmp 95) 2, type := 0, pos := "ref.go:132", after := #[{ on := 3, ground := Go.Ground.data }], guard := none }) (v := ?v3) rfl (by kernel_rfl) (by kernel_rfl) (by kernel_rfl) (fun _ _ _ h => h) (Or.inl ⟨by rfl, ?hy3⟩) hHeld ?rest3
  case hy3 =>
    intro w0 hSw
    obtain ⟨-, hS1, -⟩ := (HRb4.out.fr hSw id).facts
    obtain ⟨-, hS2, -⟩ := (Hx4.out.fr hSw id).facts
    go_simp
    try with_reducible rfl
  try simp only [Act.put, List.setIfInBounds_toArray, List.set_cons_zero, List.set_cons_succ]
  refine wpAnyH_take (i := 5) (oi := { dst := some 97, op := Go.Op.load 37 (Go.Operand.tmp 96), type := 37, pos := "ref.go:132", after := #[{ on := 4, ground := Go.Ground.data }], guard := none }) (v := ?v4) rfl (by kernel_rfl) (by kernel_rfl) (by kernel_rfl) (fun _ _ _ h => h) (Or.inl ⟨by rfl, ?hy4⟩) hHeld ?rest4
  case hy4 =>
    intro w0 hSw
    obtain ⟨-, hS1, -⟩ := (HRb4.out.fr hSw id).facts
    obtain ⟨-, hS2, -⟩ := (Hx4.out.fr hSw id).facts
    go_simp
    try with_reducible rfl
  try simp only [Act.put, List.setIfInBounds_toArray, List.set_cons_zero, List.set_cons_succ]
  refine wpAnyH_take (i := 7) (oi := { dst := some 99, op := Go.Op.load 42 (Go.Operand.tmp 3), type := 42, pos := "ref.go:132", after := #[], guard := none }) (v := ?v5) rfl (by kernel_rfl) (by kernel_rfl) (by kernel_rfl) (fun _ _ _ h => h) (Or.inl ⟨by rfl, ?hy5⟩) hHeld ?rest5
  case hy5 =>
    intro w0 hSw
    obtain ⟨-, hS1, -⟩ := (HRb4.out.fr hSw id).facts
    obtain ⟨-, hS2, -⟩ := (Hx4.out.fr hSw id).facts
    go_simp
    try with_reducible rfl
  try simp only [Act.put, List.setIfInBounds_toArray, List.set_cons_zero, List.set_cons_succ]
  refine wpAnyH_ready (rs := [1, 8]) (by kernel_rfl) (by simp) ?_
  refine AllReadyH.cons (o := { dst := some 93, op := Go.Op.buildSlice 37 0 #[], type := 37, pos := "ref.go:132", after := #[], guard := none }) rfl (fun K hK => ?_) ?_
  · skip
    go_simp
    have HO := Lib.hid (World.ownsRow_lit (base := W4.heap.size) (e := 42) (size := 3) wx #[] 0 HR.out.size (by simp [maxLen]) (by simp))
    try have HL := Lib.hid (HL.out.alloc (.cells #[] 42))
    have HR := Lib.hid (HR.out.alloc (.cells #[] 42))
    have HsA := Lib.hid (show (wx.alloc (.cells #[] 42)).heap.size = wx.heap.size + 1 by simp)
    obtain ⟨wz, hwz⟩ : ∃ wz, wz = wx.alloc (.cells #[] 42) := ⟨_, rfl⟩
    rw [← hwz] at HR HsA ⊢
    try rw [← hwz] at HO
    try rw [← hwz] at HL
    clear hwz
    obtain ⟨wx, hwx⟩ : ∃ wx, wx = wz := ⟨_, rfl⟩
    rw [← hwx] at HR HsA ⊢
    try rw [← hwx] at HO
    try rw [← hwx] at HL
    clear hwx
    refine hK.out _ _ ?_ (fun hHeld => ?_)
    · exact HR.out
    clear hK K
    try simp only [Act.put, List.setIfInBounds_toArray, List.set_cons_zero, List.set_cons_succ]
    refine wpAnyH_ready (rs := [6, 8]) (by kernel_rfl) (by simp) ?_
    refine AllReadyH.cons (o := { dst := some 98, op := Go.Op.call { callee := Go.Callee.builtin Go.Builtin.append, args := #[Go.Operand.tmp 93, Go.Operand.tmp 97], argTypes := #[37, 37] }, type := 37, pos := "ref.go:132", after := #[{ on := 1, ground := Go.Ground.data }, { on := 5, ground := Go.Ground.data }], guard := none }) rfl (fun K hK => ?_) ?_
    · skip
      refine step_append_any _ (by rfl) (.tmp 93) (.tmp 97) _ (by rfl) W4.heap.size 42 _ 3 24 Try.underlying37 info42 rfl (by omega) _ _ _ (by rfl) HO.out _ A2 al.length c2 (al.flatMap lnL) (by rfl) (HA4.out.fr HR.out (fun _ _ => id)) (lns_one _) (by simp only [maxLen]; omega) (by omega) HR.out.size ?_
      intro A7 c7 wz hown7 hgr7 hat7
      try rw [Nat.zero_add] at hown7 ⊢
      try rw [List.nil_append] at hown7
      skip
      have hFr7 := fun (j : Nat) hj => (HO.out.lt j hj).1
      have HR := Lib.hid (HR.out.grown hgr7 (fun j hj => .inr (hFr7 j hj)))
      try have HL := Lib.hid (HL.out.grown hgr7 (fun j hj => by have qa := HsA.out; have qb := HsB.out; subst hj; simp [Value.ownBlock]; omega))
      clear HO hFr7
      have HO := Lib.hid hown7
      obtain ⟨wx, hwx⟩ : ∃ wx, wx = wz := ⟨_, rfl⟩
      rw [← hwx] at HR HO ⊢
      try rw [← hwx] at HL
      clear hown7 hgr7 hat7 hwx
      refine hK.out _ _ ?_ (fun hHeld => ?_)
      · exact HR.out
      clear hK K
      try simp only [Act.put, List.setIfInBounds_toArray, List.set_cons_zero, List.set_cons_succ]
      refine wpAnyH_ready (rs := [8]) (by kernel_rfl) (by simp) ?_
      refine AllReadyH.cons (o := { dst := some 100, op := Go.Op.buildSlice 37 1 #[(0, Go.Operand.tmp 99)], type := 37, pos := "ref.go:132", after := #[{ on := 7, ground := Go.Ground.data }], guard := none }) rfl (fun K hK => ?_) ?_
      · skip
        go_simp
        have HL := Lib.hid (Reads.newS wx [.int .i64 f, .int .i64 t, .int .i64 u] 42 (0, 0) 1 3 rfl _ rfl)
        try have HO := Lib.hid (HO.out.alloc (.cells #[.int .i64 f, .int .i64 t, .int .i64 u] 42))
        have HR := Lib.hid (HR.out.alloc (.cells #[.int .i64 f, .int .i64 t, .int .i64 u] 42))
        have HsB := Lib.hid (show (wx.alloc (.cells #[.int .i64 f, .int .i64 t, .int .i64 u] 42)).heap.size = wx.heap.size + 1 by simp)
        obtain ⟨wz, hwz⟩ : ∃ wz, wz = wx.alloc (.cells #[.int .i64 f, .int .i64 t, .int .i64 u] 42) := ⟨_, rfl⟩
        rw [← hwz] at HR HsB ⊢
        try rw [← hwz] at HO
        try rw [← hwz] at HL
        clear hwz
        obtain ⟨wx, hwx⟩ : ∃ wx, wx = wz := ⟨_, rfl⟩
        rw [← hwx] at HR HsB ⊢
        try rw [← hwx] at HO
        try rw [← hwx] at HL
        clear hwx
        refine hK.out _ _ ?_ (fun hHeld => ?_)
        · exact HR.out
        clear hK K
        try simp only [Act.put, List.setIfInBounds_toArray, List.set_cons_zero, List.set_cons_succ]
        refine wpAnyH_ready (rs := [9]) (by kernel_rfl) (by simp) ?_
        refine AllReadyH.cons (o := { dst := some 101, op := Go.Op.call { callee := Go.Callee.builtin Go.Builtin.append, args := #[Go.Operand.tmp 98, Go.Operand.tmp 100], argTypes := #[37, 37] }, type := 37, pos := "ref.go:132", after := #[{ on := 6, ground := Go.Ground.data }, { on := 8, ground := Go.Ground.data }, { on := 6, ground := Go.Ground.chain }], guard := none }) rfl (fun K hK => ?_) ?_
        · skip
          refine step_append_any _ (by rfl) (.tmp 98) (.tmp 100) _ (by rfl) W4.heap.size 42 _ 3 24 Try.underlying37 info42 rfl (by omega) _ _ _ (by rfl) HO.out _ _ _ _ _ (by rfl) HL.out (by simp [Value.oneCell']) (by simp only [maxLen]; omega) (by omega) HR.out.size ?_
          intro A7 c7 wz hown7 hgr7 hat7
          try rw [Nat.zero_add] at hown7 ⊢
          try rw [List.nil_append] at hown7
          skip
          have hFr7 := fun (j : Nat) hj => (HO.out.lt j hj).1
          have HR := Lib.hid (HR.out.grown hgr7 (fun j hj => .inr (hFr7 j hj)))
          clear HL
          clear HO hFr7
          have HO := Lib.hid hown7
          obtain ⟨wx, hwx⟩ : ∃ wx, wx = wz := ⟨_, rfl⟩
          rw [← hwx] at HR HO ⊢
          try rw [← hwx] at HL
          clear hown7 hgr7 hat7 hwx
          refine hK.out _ _ ?_ (fun hHeld => ?_)
          · exact HR.out
          clear hK K
          try simp only [Act.put, List.setIfInBounds_toArray, List.set_cons_zero, List.set_cons_succ]
          refine wpAnyH_take (i := 10) (oi := { dst := some 102, op := Go.Op.nilCheck (Go.Operand.tmp 92), type := 0, pos := "ref.go:132", after := #[{ on := 0, ground := Go.Ground.data }, { on := 0, ground := Go.Ground.phase }, { on := 1, ground := Go.Ground.phase }, { on := 2, ground := Go.Ground.phase }, { on := 3, ground := Go.Ground.phase }, { on := 4, ground := Go.Ground.phase }, { on := 5, ground := Go.Ground.phase }, { on := 6, ground := Go.Ground.phase }, { on := 7, ground := Go.Ground.phase }, { on := 8, ground := Go.Ground.phase }, { on := 9, ground := Go.Ground.phase }], guard := none }) (v := ?v6) rfl (by kernel_rfl) (by kernel_rfl) (by kernel_rfl) (fun _ _ _ h => h) (Or.inl ⟨by rfl, ?hy6⟩) hHeld ?rest6
          case hy6 =>
            intro w0 hSw
            obtain ⟨-, hS1, -⟩ := (HRb4.out.fr hSw id).facts
            obtain ⟨-, hS2, -⟩ := (Hx4.out.fr hSw id).facts
            go_simp
            try with_reducible rfl
          try simp only [Act.put, List.setIfInBounds_toArray, List.set_cons_zero, List.set_cons_succ]
          refine wpAnyH_take (i := 11) (oi := { dst := some 103, op := Go.Op.fieldAddr 39 (Go.Operand.tmp 102) 2, type := 0, pos := "ref.go:132", after := #[{ on := 10, ground := Go.Ground.data }, { on := 0, ground := Go.Ground.phase }, { on := 1, ground := Go.Ground.phase }, { on := 2, ground := Go.Ground.phase }, { on := 3, ground := Go.Ground.phase }, { on := 4, ground := Go.Ground.phase }, { on := 5, ground := Go.Ground.phase }, { on := 6, ground := Go.Ground.phase }, { on := 7, ground := Go.Ground.phase }, { on := 8, ground := Go.Ground.phase }, { on := 9, ground := Go.Ground.phase }], guard := none }) (v := ?v7) rfl (by kernel_rfl) (by kernel_rfl) (by kernel_rfl) (fun _ _ _ h => h) (Or.inl ⟨by rfl, ?hy7⟩) hHeld ?rest7
          case hy7 =>
            intro w0 hSw
            obtain ⟨-, hS1, -⟩ := (HRb4.out.fr hSw id).facts
            obtain ⟨-, hS2, -⟩ := (Hx4.out.fr hSw id).facts
            go_simp
            try with_reducible rfl
          try simp only [Act.put, List.setIfInBounds_toArray, List.set_cons_zero, List.set_cons_succ]
          refine wpAnyH_done (by kernel_rfl) ?_ _
          have hZ := HRb4.out.fr HR.out id
          obtain ⟨y0, y1, y2⟩ := hZ.facts
          have HZ := Lib.hid hZ
          clear hZ
          refine last_do ({ dst := none, op := Go.Op.store 37 (Go.Operand.tmp 103) (Go.Operand.tmp 101), type := 0, pos := "ref.go:132", after := #[{ on := 11, ground := Go.Ground.data }, { on := 9, ground := Go.Ground.data }, { on := 9, ground := Go.Ground.chain }, { on := 0, ground := Go.Ground.phase }, { on := 1, ground := Go.Ground.phase }, { on := 2, ground := Go.Ground.phase }, { on := 3, ground := Go.Ground.phase }, { on := 4, ground := Go.Ground.phase }, { on := 5, ground := Go.Ground.phase }, { on := 6, ground := Go.Ground.phase }, { on := 7, ground := Go.Ground.phase }, { on := 8, ground := Go.Ground.phase }, { on := 9, ground := Go.Ground.phase }], guard := none }) rfl (fun K hK => ?_)
          have HK := Lib.hid hK
          clear hK
          go_simp
          refine HK.out _ _ ?_
          refine HKK.out _ _ ?_
          clear HK HKK y0 y1 y2
          have HZ' := Lib.hid (HZ.out.set_ 2 (.slice A7 (al.length + 1) c7))
          have HY := Lib.hid (show R (.returned (.int .i64 0)) (wx.setCell ⟨r, 2, none⟩ (.slice A7 (al.length + 1) c7)) from by
            have hN := ((HN4.out.fr HR.out (fun _ _ => id)).more (B' := B) (fun j hj => hj.1)).setCell (p := ⟨r, 2, none⟩) HBr.out (.slice A7 (al.length + 1) c7)
            have hA := ((Reads.of_own HO.out).more (B' := B) (fun j hj => HB.out j (Nat.le_trans HF4.out.size (HO.out.lt j hj).1))).setCell (p := ⟨r, 2, none⟩) HBr.out (.slice A7 (al.length + 1) c7)
            have hF := (HF4.out.trans (HR.out.mono (T := fun k => k = r) (fun _ _ h => h.elim))).setCell (p := ⟨r, 2, none⟩) (.inl rfl) (.slice A7 (al.length + 1) c7)
            exact HYes.out _ A7 c7 (own_cap HO.out) (by simpa using HZ'.out) hN (by rw [List.flatMap_append]; exact hA) hF)
          go_wp2_with fail
          exact HY.out
        exact AllReadyH.nil
      exact AllReadyH.nil
    refine AllReadyH.cons (o := { dst := some 100, op := Go.Op.buildSlice 37 1 #[(0, Go.Operand.tmp 99)], type := 37, pos := "ref.go:132", after := #[{ on := 7, ground := Go.Ground.data }], guard := none }) rfl (fun K hK => ?_) ?_
    · skip
      go_simp
      have HL := Lib.hid (Reads.newS wx [.int .i64 f, .int .i64 t, .int .i64 u] 42 (0, 0) 1 3 rfl _ rfl)
      try have HO := Lib.hid (HO.out.alloc (.cells #[.int .i64 f, .int .i64 t, .int .i64 u] 42))
      have HR := Lib.hid (HR.out.alloc (.cells #[.int .i64 f, .int .i64 t, .int .i64 u] 42))
      have HsB := Lib.hid (show (wx.alloc (.cells #[.int .i64 f, .int .i64 t, .int .i64 u] 42)).heap.size = wx.heap.size + 1 by simp)
      obtain ⟨wz, hwz⟩ : ∃ wz, wz = wx.alloc (.cells #[.int .i64 f, .int .i64 t, .int .i64 u] 42) := ⟨_, rfl⟩
      rw [← hwz] at HR HsB ⊢
      try rw [← hwz] at HO
      try rw [← hwz] at HL
      clear hwz
      obtain ⟨wx, hwx⟩ : ∃ wx, wx = wz := ⟨_, rfl⟩
      rw [← hwx] at HR HsB ⊢
      try rw [← hwx] at HO
      try rw [← hwx] at HL
      clear hwx
      refine hK.out _ _ ?_ (fun hHeld => ?_)
      · exact HR.out
      clear hK K
      try simp only [Act.put, List.setIfInBounds_toArray, List.set_cons_zero, List.set_cons_succ]
      refine wpAnyH_ready (rs := [6]) (by kernel_rfl) (by simp) ?_
      refine AllReadyH.cons (o := { dst := some 98, op := Go.Op.call { callee := Go.Callee.builtin Go.Builtin.append, args := #[Go.Operand.tmp 93, Go.Operand.tmp 97], argTypes := #[37, 37] }, type := 37, pos := "ref.go:132", after := #[{ on := 1, ground := Go.Ground.data }, { on := 5, ground := Go.Ground.data }], guard := none }) rfl (fun K hK => ?_) ?_
      · skip
        refine step_append_any _ (by rfl) (.tmp 93) (.tmp 97) _ (by rfl) W4.heap.size 42 _ 3 24 Try.underlying37 info42 rfl (by omega) _ _ _ (by rfl) HO.out _ A2 al.length c2 (al.flatMap lnL) (by rfl) (HA4.out.fr HR.out (fun _ _ => id)) (lns_one _) (by simp only [maxLen]; omega) (by omega) HR.out.size ?_
        intro A7 c7 wz hown7 hgr7 hat7
        try rw [Nat.zero_add] at hown7 ⊢
        try rw [List.nil_append] at hown7
        skip
        have hFr7 := fun (j : Nat) hj => (HO.out.lt j hj).1
        have HR := Lib.hid (HR.out.grown hgr7 (fun j hj => .inr (hFr7 j hj)))
        try have HL := Lib.hid (HL.out.grown hgr7 (fun j hj => by have qa := HsA.out; have qb := HsB.out; subst hj; simp [Value.ownBlock]; omega))
        clear HO hFr7
        have HO := Lib.hid hown7
        obtain ⟨wx, hwx⟩ : ∃ wx, wx = wz := ⟨_, rfl⟩
        rw [← hwx] at HR HO ⊢
        try rw [← hwx] at HL
        clear hown7 hgr7 hat7 hwx
        refine hK.out _ _ ?_ (fun hHeld => ?_)
        · exact HR.out
        clear hK K
        try simp only [Act.put, List.setIfInBounds_toArray, List.set_cons_zero, List.set_cons_succ]
        refine wpAnyH_ready (rs := [9]) (by kernel_rfl) (by simp) ?_
        refine AllReadyH.cons (o := { dst := some 101, op := Go.Op.call { callee := Go.Callee.builtin Go.Builtin.append, args := #[Go.Operand.tmp 98, Go.Operand.tmp 100], argTypes := #[37, 37] }, type := 37, pos := "ref.go:132", after := #[{ on := 6, ground := Go.Ground.data }, { on := 8, ground := Go.Ground.data }, { on := 6, ground := Go.Ground.chain }], guard := none }) rfl (fun K hK => ?_) ?_
        · skip
          refine step_append_any _ (by rfl) (.tmp 98) (.tmp 100) _ (by rfl) W4.heap.size 42 _ 3 24 Try.underlying37 info42 rfl (by omega) _ _ _ (by rfl) HO.out _ _ _ _ _ (by rfl) HL.out (by simp [Value.oneCell']) (by simp only [maxLen]; omega) (by omega) HR.out.size ?_
          intro A7 c7 wz hown7 hgr7 hat7
          try rw [Nat.zero_add] at hown7 ⊢
          try rw [List.nil_append] at hown7
          skip
          have hFr7 := fun (j : Nat) hj => (HO.out.lt j hj).1
          have HR := Lib.hid (HR.out.grown hgr7 (fun j hj => .inr (hFr7 j hj)))
          clear HL
          clear HO hFr7
          have HO := Lib.hid hown7
          obtain ⟨wx, hwx⟩ : ∃ wx, wx = wz := ⟨_, rfl⟩
          rw [← hwx] at HR HO ⊢
          try rw [← hwx] at HL
          clear hown7 hgr7 hat7 hwx
          refine hK.out _ _ ?_ (fun hHeld => ?_)
          · exact HR.out
          clear hK K
          try simp only [Act.put, List.setIfInBounds_toArray, List.set_cons_zero, List.set_cons_succ]
          refine wpAnyH_take (i := 10) (oi := { dst := some 102, op := Go.Op.nilCheck (Go.Operand.tmp 92), type := 0, pos := "ref.go:132", after := #[{ on := 0, ground := Go.Ground.data }, { on := 0, ground := Go.Ground.phase }, { on := 1, ground := Go.Ground.phase }, { on := 2, ground := Go.Ground.phase }, { on := 3, ground := Go.Ground.phase }, { on := 4, ground := Go.Ground.phase }, { on := 5, ground := Go.Ground.phase }, { on := 6, ground := Go.Ground.phase }, { on := 7, ground := Go.Ground.phase }, { on := 8, ground := Go.Ground.phase }, { on := 9, ground := Go.Ground.phase }], guard := none }) (v := ?v8) rfl (by kernel_rfl) (by kernel_rfl) (by kernel_rfl) (fun _ _ _ h => h) (Or.inl ⟨by rfl, ?hy8⟩) hHeld ?rest8
          case hy8 =>
            intro w0 hSw
            obtain ⟨-, hS1, -⟩ := (HRb4.out.fr hSw id).facts
            obtain ⟨-, hS2, -⟩ := (Hx4.out.fr hSw id).facts
            go_simp
            try with_reducible rfl
          try simp only [Act.put, List.setIfInBounds_toArray, List.set_cons_zero, List.set_cons_succ]
          refine wpAnyH_take (i := 11) (oi := { dst := some 103, op := Go.Op.fieldAddr 39 (Go.Operand.tmp 102) 2, type := 0, pos := "ref.go:132", after := #[{ on := 10, ground := Go.Ground.data }, { on := 0, ground := Go.Ground.phase }, { on := 1, ground := Go.Ground.phase }, { on := 2, ground := Go.Ground.phase }, { on := 3, ground := Go.Ground.phase }, { on := 4, ground := Go.Ground.phase }, { on := 5, ground := Go.Ground.phase }, { on := 6, ground := Go.Ground.phase }, { on := 7, ground := Go.Ground.phase }, { on := 8, ground := Go.Ground.phase }, { on := 9, ground := Go.Ground.phase }], guard := none }) (v := ?v9) rfl (by kernel_rfl) (by kernel_rfl) (by kernel_rfl) (fun _ _ _ h => h) (Or.inl ⟨by rfl, ?hy9⟩) hHeld ?rest9
          case hy9 =>
            intro w0 hSw
            obtain ⟨-, hS1, -⟩ := (HRb4.out.fr hSw id).facts
            obtain ⟨-, hS2, -⟩ := (Hx4.out.fr hSw id).facts
            go_simp
            try with_reducible rfl
          try simp only [Act.put, List.setIfInBounds_toArray, List.set_cons_zero, List.set_cons_succ]
          refine wpAnyH_done (by kernel_rfl) ?_ _
          have hZ := HRb4.out.fr HR.out id
          obtain ⟨y0, y1, y2⟩ := hZ.facts
          have HZ := Lib.hid hZ
          clear hZ
          refine last_do ({ dst := none, op := Go.Op.store 37 (Go.Operand.tmp 103) (Go.Operand.tmp 101), type := 0, pos := "ref.go:132", after := #[{ on := 11, ground := Go.Ground.data }, { on := 9, ground := Go.Ground.data }, { on := 9, ground := Go.Ground.chain }, { on := 0, ground := Go.Ground.phase }, { on := 1, ground := Go.Ground.phase }, { on := 2, ground := Go.Ground.phase }, { on := 3, ground := Go.Ground.phase }, { on := 4, ground := Go.Ground.phase }, { on := 5, ground := Go.Ground.phase }, { on := 6, ground := Go.Ground.phase }, { on := 7, ground := Go.Ground.phase }, { on := 8, ground := Go.Ground.phase }, { on := 9, ground := Go.Ground.phase }], guard := none }) rfl (fun K hK => ?_)
          have HK := Lib.hid hK
          clear hK
          go_simp
          refine HK.out _ _ ?_
          refine HKK.out _ _ ?_
          clear HK HKK y0 y1 y2
          have HZ' := Lib.hid (HZ.out.set_ 2 (.slice A7 (al.length + 1) c7))
          have HY := Lib.hid (show R (.returned (.int .i64 0)) (wx.setCell ⟨r, 2, none⟩ (.slice A7 (al.length + 1) c7)) from by
            have hN := ((HN4.out.fr HR.out (fun _ _ => id)).more (B' := B) (fun j hj => hj.1)).setCell (p := ⟨r, 2, none⟩) HBr.out (.slice A7 (al.length + 1) c7)
            have hA := ((Reads.of_own HO.out).more (B' := B) (fun j hj => HB.out j (Nat.le_trans HF4.out.size (HO.out.lt j hj).1))).setCell (p := ⟨r, 2, none⟩) HBr.out (.slice A7 (al.length + 1) c7)
            have hF := (HF4.out.trans (HR.out.mono (T := fun k => k = r) (fun _ _ h => h.elim))).setCell (p := ⟨r, 2, none⟩) (.inl rfl) (.slice A7 (al.length + 1) c7)
            exact HYes.out _ A7 c7 (own_cap HO.out) (by simpa using HZ'.out) hN (by rw [List.flatMap_append]; exact hA) hF)
          go_wp2_with fail
          exact HY.out
        exact AllReadyH.nil
      exact AllReadyH.nil
    exact AllReadyH.nil
  refine AllReadyH.cons (o := { dst := some 100, op := Go.Op.buildSlice 37 1 #[(0, Go.Operand.tmp 99)], type := 37, pos := "ref.go:132", after := #[{ on := 7, ground := Go.Ground.data }], guard := none }) rfl (fun K hK => ?_) ?_
  · skip
    go_simp
    have HL := Lib.hid (Reads.newS wx [.int .i64 f, .int .i64 t, .int .i64 u] 42 (0, 0) 1 3 rfl _ rfl)
    try have HO := Lib.hid (HO.out.alloc (.cells #[.int .i64 f, .int .i64 t, .int .i64 u] 42))
    have HR := Lib.hid (HR.out.alloc (.cells #[.int .i64 f, .int .i64 t, .int .i64 u] 42))
    have HsB := Lib.hid (show (wx.alloc (.cells #[.int .i64 f, .int .i64 t, .int .i64 u] 42)).heap.size = wx.heap.size + 1 by simp)
    obtain ⟨wz, hwz⟩ : ∃ wz, wz = wx.alloc (.cells #[.int .i64 f, .int .i64 t, .int .i64 u] 42) := ⟨_, rfl⟩
    rw [← hwz] at HR HsB ⊢
    try rw [← hwz] at HO
    try rw [← hwz] at HL
    clear hwz
    obtain ⟨wx, hwx⟩ : ∃ wx, wx = wz := ⟨_, rfl⟩
    rw [← hwx] at HR HsB ⊢
    try rw [← hwx] at HO
    try rw [← hwx] at HL
    clear hwx
    refine hK.out _ _ ?_ (fun hHeld => ?_)
    · exact HR.out
    clear hK K
    try simp only [Act.put, List.setIfInBounds_toArray, List.set_cons_zero, List.set_cons_succ]
    refine wpAnyH_ready (rs := [1]) (by kernel_rfl) (by simp) ?_
    refine AllReadyH.cons (o := { dst := some 93, op := Go.Op.buildSlice 37 0 #[], type := 37, pos := "ref.go:132", after := #[], guard := none }) rfl (fun K hK => ?_) ?_
    · skip
      go_simp
      have HO := Lib.hid (World.ownsRow_lit (base := W4.heap.size) (e := 42) (size := 3) wx #[] 0 HR.out.size (by simp [maxLen]) (by simp))
      try have HL := Lib.hid (HL.out.alloc (.cells #[] 42))
      have HR := Lib.hid (HR.out.alloc (.cells #[] 42))
      have HsA := Lib.hid (show (wx.alloc (.cells #[] 42)).heap.size = wx.heap.size + 1 by simp)
      obtain ⟨wz, hwz⟩ : ∃ wz, wz = wx.alloc (.cells #[] 42) := ⟨_, rfl⟩
      rw [← hwz] at HR HsA ⊢
      try rw [← hwz] at HO
      try rw [← hwz] at HL
      clear hwz
      obtain ⟨wx, hwx⟩ : ∃ wx, wx = wz := ⟨_, rfl⟩
      rw [← hwx] at HR HsA ⊢
      try rw [← hwx] at HO
      try rw [← hwx] at HL
      clear hwx
      refine hK.out _ _ ?_ (fun hHeld => ?_)
      · exact HR.out
      clear hK K
      try simp only [Act.put, List.setIfInBounds_toArray, List.set_cons_zero, List.set_cons_succ]
      refine wpAnyH_ready (rs := [6]) (by kernel_rfl) (by simp) ?_
      refine AllReadyH.cons (o := { dst := some 98, op := Go.Op.call { callee := Go.Callee.builtin Go.Builtin.append, args := #[Go.Operand.tmp 93, Go.Operand.tmp 97], argTypes := #[37, 37] }, type := 37, pos := "ref.go:132", after := #[{ on := 1, ground := Go.Ground.data }, { on := 5, ground := Go.Ground.data }], guard := none }) rfl (fun K hK => ?_) ?_
      · skip
        refine step_append_any _ (by rfl) (.tmp 93) (.tmp 97) _ (by rfl) W4.heap.size 42 _ 3 24 Try.underlying37 info42 rfl (by omega) _ _ _ (by rfl) HO.out _ A2 al.length c2 (al.flatMap lnL) (by rfl) (HA4.out.fr HR.out (fun _ _ => id)) (lns_one _) (by simp only [maxLen]; omega) (by omega) HR.out.size ?_
        intro A7 c7 wz hown7 hgr7 hat7
        try rw [Nat.zero_add] at hown7 ⊢
        try rw [List.nil_append] at hown7
        skip
        have hFr7 := fun (j : Nat) hj => (HO.out.lt j hj).1
        have HR := Lib.hid (HR.out.grown hgr7 (fun j hj => .inr (hFr7 j hj)))
        try have HL := Lib.hid (HL.out.grown hgr7 (fun j hj => by have qa := HsA.out; have qb := HsB.out; subst hj; simp [Value.ownBlock]; omega))
        clear HO hFr7
        have HO := Lib.hid hown7
        obtain ⟨wx, hwx⟩ : ∃ wx, wx = wz := ⟨_, rfl⟩
        rw [← hwx] at HR HO ⊢
        try rw [← hwx] at HL
        clear hown7 hgr7 hat7 hwx
        refine hK.out _ _ ?_ (fun hHeld => ?_)
        · exact HR.out
        clear hK K
        try simp only [Act.put, List.setIfInBounds_toArray, List.set_cons_zero, List.set_cons_succ]
        refine wpAnyH_ready (rs := [9]) (by kernel_rfl) (by simp) ?_
        refine AllReadyH.cons (o := { dst := some 101, op := Go.Op.call { callee := Go.Callee.builtin Go.Builtin.append, args := #[Go.Operand.tmp 98, Go.Operand.tmp 100], argTypes := #[37, 37] }, type := 37, pos := "ref.go:132", after := #[{ on := 6, ground := Go.Ground.data }, { on := 8, ground := Go.Ground.data }, { on := 6, ground := Go.Ground.chain }], guard := none }) rfl (fun K hK => ?_) ?_
        · skip
          refine step_append_any _ (by rfl) (.tmp 98) (.tmp 100) _ (by rfl) W4.heap.size 42 _ 3 24 Try.underlying37 info42 rfl (by omega) _ _ _ (by rfl) HO.out _ _ _ _ _ (by rfl) HL.out (by simp [Value.oneCell']) (by simp only [maxLen]; omega) (by omega) HR.out.size ?_
          intro A7 c7 wz hown7 hgr7 hat7
          try rw [Nat.zero_add] at hown7 ⊢
          try rw [List.nil_append] at hown7
          skip
          have hFr7 := fun (j : Nat) hj => (HO.out.lt j hj).1
          have HR := Lib.hid (HR.out.grown hgr7 (fun j hj => .inr (hFr7 j hj)))
          clear HL
          clear HO hFr7
          have HO := Lib.hid hown7
          obtain ⟨wx, hwx⟩ : ∃ wx, wx = wz := ⟨_, rfl⟩
          rw [← hwx] at HR HO ⊢
          try rw [← hwx] at HL
          clear hown7 hgr7 hat7 hwx
          refine hK.out _ _ ?_ (fun hHeld => ?_)
          · exact HR.out
          clear hK K
          try simp only [Act.put, List.setIfInBounds_toArray, List.set_cons_zero, List.set_cons_succ]
          refine wpAnyH_take (i := 10) (oi := { dst := some 102, op := Go.Op.nilCheck (Go.Operand.tmp 92), type := 0, pos := "ref.go:132", after := #[{ on := 0, ground := Go.Ground.data }, { on := 0, ground := Go.Ground.phase }, { on := 1, ground := Go.Ground.phase }, { on := 2, ground := Go.Ground.phase }, { on := 3, ground := Go.Ground.phase }, { on := 4, ground := Go.Ground.phase }, { on := 5, ground := Go.Ground.phase }, { on := 6, ground := Go.Ground.phase }, { on := 7, ground := Go.Ground.phase }, { on := 8, ground := Go.Ground.phase }, { on := 9, ground := Go.Ground.phase }], guard := none }) (v := ?v10) rfl (by kernel_rfl) (by kernel_rfl) (by kernel_rfl) (fun _ _ _ h => h) (Or.inl ⟨by rfl, ?hy10⟩) hHeld ?rest10
          case hy10 =>
            intro w0 hSw
            obtain ⟨-, hS1, -⟩ := (HRb4.out.fr hSw id).facts
            obtain ⟨-, hS2, -⟩ := (Hx4.out.fr hSw id).facts
            go_simp
            try with_reducible rfl
          try simp only [Act.put, List.setIfInBounds_toArray, List.set_cons_zero, List.set_cons_succ]
          refine wpAnyH_take (i := 11) (oi := { dst := some 103, op := Go.Op.fieldAddr 39 (Go.Operand.tmp 102) 2, type := 0, pos := "ref.go:132", after := #[{ on := 10, ground := Go.Ground.data }, { on := 0, ground := Go.Ground.phase }, { on := 1, ground := Go.Ground.phase }, { on := 2, ground := Go.Ground.phase }, { on := 3, ground := Go.Ground.phase }, { on := 4, ground := Go.Ground.phase }, { on := 5, ground := Go.Ground.phase }, { on := 6, ground := Go.Ground.phase }, { on := 7, ground := Go.Ground.phase }, { on := 8, ground := Go.Ground.phase }, { on := 9, ground := Go.Ground.phase }], guard := none }) (v := ?v11) rfl (by kernel_rfl) (by kernel_rfl) (by kernel_rfl) (fun _ _ _ h => h) (Or.inl ⟨by rfl, ?hy11⟩) hHeld ?rest11
          case hy11 =>
            intro w0 hSw
            obtain ⟨-, hS1, -⟩ := (HRb4.out.fr hSw id).facts
            obtain ⟨-, hS2, -⟩ := (Hx4.out.fr hSw id).facts
            go_simp
            try with_reducible rfl
          try simp only [Act.put, List.setIfInBounds_toArray, List.set_cons_zero, List.set_cons_succ]
          refine wpAnyH_done (by kernel_rfl) ?_ _
          have hZ := HRb4.out.fr HR.out id
          obtain ⟨y0, y1, y2⟩ := hZ.facts
          have HZ := Lib.hid hZ
          clear hZ
          refine last_do ({ dst := none, op := Go.Op.store 37 (Go.Operand.tmp 103) (Go.Operand.tmp 101), type := 0, pos := "ref.go:132", after := #[{ on := 11, ground := Go.Ground.data }, { on := 9, ground := Go.Ground.data }, { on := 9, ground := Go.Ground.chain }, { on := 0, ground := Go.Ground.phase }, { on := 1, ground := Go.Ground.phase }, { on := 2, ground := Go.Ground.phase }, { on := 3, ground := Go.Ground.phase }, { on := 4, ground := Go.Ground.phase }, { on := 5, ground := Go.Ground.phase }, { on := 6, ground := Go.Ground.phase }, { on := 7, ground := Go.Ground.phase }, { on := 8, ground := Go.Ground.phase }, { on := 9, ground := Go.Ground.phase }], guard := none }) rfl (fun K hK => ?_)
          have HK := Lib.hid hK
          clear hK
          go_simp
          refine HK.out _ _ ?_
          refine HKK.out _ _ ?_
          clear HK HKK y0 y1 y2
          have HZ' := Lib.hid (HZ.out.set_ 2 (.slice A7 (al.length + 1) c7))
          have HY := Lib.hid (show R (.returned (.int .i64 0)) (wx.setCell ⟨r, 2, none⟩ (.slice A7 (al.length + 1) c7)) from by
            have hN := ((HN4.out.fr HR.out (fun _ _ => id)).more (B' := B) (fun j hj => hj.1)).setCell (p := ⟨r, 2, none⟩) HBr.out (.slice A7 (al.length + 1) c7)
            have hA := ((Reads.of_own HO.out).more (B' := B) (fun j hj => HB.out j (Nat.le_trans HF4.out.size (HO.out.lt j hj).1))).setCell (p := ⟨r, 2, none⟩) HBr.out (.slice A7 (al.length + 1) c7)
            have hF := (HF4.out.trans (HR.out.mono (T := fun k => k = r) (fun _ _ h => h.elim))).setCell (p := ⟨r, 2, none⟩) (.inl rfl) (.slice A7 (al.length + 1) c7)
            exact HYes.out _ A7 c7 (own_cap HO.out) (by simpa using HZ'.out) hN (by rw [List.flatMap_append]; exact hA) hF)
          go_wp2_with fail
          exact HY.out
        exact AllReadyH.nil
      exact AllReadyH.nil
    exact AllReadyH.nil
  exact AllReadyH.nil

set_option maxRecDepth 10000 in
set_option maxHeartbeats 8000000 in
theorem rlend_t8 (B : Nat → Prop) (r bl : Nat) (n k : Nat) (nw al : List Ln) (A1 A2 : Option Addr) (c1 c2 : Nat) (f t u : Int) (w W4 : World) (hblr : bl ≠ r) (hk : k ≤ nw.length) (hc1 : nw.length ≤ c1) (hl1 : nw.length ≤ 1000)
    (HRb4 : RowKit.Hid (Blk W4 r 39 #[.int .i64 (n : Int), .slice A1 nw.length c1, .slice A2 al.length c2])) (HT4 : RowKit.Hid (Reads W4 (fun j => B j ∧ j < W4.heap.size) 3 A1 k ((nw.take k).flatMap lnL))) (HD4 : RowKit.Hid (Reads W4 (fun j => B j ∧ j < W4.heap.size) 3 (cutG A1 c1 k 3) (nw.length - k) ((nw.drop k).flatMap lnL))) (HA4 : RowKit.Hid (Reads W4 (fun j => B j ∧ j < W4.heap.size) 3 A2 al.length (al.flatMap lnL)))
    (Hx4 : RowKit.Hid (Blk W4 bl 42 #[.int .i64 f, .int .i64 t, .int .i64 u])) (HF4 : RowKit.Hid (Fr (fun k => k = r) w W4)) (HB : RowKit.Hid (∀ k, w.heap.size ≤ k → B k)) (HBr : RowKit.Hid (¬ B r)) (hl2 : al.length ≤ 1000) (R : Ending → World → Prop)
    (HYes : RowKit.Hid (∀ w' A3 c3 A5 c5, nw.length + 1 ≤ c3 → al.length + 1 ≤ c5 → Blk w' r 39 #[.int .i64 (n : Int), .slice A3 (nw.length + 1) c3, .slice A5 (al.length + 1) c5] → Reads w' B 3 A3 (nw.length + 1) ((nw.take k ++ [(⟨f, t, u⟩ : Ln)] ++ nw.drop k).flatMap lnL) → Reads w' B 3 A5 (al.length + 1) ((al ++ [(⟨f, t, u⟩ : Ln)]).flatMap lnL) → Fr (fun k => k = r) w w' → R (.returned (.int .i64 0)) w'))
    (x1 x2 x4 x6 x7 x8 x9 x10 x11 x12 x13 x14 x15 x16 x17 x18 x19 x20 x21 x22 x23 x24 x25 x26 x27 x28 x29 x30 x31 x32 x33 x34 x35 x36 x37 x38 x39 x40 x41 x42 x43 x44 x45 x46 x47 x48 x49 x50 x51 x52 x53 x54 x55 x56 x57 x58 x59 x60 x61 x62 x63 x64 x65 x66 x67 x68 x69 x70 x71 x72 x73 x74 x75 x76 x77 x78 x79 x80 x81 x82 x83 x84 x85 x86 x87 x88 x89 x90 x91 x92 x93 x94 x95 x96 x97 x98 x99 x100 x101 x102 x103 : Value) :
    (sub [true, true, true, true, true] (Try.f35.body.getD .skip)).wp Try.prog (bodyPost Try.prog Try.f35 R) ⟨#[.pointer (some ⟨r, 0, none⟩), x1, x2, .pointer (some ⟨bl, 0, none⟩), x4, .int .i64 (k : Int), x6, x7, x8, x9, x10, x11, x12, x13, x14, x15, x16, x17, x18, x19, x20, x21, x22, x23, x24, x25, x26, x27, x28, x29, x30, x31, x32, x33, x34, x35, x36, x37, x38, x39, x40, x41, x42, x43, x44, x45, x46, x47, x48, x49, x50, x51, x52, x53, x54, x55, x56, x57, x58, x59, x60, x61, x62, x63, x64, x65, x66, x67, x68, x69, x70, x71, x72, x73, x74, x75, x76, x77, x78, x79, x80, x81, x82, x83, x84, x85, x86, x87, x88, x89, x90, x91, x92, x93, x94, x95, x96, x97, x98, x99, x100, x101, x102, x103], []⟩ W4 := by
  have hkl : (0 : Int) ≤ (k : Int) := by omega
  have hkl2 : (k : Int) ≤ (nw.length : Int) := by omega
  have hkl3 : (k : Int) ≤ (c1 : Int) := by omega
  generalize hQ : bodyPost Try.prog Try.f35 R = Q
  dsimp only [sub, Try.f35, Option.getD]
  subst hQ
  refine wp_seq_k (fun KK hKK => ?_)
  have HKK := Lib.hid hKK
  clear hKK
  refine wp_region_last (S := fun w' => Fr (fun _ => False) W4 w') #[{ dst := some 71, op := Go.Op.move (Go.Operand.tmp 0), type := 36, pos := "ref.go:131", after := #[], guard := none }, { dst := some 72, op := Go.Op.buildSlice 37 0 #[], type := 37, pos := "ref.go:131", after := #[], guard := none }, { dst := some 73, op := Go.Op.move (Go.Operand.tmp 0), type := 36, pos := "ref.go:131", after := #[], guard := none }, { dst := some 74, op := Go.Op.nilCheck (Go.Operand.tmp 73), type := 0, pos := "ref.go:131", after := #[{ on := 2, ground := Go.Ground.data }], guard := none }, { dst := some 75, op := Go.Op.fieldAddr 39 (Go.Operand.tmp 74) 1, type := 0, pos := "ref.go:131", after := #[{ on := 3, ground := Go.Ground.data }], guard := none }, { dst := some 76, op := Go.Op.load 37 (Go.Operand.tmp 75), type := 37, pos := "ref.go:131", after := #[{ on := 4, ground := Go.Ground.data }], guard := none }, { dst := some 77, op := Go.Op.move (Go.Operand.tmp 5), type := 3, pos := "ref.go:131", after := #[], guard := none }, { dst := some 78, op := Go.Op.slice 37 (Go.Operand.tmp 76) none (some (Go.Operand.tmp 77)) none, type := 37, pos := "ref.go:131", after := #[{ on := 5, ground := Go.Ground.data }, { on := 6, ground := Go.Ground.data }], guard := none }, { dst := some 79, op := Go.Op.call { callee := Go.Callee.builtin Go.Builtin.append, args := #[Go.Operand.tmp 72, Go.Operand.tmp 78], argTypes := #[37, 37] }, type := 37, pos := "ref.go:131", after := #[{ on := 1, ground := Go.Ground.data }, { on := 7, ground := Go.Ground.data }], guard := none }, { dst := some 80, op := Go.Op.load 42 (Go.Operand.tmp 3), type := 42, pos := "ref.go:131", after := #[], guard := none }, { dst := some 81, op := Go.Op.buildSlice 37 1 #[(0, Go.Operand.tmp 80)], type := 37, pos := "ref.go:131", after := #[{ on := 9, ground := Go.Ground.data }], guard := none }, { dst := some 82, op := Go.Op.call { callee := Go.Callee.builtin Go.Builtin.append, args := #[Go.Operand.tmp 79, Go.Operand.tmp 81], argTypes := #[37, 37] }, type := 37, pos := "ref.go:131", after := #[{ on := 8, ground := Go.Ground.data }, { on := 10, ground := Go.Ground.data }, { on := 8, ground := Go.Ground.chain }], guard := none }, { dst := some 83, op := Go.Op.move (Go.Operand.tmp 0), type := 36, pos := "ref.go:131", after := #[], guard := none }, { dst := some 84, op := Go.Op.nilCheck (Go.Operand.tmp 83), type := 0, pos := "ref.go:131", after := #[{ on := 12, ground := Go.Ground.data }], guard := none }, { dst := some 85, op := Go.Op.fieldAddr 39 (Go.Operand.tmp 84) 1, type := 0, pos := "ref.go:131", after := #[{ on := 13, ground := Go.Ground.data }], guard := none }, { dst := some 86, op := Go.Op.load 37 (Go.Operand.tmp 85), type := 37, pos := "ref.go:131", after := #[{ on := 14, ground := Go.Ground.data }], guard := none }, { dst := some 87, op := Go.Op.move (Go.Operand.tmp 5), type := 3, pos := "ref.go:131", after := #[], guard := none }, { dst := some 88, op := Go.Op.slice 37 (Go.Operand.tmp 86) (some (Go.Operand.tmp 87)) none none, type := 37, pos := "ref.go:131", after := #[{ on := 15, ground := Go.Ground.data }, { on := 16, ground := Go.Ground.data }], guard := none }, { dst := some 89, op := Go.Op.call { callee := Go.Callee.builtin Go.Builtin.append, args := #[Go.Operand.tmp 82, Go.Operand.tmp 88], argTypes := #[37, 37] }, type := 37, pos := "ref.go:131", after := #[{ on := 11, ground := Go.Ground.data }, { on := 17, ground := Go.Ground.data }, { on := 11, ground := Go.Ground.chain }], guard := none }, { dst := some 90, op := Go.Op.nilCheck (Go.Operand.tmp 71), type := 0, pos := "ref.go:131", after := #[{ on := 0, ground := Go.Ground.data }, { on := 0, ground := Go.Ground.phase }, { on := 1, ground := Go.Ground.phase }, { on := 2, ground := Go.Ground.phase }, { on := 3, ground := Go.Ground.phase }, { on := 4, ground := Go.Ground.phase }, { on := 5, ground := Go.Ground.phase }, { on := 6, ground := Go.Ground.phase }, { on := 7, ground := Go.Ground.phase }, { on := 8, ground := Go.Ground.phase }, { on := 9, ground := Go.Ground.phase }, { on := 10, ground := Go.Ground.phase }, { on := 11, ground := Go.Ground.phase }, { on := 12, ground := Go.Ground.phase }, { on := 13, ground := Go.Ground.phase }, { on := 14, ground := Go.Ground.phase }, { on := 15, ground := Go.Ground.phase }, { on := 16, ground := Go.Ground.phase }, { on := 17, ground := Go.Ground.phase }, { on := 18, ground := Go.Ground.phase }], guard := none }, { dst := some 91, op := Go.Op.fieldAddr 39 (Go.Operand.tmp 90) 1, type := 0, pos := "ref.go:131", after := #[{ on := 19, ground := Go.Ground.data }, { on := 0, ground := Go.Ground.phase }, { on := 1, ground := Go.Ground.phase }, { on := 2, ground := Go.Ground.phase }, { on := 3, ground := Go.Ground.phase }, { on := 4, ground := Go.Ground.phase }, { on := 5, ground := Go.Ground.phase }, { on := 6, ground := Go.Ground.phase }, { on := 7, ground := Go.Ground.phase }, { on := 8, ground := Go.Ground.phase }, { on := 9, ground := Go.Ground.phase }, { on := 10, ground := Go.Ground.phase }, { on := 11, ground := Go.Ground.phase }, { on := 12, ground := Go.Ground.phase }, { on := 13, ground := Go.Ground.phase }, { on := 14, ground := Go.Ground.phase }, { on := 15, ground := Go.Ground.phase }, { on := 16, ground := Go.Ground.phase }, { on := 17, ground := Go.Ground.phase }, { on := 18, ground := Go.Ground.phase }], guard := none }] { dst := none, op := Go.Op.store 37 (Go.Operand.tmp 91) (Go.Operand.tmp 89), type := 0, pos := "ref.go:131", after := #[{ on := 20, ground := Go.Ground.data }, { on := 18, ground := Go.Ground.data }, { on := 18, ground := Go.Ground.chain }, { on := 0, ground := Go.Ground.phase }, { on := 1, ground := Go.Ground.phase }, { on := 2, ground := Go.Ground.phase }, { on := 3, ground := Go.Ground.phase }, { on := 4, ground := Go.Ground.phase }, { on := 5, ground := Go.Ground.phase }, { on := 6, ground := Go.Ground.phase }, { on := 7, ground := Go.Ground.phase }, { on := 8, ground := Go.Ground.phase }, { on := 9, ground := Go.Ground.phase }, { on := 10, ground := Go.Ground.phase }, { on := 11, ground := Go.Ground.phase }, { on := 12, ground := Go.Ground.phase }, { on := 13, ground := Go.Ground.phase }, { on := 14, ground := Go.Ground.phase }, { on := 15, ground := Go.Ground.phase }, { on := 16, ground := Go.Ground.phase }, { on := 17, ground := Go.Ground.phase }, { on := 18, ground := Go.Ground.phase }], guard := none } (by rfl) (by kernel_rfl) (by kernel_rfl) ?_ (fun hHeld => ?_)
  · exact (Fr.refl _ _).drew
  have HR := Lib.hid hHeld
  generalize W4.drew = wx at *
  refine wpAnyH_take (i := 0) (oi := { dst := some 71, op := Go.Op.move (Go.Operand.tmp 0), type := 36, pos := "ref.go:131", after := #[], guard := none }) (v := ?v0) rfl (by kernel_rfl) (by kernel_rfl) (by kernel_rfl) (fun _ _ _ h => h) (Or.inl ⟨by rfl, ?hy0⟩) hHeld ?rest0
  case hy0 =>
    intro w0 hSw
    obtain ⟨-, hS1, -⟩ := (HRb4.out.fr hSw id).facts
    obtain ⟨-, hS2, -⟩ := (Hx4.out.fr hSw id).facts
    go_simp
    try with_reducible rfl
  try simp only [Act.put, List.setIfInBounds_toArray, List.set_cons_zero, List.set_cons_succ]
  refine wpAnyH_take (i := 2) (oi := { dst := some 73, op := Go.Op.move (Go.Operand.tmp 0), type := 36, pos := "ref.go:131", after := #[], guard := none }) (v := ?v1) rfl (by kernel_rfl) (by kernel_rfl) (by kernel_rfl) (fun _ _ _ h => h) (Or.inl ⟨by rfl, ?hy1⟩) hHeld ?rest1
  case hy1 =>
    intro w0 hSw
    obtain ⟨-, hS1, -⟩ := (HRb4.out.fr hSw id).facts
    obtain ⟨-, hS2, -⟩ := (Hx4.out.fr hSw id).facts
    go_simp
    try with_reducible rfl
  try simp only [Act.put, List.setIfInBounds_toArray, List.set_cons_zero, List.set_cons_succ]
  refine wpAnyH_take (i := 3) (oi := { dst := some 74, op := Go.Op.nilCheck (Go.Operand.tmp 73), type := 0, pos := "ref.go:131", after := #[{ on := 2, ground := Go.Ground.data }], guard := none }) (v := ?v2) rfl (by kernel_rfl) (by kernel_rfl) (by kernel_rfl) (fun _ _ _ h => h) (Or.inl ⟨by rfl, ?hy2⟩) hHeld ?rest2
  case hy2 =>
    intro w0 hSw
    obtain ⟨-, hS1, -⟩ := (HRb4.out.fr hSw id).facts
    obtain ⟨-, hS2, -⟩ := (Hx4.out.fr hSw id).facts
    go_simp
    try with_reducible rfl
  try simp only [Act.put, List.setIfInBounds_toArray, List.set_cons_zero, List.set_cons_succ]
  refine wpAnyH_take (i := 4) (oi := { dst := some 75, op := Go.Op.fieldAddr 39 (Go.Operand.tmp 74) 1, type := 0, pos := "ref.go:131", after := #[{ on := 3, ground := Go.Ground.data }], guard := none }) (v := ?v3) rfl (by kernel_rfl) (by kernel_rfl) (by kernel_rfl) (fun _ _ _ h => h) (Or.inl ⟨by rfl, ?hy3⟩) hHeld ?rest3
  case hy3 =>
    intro w0 hSw
    obtain ⟨-, hS1, -⟩ := (HRb4.out.fr hSw id).facts
    obtain ⟨-, hS2, -⟩ := (Hx4.out.fr hSw id).facts
    go_simp
    try with_reducible rfl
  try simp only [Act.put, List.setIfInBounds_toArray, List.set_cons_zero, List.set_cons_succ]
  refine wpAnyH_take (i := 5) (oi := { dst := some 76, op := Go.Op.load 37 (Go.Operand.tmp 75), type := 37, pos := "ref.go:131", after := #[{ on := 4, ground := Go.Ground.data }], guard := none }) (v := ?v4) rfl (by kernel_rfl) (by kernel_rfl) (by kernel_rfl) (fun _ _ _ h => h) (Or.inl ⟨by rfl, ?hy4⟩) hHeld ?rest4
  case hy4 =>
    intro w0 hSw
    obtain ⟨-, hS1, -⟩ := (HRb4.out.fr hSw id).facts
    obtain ⟨-, hS2, -⟩ := (Hx4.out.fr hSw id).facts
    go_simp
    try with_reducible rfl
  try simp only [Act.put, List.setIfInBounds_toArray, List.set_cons_zero, List.set_cons_succ]
  refine wpAnyH_take (i := 6) (oi := { dst := some 77, op := Go.Op.move (Go.Operand.tmp 5), type := 3, pos := "ref.go:131", after := #[], guard := none }) (v := ?v5) rfl (by kernel_rfl) (by kernel_rfl) (by kernel_rfl) (fun _ _ _ h => h) (Or.inl ⟨by rfl, ?hy5⟩) hHeld ?rest5
  case hy5 =>
    intro w0 hSw
    obtain ⟨-, hS1, -⟩ := (HRb4.out.fr hSw id).facts
    obtain ⟨-, hS2, -⟩ := (Hx4.out.fr hSw id).facts
    go_simp
    try with_reducible rfl
  try simp only [Act.put, List.setIfInBounds_toArray, List.set_cons_zero, List.set_cons_succ]
  refine wpAnyH_take (i := 7) (oi := { dst := some 78, op := Go.Op.slice 37 (Go.Operand.tmp 76) none (some (Go.Operand.tmp 77)) none, type := 37, pos := "ref.go:131", after := #[{ on := 5, ground := Go.Ground.data }, { on := 6, ground := Go.Ground.data }], guard := none }) (v := ?v6) rfl (by kernel_rfl) (by kernel_rfl) (by kernel_rfl) (fun _ _ _ h => h) (Or.inl ⟨by rfl, ?hy6⟩) hHeld ?rest6
  case hy6 =>
    intro w0 hSw
    obtain ⟨-, hS1, -⟩ := (HRb4.out.fr hSw id).facts
    obtain ⟨-, hS2, -⟩ := (Hx4.out.fr hSw id).facts
    go_simp
    try with_reducible rfl
  try simp only [Act.put, List.setIfInBounds_toArray, List.set_cons_zero, List.set_cons_succ]
  refine wpAnyH_take (i := 9) (oi := { dst := some 80, op := Go.Op.load 42 (Go.Operand.tmp 3), type := 42, pos := "ref.go:131", after := #[], guard := none }) (v := ?v7) rfl (by kernel_rfl) (by kernel_rfl) (by kernel_rfl) (fun _ _ _ h => h) (Or.inl ⟨by rfl, ?hy7⟩) hHeld ?rest7
  case hy7 =>
    intro w0 hSw
    obtain ⟨-, hS1, -⟩ := (HRb4.out.fr hSw id).facts
    obtain ⟨-, hS2, -⟩ := (Hx4.out.fr hSw id).facts
    go_simp
    try with_reducible rfl
  try simp only [Act.put, List.setIfInBounds_toArray, List.set_cons_zero, List.set_cons_succ]
  refine wpAnyH_take (i := 12) (oi := { dst := some 83, op := Go.Op.move (Go.Operand.tmp 0), type := 36, pos := "ref.go:131", after := #[], guard := none }) (v := ?v8) rfl (by kernel_rfl) (by kernel_rfl) (by kernel_rfl) (fun _ _ _ h => h) (Or.inl ⟨by rfl, ?hy8⟩) hHeld ?rest8
  case hy8 =>
    intro w0 hSw
    obtain ⟨-, hS1, -⟩ := (HRb4.out.fr hSw id).facts
    obtain ⟨-, hS2, -⟩ := (Hx4.out.fr hSw id).facts
    go_simp
    try with_reducible rfl
  try simp only [Act.put, List.setIfInBounds_toArray, List.set_cons_zero, List.set_cons_succ]
  refine wpAnyH_take (i := 13) (oi := { dst := some 84, op := Go.Op.nilCheck (Go.Operand.tmp 83), type := 0, pos := "ref.go:131", after := #[{ on := 12, ground := Go.Ground.data }], guard := none }) (v := ?v9) rfl (by kernel_rfl) (by kernel_rfl) (by kernel_rfl) (fun _ _ _ h => h) (Or.inl ⟨by rfl, ?hy9⟩) hHeld ?rest9
  case hy9 =>
    intro w0 hSw
    obtain ⟨-, hS1, -⟩ := (HRb4.out.fr hSw id).facts
    obtain ⟨-, hS2, -⟩ := (Hx4.out.fr hSw id).facts
    go_simp
    try with_reducible rfl
  try simp only [Act.put, List.setIfInBounds_toArray, List.set_cons_zero, List.set_cons_succ]
  refine wpAnyH_take (i := 14) (oi := { dst := some 85, op := Go.Op.fieldAddr 39 (Go.Operand.tmp 84) 1, type := 0, pos := "ref.go:131", after := #[{ on := 13, ground := Go.Ground.data }], guard := none }) (v := ?v10) rfl (by kernel_rfl) (by kernel_rfl) (by kernel_rfl) (fun _ _ _ h => h) (Or.inl ⟨by rfl, ?hy10⟩) hHeld ?rest10
  case hy10 =>
    intro w0 hSw
    obtain ⟨-, hS1, -⟩ := (HRb4.out.fr hSw id).facts
    obtain ⟨-, hS2, -⟩ := (Hx4.out.fr hSw id).facts
    go_simp
    try with_reducible rfl
  try simp only [Act.put, List.setIfInBounds_toArray, List.set_cons_zero, List.set_cons_succ]
  refine wpAnyH_take (i := 15) (oi := { dst := some 86, op := Go.Op.load 37 (Go.Operand.tmp 85), type := 37, pos := "ref.go:131", after := #[{ on := 14, ground := Go.Ground.data }], guard := none }) (v := ?v11) rfl (by kernel_rfl) (by kernel_rfl) (by kernel_rfl) (fun _ _ _ h => h) (Or.inl ⟨by rfl, ?hy11⟩) hHeld ?rest11
  case hy11 =>
    intro w0 hSw
    obtain ⟨-, hS1, -⟩ := (HRb4.out.fr hSw id).facts
    obtain ⟨-, hS2, -⟩ := (Hx4.out.fr hSw id).facts
    go_simp
    try with_reducible rfl
  try simp only [Act.put, List.setIfInBounds_toArray, List.set_cons_zero, List.set_cons_succ]
  refine wpAnyH_take (i := 16) (oi := { dst := some 87, op := Go.Op.move (Go.Operand.tmp 5), type := 3, pos := "ref.go:131", after := #[], guard := none }) (v := ?v12) rfl (by kernel_rfl) (by kernel_rfl) (by kernel_rfl) (fun _ _ _ h => h) (Or.inl ⟨by rfl, ?hy12⟩) hHeld ?rest12
  case hy12 =>
    intro w0 hSw
    obtain ⟨-, hS1, -⟩ := (HRb4.out.fr hSw id).facts
    obtain ⟨-, hS2, -⟩ := (Hx4.out.fr hSw id).facts
    go_simp
    try with_reducible rfl
  try simp only [Act.put, List.setIfInBounds_toArray, List.set_cons_zero, List.set_cons_succ]
  refine wpAnyH_take (i := 17) (oi := { dst := some 88, op := Go.Op.slice 37 (Go.Operand.tmp 86) (some (Go.Operand.tmp 87)) none none, type := 37, pos := "ref.go:131", after := #[{ on := 15, ground := Go.Ground.data }, { on := 16, ground := Go.Ground.data }], guard := none }) (v := ?v13) rfl (by kernel_rfl) (by kernel_rfl) (by kernel_rfl) (fun _ _ _ h => h) (Or.inl ⟨by rfl, ?hy13⟩) hHeld ?rest13
  case hy13 =>
    intro w0 hSw
    obtain ⟨-, hS1, -⟩ := (HRb4.out.fr hSw id).facts
    obtain ⟨-, hS2, -⟩ := (Hx4.out.fr hSw id).facts
    go_simp
    try with_reducible rfl
  try simp only [Act.put, List.setIfInBounds_toArray, List.set_cons_zero, List.set_cons_succ]
  refine wpAnyH_ready (rs := [1, 10]) (by kernel_rfl) (by simp) ?_
  refine AllReadyH.cons (o := { dst := some 72, op := Go.Op.buildSlice 37 0 #[], type := 37, pos := "ref.go:131", after := #[], guard := none }) rfl (fun K hK => ?_) ?_
  · skip
    go_simp
    have HO := Lib.hid (World.ownsRow_lit (base := W4.heap.size) (e := 42) (size := 3) wx #[] 0 HR.out.size (by simp [maxLen]) (by simp))
    try have HL := Lib.hid (HL.out.alloc (.cells #[] 42))
    have HR := Lib.hid (HR.out.alloc (.cells #[] 42))
    have HsA := Lib.hid (show (wx.alloc (.cells #[] 42)).heap.size = wx.heap.size + 1 by simp)
    obtain ⟨wz, hwz⟩ : ∃ wz, wz = wx.alloc (.cells #[] 42) := ⟨_, rfl⟩
    rw [← hwz] at HR HsA ⊢
    try rw [← hwz] at HO
    try rw [← hwz] at HL
    clear hwz
    obtain ⟨wx, hwx⟩ : ∃ wx, wx = wz := ⟨_, rfl⟩
    rw [← hwx] at HR HsA ⊢
    try rw [← hwx] at HO
    try rw [← hwx] at HL
    clear hwx
    refine hK.out _ _ ?_ (fun hHeld => ?_)
    · exact HR.out
    clear hK K
    try simp only [Act.put, List.setIfInBounds_toArray, List.set_cons_zero, List.set_cons_succ]
    refine wpAnyH_ready (rs := [8, 10]) (by kernel_rfl) (by simp) ?_
    refine AllReadyH.cons (o := { dst := some 79, op := Go.Op.call { callee := Go.Callee.builtin Go.Builtin.append, args := #[Go.Operand.tmp 72, Go.Operand.tmp 78], argTypes := #[37, 37] }, type := 37, pos := "ref.go:131", after := #[{ on := 1, ground := Go.Ground.data }, { on := 7, ground := Go.Ground.data }], guard := none }) rfl (fun K hK => ?_) ?_
    · skip
      refine step_append_any _ (by rfl) (.tmp 72) (.tmp 78) _ (by rfl) W4.heap.size 42 _ 3 24 Try.underlying37 info42 rfl (by omega) _ _ _ (by rfl) HO.out _ A1 k c1 ((nw.take k).flatMap lnL) (by rfl) (HT4.out.fr HR.out (fun _ _ => id)) (lns_one _) (by simp only [maxLen]; omega) (by omega) HR.out.size ?_
      intro A7 c7 wz hown7 hgr7 hat7
      try rw [Nat.zero_add] at hown7 ⊢
      try rw [List.nil_append] at hown7
      skip
      have hFr7 := fun (j : Nat) hj => (HO.out.lt j hj).1
      have HR := Lib.hid (HR.out.grown hgr7 (fun j hj => .inr (hFr7 j hj)))
      try have HL := Lib.hid (HL.out.grown hgr7 (fun j hj => by have qa := HsA.out; have qb := HsB.out; subst hj; simp [Value.ownBlock]; omega))
      clear HO hFr7
      have HO := Lib.hid hown7
      obtain ⟨wx, hwx⟩ : ∃ wx, wx = wz := ⟨_, rfl⟩
      rw [← hwx] at HR HO ⊢
      try rw [← hwx] at HL
      clear hown7 hgr7 hat7 hwx
      refine hK.out _ _ ?_ (fun hHeld => ?_)
      · exact HR.out
      clear hK K
      try simp only [Act.put, List.setIfInBounds_toArray, List.set_cons_zero, List.set_cons_succ]
      refine wpAnyH_ready (rs := [10]) (by kernel_rfl) (by simp) ?_
      refine AllReadyH.cons (o := { dst := some 81, op := Go.Op.buildSlice 37 1 #[(0, Go.Operand.tmp 80)], type := 37, pos := "ref.go:131", after := #[{ on := 9, ground := Go.Ground.data }], guard := none }) rfl (fun K hK => ?_) ?_
      · skip
        go_simp
        have HL := Lib.hid (Reads.newS wx [.int .i64 f, .int .i64 t, .int .i64 u] 42 (0, 0) 1 3 rfl _ rfl)
        try have HO := Lib.hid (HO.out.alloc (.cells #[.int .i64 f, .int .i64 t, .int .i64 u] 42))
        have HR := Lib.hid (HR.out.alloc (.cells #[.int .i64 f, .int .i64 t, .int .i64 u] 42))
        have HsB := Lib.hid (show (wx.alloc (.cells #[.int .i64 f, .int .i64 t, .int .i64 u] 42)).heap.size = wx.heap.size + 1 by simp)
        obtain ⟨wz, hwz⟩ : ∃ wz, wz = wx.alloc (.cells #[.int .i64 f, .int .i64 t, .int .i64 u] 42) := ⟨_, rfl⟩
        rw [← hwz] at HR HsB ⊢
        try rw [← hwz] at HO
        try rw [← hwz] at HL
        clear hwz
        obtain ⟨wx, hwx⟩ : ∃ wx, wx = wz := ⟨_, rfl⟩
        rw [← hwx] at HR HsB ⊢
        try rw [← hwx] at HO
        try rw [← hwx] at HL
        clear hwx
        refine hK.out _ _ ?_ (fun hHeld => ?_)
        · exact HR.out
        clear hK K
        try simp only [Act.put, List.setIfInBounds_toArray, List.set_cons_zero, List.set_cons_succ]
        refine wpAnyH_ready (rs := [11]) (by kernel_rfl) (by simp) ?_
        refine AllReadyH.cons (o := { dst := some 82, op := Go.Op.call { callee := Go.Callee.builtin Go.Builtin.append, args := #[Go.Operand.tmp 79, Go.Operand.tmp 81], argTypes := #[37, 37] }, type := 37, pos := "ref.go:131", after := #[{ on := 8, ground := Go.Ground.data }, { on := 10, ground := Go.Ground.data }, { on := 8, ground := Go.Ground.chain }], guard := none }) rfl (fun K hK => ?_) ?_
        · skip
          refine step_append_any _ (by rfl) (.tmp 79) (.tmp 81) _ (by rfl) W4.heap.size 42 _ 3 24 Try.underlying37 info42 rfl (by omega) _ _ _ (by rfl) HO.out _ _ _ _ _ (by rfl) HL.out (by simp [Value.oneCell']) (by simp only [maxLen]; omega) (by omega) HR.out.size ?_
          intro A7 c7 wz hown7 hgr7 hat7
          try rw [Nat.zero_add] at hown7 ⊢
          try rw [List.nil_append] at hown7
          skip
          have hFr7 := fun (j : Nat) hj => (HO.out.lt j hj).1
          have HR := Lib.hid (HR.out.grown hgr7 (fun j hj => .inr (hFr7 j hj)))
          clear HL
          clear HO hFr7
          have HO := Lib.hid hown7
          obtain ⟨wx, hwx⟩ : ∃ wx, wx = wz := ⟨_, rfl⟩
          rw [← hwx] at HR HO ⊢
          try rw [← hwx] at HL
          clear hown7 hgr7 hat7 hwx
          refine hK.out _ _ ?_ (fun hHeld => ?_)
          · exact HR.out
          clear hK K
          try simp only [Act.put, List.setIfInBounds_toArray, List.set_cons_zero, List.set_cons_succ]
          refine wpAnyH_ready (rs := [18]) (by kernel_rfl) (by simp) ?_
          refine AllReadyH.cons (o := { dst := some 89, op := Go.Op.call { callee := Go.Callee.builtin Go.Builtin.append, args := #[Go.Operand.tmp 82, Go.Operand.tmp 88], argTypes := #[37, 37] }, type := 37, pos := "ref.go:131", after := #[{ on := 11, ground := Go.Ground.data }, { on := 17, ground := Go.Ground.data }, { on := 11, ground := Go.Ground.chain }], guard := none }) rfl (fun K hK => ?_) ?_
          · skip
            refine step_append_any _ (by rfl) (.tmp 82) (.tmp 88) _ (by rfl) W4.heap.size 42 _ 3 24 Try.underlying37 info42 rfl (by omega) _ _ _ (by rfl) HO.out _ (cutG A1 c1 k 3) (nw.length - k) (c1 - k) ((nw.drop k).flatMap lnL) (by rfl) (HD4.out.fr HR.out (fun _ _ => id)) (lns_one _) (by simp only [maxLen]; omega) (by omega) HR.out.size ?_
            intro A7 c7 wz hown7 hgr7 hat7
            try rw [Nat.zero_add] at hown7 ⊢
            try rw [List.nil_append] at hown7
            rw [show k + 1 + (nw.length - k) = nw.length + 1 by omega] at hown7 ⊢
            have hFr7 := fun (j : Nat) hj => (HO.out.lt j hj).1
            have HR := Lib.hid (HR.out.grown hgr7 (fun j hj => .inr (hFr7 j hj)))
            skip
            clear HO hFr7
            have HO := Lib.hid hown7
            obtain ⟨wx, hwx⟩ : ∃ wx, wx = wz := ⟨_, rfl⟩
            rw [← hwx] at HR HO ⊢
            try rw [← hwx] at HL
            clear hown7 hgr7 hat7 hwx
            refine hK.out _ _ ?_ (fun hHeld => ?_)
            · exact HR.out
            clear hK K
            try simp only [Act.put, List.setIfInBounds_toArray, List.set_cons_zero, List.set_cons_succ]
            refine wpAnyH_take (i := 19) (oi := { dst := some 90, op := Go.Op.nilCheck (Go.Operand.tmp 71), type := 0, pos := "ref.go:131", after := #[{ on := 0, ground := Go.Ground.data }, { on := 0, ground := Go.Ground.phase }, { on := 1, ground := Go.Ground.phase }, { on := 2, ground := Go.Ground.phase }, { on := 3, ground := Go.Ground.phase }, { on := 4, ground := Go.Ground.phase }, { on := 5, ground := Go.Ground.phase }, { on := 6, ground := Go.Ground.phase }, { on := 7, ground := Go.Ground.phase }, { on := 8, ground := Go.Ground.phase }, { on := 9, ground := Go.Ground.phase }, { on := 10, ground := Go.Ground.phase }, { on := 11, ground := Go.Ground.phase }, { on := 12, ground := Go.Ground.phase }, { on := 13, ground := Go.Ground.phase }, { on := 14, ground := Go.Ground.phase }, { on := 15, ground := Go.Ground.phase }, { on := 16, ground := Go.Ground.phase }, { on := 17, ground := Go.Ground.phase }, { on := 18, ground := Go.Ground.phase }], guard := none }) (v := ?v14) rfl (by kernel_rfl) (by kernel_rfl) (by kernel_rfl) (fun _ _ _ h => h) (Or.inl ⟨by rfl, ?hy14⟩) hHeld ?rest14
            case hy14 =>
              intro w0 hSw
              obtain ⟨-, hS1, -⟩ := (HRb4.out.fr hSw id).facts
              obtain ⟨-, hS2, -⟩ := (Hx4.out.fr hSw id).facts
              go_simp
              try with_reducible rfl
            try simp only [Act.put, List.setIfInBounds_toArray, List.set_cons_zero, List.set_cons_succ]
            refine wpAnyH_take (i := 20) (oi := { dst := some 91, op := Go.Op.fieldAddr 39 (Go.Operand.tmp 90) 1, type := 0, pos := "ref.go:131", after := #[{ on := 19, ground := Go.Ground.data }, { on := 0, ground := Go.Ground.phase }, { on := 1, ground := Go.Ground.phase }, { on := 2, ground := Go.Ground.phase }, { on := 3, ground := Go.Ground.phase }, { on := 4, ground := Go.Ground.phase }, { on := 5, ground := Go.Ground.phase }, { on := 6, ground := Go.Ground.phase }, { on := 7, ground := Go.Ground.phase }, { on := 8, ground := Go.Ground.phase }, { on := 9, ground := Go.Ground.phase }, { on := 10, ground := Go.Ground.phase }, { on := 11, ground := Go.Ground.phase }, { on := 12, ground := Go.Ground.phase }, { on := 13, ground := Go.Ground.phase }, { on := 14, ground := Go.Ground.phase }, { on := 15, ground := Go.Ground.phase }, { on := 16, ground := Go.Ground.phase }, { on := 17, ground := Go.Ground.phase }, { on := 18, ground := Go.Ground.phase }], guard := none }) (v := ?v15) rfl (by kernel_rfl) (by kernel_rfl) (by kernel_rfl) (fun _ _ _ h => h) (Or.inl ⟨by rfl, ?hy15⟩) hHeld ?rest15
            case hy15 =>
              intro w0 hSw
              obtain ⟨-, hS1, -⟩ := (HRb4.out.fr hSw id).facts
              obtain ⟨-, hS2, -⟩ := (Hx4.out.fr hSw id).facts
              go_simp
              try with_reducible rfl
            try simp only [Act.put, List.setIfInBounds_toArray, List.set_cons_zero, List.set_cons_succ]
            refine wpAnyH_done (by kernel_rfl) ?_ _
            have hZ := HRb4.out.fr HR.out id
            obtain ⟨y0, y1, y2⟩ := hZ.facts
            have HZ := Lib.hid hZ
            clear hZ
            refine last_do ({ dst := none, op := Go.Op.store 37 (Go.Operand.tmp 91) (Go.Operand.tmp 89), type := 0, pos := "ref.go:131", after := #[{ on := 20, ground := Go.Ground.data }, { on := 18, ground := Go.Ground.data }, { on := 18, ground := Go.Ground.chain }, { on := 0, ground := Go.Ground.phase }, { on := 1, ground := Go.Ground.phase }, { on := 2, ground := Go.Ground.phase }, { on := 3, ground := Go.Ground.phase }, { on := 4, ground := Go.Ground.phase }, { on := 5, ground := Go.Ground.phase }, { on := 6, ground := Go.Ground.phase }, { on := 7, ground := Go.Ground.phase }, { on := 8, ground := Go.Ground.phase }, { on := 9, ground := Go.Ground.phase }, { on := 10, ground := Go.Ground.phase }, { on := 11, ground := Go.Ground.phase }, { on := 12, ground := Go.Ground.phase }, { on := 13, ground := Go.Ground.phase }, { on := 14, ground := Go.Ground.phase }, { on := 15, ground := Go.Ground.phase }, { on := 16, ground := Go.Ground.phase }, { on := 17, ground := Go.Ground.phase }, { on := 18, ground := Go.Ground.phase }], guard := none }) rfl (fun K hK => ?_)
            have HK := Lib.hid hK
            clear hK
            go_simp
            refine HK.out _ _ ?_
            refine HKK.out _ _ ?_
            clear HK HKK y0 y1 y2
            have hrB := HBr.out
            have GZ := Lib.hid (show Blk (wx.setCell ⟨r, 1, none⟩ (.slice A7 (nw.length + 1) c7)) r 39 #[.int .i64 (n : Int), .slice A7 (nw.length + 1) c7, .slice A2 al.length c2] by simpa using HZ.out.set_ 1 (.slice A7 (nw.length + 1) c7))
            have GN := Lib.hid (((Reads.of_own HO.out).more (B' := B) (fun j hj => HB.out j (Nat.le_trans HF4.out.size (HO.out.lt j hj).1))).setCell (p := ⟨r, 1, none⟩) hrB (.slice A7 (nw.length + 1) c7))
            have GA := Lib.hid (((HA4.out.fr HR.out (fun _ _ => id)).more (B' := B) (fun j hj => hj.1)).setCell (p := ⟨r, 1, none⟩) hrB (.slice A7 (nw.length + 1) c7))
            have GX := Lib.hid ((Hx4.out.fr HR.out id).far (p := ⟨r, 1, none⟩) hblr (.slice A7 (nw.length + 1) c7))
            have GF := Lib.hid ((HF4.out.trans (HR.out.mono (T := fun k => k = r) (fun _ _ h => h.elim))).setCell (p := ⟨r, 1, none⟩) (.inl rfl) (.slice A7 (nw.length + 1) c7))
            exact wp_of_eq rfl (rlend_t9 B r bl n (nw.length + 1) _ al A7 A2 c7 c2 f t u w _ GZ (Lib.hid (GN.out.old (by omega))) (Lib.hid (GA.out.old (by omega))) GX GF HB HBr hl2 R (Lib.hid fun w' A5 c5 k1 k2 k3 k4 k5 => HYes.out w' A7 c7 A5 c5 (own_cap HO.out) k1 k2 (by rw [List.flatMap_append, List.flatMap_append]; exact k3) k4 k5) _ _ _ _ _ _ _ _ _ _ _ _ _ _ _ _ _ _ _ _ _ _ _ _ _ _ _ _ _ _ _ _ _ _ _ _ _ _ _ _ _ _ _ _ _ _ _ _ _ _ _ _ _ _ _ _ _ _ _ _ _ _ _ _ _ _ _ _ _ _ _ _ _ _ _ _ _ _ _ _ _ _ _ _ _ _ _ _ _ _ _ _ _ _ _ _ _ _ _ _ _ _ )
          exact AllReadyH.nil
        exact AllReadyH.nil
      exact AllReadyH.nil
    refine AllReadyH.cons (o := { dst := some 81, op := Go.Op.buildSlice 37 1 #[(0, Go.Operand.tmp 80)], type := 37, pos := "ref.go:131", after := #[{ on := 9, ground := Go.Ground.data }], guard := none }) rfl (fun K hK => ?_) ?_
    · skip
      go_simp
      have HL := Lib.hid (Reads.newS wx [.int .i64 f, .int .i64 t, .int .i64 u] 42 (0, 0) 1 3 rfl _ rfl)
      try have HO := Lib.hid (HO.out.alloc (.cells #[.int .i64 f, .int .i64 t, .int .i64 u] 42))
      have HR := Lib.hid (HR.out.alloc (.cells #[.int .i64 f, .int .i64 t, .int .i64 u] 42))
      have HsB := Lib.hid (show (wx.alloc (.cells #[.int .i64 f, .int .i64 t, .int .i64 u] 42)).heap.size = wx.heap.size + 1 by simp)
      obtain ⟨wz, hwz⟩ : ∃ wz, wz = wx.alloc (.cells #[.int .i64 f, .int .i64 t, .int .i64 u] 42) := ⟨_, rfl⟩
      rw [← hwz] at HR HsB ⊢
      try rw [← hwz] at HO
      try rw [← hwz] at HL
      clear hwz
      obtain ⟨wx, hwx⟩ : ∃ wx, wx = wz := ⟨_, rfl⟩
      rw [← hwx] at HR HsB ⊢
      try rw [← hwx] at HO
      try rw [← hwx] at HL
      clear hwx
      refine hK.out _ _ ?_ (fun hHeld => ?_)
      · exact HR.out
      clear hK K
      try simp only [Act.put, List.setIfInBounds_toArray, List.set_cons_zero, List.set_cons_succ]
      refine wpAnyH_ready (rs := [8]) (by kernel_rfl) (by simp) ?_
      refine AllReadyH.cons (o := { dst := some 79, op := Go.Op.call { callee := Go.Callee.builtin Go.Builtin.append, args := #[Go.Operand.tmp 72, Go.Operand.tmp 78], argTypes := #[37, 37] }, type := 37, pos := "ref.go:131", after := #[{ on := 1, ground := Go.Ground.data }, { on := 7, ground := Go.Ground.data }], guard := none }) rfl (fun K hK => ?_) ?_
      · skip
        refine step_append_any _ (by rfl) (.tmp 72) (.tmp 78) _ (by rfl) W4.heap.size 42 _ 3 24 Try.underlying37 info42 rfl (by omega) _ _ _ (by rfl) HO.out _ A1 k c1 ((nw.take k).flatMap lnL) (by rfl) (HT4.out.fr HR.out (fun _ _ => id)) (lns_one _) (by simp only [maxLen]; omega) (by omega) HR.out.size ?_
        intro A7 c7 wz hown7 hgr7 hat7
        try rw [Nat.zero_add] at hown7 ⊢
        try rw [List.nil_append] at hown7
        skip
        have hFr7 := fun (j : Nat) hj => (HO.out.lt j hj).1
        have HR := Lib.hid (HR.out.grown hgr7 (fun j hj => .inr (hFr7 j hj)))
        try have HL := Lib.hid (HL.out.grown hgr7 (fun j hj => by have qa := HsA.out; have qb := HsB.out; subst hj; simp [Value.ownBlock]; omega))
        clear HO hFr7
        have HO := Lib.hid hown7
        obtain ⟨wx, hwx⟩ : ∃ wx, wx = wz := ⟨_, rfl⟩
        rw [← hwx] at HR HO ⊢
        try rw [← hwx] at HL
        clear hown7 hgr7 hat7 hwx
        refine hK.out _ _ ?_ (fun hHeld => ?_)
        · exact HR.out
        clear hK K
        try simp only [Act.put, List.setIfInBounds_toArray, List.set_cons_zero, List.set_cons_succ]
        refine wpAnyH_ready (rs := [11]) (by kernel_rfl) (by simp) ?_
        refine AllReadyH.cons (o := { dst := some 82, op := Go.Op.call { callee := Go.Callee.builtin Go.Builtin.append, args := #[Go.Operand.tmp 79, Go.Operand.tmp 81], argTypes := #[37, 37] }, type := 37, pos := "ref.go:131", after := #[{ on := 8, ground := Go.Ground.data }, { on := 10, ground := Go.Ground.data }, { on := 8, ground := Go.Ground.chain }], guard := none }) rfl (fun K hK => ?_) ?_
        · skip
          refine step_append_any _ (by rfl) (.tmp 79) (.tmp 81) _ (by rfl) W4.heap.size 42 _ 3 24 Try.underlying37 info42 rfl (by omega) _ _ _ (by rfl) HO.out _ _ _ _ _ (by rfl) HL.out (by simp [Value.oneCell']) (by simp only [maxLen]; omega) (by omega) HR.out.size ?_
          intro A7 c7 wz hown7 hgr7 hat7
          try rw [Nat.zero_add] at hown7 ⊢
          try rw [List.nil_append] at hown7
          skip
          have hFr7 := fun (j : Nat) hj => (HO.out.lt j hj).1
          have HR := Lib.hid (HR.out.grown hgr7 (fun j hj => .inr (hFr7 j hj)))
          clear HL
          clear HO hFr7
          have HO := Lib.hid hown7
          obtain ⟨wx, hwx⟩ : ∃ wx, wx = wz := ⟨_, rfl⟩
          rw [← hwx] at HR HO ⊢
          try rw [← hwx] at HL
          clear hown7 hgr7 hat7 hwx
          refine hK.out _ _ ?_ (fun hHeld => ?_)
          · exact HR.out
          clear hK K
          try simp only [Act.put, List.setIfInBounds_toArray, List.set_cons_zero, List.set_cons_succ]
          refine wpAnyH_ready (rs := [18]) (by kernel_rfl) (by simp) ?_
          refine AllReadyH.cons (o := { dst := some 89, op := Go.Op.call { callee := Go.Callee.builtin Go.Builtin.append, args := #[Go.Operand.tmp 82, Go.Operand.tmp 88], argTypes := #[37, 37] }, type := 37, pos := "ref.go:131", after := #[{ on := 11, ground := Go.Ground.data }, { on := 17, ground := Go.Ground.data }, { on := 11, ground := Go.Ground.chain }], guard := none }) rfl (fun K hK => ?_) ?_
          · skip
            refine step_append_any _ (by rfl) (.tmp 82) (.tmp 88) _ (by rfl) W4.heap.size 42 _ 3 24 Try.underlying37 info42 rfl (by omega) _ _ _ (by rfl) HO.out _ (cutG A1 c1 k 3) (nw.length - k) (c1 - k) ((nw.drop k).flatMap lnL) (by rfl) (HD4.out.fr HR.out (fun _ _ => id)) (lns_one _) (by simp only [maxLen]; omega) (by omega) HR.out.size ?_
            intro A7 c7 wz hown7 hgr7 hat7
            try rw [Nat.zero_add] at hown7 ⊢
            try rw [List.nil_append] at hown7
            rw [show k + 1 + (nw.length - k) = nw.length + 1 by omega] at hown7 ⊢
            have hFr7 := fun (j : Nat) hj => (HO.out.lt j hj).1
            have HR := Lib.hid (HR.out.grown hgr7 (fun j hj => .inr (hFr7 j hj)))
            skip
            clear HO hFr7
            have HO := Lib.hid hown7
            obtain ⟨wx, hwx⟩ : ∃ wx, wx = wz := ⟨_, rfl⟩
            rw [← hwx] at HR HO ⊢
            try rw [← hwx] at HL
            clear hown7 hgr7 hat7 hwx
            refine hK.out _ _ ?_ (fun hHeld => ?_)
            · exact HR.out
            clear hK K
            try simp only [Act.put, List.setIfInBounds_toArray, List.set_cons_zero, List.set_cons_succ]
            refine wpAnyH_take (i := 19) (oi := { dst := some 90, op := Go.Op.nilCheck (Go.Operand.tmp 71), type := 0, pos := "ref.go:131", after := #[{ on := 0, ground := Go.Ground.data }, { on := 0, ground := Go.Ground.phase }, { on := 1, ground := Go.Ground.phase }, { on := 2, ground := Go.Ground.phase }, { on := 3, ground := Go.Ground.phase }, { on := 4, ground := Go.Ground.phase }, { on := 5, ground := Go.Ground.phase }, { on := 6, ground := Go.Ground.phase }, { on := 7, ground := Go.Ground.phase }, { on := 8, ground := Go.Ground.phase }, { on := 9, ground := Go.Ground.phase }, { on := 10, ground := Go.Ground.phase }, { on := 11, ground := Go.Ground.phase }, { on := 12, ground := Go.Ground.phase }, { on := 13, ground := Go.Ground.phase }, { on := 14, ground := Go.Ground.phase }, { on := 15, ground := Go.Ground.phase }, { on := 16, ground := Go.Ground.phase }, { on := 17, ground := Go.Ground.phase }, { on := 18, ground := Go.Ground.phase }], guard := none }) (v := ?v16) rfl (by kernel_rfl) (by kernel_rfl) (by kernel_rfl) (fun _ _ _ h => h) (Or.inl ⟨by rfl, ?hy16⟩) hHeld ?rest16
            case hy16 =>
              intro w0 hSw
              obtain ⟨-, hS1, -⟩ := (HRb4.out.fr hSw id).facts
              obtain ⟨-, hS2, -⟩ := (Hx4.out.fr hSw id).facts
              go_simp
              try with_reducible rfl
            try simp only [Act.put, List.setIfInBounds_toArray, List.set_cons_zero, List.set_cons_succ]
            refine wpAnyH_take (i := 20) (oi := { dst := some 91, op := Go.Op.fieldAddr 39 (Go.Operand.tmp 90) 1, type := 0, pos := "ref.go:131", after := #[{ on := 19, ground := Go.Ground.data }, { on := 0, ground := Go.Ground.phase }, { on := 1, ground := Go.Ground.phase }, { on := 2, ground := Go.Ground.phase }, { on := 3, ground := Go.Ground.phase }, { on := 4, ground := Go.Ground.phase }, { on := 5, ground := Go.Ground.phase }, { on := 6, ground := Go.Ground.phase }, { on := 7, ground := Go.Ground.phase }, { on := 8, ground := Go.Ground.phase }, { on := 9, ground := Go.Ground.phase }, { on := 10, ground := Go.Ground.phase }, { on := 11, ground := Go.Ground.phase }, { on := 12, ground := Go.Ground.phase }, { on := 13, ground := Go.Ground.phase }, { on := 14, ground := Go.Ground.phase }, { on := 15, ground := Go.Ground.phase }, { on := 16, ground := Go.Ground.phase }, { on := 17, ground := Go.Ground.phase }, { on := 18, ground := Go.Ground.phase }], guard := none }) (v := ?v17) rfl (by kernel_rfl) (by kernel_rfl) (by kernel_rfl) (fun _ _ _ h => h) (Or.inl ⟨by rfl, ?hy17⟩) hHeld ?rest17
            case hy17 =>
              intro w0 hSw
              obtain ⟨-, hS1, -⟩ := (HRb4.out.fr hSw id).facts
              obtain ⟨-, hS2, -⟩ := (Hx4.out.fr hSw id).facts
              go_simp
              try with_reducible rfl
            try simp only [Act.put, List.setIfInBounds_toArray, List.set_cons_zero, List.set_cons_succ]
            refine wpAnyH_done (by kernel_rfl) ?_ _
            have hZ := HRb4.out.fr HR.out id
            obtain ⟨y0, y1, y2⟩ := hZ.facts
            have HZ := Lib.hid hZ
            clear hZ
            refine last_do ({ dst := none, op := Go.Op.store 37 (Go.Operand.tmp 91) (Go.Operand.tmp 89), type := 0, pos := "ref.go:131", after := #[{ on := 20, ground := Go.Ground.data }, { on := 18, ground := Go.Ground.data }, { on := 18, ground := Go.Ground.chain }, { on := 0, ground := Go.Ground.phase }, { on := 1, ground := Go.Ground.phase }, { on := 2, ground := Go.Ground.phase }, { on := 3, ground := Go.Ground.phase }, { on := 4, ground := Go.Ground.phase }, { on := 5, ground := Go.Ground.phase }, { on := 6, ground := Go.Ground.phase }, { on := 7, ground := Go.Ground.phase }, { on := 8, ground := Go.Ground.phase }, { on := 9, ground := Go.Ground.phase }, { on := 10, ground := Go.Ground.phase }, { on := 11, ground := Go.Ground.phase }, { on := 12, ground := Go.Ground.phase }, { on := 13, ground := Go.Ground.phase }, { on := 14, ground := Go.Ground.phase }, { on := 15, ground := Go.Ground.phase }, { on := 16, ground := Go.Ground.phase }, { on := 17, ground := Go.Ground.phase }, { on := 18, ground := Go.Ground.phase }], guard := none }) rfl (fun K hK => ?_)
            have HK := Lib.hid hK
            clear hK
            go_simp
            refine HK.out _ _ ?_
            refine HKK.out _ _ ?_
            clear HK HKK y0 y1 y2
            have hrB := HBr.out
            have GZ := Lib.hid (show Blk (wx.setCell ⟨r, 1, none⟩ (.slice A7 (nw.length + 1) c7)) r 39 #[.int .i64 (n : Int), .slice A7 (nw.length + 1) c7, .slice A2 al.length c2] by simpa using HZ.out.set_ 1 (.slice A7 (nw.length + 1) c7))
            have GN := Lib.hid (((Reads.of_own HO.out).more (B' := B) (fun j hj => HB.out j (Nat.le_trans HF4.out.size (HO.out.lt j hj).1))).setCell (p := ⟨r, 1, none⟩) hrB (.slice A7 (nw.length + 1) c7))
            have GA := Lib.hid (((HA4.out.fr HR.out (fun _ _ => id)).more (B' := B) (fun j hj => hj.1)).setCell (p := ⟨r, 1, none⟩) hrB (.slice A7 (nw.length + 1) c7))
            have GX := Lib.hid ((Hx4.out.fr HR.out id).far (p := ⟨r, 1, none⟩) hblr (.slice A7 (nw.length + 1) c7))
            have GF := Lib.hid ((HF4.out.trans (HR.out.mono (T := fun k => k = r) (fun _ _ h => h.elim))).setCell (p := ⟨r, 1, none⟩) (.inl rfl) (.slice A7 (nw.length + 1) c7))
            exact wp_of_eq rfl (rlend_t9 B r bl n (nw.length + 1) _ al A7 A2 c7 c2 f t u w _ GZ (Lib.hid (GN.out.old (by omega))) (Lib.hid (GA.out.old (by omega))) GX GF HB HBr hl2 R (Lib.hid fun w' A5 c5 k1 k2 k3 k4 k5 => HYes.out w' A7 c7 A5 c5 (own_cap HO.out) k1 k2 (by rw [List.flatMap_append, List.flatMap_append]; exact k3) k4 k5) _ _ _ _ _ _ _ _ _ _ _ _ _ _ _ _ _ _ _ _ _ _ _ _ _ _ _ _ _ _ _ _ _ _ _ _ _ _ _ _ _ _ _ _ _ _ _ _ _ _ _ _ _ _ _ _ _ _ _ _ _ _ _ _ _ _ _ _ _ _ _ _ _ _ _ _ _ _ _ _ _ _ _ _ _ _ _ _ _ _ _ _ _ _ _ _ _ _ _ _ _ _ )
          exact AllReadyH.nil
        exact AllReadyH.nil
      exact AllReadyH.nil
    exact AllReadyH.nil
  refine AllReadyH.cons (o := { dst := some 81, op := Go.Op.buildSlice 37 1 #[(0, Go.Operand.tmp 80)], type := 37, pos := "ref.go:131", after := #[{ on := 9, ground := Go.Ground.data }], guard := none }) rfl (fun K hK => ?_) ?_
  · skip
    go_simp
    have HL := Lib.hid (Reads.newS wx [.int .i64 f, .int .i64 t, .int .i64 u] 42 (0, 0) 1 3 rfl _ rfl)
    try have HO := Lib.hid (HO.out.alloc (.cells #[.int .i64 f, .int .i64 t, .int .i64 u] 42))
    have HR := Lib.hid (HR.out.alloc (.cells #[.int .i64 f, .int .i64 t, .int .i64 u] 42))
    have HsB := Lib.hid (show (wx.alloc (.cells #[.int .i64 f, .int .i64 t, .int .i64 u] 42)).heap.size = wx.heap.size + 1 by simp)
    obtain ⟨wz, hwz⟩ : ∃ wz, wz = wx.alloc (.cells #[.int .i64 f, .int .i64 t, .int .i64 u] 42) := ⟨_, rfl⟩
    rw [← hwz] at HR HsB ⊢
    try rw [← hwz] at HO
    try rw [← hwz] at HL
    clear hwz
    obtain ⟨wx, hwx⟩ : ∃ wx, wx = wz := ⟨_, rfl⟩
    rw [← hwx] at HR HsB ⊢
    try rw [← hwx] at HO
    try rw [← hwx] at HL
    clear hwx
    refine hK.out _ _ ?_ (fun hHeld => ?_)
    · exact HR.out
    clear hK K
    try simp only [Act.put, List.setIfInBounds_toArray, List.set_cons_zero, List.set_cons_succ]
    refine wpAnyH_ready (rs := [1]) (by kernel_rfl) (by simp) ?_
    refine AllReadyH.cons (o := { dst := some 72, op := Go.Op.buildSlice 37 0 #[], type := 37, pos := "ref.go:131", after := #[], guard := none }) rfl (fun K hK => ?_) ?_
    · skip
      go_simp
      have HO := Lib.hid (World.ownsRow_lit (base := W4.heap.size) (e := 42) (size := 3) wx #[] 0 HR.out.size (by simp [maxLen]) (by simp))
      try have HL := Lib.hid (HL.out.alloc (.cells #[] 42))
      have HR := Lib.hid (HR.out.alloc (.cells #[] 42))
      have HsA := Lib.hid (show (wx.alloc (.cells #[] 42)).heap.size = wx.heap.size + 1 by simp)
      obtain ⟨wz, hwz⟩ : ∃ wz, wz = wx.alloc (.cells #[] 42) := ⟨_, rfl⟩
      rw [← hwz] at HR HsA ⊢
      try rw [← hwz] at HO
      try rw [← hwz] at HL
      clear hwz
      obtain ⟨wx, hwx⟩ : ∃ wx, wx = wz := ⟨_, rfl⟩
      rw [← hwx] at HR HsA ⊢
      try rw [← hwx] at HO
      try rw [← hwx] at HL
      clear hwx
      refine hK.out _ _ ?_ (fun hHeld => ?_)
      · exact HR.out
      clear hK K
      try simp only [Act.put, List.setIfInBounds_toArray, List.set_cons_zero, List.set_cons_succ]
      refine wpAnyH_ready (rs := [8]) (by kernel_rfl) (by simp) ?_
      refine AllReadyH.cons (o := { dst := some 79, op := Go.Op.call { callee := Go.Callee.builtin Go.Builtin.append, args := #[Go.Operand.tmp 72, Go.Operand.tmp 78], argTypes := #[37, 37] }, type := 37, pos := "ref.go:131", after := #[{ on := 1, ground := Go.Ground.data }, { on := 7, ground := Go.Ground.data }], guard := none }) rfl (fun K hK => ?_) ?_
      · skip
        refine step_append_any _ (by rfl) (.tmp 72) (.tmp 78) _ (by rfl) W4.heap.size 42 _ 3 24 Try.underlying37 info42 rfl (by omega) _ _ _ (by rfl) HO.out _ A1 k c1 ((nw.take k).flatMap lnL) (by rfl) (HT4.out.fr HR.out (fun _ _ => id)) (lns_one _) (by simp only [maxLen]; omega) (by omega) HR.out.size ?_
        intro A7 c7 wz hown7 hgr7 hat7
        try rw [Nat.zero_add] at hown7 ⊢
        try rw [List.nil_append] at hown7
        skip
        have hFr7 := fun (j : Nat) hj => (HO.out.lt j hj).1
        have HR := Lib.hid (HR.out.grown hgr7 (fun j hj => .inr (hFr7 j hj)))
        try have HL := Lib.hid (HL.out.grown hgr7 (fun j hj => by have qa := HsA.out; have qb := HsB.out; subst hj; simp [Value.ownBlock]; omega))
        clear HO hFr7
        have HO := Lib.hid hown7
        obtain ⟨wx, hwx⟩ : ∃ wx, wx = wz := ⟨_, rfl⟩
        rw [← hwx] at HR HO ⊢
        try rw [← hwx] at HL
        clear hown7 hgr7 hat7 hwx
        refine hK.out _ _ ?_ (fun hHeld => ?_)
        · exact HR.out
        clear hK K
        try simp only [Act.put, List.setIfInBounds_toArray, List.set_cons_zero, List.set_cons_succ]
        refine wpAnyH_ready (rs := [11]) (by kernel_rfl) (by simp) ?_
        refine AllReadyH.cons (o := { dst := some 82, op := Go.Op.call { callee := Go.Callee.builtin Go.Builtin.append, args := #[Go.Operand.tmp 79, Go.Operand.tmp 81], argTypes := #[37, 37] }, type := 37, pos := "ref.go:131", after := #[{ on := 8, ground := Go.Ground.data }, { on := 10, ground := Go.Ground.data }, { on := 8, ground := Go.Ground.chain }], guard := none }) rfl (fun K hK => ?_) ?_
        · skip
          refine step_append_any _ (by rfl) (.tmp 79) (.tmp 81) _ (by rfl) W4.heap.size 42 _ 3 24 Try.underlying37 info42 rfl (by omega) _ _ _ (by rfl) HO.out _ _ _ _ _ (by rfl) HL.out (by simp [Value.oneCell']) (by simp only [maxLen]; omega) (by omega) HR.out.size ?_
          intro A7 c7 wz hown7 hgr7 hat7
          try rw [Nat.zero_add] at hown7 ⊢
          try rw [List.nil_append] at hown7
          skip
          have hFr7 := fun (j : Nat) hj => (HO.out.lt j hj).1
          have HR := Lib.hid (HR.out.grown hgr7 (fun j hj => .inr (hFr7 j hj)))
          clear HL
          clear HO hFr7
          have HO := Lib.hid hown7
          obtain ⟨wx, hwx⟩ : ∃ wx, wx = wz := ⟨_, rfl⟩
          rw [← hwx] at HR HO ⊢
          try rw [← hwx] at HL
          clear hown7 hgr7 hat7 hwx
          refine hK.out _ _ ?_ (fun hHeld => ?_)
          · exact HR.out
          clear hK K
          try simp only [Act.put, List.setIfInBounds_toArray, List.set_cons_zero, List.set_cons_succ]
          refine wpAnyH_ready (rs := [18]) (by kernel_rfl) (by simp) ?_
          refine AllReadyH.cons (o := { dst := some 89, op := Go.Op.call { callee := Go.Callee.builtin Go.Builtin.append, args := #[Go.Operand.tmp 82, Go.Operand.tmp 88], argTypes := #[37, 37] }, type := 37, pos := "ref.go:131", after := #[{ on := 11, ground := Go.Ground.data }, { on := 17, ground := Go.Ground.data }, { on := 11, ground := Go.Ground.chain }], guard := none }) rfl (fun K hK => ?_) ?_
          · skip
            refine step_append_any _ (by rfl) (.tmp 82) (.tmp 88) _ (by rfl) W4.heap.size 42 _ 3 24 Try.underlying37 info42 rfl (by omega) _ _ _ (by rfl) HO.out _ (cutG A1 c1 k 3) (nw.length - k) (c1 - k) ((nw.drop k).flatMap lnL) (by rfl) (HD4.out.fr HR.out (fun _ _ => id)) (lns_one _) (by simp only [maxLen]; omega) (by omega) HR.out.size ?_
            intro A7 c7 wz hown7 hgr7 hat7
            try rw [Nat.zero_add] at hown7 ⊢
            try rw [List.nil_append] at hown7
            rw [show k + 1 + (nw.length - k) = nw.length + 1 by omega] at hown7 ⊢
            have hFr7 := fun (j : Nat) hj => (HO.out.lt j hj).1
            have HR := Lib.hid (HR.out.grown hgr7 (fun j hj => .inr (hFr7 j hj)))
            skip
            clear HO hFr7
            have HO := Lib.hid hown7
            obtain ⟨wx, hwx⟩ : ∃ wx, wx = wz := ⟨_, rfl⟩
            rw [← hwx] at HR HO ⊢
            try rw [← hwx] at HL
            clear hown7 hgr7 hat7 hwx
            refine hK.out _ _ ?_ (fun hHeld => ?_)
            · exact HR.out
            clear hK K
            try simp only [Act.put, List.setIfInBounds_toArray, List.set_cons_zero, List.set_cons_succ]
            refine wpAnyH_take (i := 19) (oi := { dst := some 90, op := Go.Op.nilCheck (Go.Operand.tmp 71), type := 0, pos := "ref.go:131", after := #[{ on := 0, ground := Go.Ground.data }, { on := 0, ground := Go.Ground.phase }, { on := 1, ground := Go.Ground.phase }, { on := 2, ground := Go.Ground.phase }, { on := 3, ground := Go.Ground.phase }, { on := 4, ground := Go.Ground.phase }, { on := 5, ground := Go.Ground.phase }, { on := 6, ground := Go.Ground.phase }, { on := 7, ground := Go.Ground.phase }, { on := 8, ground := Go.Ground.phase }, { on := 9, ground := Go.Ground.phase }, { on := 10, ground := Go.Ground.phase }, { on := 11, ground := Go.Ground.phase }, { on := 12, ground := Go.Ground.phase }, { on := 13, ground := Go.Ground.phase }, { on := 14, ground := Go.Ground.phase }, { on := 15, ground := Go.Ground.phase }, { on := 16, ground := Go.Ground.phase }, { on := 17, ground := Go.Ground.phase }, { on := 18, ground := Go.Ground.phase }], guard := none }) (v := ?v18) rfl (by kernel_rfl) (by kernel_rfl) (by kernel_rfl) (fun _ _ _ h => h) (Or.inl ⟨by rfl, ?hy18⟩) hHeld ?rest18
            case hy18 =>
              intro w0 hSw
              obtain ⟨-, hS1, -⟩ := (HRb4.out.fr hSw id).facts
              obtain ⟨-, hS2, -⟩ := (Hx4.out.fr hSw id).facts
              go_simp
              try with_reducible rfl
            try simp only [Act.put, List.setIfInBounds_toArray, List.set_cons_zero, List.set_cons_succ]
            refine wpAnyH_take (i := 20) (oi := { dst := some 91, op := Go.Op.fieldAddr 39 (Go.Operand.tmp 90) 1, type := 0, pos := "ref.go:131", after := #[{ on := 19, ground := Go.Ground.data }, { on := 0, ground := Go.Ground.phase }, { on := 1, ground := Go.Ground.phase }, { on := 2, ground := Go.Ground.phase }, { on := 3, ground := Go.Ground.phase }, { on := 4, ground := Go.Ground.phase }, { on := 5, ground := Go.Ground.phase }, { on := 6, ground := Go.Ground.phase }, { on := 7, ground := Go.Ground.phase }, { on := 8, ground := Go.Ground.phase }, { on := 9, ground := Go.Ground.phase }, { on := 10, ground := Go.Ground.phase }, { on := 11, ground := Go.Ground.phase }, { on := 12, ground := Go.Ground.phase }, { on := 13, ground := Go.Ground.phase }, { on := 14, ground := Go.Ground.phase }, { on := 15, ground := Go.Ground.phase }, { on := 16, ground := Go.Ground.phase }, { on := 17, ground := Go.Ground.phase }, { on := 18, ground := Go.Ground.phase }], guard := none }) (v := ?v19) rfl (by kernel_rfl) (by kernel_rfl) (by kernel_rfl) (fun _ _ _ h => h) (Or.inl ⟨by rfl, ?hy19⟩) hHeld ?rest19
            case hy19 =>
              intro w0 hSw
              obtain ⟨-, hS1, -⟩ := (HRb4.out.fr hSw id).facts
              obtain ⟨-, hS2, -⟩ := (Hx4.out.fr hSw id).facts
              go_simp
              try with_reducible rfl
            try simp only [Act.put, List.setIfInBounds_toArray, List.set_cons_zero, List.set_cons_succ]
            refine wpAnyH_done (by kernel_rfl) ?_ _
            have hZ := HRb4.out.fr HR.out id
            obtain ⟨y0, y1, y2⟩ := hZ.facts
            have HZ := Lib.hid hZ
            clear hZ
            refine last_do ({ dst := none, op := Go.Op.store 37 (Go.Operand.tmp 91) (Go.Operand.tmp 89), type := 0, pos := "ref.go:131", after := #[{ on := 20, ground := Go.Ground.data }, { on := 18, ground := Go.Ground.data }, { on := 18, ground := Go.Ground.chain }, { on := 0, ground := Go.Ground.phase }, { on := 1, ground := Go.Ground.phase }, { on := 2, ground := Go.Ground.phase }, { on := 3, ground := Go.Ground.phase }, { on := 4, ground := Go.Ground.phase }, { on := 5, ground := Go.Ground.phase }, { on := 6, ground := Go.Ground.phase }, { on := 7, ground := Go.Ground.phase }, { on := 8, ground := Go.Ground.phase }, { on := 9, ground := Go.Ground.phase }, { on := 10, ground := Go.Ground.phase }, { on := 11, ground := Go.Ground.phase }, { on := 12, ground := Go.Ground.phase }, { on := 13, ground := Go.Ground.phase }, { on := 14, ground := Go.Ground.phase }, { on := 15, ground := Go.Ground.phase }, { on := 16, ground := Go.Ground.phase }, { on := 17, ground := Go.Ground.phase }, { on := 18, ground := Go.Ground.phase }], guard := none }) rfl (fun K hK => ?_)
            have HK := Lib.hid hK
            clear hK
            go_simp
            refine HK.out _ _ ?_
            refine HKK.out _ _ ?_
            clear HK HKK y0 y1 y2
            have hrB := HBr.out
            have GZ := Lib.hid (show Blk (wx.setCell ⟨r, 1, none⟩ (.slice A7 (nw.length + 1) c7)) r 39 #[.int .i64 (n : Int), .slice A7 (nw.length + 1) c7, .slice A2 al.length c2] by simpa using HZ.out.set_ 1 (.slice A7 (nw.length + 1) c7))
            have GN := Lib.hid (((Reads.of_own HO.out).more (B' := B) (fun j hj => HB.out j (Nat.le_trans HF4.out.size (HO.out.lt j hj).1))).setCell (p := ⟨r, 1, none⟩) hrB (.slice A7 (nw.length + 1) c7))
            have GA := Lib.hid (((HA4.out.fr HR.out (fun _ _ => id)).more (B' := B) (fun j hj => hj.1)).setCell (p := ⟨r, 1, none⟩) hrB (.slice A7 (nw.length + 1) c7))
            have GX := Lib.hid ((Hx4.out.fr HR.out id).far (p := ⟨r, 1, none⟩) hblr (.slice A7 (nw.length + 1) c7))
            have GF := Lib.hid ((HF4.out.trans (HR.out.mono (T := fun k => k = r) (fun _ _ h => h.elim))).setCell (p := ⟨r, 1, none⟩) (.inl rfl) (.slice A7 (nw.length + 1) c7))
            exact wp_of_eq rfl (rlend_t9 B r bl n (nw.length + 1) _ al A7 A2 c7 c2 f t u w _ GZ (Lib.hid (GN.out.old (by omega))) (Lib.hid (GA.out.old (by omega))) GX GF HB HBr hl2 R (Lib.hid fun w' A5 c5 k1 k2 k3 k4 k5 => HYes.out w' A7 c7 A5 c5 (own_cap HO.out) k1 k2 (by rw [List.flatMap_append, List.flatMap_append]; exact k3) k4 k5) _ _ _ _ _ _ _ _ _ _ _ _ _ _ _ _ _ _ _ _ _ _ _ _ _ _ _ _ _ _ _ _ _ _ _ _ _ _ _ _ _ _ _ _ _ _ _ _ _ _ _ _ _ _ _ _ _ _ _ _ _ _ _ _ _ _ _ _ _ _ _ _ _ _ _ _ _ _ _ _ _ _ _ _ _ _ _ _ _ _ _ _ _ _ _ _ _ _ _ _ _ _ )
          exact AllReadyH.nil
        exact AllReadyH.nil
      exact AllReadyH.nil
    exact AllReadyH.nil
  exact AllReadyH.nil

end Go.Proofs.Ytnmmiiajcjcccaa

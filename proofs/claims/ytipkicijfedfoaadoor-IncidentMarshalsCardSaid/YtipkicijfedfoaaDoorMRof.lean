import Derived.Test.YtipkicijfedfoaaDoorMAdd
import Derived.Deep.RegionHeld
namespace Go.Proofs.YtipkicijfedfoaaDoor
set_option linter.unusedVariables false
set_option linter.unusedSimpArgs false
open Go.RowKit Go.Own Go.Quo Go.Inc
set_option maxRecDepth 10000 in
set_option maxHeartbeats 8000000 in
theorem of13 (B : Nat → Prop) (id call inc urg dist since : Int) (code : ByteArray) (A : Option Addr) (c : Nat) (nodes : List Int) (closed : Bool) (w : World) (hs : code.size ≤ 100000) (h : RI w B A nodes) (hl : nodes.length ≤ 100000) :
    Calls Tryd.prog 13 #[.int .i64 id, .agg #[.int .i64 call, .int .i64 inc, .int .i64 urg, .string code, .slice A nodes.length c, .int .i64 dist, .int .i64 since, .bool closed]] w
      (if (numB id 1 && crB ⟨call, inc, urg, code, nodes, dist, since, closed⟩) = true then IncPost (fromI id ⟨call, inc, urg, code, nodes, dist, since, closed⟩) 0 w else IncPost zeroIc 1 w) := by
  have H33 := Lib.hid fun W => number33 id 1 W
  have HR := Lib.hid ((h.old (by omega)).more (B' := fun k => k < w.heap.size) (fun k hk => hk.2))
  have H28 := Lib.hid fun (W : World) (hb : Below w.heap.size w W) => told28 _ call inc urg dist since code A c nodes closed W hs (HR.out.below hb (fun k hk => hk)) hl
  obtain ⟨x0, x1, x2⟩ := (Blk.new w 27 #[.int .i64 call, .int .i64 inc, .int .i64 urg, .string code, .slice A nodes.length c, .int .i64 dist, .int .i64 since, .bool closed]).facts
  have HB0 := Lib.hid (((Below.refl w.heap.size w).alloc (Nat.le_refl _) (.cells #[.int .i64 call, .int .i64 inc, .int .i64 urg, .string code, .slice A nodes.length c, .int .i64 dist, .int .i64 since, .bool closed] 27)).alloc (by simp) (.cells #[.int .i64 0, .int .i64 0, .string ⟨#[]⟩, .slice none 0 0, .int .i64 0, .int .i64 0, .slice none 0 0, .slice none 0 0, .int .i64 0, .bool false] 25))
  have HX := Lib.hid ((Blk.new w 27 #[.int .i64 call, .int .i64 inc, .int .i64 urg, .string code, .slice A nodes.length c, .int .i64 dist, .int .i64 since, .bool closed]).alloc (.cells #[.int .i64 0, .int .i64 0, .string ⟨#[]⟩, .slice none 0 0, .int .i64 0, .int .i64 0, .slice none 0 0, .slice none 0 0, .int .i64 0, .bool false] 25))
  have HY := Lib.hid (show Blk ((w.alloc (.cells #[.int .i64 call, .int .i64 inc, .int .i64 urg, .string code, .slice A nodes.length c, .int .i64 dist, .int .i64 since, .bool closed] 27)).alloc (.cells #[.int .i64 0, .int .i64 0, .string ⟨#[]⟩, .slice none 0 0, .int .i64 0, .int .i64 0, .slice none 0 0, .slice none 0 0, .int .i64 0, .bool false] 25)) (w.heap.size + 1) 25 #[.int .i64 0, .int .i64 0, .string ⟨#[]⟩, .slice none 0 0, .int .i64 0, .int .i64 0, .slice none 0 0, .slice none 0 0, .int .i64 0, .bool false] by
    have := Blk.new (w.alloc (.cells #[.int .i64 call, .int .i64 inc, .int .i64 urg, .string code, .slice A nodes.length c, .int .i64 dist, .int .i64 since, .bool closed] 27)) 25 #[.int .i64 0, .int .i64 0, .string ⟨#[]⟩, .slice none 0 0, .int .i64 0, .int .i64 0, .slice none 0 0, .slice none 0 0, .int .i64 0, .bool false]
    simpa using this)
  clear h
  cases h0 : numB id 1 with
  | false =>
    rw [h0] at H33
    rw [if_neg (by simp)]
    go_enter Tryd.func13, Tryd.ntmps13
    go_wp2_with (go_at_call 33; ((with_reducible refine (H33.out _).mono ?_); rintro e w2 ⟨rfl, rfl⟩))
    refine bodyPost_ret (results_ct (p := 4) (u := 5) (ty := 25) Tryd.results13 _ _ (w.heap.size + 1) 25 #[.int .i64 0, .int .i64 0, .string ⟨#[]⟩, .slice none 0 0, .int .i64 0, .int .i64 0, .slice none 0 0, .slice none 0 0, .int .i64 0, .bool false] (0, 0) _ rfl HY.out Tryd.underlying25 rfl size25) rfl ?_
    exact ⟨none, none, none, 0, 0, 0, rfl, World.ownsRow_nil _ _ _ _, World.ownsRow_nil _ _ _ _, World.ownsRow_nil _ _ _ _, HB0.out⟩
  | true =>
    rw [h0] at H33
    cases h1 : crB ⟨call, inc, urg, code, nodes, dist, since, closed⟩ with
    | false =>
      rw [h1] at H28
      rw [if_neg (by simp)]
      go_enter Tryd.func13, Tryd.ntmps13
      go_wp2_with (first | (go_at_call 33; ((with_reducible refine (H33.out _).mono ?_); rintro e w2 ⟨rfl, rfl⟩)) | (go_at_call 28; ((with_reducible refine (H28.out _ HB0.out).mono ?_); rintro e w2 ⟨rfl, hb2⟩; have HY2 := Lib.hid (HY.out.below hb2 HY.out.lt); have HB2 := Lib.hid (HB0.out.trans (hb2.mono HB0.out.size)))) | (refine wpList_storeBlk rfl (.tmp 4) (.tmp 14) 25 rfl (w.heap.size + 1) 25 _ #[.int .i64 0, .int .i64 0, .string ⟨#[]⟩, .slice none 0 0, .int .i64 0, .int .i64 0, .slice none 0 0, .slice none 0 0, .int .i64 0, .bool false] _ 10 136 info25 rfl rfl rfl HY2.out rfl (ten_one (by simp [Value.oneCell'])) ?_; intro w8 hb8 hf8 hs8))
      refine bodyPost_ret (results_ct (p := 4) (u := 5) (ty := 25) Tryd.results13 _ _ (w.heap.size + 1) 25 #[.int .i64 0, .int .i64 0, .string ⟨#[]⟩, .slice none 0 0, .int .i64 0, .int .i64 0, .slice none 0 0, .slice none 0 0, .int .i64 0, .bool false] (0, 0) _ rfl hb8 Tryd.underlying25 rfl size25) rfl ?_
      exact ⟨none, none, none, 0, 0, 0, rfl, World.ownsRow_nil _ _ _ _, World.ownsRow_nil _ _ _ _, World.ownsRow_nil _ _ _ _, HB2.out.trans (hf8.below HB2.out.size (fun k hk e => by omega))⟩
    | true =>
      rw [h1] at H28
      rw [if_pos (by simp)]
      go_enter Tryd.func13, Tryd.ntmps13
      go_upto_region 3 with (first | (go_at_call 33; ((with_reducible refine (H33.out _).mono ?_); rintro e w2 ⟨rfl, rfl⟩)) | (go_at_call 28; ((with_reducible refine (H28.out _ HB0.out).mono ?_); rintro e w2 ⟨rfl, hb2⟩; have HY := Lib.hid (HY.out.below hb2 HY.out.lt); have HX := Lib.hid (HX.out.below hb2 HX.out.lt); have HB2 := Lib.hid (HB0.out.trans (hb2.mono HB0.out.size)); clear hb2 x0 x1 x2; obtain ⟨x0, x1, x2⟩ := HX.out.facts)))
      have HA := Lib.hid (HR.out.below HB2.out (fun k hk => hk))
      clear HR H28 H33 x0 x1 x2
      obtain ⟨W4, hW4⟩ : ∃ W4, W4 = w2 := ⟨_, rfl⟩
      rw [← hW4] at HX HY HB2 HA ⊢
      clear hW4
      go_cut [5] (fun v wx => ∃ A3 c3 gl, v = .int .i64 0 ∧ Blk wx (w.heap.size + 1) 25 #[.int .i64 id, .int .i64 urg, .string code, .slice A3 nodes.length c3, .int .i64 dist, .int .i64 since, .slice (some ⟨gl, 0, none⟩) 1 1, .slice none 0 0, .int .i64 0, .bool false] ∧ wx.ownsRow W4.heap.size 3 1 (.slice A3 nodes.length c3) nodes.length (nodes.map (Value.int .i64)) ∧ wx.ownsRow W4.heap.size 2 1 (.slice (some ⟨gl, 0, none⟩) 1 1) 1 [.int .i64 call] ∧ Fr (fun k => k = w.heap.size + 1) W4 wx)
      case first =>
        refine wp_region_last (S := fun w' => Fr (fun k => k = w.heap.size + 1) W4 w') #[{ dst := some 15, op := Go.Op.move (Go.Operand.tmp 0), type := 2, pos := "ref.go:67", after := #[], guard := none }, { dst := some 16, op := Go.Op.fieldAddr 27 (Go.Operand.tmp 3) 2, type := 0, pos := "ref.go:67", after := #[], guard := none }, { dst := some 17, op := Go.Op.load 3 (Go.Operand.tmp 16), type := 3, pos := "ref.go:67", after := #[{ on := 1, ground := Go.Ground.data }], guard := none }, { dst := some 18, op := Go.Op.fieldAddr 27 (Go.Operand.tmp 3) 3, type := 0, pos := "ref.go:67", after := #[], guard := none }, { dst := some 19, op := Go.Op.load 9 (Go.Operand.tmp 18), type := 9, pos := "ref.go:67", after := #[{ on := 3, ground := Go.Ground.data }], guard := none }, { dst := some 20, op := Go.Op.buildSlice 22 0 #[], type := 22, pos := "ref.go:67", after := #[], guard := none }, { dst := some 21, op := Go.Op.fieldAddr 27 (Go.Operand.tmp 3) 4, type := 0, pos := "ref.go:67", after := #[], guard := none }, { dst := some 22, op := Go.Op.load 22 (Go.Operand.tmp 21), type := 22, pos := "ref.go:67", after := #[{ on := 6, ground := Go.Ground.data }], guard := none }, { dst := some 23, op := Go.Op.call { callee := Go.Callee.builtin Go.Builtin.append, args := #[Go.Operand.tmp 20, Go.Operand.tmp 22], argTypes := #[22, 22] }, type := 22, pos := "ref.go:67", after := #[{ on := 5, ground := Go.Ground.data }, { on := 7, ground := Go.Ground.data }], guard := none }, { dst := some 24, op := Go.Op.fieldAddr 27 (Go.Operand.tmp 3) 5, type := 0, pos := "ref.go:67", after := #[], guard := none }, { dst := some 25, op := Go.Op.load 3 (Go.Operand.tmp 24), type := 3, pos := "ref.go:67", after := #[{ on := 9, ground := Go.Ground.data }], guard := none }, { dst := some 26, op := Go.Op.fieldAddr 27 (Go.Operand.tmp 3) 6, type := 0, pos := "ref.go:67", after := #[], guard := none }, { dst := some 27, op := Go.Op.load 2 (Go.Operand.tmp 26), type := 2, pos := "ref.go:67", after := #[{ on := 11, ground := Go.Ground.data }], guard := none }, { dst := some 28, op := Go.Op.fieldAddr 27 (Go.Operand.tmp 3) 0, type := 0, pos := "ref.go:67", after := #[], guard := none }, { dst := some 29, op := Go.Op.load 2 (Go.Operand.tmp 28), type := 2, pos := "ref.go:67", after := #[{ on := 13, ground := Go.Ground.data }], guard := none }, { dst := some 30, op := Go.Op.buildSlice 23 1 #[(0, Go.Operand.tmp 29)], type := 23, pos := "ref.go:67", after := #[{ on := 14, ground := Go.Ground.data }], guard := none }, { dst := some 31, op := Go.Op.build 25 #[(0, Go.Operand.tmp 15), (1, Go.Operand.tmp 17), (2, Go.Operand.tmp 19), (3, Go.Operand.tmp 23), (4, Go.Operand.tmp 25), (5, Go.Operand.tmp 27), (6, Go.Operand.tmp 30)], type := 25, pos := "ref.go:67", after := #[{ on := 0, ground := Go.Ground.data }, { on := 2, ground := Go.Ground.data }, { on := 4, ground := Go.Ground.data }, { on := 8, ground := Go.Ground.data }, { on := 10, ground := Go.Ground.data }, { on := 12, ground := Go.Ground.data }, { on := 15, ground := Go.Ground.data }], guard := none }, { dst := none, op := Go.Op.store 25 (Go.Operand.tmp 4) (Go.Operand.tmp 31), type := 0, pos := "ref.go:67", after := #[{ on := 16, ground := Go.Ground.data }, { on := 8, ground := Go.Ground.chain }, { on := 0, ground := Go.Ground.phase }, { on := 1, ground := Go.Ground.phase }, { on := 2, ground := Go.Ground.phase }, { on := 3, ground := Go.Ground.phase }, { on := 4, ground := Go.Ground.phase }, { on := 5, ground := Go.Ground.phase }, { on := 6, ground := Go.Ground.phase }, { on := 7, ground := Go.Ground.phase }, { on := 8, ground := Go.Ground.phase }, { on := 9, ground := Go.Ground.phase }, { on := 10, ground := Go.Ground.phase }, { on := 11, ground := Go.Ground.phase }, { on := 12, ground := Go.Ground.phase }, { on := 13, ground := Go.Ground.phase }, { on := 14, ground := Go.Ground.phase }, { on := 15, ground := Go.Ground.phase }, { on := 16, ground := Go.Ground.phase }], guard := none }] { dst := some 5, op := Go.Op.assign (Go.Operand.const (Go.Value.int Go.IntKind.i64 0)), type := 31, pos := "ref.go:67", after := #[{ on := 17, ground := Go.Ground.chain }, { on := 0, ground := Go.Ground.phase }, { on := 1, ground := Go.Ground.phase }, { on := 2, ground := Go.Ground.phase }, { on := 3, ground := Go.Ground.phase }, { on := 4, ground := Go.Ground.phase }, { on := 5, ground := Go.Ground.phase }, { on := 6, ground := Go.Ground.phase }, { on := 7, ground := Go.Ground.phase }, { on := 8, ground := Go.Ground.phase }, { on := 9, ground := Go.Ground.phase }, { on := 10, ground := Go.Ground.phase }, { on := 11, ground := Go.Ground.phase }, { on := 12, ground := Go.Ground.phase }, { on := 13, ground := Go.Ground.phase }, { on := 14, ground := Go.Ground.phase }, { on := 15, ground := Go.Ground.phase }, { on := 16, ground := Go.Ground.phase }, { on := 17, ground := Go.Ground.phase }], guard := none } (by rfl) (by kernel_rfl) (by kernel_rfl) ?_ (fun hHeld => ?_)
        · exact (Fr.refl _ _).drew
        have HR := Lib.hid hHeld
        have HV := Lib.hid HY.out.drew
        have HYl := Lib.hid HY.out.lt
        generalize W4.drew = wx at *
        refine wpAnyH_take (i := 0) (oi := { dst := some 15, op := Go.Op.move (Go.Operand.tmp 0), type := 2, pos := "ref.go:67", after := #[], guard := none }) (v := ?v0) rfl (by kernel_rfl) (by kernel_rfl) (by kernel_rfl) (fun _ _ _ h => h) (Or.inl ⟨by rfl, ?hy0⟩) hHeld ?rest0
        case hy0 =>
          intro w0 hSw
          try obtain ⟨-, hS1, -⟩ := (HX.out.fr hSw (by omega)).facts
          go_simp
          try with_reducible rfl
        try simp only [Act.put, List.setIfInBounds_toArray, List.set_cons_zero, List.set_cons_succ]
        refine wpAnyH_take (i := 1) (oi := { dst := some 16, op := Go.Op.fieldAddr 27 (Go.Operand.tmp 3) 2, type := 0, pos := "ref.go:67", after := #[], guard := none }) (v := ?v1) rfl (by kernel_rfl) (by kernel_rfl) (by kernel_rfl) (fun _ _ _ h => h) (Or.inl ⟨by rfl, ?hy1⟩) hHeld ?rest1
        case hy1 =>
          intro w0 hSw
          try obtain ⟨-, hS1, -⟩ := (HX.out.fr hSw (by omega)).facts
          go_simp
          try with_reducible rfl
        try simp only [Act.put, List.setIfInBounds_toArray, List.set_cons_zero, List.set_cons_succ]
        refine wpAnyH_take (i := 2) (oi := { dst := some 17, op := Go.Op.load 3 (Go.Operand.tmp 16), type := 3, pos := "ref.go:67", after := #[{ on := 1, ground := Go.Ground.data }], guard := none }) (v := ?v2) rfl (by kernel_rfl) (by kernel_rfl) (by kernel_rfl) (fun _ _ _ h => h) (Or.inl ⟨by rfl, ?hy2⟩) hHeld ?rest2
        case hy2 =>
          intro w0 hSw
          try obtain ⟨-, hS1, -⟩ := (HX.out.fr hSw (by omega)).facts
          go_simp
          try with_reducible rfl
        try simp only [Act.put, List.setIfInBounds_toArray, List.set_cons_zero, List.set_cons_succ]
        refine wpAnyH_take (i := 3) (oi := { dst := some 18, op := Go.Op.fieldAddr 27 (Go.Operand.tmp 3) 3, type := 0, pos := "ref.go:67", after := #[], guard := none }) (v := ?v3) rfl (by kernel_rfl) (by kernel_rfl) (by kernel_rfl) (fun _ _ _ h => h) (Or.inl ⟨by rfl, ?hy3⟩) hHeld ?rest3
        case hy3 =>
          intro w0 hSw
          try obtain ⟨-, hS1, -⟩ := (HX.out.fr hSw (by omega)).facts
          go_simp
          try with_reducible rfl
        try simp only [Act.put, List.setIfInBounds_toArray, List.set_cons_zero, List.set_cons_succ]
        refine wpAnyH_take (i := 4) (oi := { dst := some 19, op := Go.Op.load 9 (Go.Operand.tmp 18), type := 9, pos := "ref.go:67", after := #[{ on := 3, ground := Go.Ground.data }], guard := none }) (v := ?v4) rfl (by kernel_rfl) (by kernel_rfl) (by kernel_rfl) (fun _ _ _ h => h) (Or.inl ⟨by rfl, ?hy4⟩) hHeld ?rest4
        case hy4 =>
          intro w0 hSw
          try obtain ⟨-, hS1, -⟩ := (HX.out.fr hSw (by omega)).facts
          go_simp
          try with_reducible rfl
        try simp only [Act.put, List.setIfInBounds_toArray, List.set_cons_zero, List.set_cons_succ]
        refine wpAnyH_take (i := 6) (oi := { dst := some 21, op := Go.Op.fieldAddr 27 (Go.Operand.tmp 3) 4, type := 0, pos := "ref.go:67", after := #[], guard := none }) (v := ?v5) rfl (by kernel_rfl) (by kernel_rfl) (by kernel_rfl) (fun _ _ _ h => h) (Or.inl ⟨by rfl, ?hy5⟩) hHeld ?rest5
        case hy5 =>
          intro w0 hSw
          try obtain ⟨-, hS1, -⟩ := (HX.out.fr hSw (by omega)).facts
          go_simp
          try with_reducible rfl
        try simp only [Act.put, List.setIfInBounds_toArray, List.set_cons_zero, List.set_cons_succ]
        refine wpAnyH_take (i := 7) (oi := { dst := some 22, op := Go.Op.load 22 (Go.Operand.tmp 21), type := 22, pos := "ref.go:67", after := #[{ on := 6, ground := Go.Ground.data }], guard := none }) (v := ?v6) rfl (by kernel_rfl) (by kernel_rfl) (by kernel_rfl) (fun _ _ _ h => h) (Or.inl ⟨by rfl, ?hy6⟩) hHeld ?rest6
        case hy6 =>
          intro w0 hSw
          try obtain ⟨-, hS1, -⟩ := (HX.out.fr hSw (by omega)).facts
          go_simp
          try with_reducible rfl
        try simp only [Act.put, List.setIfInBounds_toArray, List.set_cons_zero, List.set_cons_succ]
        refine wpAnyH_take (i := 9) (oi := { dst := some 24, op := Go.Op.fieldAddr 27 (Go.Operand.tmp 3) 5, type := 0, pos := "ref.go:67", after := #[], guard := none }) (v := ?v7) rfl (by kernel_rfl) (by kernel_rfl) (by kernel_rfl) (fun _ _ _ h => h) (Or.inl ⟨by rfl, ?hy7⟩) hHeld ?rest7
        case hy7 =>
          intro w0 hSw
          try obtain ⟨-, hS1, -⟩ := (HX.out.fr hSw (by omega)).facts
          go_simp
          try with_reducible rfl
        try simp only [Act.put, List.setIfInBounds_toArray, List.set_cons_zero, List.set_cons_succ]
        refine wpAnyH_take (i := 10) (oi := { dst := some 25, op := Go.Op.load 3 (Go.Operand.tmp 24), type := 3, pos := "ref.go:67", after := #[{ on := 9, ground := Go.Ground.data }], guard := none }) (v := ?v8) rfl (by kernel_rfl) (by kernel_rfl) (by kernel_rfl) (fun _ _ _ h => h) (Or.inl ⟨by rfl, ?hy8⟩) hHeld ?rest8
        case hy8 =>
          intro w0 hSw
          try obtain ⟨-, hS1, -⟩ := (HX.out.fr hSw (by omega)).facts
          go_simp
          try with_reducible rfl
        try simp only [Act.put, List.setIfInBounds_toArray, List.set_cons_zero, List.set_cons_succ]
        refine wpAnyH_take (i := 11) (oi := { dst := some 26, op := Go.Op.fieldAddr 27 (Go.Operand.tmp 3) 6, type := 0, pos := "ref.go:67", after := #[], guard := none }) (v := ?v9) rfl (by kernel_rfl) (by kernel_rfl) (by kernel_rfl) (fun _ _ _ h => h) (Or.inl ⟨by rfl, ?hy9⟩) hHeld ?rest9
        case hy9 =>
          intro w0 hSw
          try obtain ⟨-, hS1, -⟩ := (HX.out.fr hSw (by omega)).facts
          go_simp
          try with_reducible rfl
        try simp only [Act.put, List.setIfInBounds_toArray, List.set_cons_zero, List.set_cons_succ]
        refine wpAnyH_take (i := 12) (oi := { dst := some 27, op := Go.Op.load 2 (Go.Operand.tmp 26), type := 2, pos := "ref.go:67", after := #[{ on := 11, ground := Go.Ground.data }], guard := none }) (v := ?v10) rfl (by kernel_rfl) (by kernel_rfl) (by kernel_rfl) (fun _ _ _ h => h) (Or.inl ⟨by rfl, ?hy10⟩) hHeld ?rest10
        case hy10 =>
          intro w0 hSw
          try obtain ⟨-, hS1, -⟩ := (HX.out.fr hSw (by omega)).facts
          go_simp
          try with_reducible rfl
        try simp only [Act.put, List.setIfInBounds_toArray, List.set_cons_zero, List.set_cons_succ]
        refine wpAnyH_take (i := 13) (oi := { dst := some 28, op := Go.Op.fieldAddr 27 (Go.Operand.tmp 3) 0, type := 0, pos := "ref.go:67", after := #[], guard := none }) (v := ?v11) rfl (by kernel_rfl) (by kernel_rfl) (by kernel_rfl) (fun _ _ _ h => h) (Or.inl ⟨by rfl, ?hy11⟩) hHeld ?rest11
        case hy11 =>
          intro w0 hSw
          try obtain ⟨-, hS1, -⟩ := (HX.out.fr hSw (by omega)).facts
          go_simp
          try with_reducible rfl
        try simp only [Act.put, List.setIfInBounds_toArray, List.set_cons_zero, List.set_cons_succ]
        refine wpAnyH_take (i := 14) (oi := { dst := some 29, op := Go.Op.load 2 (Go.Operand.tmp 28), type := 2, pos := "ref.go:67", after := #[{ on := 13, ground := Go.Ground.data }], guard := none }) (v := ?v12) rfl (by kernel_rfl) (by kernel_rfl) (by kernel_rfl) (fun _ _ _ h => h) (Or.inl ⟨by rfl, ?hy12⟩) hHeld ?rest12
        case hy12 =>
          intro w0 hSw
          try obtain ⟨-, hS1, -⟩ := (HX.out.fr hSw (by omega)).facts
          go_simp
          try with_reducible rfl
        try simp only [Act.put, List.setIfInBounds_toArray, List.set_cons_zero, List.set_cons_succ]
        refine wpAnyH_ready (rs := [5, 15]) (by kernel_rfl) (by simp) ?_
        refine AllReadyH.cons (o := { dst := some 20, op := Go.Op.buildSlice 22 0 #[], type := 22, pos := "ref.go:67", after := #[], guard := none }) rfl (fun K hK => ?_) ?_
        · skip
          go_simp
          have hbn := World.ownsRow_made (base := W4.heap.size) (e := 3) (size := 1) wx #[] 0 HR.out.size (by simp) (by simp)
          have hrn := HR.out.alloc (.cells #[] 3)
          replace HV := Lib.hid (HV.out.alloc (.cells #[] 3))
          try replace HE := Lib.hid (HE.out.alloc (.cells #[] 3))
          try replace HN := Lib.hid (HN.out.alloc (.cells #[] 3))
          try replace HL := Lib.hid (HL.out.alloc (.cells #[] 3))
          generalize wx.alloc _ = wz at *
          generalize wx.heap.size = ge at *
          have HE := Lib.hid hbn
          replace HR := Lib.hid hrn
          clear hbn hrn
          obtain ⟨wx, hwx⟩ : ∃ wx, wx = wz := ⟨_, rfl⟩
          rw [← hwx] at HR HV ⊢
          try rw [← hwx] at HE
          try rw [← hwx] at HN
          try rw [← hwx] at HL
          try rw [← hwx] at HQ
          clear hwx
          refine hK.out _ _ ?_ (fun hHeld => ?_)
          · exact HR.out
          clear hK K
          try simp only [Act.put, List.setIfInBounds_toArray, List.set_cons_zero, List.set_cons_succ]
          refine wpAnyH_ready (rs := [8, 15]) (by kernel_rfl) (by simp) ?_
          refine AllReadyH.cons (o := { dst := some 23, op := Go.Op.call { callee := Go.Callee.builtin Go.Builtin.append, args := #[Go.Operand.tmp 20, Go.Operand.tmp 22], argTypes := #[22, 22] }, type := 22, pos := "ref.go:67", after := #[{ on := 5, ground := Go.Ground.data }, { on := 7, ground := Go.Ground.data }], guard := none }) rfl (fun K hK => ?_) ?_
          · skip
            refine step_append_any _ (by rfl) (.tmp 20) (.tmp 22) _ (by rfl) W4.heap.size 3 (.int .i64 0) 1 8 Tryd.underlying22 info3 rfl (by omega) (.slice (some ⟨ge, 0, none⟩) 0 0) 0 [] (by rfl) HE.out _ A nodes.length c (nodes.map (Value.int .i64)) (by rfl) (HA.out.fr HR.out (fun k hk e => by omega)) (by intro u hu; obtain ⟨x, -, rfl⟩ := List.mem_map.1 hu; rfl) (by simp only [maxLen]; omega) (by omega) HR.out.size ?_
            intro A3 c3 wz hown hgr hat
            simp only [Nat.zero_add, List.nil_append] at hown hat
            try simp only [Nat.zero_add]
            try replace HL := Lib.hid (World.ownsRow.kept HL.out hgr (own_or (own_ne_own HL.out HE.out (by decide))))
            have HN := Lib.hid hown
            replace HR := Lib.hid (HR.out.grown hgr (fun k hk => .inr (HE.out.lt k hk).1))
            replace HV := Lib.hid (HV.out.grown hgr (fun e => by have := (HE.out.lt _ e.symm).1; have := HYl.out; omega))
            clear HE hown hgr hat
            obtain ⟨wx, hwx⟩ : ∃ wx, wx = wz := ⟨_, rfl⟩
            rw [← hwx] at HR HV ⊢
            try rw [← hwx] at HE
            try rw [← hwx] at HN
            try rw [← hwx] at HL
            try rw [← hwx] at HQ
            clear hwx
            refine hK.out _ _ ?_ (fun hHeld => ?_)
            · exact HR.out
            clear hK K
            try simp only [Act.put, List.setIfInBounds_toArray, List.set_cons_zero, List.set_cons_succ]
            refine wpAnyH_ready (rs := [15]) (by kernel_rfl) (by simp) ?_
            refine AllReadyH.cons (o := { dst := some 30, op := Go.Op.buildSlice 23 1 #[(0, Go.Operand.tmp 29)], type := 23, pos := "ref.go:67", after := #[{ on := 14, ground := Go.Ground.data }], guard := none }) rfl (fun K hK => ?_) ?_
            · skip
              go_simp
              have hbn := World.ownsRow_lit (base := W4.heap.size) (e := 2) (size := 1) wx #[.int .i64 call] 1 HR.out.size (by simp only [maxLen]; omega) rfl
              have hrn := HR.out.alloc (.cells #[.int .i64 call] 2)
              replace HV := Lib.hid (HV.out.alloc (.cells #[.int .i64 call] 2))
              try replace HE := Lib.hid (HE.out.alloc (.cells #[.int .i64 call] 2))
              try replace HN := Lib.hid (HN.out.alloc (.cells #[.int .i64 call] 2))
              try replace HL := Lib.hid (HL.out.alloc (.cells #[.int .i64 call] 2))
              generalize wx.alloc _ = wz at *
              generalize wx.heap.size = gl at *
              have HL := Lib.hid hbn
              replace HR := Lib.hid hrn
              clear hbn hrn
              obtain ⟨wx, hwx⟩ : ∃ wx, wx = wz := ⟨_, rfl⟩
              rw [← hwx] at HR HV ⊢
              try rw [← hwx] at HE
              try rw [← hwx] at HN
              try rw [← hwx] at HL
              try rw [← hwx] at HQ
              clear hwx
              refine hK.out _ _ ?_ (fun hHeld => ?_)
              · exact HR.out
              clear hK K
              try simp only [Act.put, List.setIfInBounds_toArray, List.set_cons_zero, List.set_cons_succ]
              refine wpAnyH_take (i := 16) (oi := { dst := some 31, op := Go.Op.build 25 #[(0, Go.Operand.tmp 15), (1, Go.Operand.tmp 17), (2, Go.Operand.tmp 19), (3, Go.Operand.tmp 23), (4, Go.Operand.tmp 25), (5, Go.Operand.tmp 27), (6, Go.Operand.tmp 30)], type := 25, pos := "ref.go:67", after := #[{ on := 0, ground := Go.Ground.data }, { on := 2, ground := Go.Ground.data }, { on := 4, ground := Go.Ground.data }, { on := 8, ground := Go.Ground.data }, { on := 10, ground := Go.Ground.data }, { on := 12, ground := Go.Ground.data }, { on := 15, ground := Go.Ground.data }], guard := none }) (v := ?v13) rfl (by kernel_rfl) (by kernel_rfl) (by kernel_rfl) (fun _ _ _ h => h) (Or.inl ⟨by rfl, ?hy13⟩) hHeld ?rest13
              case hy13 =>
                intro w0 hSw
                try obtain ⟨-, hS1, -⟩ := (HX.out.fr hSw (by omega)).facts
                go_simp
                try with_reducible rfl
              try simp only [Act.put, List.setIfInBounds_toArray, List.set_cons_zero, List.set_cons_succ]
              refine wpAnyH_ready (rs := [17]) (by kernel_rfl) (by simp) ?_
              refine AllReadyH.cons (o := { dst := none, op := Go.Op.store 25 (Go.Operand.tmp 4) (Go.Operand.tmp 31), type := 0, pos := "ref.go:67", after := #[{ on := 16, ground := Go.Ground.data }, { on := 8, ground := Go.Ground.chain }, { on := 0, ground := Go.Ground.phase }, { on := 1, ground := Go.Ground.phase }, { on := 2, ground := Go.Ground.phase }, { on := 3, ground := Go.Ground.phase }, { on := 4, ground := Go.Ground.phase }, { on := 5, ground := Go.Ground.phase }, { on := 6, ground := Go.Ground.phase }, { on := 7, ground := Go.Ground.phase }, { on := 8, ground := Go.Ground.phase }, { on := 9, ground := Go.Ground.phase }, { on := 10, ground := Go.Ground.phase }, { on := 11, ground := Go.Ground.phase }, { on := 12, ground := Go.Ground.phase }, { on := 13, ground := Go.Ground.phase }, { on := 14, ground := Go.Ground.phase }, { on := 15, ground := Go.Ground.phase }, { on := 16, ground := Go.Ground.phase }], guard := none }) rfl (fun K hK => ?_) ?_
              · skip
                refine step_storeBlk _ (by rfl) (.tmp 4) (.tmp 31) 25 (by rfl) _ 25 _ #[.int .i64 id, .int .i64 urg, .string code, .slice A3 nodes.length c3, .int .i64 dist, .int .i64 since, .slice (some ⟨gl, 0, none⟩) 1 1, .slice none 0 0, .int .i64 0, .bool false] _ 10 136 info25 (by rfl) (by rfl) (by rfl) HV.out (by rfl) (ten_one (by simp [Value.oneCell'])) ?_
                intro wz hbz hfz hsz
                replace HN := Lib.hid (own_fr HN.out hfz (fun g hg e => by have := (HN.out.lt g hg).1; have := HYl.out; omega))
                replace HL := Lib.hid (own_fr HL.out hfz (fun g hg e => by have := (HL.out.lt g hg).1; have := HYl.out; omega))
                replace HR := Lib.hid (HR.out.trans hfz)
                have HQ := Lib.hid hbz
                clear hbz hfz hsz
                obtain ⟨wx, hwx⟩ : ∃ wx, wx = wz := ⟨_, rfl⟩
                rw [← hwx] at HQ HN HL HR ⊢
                clear hwx
                refine hK.out _ _ ?_ (fun hHeld => ?_)
                · exact HR.out
                clear hK K
                try simp only [Act.put, List.setIfInBounds_toArray, List.set_cons_zero, List.set_cons_succ]
                refine wpAnyH_done (by kernel_rfl) ?_ _
                refine last_do ({ dst := some 5, op := Go.Op.assign (Go.Operand.const (Go.Value.int Go.IntKind.i64 0)), type := 31, pos := "ref.go:67", after := #[{ on := 17, ground := Go.Ground.chain }, { on := 0, ground := Go.Ground.phase }, { on := 1, ground := Go.Ground.phase }, { on := 2, ground := Go.Ground.phase }, { on := 3, ground := Go.Ground.phase }, { on := 4, ground := Go.Ground.phase }, { on := 5, ground := Go.Ground.phase }, { on := 6, ground := Go.Ground.phase }, { on := 7, ground := Go.Ground.phase }, { on := 8, ground := Go.Ground.phase }, { on := 9, ground := Go.Ground.phase }, { on := 10, ground := Go.Ground.phase }, { on := 11, ground := Go.Ground.phase }, { on := 12, ground := Go.Ground.phase }, { on := 13, ground := Go.Ground.phase }, { on := 14, ground := Go.Ground.phase }, { on := 15, ground := Go.Ground.phase }, { on := 16, ground := Go.Ground.phase }, { on := 17, ground := Go.Ground.phase }], guard := none }) rfl (fun K hK => ?_)
                go_simp
                refine hK _ _ ?_
                go_wp2_with fail
                go_meet
                case rel => exact ⟨A3, c3, gl, rfl, HQ.out, HN.out, by simpa using HL.out, HR.out⟩
              exact AllReadyH.nil
            exact AllReadyH.nil
          refine AllReadyH.cons (o := { dst := some 30, op := Go.Op.buildSlice 23 1 #[(0, Go.Operand.tmp 29)], type := 23, pos := "ref.go:67", after := #[{ on := 14, ground := Go.Ground.data }], guard := none }) rfl (fun K hK => ?_) ?_
          · skip
            go_simp
            have hbn := World.ownsRow_lit (base := W4.heap.size) (e := 2) (size := 1) wx #[.int .i64 call] 1 HR.out.size (by simp only [maxLen]; omega) rfl
            have hrn := HR.out.alloc (.cells #[.int .i64 call] 2)
            replace HV := Lib.hid (HV.out.alloc (.cells #[.int .i64 call] 2))
            try replace HE := Lib.hid (HE.out.alloc (.cells #[.int .i64 call] 2))
            try replace HN := Lib.hid (HN.out.alloc (.cells #[.int .i64 call] 2))
            try replace HL := Lib.hid (HL.out.alloc (.cells #[.int .i64 call] 2))
            generalize wx.alloc _ = wz at *
            generalize wx.heap.size = gl at *
            have HL := Lib.hid hbn
            replace HR := Lib.hid hrn
            clear hbn hrn
            obtain ⟨wx, hwx⟩ : ∃ wx, wx = wz := ⟨_, rfl⟩
            rw [← hwx] at HR HV ⊢
            try rw [← hwx] at HE
            try rw [← hwx] at HN
            try rw [← hwx] at HL
            try rw [← hwx] at HQ
            clear hwx
            refine hK.out _ _ ?_ (fun hHeld => ?_)
            · exact HR.out
            clear hK K
            try simp only [Act.put, List.setIfInBounds_toArray, List.set_cons_zero, List.set_cons_succ]
            refine wpAnyH_ready (rs := [8]) (by kernel_rfl) (by simp) ?_
            refine AllReadyH.cons (o := { dst := some 23, op := Go.Op.call { callee := Go.Callee.builtin Go.Builtin.append, args := #[Go.Operand.tmp 20, Go.Operand.tmp 22], argTypes := #[22, 22] }, type := 22, pos := "ref.go:67", after := #[{ on := 5, ground := Go.Ground.data }, { on := 7, ground := Go.Ground.data }], guard := none }) rfl (fun K hK => ?_) ?_
            · skip
              refine step_append_any _ (by rfl) (.tmp 20) (.tmp 22) _ (by rfl) W4.heap.size 3 (.int .i64 0) 1 8 Tryd.underlying22 info3 rfl (by omega) (.slice (some ⟨ge, 0, none⟩) 0 0) 0 [] (by rfl) HE.out _ A nodes.length c (nodes.map (Value.int .i64)) (by rfl) (HA.out.fr HR.out (fun k hk e => by omega)) (by intro u hu; obtain ⟨x, -, rfl⟩ := List.mem_map.1 hu; rfl) (by simp only [maxLen]; omega) (by omega) HR.out.size ?_
              intro A3 c3 wz hown hgr hat
              simp only [Nat.zero_add, List.nil_append] at hown hat
              try simp only [Nat.zero_add]
              try replace HL := Lib.hid (World.ownsRow.kept HL.out hgr (own_or (own_ne_own HL.out HE.out (by decide))))
              have HN := Lib.hid hown
              replace HR := Lib.hid (HR.out.grown hgr (fun k hk => .inr (HE.out.lt k hk).1))
              replace HV := Lib.hid (HV.out.grown hgr (fun e => by have := (HE.out.lt _ e.symm).1; have := HYl.out; omega))
              clear HE hown hgr hat
              obtain ⟨wx, hwx⟩ : ∃ wx, wx = wz := ⟨_, rfl⟩
              rw [← hwx] at HR HV ⊢
              try rw [← hwx] at HE
              try rw [← hwx] at HN
              try rw [← hwx] at HL
              try rw [← hwx] at HQ
              clear hwx
              refine hK.out _ _ ?_ (fun hHeld => ?_)
              · exact HR.out
              clear hK K
              try simp only [Act.put, List.setIfInBounds_toArray, List.set_cons_zero, List.set_cons_succ]
              refine wpAnyH_take (i := 16) (oi := { dst := some 31, op := Go.Op.build 25 #[(0, Go.Operand.tmp 15), (1, Go.Operand.tmp 17), (2, Go.Operand.tmp 19), (3, Go.Operand.tmp 23), (4, Go.Operand.tmp 25), (5, Go.Operand.tmp 27), (6, Go.Operand.tmp 30)], type := 25, pos := "ref.go:67", after := #[{ on := 0, ground := Go.Ground.data }, { on := 2, ground := Go.Ground.data }, { on := 4, ground := Go.Ground.data }, { on := 8, ground := Go.Ground.data }, { on := 10, ground := Go.Ground.data }, { on := 12, ground := Go.Ground.data }, { on := 15, ground := Go.Ground.data }], guard := none }) (v := ?v14) rfl (by kernel_rfl) (by kernel_rfl) (by kernel_rfl) (fun _ _ _ h => h) (Or.inl ⟨by rfl, ?hy14⟩) hHeld ?rest14
              case hy14 =>
                intro w0 hSw
                try obtain ⟨-, hS1, -⟩ := (HX.out.fr hSw (by omega)).facts
                go_simp
                try with_reducible rfl
              try simp only [Act.put, List.setIfInBounds_toArray, List.set_cons_zero, List.set_cons_succ]
              refine wpAnyH_ready (rs := [17]) (by kernel_rfl) (by simp) ?_
              refine AllReadyH.cons (o := { dst := none, op := Go.Op.store 25 (Go.Operand.tmp 4) (Go.Operand.tmp 31), type := 0, pos := "ref.go:67", after := #[{ on := 16, ground := Go.Ground.data }, { on := 8, ground := Go.Ground.chain }, { on := 0, ground := Go.Ground.phase }, { on := 1, ground := Go.Ground.phase }, { on := 2, ground := Go.Ground.phase }, { on := 3, ground := Go.Ground.phase }, { on := 4, ground := Go.Ground.phase }, { on := 5, ground := Go.Ground.phase }, { on := 6, ground := Go.Ground.phase }, { on := 7, ground := Go.Ground.phase }, { on := 8, ground := Go.Ground.phase }, { on := 9, ground := Go.Ground.phase }, { on := 10, ground := Go.Ground.phase }, { on := 11, ground := Go.Ground.phase }, { on := 12, ground := Go.Ground.phase }, { on := 13, ground := Go.Ground.phase }, { on := 14, ground := Go.Ground.phase }, { on := 15, ground := Go.Ground.phase }, { on := 16, ground := Go.Ground.phase }], guard := none }) rfl (fun K hK => ?_) ?_
              · skip
                refine step_storeBlk _ (by rfl) (.tmp 4) (.tmp 31) 25 (by rfl) _ 25 _ #[.int .i64 id, .int .i64 urg, .string code, .slice A3 nodes.length c3, .int .i64 dist, .int .i64 since, .slice (some ⟨gl, 0, none⟩) 1 1, .slice none 0 0, .int .i64 0, .bool false] _ 10 136 info25 (by rfl) (by rfl) (by rfl) HV.out (by rfl) (ten_one (by simp [Value.oneCell'])) ?_
                intro wz hbz hfz hsz
                replace HN := Lib.hid (own_fr HN.out hfz (fun g hg e => by have := (HN.out.lt g hg).1; have := HYl.out; omega))
                replace HL := Lib.hid (own_fr HL.out hfz (fun g hg e => by have := (HL.out.lt g hg).1; have := HYl.out; omega))
                replace HR := Lib.hid (HR.out.trans hfz)
                have HQ := Lib.hid hbz
                clear hbz hfz hsz
                obtain ⟨wx, hwx⟩ : ∃ wx, wx = wz := ⟨_, rfl⟩
                rw [← hwx] at HQ HN HL HR ⊢
                clear hwx
                refine hK.out _ _ ?_ (fun hHeld => ?_)
                · exact HR.out
                clear hK K
                try simp only [Act.put, List.setIfInBounds_toArray, List.set_cons_zero, List.set_cons_succ]
                refine wpAnyH_done (by kernel_rfl) ?_ _
                refine last_do ({ dst := some 5, op := Go.Op.assign (Go.Operand.const (Go.Value.int Go.IntKind.i64 0)), type := 31, pos := "ref.go:67", after := #[{ on := 17, ground := Go.Ground.chain }, { on := 0, ground := Go.Ground.phase }, { on := 1, ground := Go.Ground.phase }, { on := 2, ground := Go.Ground.phase }, { on := 3, ground := Go.Ground.phase }, { on := 4, ground := Go.Ground.phase }, { on := 5, ground := Go.Ground.phase }, { on := 6, ground := Go.Ground.phase }, { on := 7, ground := Go.Ground.phase }, { on := 8, ground := Go.Ground.phase }, { on := 9, ground := Go.Ground.phase }, { on := 10, ground := Go.Ground.phase }, { on := 11, ground := Go.Ground.phase }, { on := 12, ground := Go.Ground.phase }, { on := 13, ground := Go.Ground.phase }, { on := 14, ground := Go.Ground.phase }, { on := 15, ground := Go.Ground.phase }, { on := 16, ground := Go.Ground.phase }, { on := 17, ground := Go.Ground.phase }], guard := none }) rfl (fun K hK => ?_)
                go_simp
                refine hK _ _ ?_
                go_wp2_with fail
                go_meet
                case rel => exact ⟨A3, c3, gl, rfl, HQ.out, HN.out, by simpa using HL.out, HR.out⟩
              exact AllReadyH.nil
            exact AllReadyH.nil
          exact AllReadyH.nil
        refine AllReadyH.cons (o := { dst := some 30, op := Go.Op.buildSlice 23 1 #[(0, Go.Operand.tmp 29)], type := 23, pos := "ref.go:67", after := #[{ on := 14, ground := Go.Ground.data }], guard := none }) rfl (fun K hK => ?_) ?_
        · skip
          go_simp
          have hbn := World.ownsRow_lit (base := W4.heap.size) (e := 2) (size := 1) wx #[.int .i64 call] 1 HR.out.size (by simp only [maxLen]; omega) rfl
          have hrn := HR.out.alloc (.cells #[.int .i64 call] 2)
          replace HV := Lib.hid (HV.out.alloc (.cells #[.int .i64 call] 2))
          try replace HE := Lib.hid (HE.out.alloc (.cells #[.int .i64 call] 2))
          try replace HN := Lib.hid (HN.out.alloc (.cells #[.int .i64 call] 2))
          try replace HL := Lib.hid (HL.out.alloc (.cells #[.int .i64 call] 2))
          generalize wx.alloc _ = wz at *
          generalize wx.heap.size = gl at *
          have HL := Lib.hid hbn
          replace HR := Lib.hid hrn
          clear hbn hrn
          obtain ⟨wx, hwx⟩ : ∃ wx, wx = wz := ⟨_, rfl⟩
          rw [← hwx] at HR HV ⊢
          try rw [← hwx] at HE
          try rw [← hwx] at HN
          try rw [← hwx] at HL
          try rw [← hwx] at HQ
          clear hwx
          refine hK.out _ _ ?_ (fun hHeld => ?_)
          · exact HR.out
          clear hK K
          try simp only [Act.put, List.setIfInBounds_toArray, List.set_cons_zero, List.set_cons_succ]
          refine wpAnyH_ready (rs := [5]) (by kernel_rfl) (by simp) ?_
          refine AllReadyH.cons (o := { dst := some 20, op := Go.Op.buildSlice 22 0 #[], type := 22, pos := "ref.go:67", after := #[], guard := none }) rfl (fun K hK => ?_) ?_
          · skip
            go_simp
            have hbn := World.ownsRow_made (base := W4.heap.size) (e := 3) (size := 1) wx #[] 0 HR.out.size (by simp) (by simp)
            have hrn := HR.out.alloc (.cells #[] 3)
            replace HV := Lib.hid (HV.out.alloc (.cells #[] 3))
            try replace HE := Lib.hid (HE.out.alloc (.cells #[] 3))
            try replace HN := Lib.hid (HN.out.alloc (.cells #[] 3))
            try replace HL := Lib.hid (HL.out.alloc (.cells #[] 3))
            generalize wx.alloc _ = wz at *
            generalize wx.heap.size = ge at *
            have HE := Lib.hid hbn
            replace HR := Lib.hid hrn
            clear hbn hrn
            obtain ⟨wx, hwx⟩ : ∃ wx, wx = wz := ⟨_, rfl⟩
            rw [← hwx] at HR HV ⊢
            try rw [← hwx] at HE
            try rw [← hwx] at HN
            try rw [← hwx] at HL
            try rw [← hwx] at HQ
            clear hwx
            refine hK.out _ _ ?_ (fun hHeld => ?_)
            · exact HR.out
            clear hK K
            try simp only [Act.put, List.setIfInBounds_toArray, List.set_cons_zero, List.set_cons_succ]
            refine wpAnyH_ready (rs := [8]) (by kernel_rfl) (by simp) ?_
            refine AllReadyH.cons (o := { dst := some 23, op := Go.Op.call { callee := Go.Callee.builtin Go.Builtin.append, args := #[Go.Operand.tmp 20, Go.Operand.tmp 22], argTypes := #[22, 22] }, type := 22, pos := "ref.go:67", after := #[{ on := 5, ground := Go.Ground.data }, { on := 7, ground := Go.Ground.data }], guard := none }) rfl (fun K hK => ?_) ?_
            · skip
              refine step_append_any _ (by rfl) (.tmp 20) (.tmp 22) _ (by rfl) W4.heap.size 3 (.int .i64 0) 1 8 Tryd.underlying22 info3 rfl (by omega) (.slice (some ⟨ge, 0, none⟩) 0 0) 0 [] (by rfl) HE.out _ A nodes.length c (nodes.map (Value.int .i64)) (by rfl) (HA.out.fr HR.out (fun k hk e => by omega)) (by intro u hu; obtain ⟨x, -, rfl⟩ := List.mem_map.1 hu; rfl) (by simp only [maxLen]; omega) (by omega) HR.out.size ?_
              intro A3 c3 wz hown hgr hat
              simp only [Nat.zero_add, List.nil_append] at hown hat
              try simp only [Nat.zero_add]
              try replace HL := Lib.hid (World.ownsRow.kept HL.out hgr (own_or (own_ne_own HL.out HE.out (by decide))))
              have HN := Lib.hid hown
              replace HR := Lib.hid (HR.out.grown hgr (fun k hk => .inr (HE.out.lt k hk).1))
              replace HV := Lib.hid (HV.out.grown hgr (fun e => by have := (HE.out.lt _ e.symm).1; have := HYl.out; omega))
              clear HE hown hgr hat
              obtain ⟨wx, hwx⟩ : ∃ wx, wx = wz := ⟨_, rfl⟩
              rw [← hwx] at HR HV ⊢
              try rw [← hwx] at HE
              try rw [← hwx] at HN
              try rw [← hwx] at HL
              try rw [← hwx] at HQ
              clear hwx
              refine hK.out _ _ ?_ (fun hHeld => ?_)
              · exact HR.out
              clear hK K
              try simp only [Act.put, List.setIfInBounds_toArray, List.set_cons_zero, List.set_cons_succ]
              refine wpAnyH_take (i := 16) (oi := { dst := some 31, op := Go.Op.build 25 #[(0, Go.Operand.tmp 15), (1, Go.Operand.tmp 17), (2, Go.Operand.tmp 19), (3, Go.Operand.tmp 23), (4, Go.Operand.tmp 25), (5, Go.Operand.tmp 27), (6, Go.Operand.tmp 30)], type := 25, pos := "ref.go:67", after := #[{ on := 0, ground := Go.Ground.data }, { on := 2, ground := Go.Ground.data }, { on := 4, ground := Go.Ground.data }, { on := 8, ground := Go.Ground.data }, { on := 10, ground := Go.Ground.data }, { on := 12, ground := Go.Ground.data }, { on := 15, ground := Go.Ground.data }], guard := none }) (v := ?v15) rfl (by kernel_rfl) (by kernel_rfl) (by kernel_rfl) (fun _ _ _ h => h) (Or.inl ⟨by rfl, ?hy15⟩) hHeld ?rest15
              case hy15 =>
                intro w0 hSw
                try obtain ⟨-, hS1, -⟩ := (HX.out.fr hSw (by omega)).facts
                go_simp
                try with_reducible rfl
              try simp only [Act.put, List.setIfInBounds_toArray, List.set_cons_zero, List.set_cons_succ]
              refine wpAnyH_ready (rs := [17]) (by kernel_rfl) (by simp) ?_
              refine AllReadyH.cons (o := { dst := none, op := Go.Op.store 25 (Go.Operand.tmp 4) (Go.Operand.tmp 31), type := 0, pos := "ref.go:67", after := #[{ on := 16, ground := Go.Ground.data }, { on := 8, ground := Go.Ground.chain }, { on := 0, ground := Go.Ground.phase }, { on := 1, ground := Go.Ground.phase }, { on := 2, ground := Go.Ground.phase }, { on := 3, ground := Go.Ground.phase }, { on := 4, ground := Go.Ground.phase }, { on := 5, ground := Go.Ground.phase }, { on := 6, ground := Go.Ground.phase }, { on := 7, ground := Go.Ground.phase }, { on := 8, ground := Go.Ground.phase }, { on := 9, ground := Go.Ground.phase }, { on := 10, ground := Go.Ground.phase }, { on := 11, ground := Go.Ground.phase }, { on := 12, ground := Go.Ground.phase }, { on := 13, ground := Go.Ground.phase }, { on := 14, ground := Go.Ground.phase }, { on := 15, ground := Go.Ground.phase }, { on := 16, ground := Go.Ground.phase }], guard := none }) rfl (fun K hK => ?_) ?_
              · skip
                refine step_storeBlk _ (by rfl) (.tmp 4) (.tmp 31) 25 (by rfl) _ 25 _ #[.int .i64 id, .int .i64 urg, .string code, .slice A3 nodes.length c3, .int .i64 dist, .int .i64 since, .slice (some ⟨gl, 0, none⟩) 1 1, .slice none 0 0, .int .i64 0, .bool false] _ 10 136 info25 (by rfl) (by rfl) (by rfl) HV.out (by rfl) (ten_one (by simp [Value.oneCell'])) ?_
                intro wz hbz hfz hsz
                replace HN := Lib.hid (own_fr HN.out hfz (fun g hg e => by have := (HN.out.lt g hg).1; have := HYl.out; omega))
                replace HL := Lib.hid (own_fr HL.out hfz (fun g hg e => by have := (HL.out.lt g hg).1; have := HYl.out; omega))
                replace HR := Lib.hid (HR.out.trans hfz)
                have HQ := Lib.hid hbz
                clear hbz hfz hsz
                obtain ⟨wx, hwx⟩ : ∃ wx, wx = wz := ⟨_, rfl⟩
                rw [← hwx] at HQ HN HL HR ⊢
                clear hwx
                refine hK.out _ _ ?_ (fun hHeld => ?_)
                · exact HR.out
                clear hK K
                try simp only [Act.put, List.setIfInBounds_toArray, List.set_cons_zero, List.set_cons_succ]
                refine wpAnyH_done (by kernel_rfl) ?_ _
                refine last_do ({ dst := some 5, op := Go.Op.assign (Go.Operand.const (Go.Value.int Go.IntKind.i64 0)), type := 31, pos := "ref.go:67", after := #[{ on := 17, ground := Go.Ground.chain }, { on := 0, ground := Go.Ground.phase }, { on := 1, ground := Go.Ground.phase }, { on := 2, ground := Go.Ground.phase }, { on := 3, ground := Go.Ground.phase }, { on := 4, ground := Go.Ground.phase }, { on := 5, ground := Go.Ground.phase }, { on := 6, ground := Go.Ground.phase }, { on := 7, ground := Go.Ground.phase }, { on := 8, ground := Go.Ground.phase }, { on := 9, ground := Go.Ground.phase }, { on := 10, ground := Go.Ground.phase }, { on := 11, ground := Go.Ground.phase }, { on := 12, ground := Go.Ground.phase }, { on := 13, ground := Go.Ground.phase }, { on := 14, ground := Go.Ground.phase }, { on := 15, ground := Go.Ground.phase }, { on := 16, ground := Go.Ground.phase }, { on := 17, ground := Go.Ground.phase }], guard := none }) rfl (fun K hK => ?_)
                go_simp
                refine hK _ _ ?_
                go_wp2_with fail
                go_meet
                case rel => exact ⟨A3, c3, gl, rfl, HQ.out, HN.out, by simpa using HL.out, HR.out⟩
              exact AllReadyH.nil
            exact AllReadyH.nil
          exact AllReadyH.nil
        exact AllReadyH.nil
      case rest =>
        obtain ⟨A3, c3, gl, rfl, hq, hn, hl, hf⟩ := hcut
        have hs2 := HB2.out.size
        have HN := Lib.hid (World.ownsRow.mono hn hs2)
        have HL := Lib.hid (World.ownsRow.mono hl hs2)
        have HQ := Lib.hid hq
        have HBf := Lib.hid (HB2.out.trans (hf.below hs2 (fun k hk e => by omega)))
        clear hn hl hq hf HX HY HA
        go_wp2_with fail
        refine bodyPost_ret (results_ct (p := 4) (u := 5) (ty := 25) Tryd.results13 _ _ (w.heap.size + 1) 25 #[.int .i64 id, .int .i64 urg, .string code, .slice A3 nodes.length c3, .int .i64 dist, .int .i64 since, .slice (some ⟨gl, 0, none⟩) 1 1, .slice none 0 0, .int .i64 0, .bool false] (0, 0) _ rfl HQ.out Tryd.underlying25 rfl size25) rfl ?_
        exact ⟨A3, some ⟨gl, 0, none⟩, none, c3, 1, 0, rfl, HN.out, HL.out, World.ownsRow_nil _ _ _ _, HBf.out⟩
end Go.Proofs.YtipkicijfedfoaaDoor

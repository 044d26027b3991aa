import Derived.Test.YtipkicijfedfoaaDoorMAlv1
import Derived.Deep.RegionHeld
namespace Go.Proofs.YtipkicijfedfoaaDoor
set_option linter.unusedVariables false
set_option linter.unusedSimpArgs false
open Go.RowKit Go.Own Go.Quo Go.Inc
theorem add_c (x : Ic) (hs : x.code.size ≤ 100000) (ln : x.nodes.length ≤ 100000) (lc : x.calls.length ≤ 100000) (lu : x.units.length ≤ 100000) (An Ac Au : Option Addr) (cn cc cu b : Nat) (w : World) (ht : Tab w)
    (hn : w.ownsRow b 3 1 (.slice An x.nodes.length cn) x.nodes.length (x.nodes.map (Value.int .i64))) (hc : w.ownsRow b 2 1 (.slice Ac x.calls.length cc) x.calls.length (x.calls.map (Value.int .i64))) (hu : w.ownsRow b 3 1 (.slice Au x.units.length cu) x.units.length (x.units.map (Value.int .i64)))
    (call urg : Int) (code : ByteArray) (B : Nat → Prop) (A : Option Addr) (c : Nat) (nodes : List Int) (h : RI w B A nodes) (hsc : code.size ≤ 100000) (lcn : nodes.length ≤ 100000) :
    Calls Tryd.prog 19 #[icV x An Ac Au cn cc cu, .agg #[.int .i64 call, .int .i64 0, .int .i64 urg, .string code, .slice A nodes.length c, .int .i64 0, .int .i64 0, .bool false]] w (IncPost (addI x ⟨call, 0, urg, code, nodes, 0, 0, false⟩).1 (addI x ⟨call, 0, urg, code, nodes, 0, 0, false⟩).2 w) :=
  add19 (fun _ => True) x.id x.urg x.dist x.since x.merged x.code x.nodes x.calls x.units An Ac Au cn cc cu x.closed call 0 urg 0 0 code nodes A c false w ht ((ri_own hn).more (fun _ _ => trivial)) ((ri_own hc).more (fun _ _ => trivial)) ((ri_own hu).more (fun _ _ => trivial)) (h.more (fun _ _ => trivial)) hs hsc ln lc lu lcn
set_option maxRecDepth 10000 in
set_option maxHeartbeats 16000000 in
theorem alive9 (w : World) (ht : Tab w) : Calls Tryd.prog 9 #[] w (BoolB true w) := by
  have HT := Lib.hid ht
  have HFr := Lib.hid fun (W : World) (A : Option Addr) (c : Nat) (B : Nat → Prop) (hr : RI W B A [1, 2, 3, 4]) => (show Calls Tryd.prog 12 #[.int .i64 9, .agg #[.int .i64 1, .int .i64 0, .int .i64 3, .string ⟨#[102, 97, 108, 108]⟩, .slice A 4 c, .int .i64 0, .int .i64 0, .bool false]] W (fun e w' => ∃ An Ac Au cn cc cu, e = .returned (.tuple #[.agg #[.int .i64 9, .int .i64 3, .string ⟨#[102, 97, 108, 108]⟩, .slice An 4 cn, .int .i64 0, .int .i64 0, .slice Ac 1 cc, .slice Au 0 cu, .int .i64 0, .bool false], .int .i64 0]) ∧ w'.ownsRow W.heap.size 3 1 (.slice An 4 cn) 4 [.int .i64 1, .int .i64 2, .int .i64 3, .int .i64 4] ∧ w'.ownsRow W.heap.size 2 1 (.slice Ac 1 cc) 1 [.int .i64 1] ∧ w'.ownsRow W.heap.size 3 1 (.slice Au 0 cu) 0 [] ∧ Below W.heap.size W w') from (from12 B 9 1 0 3 0 0 fallB A c [1, 2, 3, 4] false W (by decide) hr (by decide)).mono (fun e w' h => by rw [if_pos (by decide +kernel)] at h; exact h))
  have HA1 := Lib.hid fun (W : World) (An Ac Au : Option Addr) (cn cc cu b : Nat) (A : Option Addr) (c : Nat) (B : Nat → Prop) (hT : Tab W) (hr : W.ownsRow b 3 1 (.slice An 4 cn) 4 [.int .i64 1, .int .i64 2, .int .i64 3, .int .i64 4] ∧ W.ownsRow b 2 1 (.slice Ac 1 cc) 1 [.int .i64 1] ∧ W.ownsRow b 3 1 (.slice Au 0 cu) 0 []) (hL : RI W B A [3, 4, 5, 6]) => (show Calls Tryd.prog 19 #[.agg #[.int .i64 9, .int .i64 3, .string ⟨#[102, 97, 108, 108]⟩, .slice An 4 cn, .int .i64 0, .int .i64 0, .slice Ac 1 cc, .slice Au 0 cu, .int .i64 0, .bool false], .agg #[.int .i64 2, .int .i64 0, .int .i64 1, .string ⟨#[97, 114, 114, 101, 115, 116]⟩, .slice A 4 c, .int .i64 0, .int .i64 0, .bool false]] W (fun e w' => ∃ An Ac Au cn cc cu, e = .returned (.tuple #[.agg #[.int .i64 9, .int .i64 1, .string ⟨#[97, 114, 114, 101, 115, 116]⟩, .slice An 2 cn, .int .i64 0, .int .i64 0, .slice Ac 2 cc, .slice Au 0 cu, .int .i64 0, .bool false], .int .i64 0]) ∧ w'.ownsRow W.heap.size 3 1 (.slice An 2 cn) 2 [.int .i64 3, .int .i64 4] ∧ w'.ownsRow W.heap.size 2 1 (.slice Ac 2 cc) 2 [.int .i64 1, .int .i64 2] ∧ w'.ownsRow W.heap.size 3 1 (.slice Au 0 cu) 0 [] ∧ Below W.heap.size W w') from (add_c i1 (by decide) (by decide) (by decide) (by decide) An Ac Au cn cc cu b W hT hr.1 hr.2.1 hr.2.2 2 1 arrB B A c [3, 4, 5, 6] hL (by decide) (by decide)).mono (fun e w' h => by rw [show addI i1 ⟨2, 0, 1, arrB, [3, 4, 5, 6], 0, 0, false⟩ = (i2, 0) from add12] at h; exact h))
  have HA2 := Lib.hid fun (W : World) (An Ac Au : Option Addr) (cn cc cu b : Nat) (A : Option Addr) (c : Nat) (B : Nat → Prop) (hT : Tab W) (hr : W.ownsRow b 3 1 (.slice An 2 cn) 2 [.int .i64 3, .int .i64 4] ∧ W.ownsRow b 2 1 (.slice Ac 2 cc) 2 [.int .i64 1, .int .i64 2] ∧ W.ownsRow b 3 1 (.slice Au 0 cu) 0 []) (hL : RI W B A [9]) => (show Calls Tryd.prog 19 #[.agg #[.int .i64 9, .int .i64 1, .string ⟨#[97, 114, 114, 101, 115, 116]⟩, .slice An 2 cn, .int .i64 0, .int .i64 0, .slice Ac 2 cc, .slice Au 0 cu, .int .i64 0, .bool false], .agg #[.int .i64 3, .int .i64 0, .int .i64 4, .string ⟨#[102, 97, 108, 108]⟩, .slice A 1 c, .int .i64 0, .int .i64 0, .bool false]] W (fun e w' => ∃ An Ac Au cn cc cu, e = .returned (.tuple #[.agg #[.int .i64 9, .int .i64 1, .string ⟨#[97, 114, 114, 101, 115, 116]⟩, .slice An 2 cn, .int .i64 0, .int .i64 0, .slice Ac 3 cc, .slice Au 0 cu, .int .i64 0, .bool false], .int .i64 0]) ∧ w'.ownsRow W.heap.size 3 1 (.slice An 2 cn) 2 [.int .i64 3, .int .i64 4] ∧ w'.ownsRow W.heap.size 2 1 (.slice Ac 3 cc) 3 [.int .i64 1, .int .i64 2, .int .i64 3] ∧ w'.ownsRow W.heap.size 3 1 (.slice Au 0 cu) 0 [] ∧ Below W.heap.size W w') from (add_c i2 (by decide) (by decide) (by decide) (by decide) An Ac Au cn cc cu b W hT hr.1 hr.2.1 hr.2.2 3 4 fallB B A c [9] hL (by decide) (by decide)).mono (fun e w' h => by rw [show addI i2 ⟨3, 0, 4, fallB, [9], 0, 0, false⟩ = (i3, 0) from add23] at h; exact h))
  have HV := Lib.hid fun (W : World) (An Ac Au : Option Addr) (cn cc cu b : Nat) (hr : W.ownsRow b 3 1 (.slice An 2 cn) 2 [.int .i64 3, .int .i64 4] ∧ W.ownsRow b 2 1 (.slice Ac 3 cc) 3 [.int .i64 1, .int .i64 2, .int .i64 3] ∧ W.ownsRow b 3 1 (.slice Au 0 cu) 0 []) => (show Calls Tryd.prog 14 #[.agg #[.int .i64 9, .int .i64 1, .string ⟨#[97, 114, 114, 101, 115, 116]⟩, .slice An 2 cn, .int .i64 0, .int .i64 0, .slice Ac 3 cc, .slice Au 0 cu, .int .i64 0, .bool false]] W (BoolB true W) from (valid14 (fun _ => True) 9 1 0 0 0 arrB An Ac Au cn cc cu [3, 4] [1, 2, 3] [] false W (by decide) ((ri_own hr.1).more (fun _ _ => trivial)) ((ri_own hr.2.1).more (fun _ _ => trivial)) ((ri_own hr.2.2).more (fun _ _ => trivial)) (by decide) (by decide) (by decide)).mono (fun e w' h => by rw [show icB ⟨9, 1, arrB, [3, 4], 0, 0, [1, 2, 3], [], 0, false⟩ = true from i3_ok] at h; exact h))
  have HO := Lib.hid fun (W : World) (An Ac Au : Option Addr) (cn cc cu : Nat) => (show Calls Tryd.prog 16 #[.agg #[.int .i64 9, .int .i64 1, .string ⟨#[97, 114, 114, 101, 115, 116]⟩, .slice An 2 cn, .int .i64 0, .int .i64 0, .slice Ac 3 cc, .slice Au 0 cu, .int .i64 0, .bool false]] W (BoolB true W) from open16 9 1 0 0 0 arrB An Ac Au 2 3 0 cn cc cu false W)
  have H29 := Lib.hid fun (call urg : Int) (code : ByteArray) (A : Option Addr) (n c : Nat) (W : World) => told29 call urg code A n c W
  clear ht
  go_enter Tryd.func9, Tryd.ntmps9
  go_upto_region 4 with (first | (go_at_call 29; ((with_reducible refine (H29.out _ _ _ _ _ _ _).mono ?_); rintro e w2 ⟨rfl, hb2⟩; have HL := Lib.hid ((Reads.newS w [.int .i64 1, .int .i64 2, .int .i64 3, .int .i64 4] 3 (0, 0) 4 1 rfl _ rfl).below hb2 (fun k hk => by subst hk; simp)); have HB2 := Lib.hid (((Below.refl w.heap.size w).alloc (Nat.le_refl _) (.cells [.int .i64 1, .int .i64 2, .int .i64 3, .int .i64 4].toArray 3)).trans (hb2.mono (by simp))))) | (go_at_call 12; ((with_reducible refine (HFr.out _ _ _ _ HL.out).mono ?_); rintro e w3 ⟨An, Ac, Au, cn, cc, cu, rfl, hn3, hc3, hu3, hb3⟩; have HN := Lib.hid (World.ownsRow.mono hn3 HB2.out.size); have HC := Lib.hid (World.ownsRow.mono hc3 HB2.out.size); have HU := Lib.hid (World.ownsRow.mono hu3 HB2.out.size); have HB3 := Lib.hid (HB2.out.trans (hb3.mono HB2.out.size)); clear hn3 hc3 hu3)))
  have HP := Lib.hid (Blk.new w3 25 #[.int .i64 9, .int .i64 3, .string ⟨#[102, 97, 108, 108]⟩, .slice An 4 cn, .int .i64 0, .int .i64 0, .slice Ac 1 cc, .slice Au 0 cu, .int .i64 0, .bool false])
  have HN := Lib.hid (HN.out.alloc (.cells #[.int .i64 9, .int .i64 3, .string ⟨#[102, 97, 108, 108]⟩, .slice An 4 cn, .int .i64 0, .int .i64 0, .slice Ac 1 cc, .slice Au 0 cu, .int .i64 0, .bool false] 25))
  have HC := Lib.hid (HC.out.alloc (.cells #[.int .i64 9, .int .i64 3, .string ⟨#[102, 97, 108, 108]⟩, .slice An 4 cn, .int .i64 0, .int .i64 0, .slice Ac 1 cc, .slice Au 0 cu, .int .i64 0, .bool false] 25))
  have HU := Lib.hid (HU.out.alloc (.cells #[.int .i64 9, .int .i64 3, .string ⟨#[102, 97, 108, 108]⟩, .slice An 4 cn, .int .i64 0, .int .i64 0, .slice Ac 1 cc, .slice Au 0 cu, .int .i64 0, .bool false] 25))
  have HB4 := Lib.hid (HB3.out.alloc HB3.out.size (.cells #[.int .i64 9, .int .i64 3, .string ⟨#[102, 97, 108, 108]⟩, .slice An 4 cn, .int .i64 0, .int .i64 0, .slice Ac 1 cc, .slice Au 0 cu, .int .i64 0, .bool false] 25))
  clear HB3 HB2 HL hb3
  generalize w3.alloc _ = W4 at *
  generalize w3.heap.size = p at *
  have HAdd := Lib.hid fun (W : World) (A : Option Addr) (c : Nat) (hf : Fr (fun _ => False) W4 W) (hL : RI W (fun k => k < W.heap.size) A [3, 4, 5, 6]) => HA1.out W An Ac Au cn cc cu w.heap.size A c _ (Tab.fr (Tab.below HT.out HB4.out HT.out.lt) hf id) ⟨own_fr HN.out hf (fun _ _ => id), own_fr HC.out hf (fun _ _ => id), own_fr HU.out hf (fun _ _ => id)⟩ hL
  go_cut [3, 4] (fun va vb wx => ∃ An Ac Au cn cc cu g, va = .pointer (some ⟨g, 0, none⟩) ∧ vb = .int .i64 0 ∧ Blk wx g 25 #[.int .i64 9, .int .i64 1, .string ⟨#[97, 114, 114, 101, 115, 116]⟩, .slice An 2 cn, .int .i64 0, .int .i64 0, .slice Ac 2 cc, .slice Au 0 cu, .int .i64 0, .bool false] ∧ wx.ownsRow W4.heap.size 3 1 (.slice An 2 cn) 2 [.int .i64 3, .int .i64 4] ∧ wx.ownsRow W4.heap.size 2 1 (.slice Ac 2 cc) 2 [.int .i64 1, .int .i64 2] ∧ wx.ownsRow W4.heap.size 3 1 (.slice Au 0 cu) 0 [] ∧ Fr (fun _ => False) W4 wx)
  case first =>
      refine wp_region_last (S := fun w' => Fr (fun _ => False) W4 w') #[{ dst := some 16, op := Go.Op.load 25 (Go.Operand.tmp 1), type := 25, pos := "law.go:21", after := #[], guard := none }, { dst := some 17, op := Go.Op.buildSlice 22 4 #[(0, Go.Operand.const (Go.Value.int Go.IntKind.i64 3)), (1, Go.Operand.const (Go.Value.int Go.IntKind.i64 4)), (2, Go.Operand.const (Go.Value.int Go.IntKind.i64 5)), (3, Go.Operand.const (Go.Value.int Go.IntKind.i64 6))], type := 22, pos := "law.go:21", after := #[], guard := none }, { dst := some 18, op := Go.Op.call { callee := Go.Callee.value (Go.Operand.func 29), args := #[Go.Operand.const (Go.Value.int Go.IntKind.i64 2), Go.Operand.const (Go.Value.int Go.IntKind.i64 1), Go.Operand.const (Go.Value.string { data := #[97, 114, 114, 101, 115, 116] }), Go.Operand.tmp 17], argTypes := #[2, 3, 9, 22] }, type := 27, pos := "law.go:21", after := #[{ on := 1, ground := Go.Ground.data }], guard := none }, { dst := some 19, op := Go.Op.call { callee := Go.Callee.value (Go.Operand.func 19), args := #[Go.Operand.tmp 16, Go.Operand.tmp 18], argTypes := #[25, 27] }, type := 32, pos := "law.go:21", after := #[{ on := 0, ground := Go.Ground.data }, { on := 2, ground := Go.Ground.data }, { on := 2, ground := Go.Ground.chain }], guard := none }, { dst := some 15, op := Go.Op.move (Go.Operand.tmp 19), type := 32, pos := "law.go:21", after := #[{ on := 3, ground := Go.Ground.data }], guard := none }, { dst := some 20, op := Go.Op.extract (Go.Operand.tmp 15) 0, type := 25, pos := "law.go:21", after := #[{ on := 4, ground := Go.Ground.data }], guard := none }, { dst := some 21, op := Go.Op.extract (Go.Operand.tmp 15) 1, type := 31, pos := "law.go:21", after := #[{ on := 4, ground := Go.Ground.data }, { on := 8, ground := Go.Ground.gcOnly Go.Departure.lateStores }], guard := none }, { dst := some 3, op := Go.Op.alloc 25, type := 0, pos := "law.go:21", after := #[], guard := none }, { dst := none, op := Go.Op.store 25 (Go.Operand.tmp 3) (Go.Operand.tmp 20), type := 0, pos := "law.go:21", after := #[{ on := 7, ground := Go.Ground.data }, { on := 5, ground := Go.Ground.data }, { on := 3, ground := Go.Ground.chain }, { on := 0, ground := Go.Ground.phase }, { on := 1, ground := Go.Ground.phase }, { on := 2, ground := Go.Ground.phase }, { on := 3, ground := Go.Ground.phase }, { on := 4, ground := Go.Ground.phase }, { on := 5, ground := Go.Ground.phase }, { on := 6, ground := Go.Ground.textOnly Go.Departure.lateStores }, { on := 7, ground := Go.Ground.phase }], guard := none }] { dst := some 4, op := Go.Op.assign (Go.Operand.tmp 21), type := 31, pos := "law.go:21", after := #[{ on := 6, ground := Go.Ground.data }, { on := 8, ground := Go.Ground.chain }, { on := 0, ground := Go.Ground.phase }, { on := 1, ground := Go.Ground.phase }, { on := 2, ground := Go.Ground.phase }, { on := 3, ground := Go.Ground.phase }, { on := 4, ground := Go.Ground.phase }, { on := 5, ground := Go.Ground.phase }, { on := 6, ground := Go.Ground.phase }, { on := 7, ground := Go.Ground.phase }, { on := 8, ground := Go.Ground.phase }], guard := none } (by rfl) (by kernel_rfl) (by kernel_rfl) ?_ (fun hHeld => ?_)
      · exact (Fr.refl _ _).drew
      have HR := Lib.hid hHeld
      generalize W4.drew = wx at *
      refine wpAnyH_take (i := 0) (oi := { dst := some 16, op := Go.Op.load 25 (Go.Operand.tmp 1), type := 25, pos := "law.go:21", after := #[], guard := none }) (v := ?v0) rfl (by kernel_rfl) (by kernel_rfl) (by kernel_rfl) (fun _ _ _ h => h) (Or.inl ⟨by rfl, ?hy0⟩) hHeld ?rest0
      case hy0 =>
        intro w0 hSw
        try obtain ⟨-, hS1, -⟩ := (HP.out.fr hSw id).facts
        go_simp
        try with_reducible rfl
      try simp only [Act.put, List.setIfInBounds_toArray, List.set_cons_zero, List.set_cons_succ]
      refine wpAnyH_ready (rs := [1, 7]) (by kernel_rfl) (by simp) ?_
      refine AllReadyH.cons (o := { dst := some 17, op := Go.Op.buildSlice 22 4 #[(0, Go.Operand.const (Go.Value.int Go.IntKind.i64 3)), (1, Go.Operand.const (Go.Value.int Go.IntKind.i64 4)), (2, Go.Operand.const (Go.Value.int Go.IntKind.i64 5)), (3, Go.Operand.const (Go.Value.int Go.IntKind.i64 6))], type := 22, pos := "law.go:21", after := #[], guard := none }) rfl (fun K hK => ?_) ?_
      · skip
        go_simp
        have hbn := Reads.newS wx [.int .i64 3, .int .i64 4, .int .i64 5, .int .i64 6] 3 (0, 0) 4 1 rfl _ rfl
        have hrn := HR.out.alloc (.cells [.int .i64 3, .int .i64 4, .int .i64 5, .int .i64 6].toArray 3)
        try replace HL := Lib.hid ((HL.out.alloc (.cells [.int .i64 3, .int .i64 4, .int .i64 5, .int .i64 6].toArray 3)).more (B' := fun k => k < (wx.alloc (.cells [.int .i64 3, .int .i64 4, .int .i64 5, .int .i64 6].toArray 3)).heap.size) (fun k hk => Nat.lt_of_lt_of_le (show k < wx.heap.size from hk) (by simp)))
        try replace HZ := Lib.hid (HZ.out.alloc (.cells [.int .i64 3, .int .i64 4, .int .i64 5, .int .i64 6].toArray 3))
        try replace HN2 := Lib.hid (HN2.out.alloc (.cells [.int .i64 3, .int .i64 4, .int .i64 5, .int .i64 6].toArray 3))
        try replace HC2 := Lib.hid (HC2.out.alloc (.cells [.int .i64 3, .int .i64 4, .int .i64 5, .int .i64 6].toArray 3))
        try replace HU2 := Lib.hid (HU2.out.alloc (.cells [.int .i64 3, .int .i64 4, .int .i64 5, .int .i64 6].toArray 3))
        have HL := Lib.hid (hbn.more (B' := fun k => k < (wx.alloc (.cells [.int .i64 3, .int .i64 4, .int .i64 5, .int .i64 6].toArray 3)).heap.size) (fun k hk => by simp; omega))
        clear hbn
        generalize wx.alloc _ = wz at *
        generalize wx.heap.size = gl at *
        replace HR := Lib.hid hrn
        clear hrn
        obtain ⟨wx, hwx⟩ : ∃ wx, wx = wz := ⟨_, rfl⟩
        rw [← hwx] at HR ⊢
        try rw [← hwx] at HL
        try rw [← hwx] at HZ
        try rw [← hwx] at HN2
        try rw [← hwx] at HC2
        try rw [← hwx] at HU2
        try rw [← hwx] at HQ
        clear hwx
        refine hK.out _ _ ?_ (fun hHeld => ?_)
        · exact HR.out
        clear hK K
        try simp only [Act.put, List.setIfInBounds_toArray, List.set_cons_zero, List.set_cons_succ]
        refine wpAnyH_ready (rs := [2, 7]) (by kernel_rfl) (by simp) ?_
        refine AllReadyH.cons (o := { dst := some 18, op := Go.Op.call { callee := Go.Callee.value (Go.Operand.func 29), args := #[Go.Operand.const (Go.Value.int Go.IntKind.i64 2), Go.Operand.const (Go.Value.int Go.IntKind.i64 1), Go.Operand.const (Go.Value.string { data := #[97, 114, 114, 101, 115, 116] }), Go.Operand.tmp 17], argTypes := #[2, 3, 9, 22] }, type := 27, pos := "law.go:21", after := #[{ on := 1, ground := Go.Ground.data }], guard := none }) rfl (fun K hK => ?_) ?_
        · skip
          go_simp
          go_wp2_with (go_at_call 29; ((with_reducible refine (H29.out _ _ _ _ _ _ _).mono ?_); rintro e wz ⟨rfl, hbz⟩))
          replace HR := Lib.hid (HR.out.trans (Fr.of_below hbz (S := fun _ => False)))
          try replace HL := Lib.hid (((HL.out.below hbz (fun k hk => hk)).old (by omega)).more (B' := fun k => k < wz.heap.size) (fun k hk => hk.2))
          try replace HZ := Lib.hid (HZ.out.below hbz HZ.out.lt)
          try replace HN2 := Lib.hid (own_below HN2.out hbz (fun g hg => (HN2.out.lt g hg).2))
          try replace HC2 := Lib.hid (own_below HC2.out hbz (fun g hg => (HC2.out.lt g hg).2))
          try replace HU2 := Lib.hid (own_below HU2.out hbz (fun g hg => (HU2.out.lt g hg).2))
          clear hbz
          obtain ⟨wx, hwx⟩ : ∃ wx, wx = wz := ⟨_, rfl⟩
          rw [← hwx] at HR ⊢
          try rw [← hwx] at HL
          try rw [← hwx] at HZ
          try rw [← hwx] at HN2
          try rw [← hwx] at HC2
          try rw [← hwx] at HU2
          try rw [← hwx] at HQ
          clear hwx
          refine hK.out _ _ ?_ (fun hHeld => ?_)
          · exact HR.out
          clear hK K
          try simp only [Act.put, List.setIfInBounds_toArray, List.set_cons_zero, List.set_cons_succ]
          refine wpAnyH_ready (rs := [3, 7]) (by kernel_rfl) (by simp) ?_
          refine AllReadyH.cons (o := { dst := some 19, op := Go.Op.call { callee := Go.Callee.value (Go.Operand.func 19), args := #[Go.Operand.tmp 16, Go.Operand.tmp 18], argTypes := #[25, 27] }, type := 32, pos := "law.go:21", after := #[{ on := 0, ground := Go.Ground.data }, { on := 2, ground := Go.Ground.data }, { on := 2, ground := Go.Ground.chain }], guard := none }) rfl (fun K hK => ?_) ?_
          · skip
            go_simp
            go_wp2_with (go_at_call 19; ((with_reducible refine (HAdd.out _ _ _ HR.out HL.out).mono ?_); rintro e wz ⟨An2, Ac2, Au2, cn2, cc2, cu2, rfl, hn2, hc2, hu2, hbz⟩))
            have HN2 := Lib.hid (World.ownsRow.mono hn2 (show W4.heap.size ≤ _ from HR.out.size))
            have HC2 := Lib.hid (World.ownsRow.mono hc2 (show W4.heap.size ≤ _ from HR.out.size))
            have HU2 := Lib.hid (World.ownsRow.mono hu2 (show W4.heap.size ≤ _ from HR.out.size))
            clear hn2 hc2 hu2
            replace HR := Lib.hid (HR.out.trans (Fr.of_below hbz (S := fun _ => False)))
            try replace HZ := Lib.hid (HZ.out.below hbz HZ.out.lt)
            clear hbz
            obtain ⟨wx, hwx⟩ : ∃ wx, wx = wz := ⟨_, rfl⟩
            rw [← hwx] at HR ⊢
            try rw [← hwx] at HL
            try rw [← hwx] at HZ
            try rw [← hwx] at HN2
            try rw [← hwx] at HC2
            try rw [← hwx] at HU2
            try rw [← hwx] at HQ
            clear hwx
            refine hK.out _ _ ?_ (fun hHeld => ?_)
            · exact HR.out
            clear hK K
            try simp only [Act.put, List.setIfInBounds_toArray, List.set_cons_zero, List.set_cons_succ]
            refine wpAnyH_take (i := 4) (oi := { dst := some 15, op := Go.Op.move (Go.Operand.tmp 19), type := 32, pos := "law.go:21", after := #[{ on := 3, ground := Go.Ground.data }], guard := none }) (v := ?v1) rfl (by kernel_rfl) (by kernel_rfl) (by kernel_rfl) (fun _ _ _ h => h) (Or.inl ⟨by rfl, ?hy1⟩) hHeld ?rest1
            case hy1 =>
              intro w0 hSw
              try obtain ⟨-, hS1, -⟩ := (HP.out.fr hSw id).facts
              go_simp
              try with_reducible rfl
            try simp only [Act.put, List.setIfInBounds_toArray, List.set_cons_zero, List.set_cons_succ]
            refine wpAnyH_take (i := 5) (oi := { dst := some 20, op := Go.Op.extract (Go.Operand.tmp 15) 0, type := 25, pos := "law.go:21", after := #[{ on := 4, ground := Go.Ground.data }], guard := none }) (v := ?v2) rfl (by kernel_rfl) (by kernel_rfl) (by kernel_rfl) (fun _ _ _ h => h) (Or.inl ⟨by rfl, ?hy2⟩) hHeld ?rest2
            case hy2 =>
              intro w0 hSw
              try obtain ⟨-, hS1, -⟩ := (HP.out.fr hSw id).facts
              go_simp
              try with_reducible rfl
            try simp only [Act.put, List.setIfInBounds_toArray, List.set_cons_zero, List.set_cons_succ]
            refine wpAnyH_take (i := 6) (oi := { dst := some 21, op := Go.Op.extract (Go.Operand.tmp 15) 1, type := 31, pos := "law.go:21", after := #[{ on := 4, ground := Go.Ground.data }, { on := 8, ground := Go.Ground.gcOnly Go.Departure.lateStores }], guard := none }) (v := ?v3) rfl (by kernel_rfl) (by kernel_rfl) (by kernel_rfl) (fun _ _ _ h => h) (Or.inl ⟨by rfl, ?hy3⟩) hHeld ?rest3
            case hy3 =>
              intro w0 hSw
              try obtain ⟨-, hS1, -⟩ := (HP.out.fr hSw id).facts
              go_simp
              try with_reducible rfl
            try simp only [Act.put, List.setIfInBounds_toArray, List.set_cons_zero, List.set_cons_succ]
            refine wpAnyH_ready (rs := [7]) (by kernel_rfl) (by simp) ?_
            refine AllReadyH.cons (o := { dst := some 3, op := Go.Op.alloc 25, type := 0, pos := "law.go:21", after := #[], guard := none }) rfl (fun K hK => ?_) ?_
            · skip
              go_simp
              have hbn := Blk.new wx 25 #[.int .i64 0, .int .i64 0, .string ⟨#[]⟩, .slice none 0 0, .int .i64 0, .int .i64 0, .slice none 0 0, .slice none 0 0, .int .i64 0, .bool false]
              have hge := HR.out.size
              have hrn := HR.out.alloc (.cells #[.int .i64 0, .int .i64 0, .string ⟨#[]⟩, .slice none 0 0, .int .i64 0, .int .i64 0, .slice none 0 0, .slice none 0 0, .int .i64 0, .bool false] 25)
              try replace HL := Lib.hid ((HL.out.alloc (.cells #[.int .i64 0, .int .i64 0, .string ⟨#[]⟩, .slice none 0 0, .int .i64 0, .int .i64 0, .slice none 0 0, .slice none 0 0, .int .i64 0, .bool false] 25)).more (B' := fun k => k < (wx.alloc (.cells #[.int .i64 0, .int .i64 0, .string ⟨#[]⟩, .slice none 0 0, .int .i64 0, .int .i64 0, .slice none 0 0, .slice none 0 0, .int .i64 0, .bool false] 25)).heap.size) (fun k hk => Nat.lt_of_lt_of_le (show k < wx.heap.size from hk) (by simp)))
              try replace HZ := Lib.hid (HZ.out.alloc (.cells #[.int .i64 0, .int .i64 0, .string ⟨#[]⟩, .slice none 0 0, .int .i64 0, .int .i64 0, .slice none 0 0, .slice none 0 0, .int .i64 0, .bool false] 25))
              try replace HN2 := Lib.hid (HN2.out.alloc (.cells #[.int .i64 0, .int .i64 0, .string ⟨#[]⟩, .slice none 0 0, .int .i64 0, .int .i64 0, .slice none 0 0, .slice none 0 0, .int .i64 0, .bool false] 25))
              try replace HC2 := Lib.hid (HC2.out.alloc (.cells #[.int .i64 0, .int .i64 0, .string ⟨#[]⟩, .slice none 0 0, .int .i64 0, .int .i64 0, .slice none 0 0, .slice none 0 0, .int .i64 0, .bool false] 25))
              try replace HU2 := Lib.hid (HU2.out.alloc (.cells #[.int .i64 0, .int .i64 0, .string ⟨#[]⟩, .slice none 0 0, .int .i64 0, .int .i64 0, .slice none 0 0, .slice none 0 0, .int .i64 0, .bool false] 25))
              generalize wx.alloc _ = wz at *
              generalize wx.heap.size = gz at *
              have HZ := Lib.hid hbn
              have HG := Lib.hid hge
              replace HR := Lib.hid hrn
              clear hbn hge hrn
              obtain ⟨wx, hwx⟩ : ∃ wx, wx = wz := ⟨_, rfl⟩
              rw [← hwx] at HR ⊢
              try rw [← hwx] at HL
              try rw [← hwx] at HZ
              try rw [← hwx] at HN2
              try rw [← hwx] at HC2
              try rw [← hwx] at HU2
              try rw [← hwx] at HQ
              clear hwx
              refine hK.out _ _ ?_ (fun hHeld => ?_)
              · exact HR.out
              clear hK K
              try simp only [Act.put, List.setIfInBounds_toArray, List.set_cons_zero, List.set_cons_succ]
              refine wpAnyH_ready (rs := [8]) (by kernel_rfl) (by simp) ?_
              refine AllReadyH.cons (o := { dst := none, op := Go.Op.store 25 (Go.Operand.tmp 3) (Go.Operand.tmp 20), type := 0, pos := "law.go:21", after := #[{ on := 7, ground := Go.Ground.data }, { on := 5, ground := Go.Ground.data }, { on := 3, ground := Go.Ground.chain }, { on := 0, ground := Go.Ground.phase }, { on := 1, ground := Go.Ground.phase }, { on := 2, ground := Go.Ground.phase }, { on := 3, ground := Go.Ground.phase }, { on := 4, ground := Go.Ground.phase }, { on := 5, ground := Go.Ground.phase }, { on := 6, ground := Go.Ground.textOnly Go.Departure.lateStores }, { on := 7, ground := Go.Ground.phase }], guard := none }) rfl (fun K hK => ?_) ?_
              · skip
                refine step_storeBlk _ (by rfl) (.tmp 3) (.tmp 20) 25 (by rfl) _ 25 _ #[.int .i64 9, .int .i64 1, .string ⟨#[97, 114, 114, 101, 115, 116]⟩, .slice An2 2 cn2, .int .i64 0, .int .i64 0, .slice Ac2 2 cc2, .slice Au2 0 cu2, .int .i64 0, .bool false] _ 10 136 info25 (by rfl) (by rfl) (by rfl) HZ.out (by rfl) (ten_one (by simp [Value.oneCell'])) ?_
                intro wz hbz hfz hsz
                replace HN2 := Lib.hid (own_fr HN2.out hfz (own_ne_blk HN2.out HZ.out (by decide)))
                replace HC2 := Lib.hid (own_fr HC2.out hfz (own_ne_blk HC2.out HZ.out (by decide)))
                replace HU2 := Lib.hid (own_fr HU2.out hfz (own_ne_blk HU2.out HZ.out (by decide)))
                replace HR := Lib.hid (HR.out.trans_ hfz (fun i e => Or.inr (by have := HG.out; omega)))
                have HQ := Lib.hid hbz
                clear hbz hfz hsz HZ
                obtain ⟨wx, hwx⟩ : ∃ wx, wx = wz := ⟨_, rfl⟩
                rw [← hwx] at HR ⊢
                try rw [← hwx] at HL
                try rw [← hwx] at HZ
                try rw [← hwx] at HN2
                try rw [← hwx] at HC2
                try rw [← hwx] at HU2
                try rw [← hwx] at HQ
                clear hwx
                refine hK.out _ _ ?_ (fun hHeld => ?_)
                · exact HR.out
                clear hK K
                try simp only [Act.put, List.setIfInBounds_toArray, List.set_cons_zero, List.set_cons_succ]
                refine wpAnyH_done (by kernel_rfl) ?_ _
                refine last_do ({ dst := some 4, op := Go.Op.assign (Go.Operand.tmp 21), type := 31, pos := "law.go:21", after := #[{ on := 6, ground := Go.Ground.data }, { on := 8, ground := Go.Ground.chain }, { on := 0, ground := Go.Ground.phase }, { on := 1, ground := Go.Ground.phase }, { on := 2, ground := Go.Ground.phase }, { on := 3, ground := Go.Ground.phase }, { on := 4, ground := Go.Ground.phase }, { on := 5, ground := Go.Ground.phase }, { on := 6, ground := Go.Ground.phase }, { on := 7, ground := Go.Ground.phase }, { on := 8, ground := Go.Ground.phase }], guard := none }) rfl (fun K hK => ?_)
                go_simp
                refine hK _ _ ?_
                go_wp2_with fail
                go_meet
                case rel => exact ⟨_, _, _, _, _, _, _, rfl, rfl, HQ.out, HN2.out, HC2.out, HU2.out, HR.out⟩
              exact AllReadyH.nil
            exact AllReadyH.nil
          refine AllReadyH.cons (o := { dst := some 3, op := Go.Op.alloc 25, type := 0, pos := "law.go:21", after := #[], guard := none }) rfl (fun K hK => ?_) ?_
          · skip
            go_simp
            have hbn := Blk.new wx 25 #[.int .i64 0, .int .i64 0, .string ⟨#[]⟩, .slice none 0 0, .int .i64 0, .int .i64 0, .slice none 0 0, .slice none 0 0, .int .i64 0, .bool false]
            have hge := HR.out.size
            have hrn := HR.out.alloc (.cells #[.int .i64 0, .int .i64 0, .string ⟨#[]⟩, .slice none 0 0, .int .i64 0, .int .i64 0, .slice none 0 0, .slice none 0 0, .int .i64 0, .bool false] 25)
            try replace HL := Lib.hid ((HL.out.alloc (.cells #[.int .i64 0, .int .i64 0, .string ⟨#[]⟩, .slice none 0 0, .int .i64 0, .int .i64 0, .slice none 0 0, .slice none 0 0, .int .i64 0, .bool false] 25)).more (B' := fun k => k < (wx.alloc (.cells #[.int .i64 0, .int .i64 0, .string ⟨#[]⟩, .slice none 0 0, .int .i64 0, .int .i64 0, .slice none 0 0, .slice none 0 0, .int .i64 0, .bool false] 25)).heap.size) (fun k hk => Nat.lt_of_lt_of_le (show k < wx.heap.size from hk) (by simp)))
            try replace HZ := Lib.hid (HZ.out.alloc (.cells #[.int .i64 0, .int .i64 0, .string ⟨#[]⟩, .slice none 0 0, .int .i64 0, .int .i64 0, .slice none 0 0, .slice none 0 0, .int .i64 0, .bool false] 25))
            try replace HN2 := Lib.hid (HN2.out.alloc (.cells #[.int .i64 0, .int .i64 0, .string ⟨#[]⟩, .slice none 0 0, .int .i64 0, .int .i64 0, .slice none 0 0, .slice none 0 0, .int .i64 0, .bool false] 25))
            try replace HC2 := Lib.hid (HC2.out.alloc (.cells #[.int .i64 0, .int .i64 0, .string ⟨#[]⟩, .slice none 0 0, .int .i64 0, .int .i64 0, .slice none 0 0, .slice none 0 0, .int .i64 0, .bool false] 25))
            try replace HU2 := Lib.hid (HU2.out.alloc (.cells #[.int .i64 0, .int .i64 0, .string ⟨#[]⟩, .slice none 0 0, .int .i64 0, .int .i64 0, .slice none 0 0, .slice none 0 0, .int .i64 0, .bool false] 25))
            generalize wx.alloc _ = wz at *
            generalize wx.heap.size = gz at *
            have HZ := Lib.hid hbn
            have HG := Lib.hid hge
            replace HR := Lib.hid hrn
            clear hbn hge hrn
            obtain ⟨wx, hwx⟩ : ∃ wx, wx = wz := ⟨_, rfl⟩
            rw [← hwx] at HR ⊢
            try rw [← hwx] at HL
            try rw [← hwx] at HZ
            try rw [← hwx] at HN2
            try rw [← hwx] at HC2
            try rw [← hwx] at HU2
            try rw [← hwx] at HQ
            clear hwx
            refine hK.out _ _ ?_ (fun hHeld => ?_)
            · exact HR.out
            clear hK K
            try simp only [Act.put, List.setIfInBounds_toArray, List.set_cons_zero, List.set_cons_succ]
            refine wpAnyH_ready (rs := [3]) (by kernel_rfl) (by simp) ?_
            refine AllReadyH.cons (o := { dst := some 19, op := Go.Op.call { callee := Go.Callee.value (Go.Operand.func 19), args := #[Go.Operand.tmp 16, Go.Operand.tmp 18], argTypes := #[25, 27] }, type := 32, pos := "law.go:21", after := #[{ on := 0, ground := Go.Ground.data }, { on := 2, ground := Go.Ground.data }, { on := 2, ground := Go.Ground.chain }], guard := none }) rfl (fun K hK => ?_) ?_
            · skip
              go_simp
              go_wp2_with (go_at_call 19; ((with_reducible refine (HAdd.out _ _ _ HR.out HL.out).mono ?_); rintro e wz ⟨An2, Ac2, Au2, cn2, cc2, cu2, rfl, hn2, hc2, hu2, hbz⟩))
              have HN2 := Lib.hid (World.ownsRow.mono hn2 (show W4.heap.size ≤ _ from HR.out.size))
              have HC2 := Lib.hid (World.ownsRow.mono hc2 (show W4.heap.size ≤ _ from HR.out.size))
              have HU2 := Lib.hid (World.ownsRow.mono hu2 (show W4.heap.size ≤ _ from HR.out.size))
              clear hn2 hc2 hu2
              replace HR := Lib.hid (HR.out.trans (Fr.of_below hbz (S := fun _ => False)))
              try replace HZ := Lib.hid (HZ.out.below hbz HZ.out.lt)
              clear hbz
              obtain ⟨wx, hwx⟩ : ∃ wx, wx = wz := ⟨_, rfl⟩
              rw [← hwx] at HR ⊢
              try rw [← hwx] at HL
              try rw [← hwx] at HZ
              try rw [← hwx] at HN2
              try rw [← hwx] at HC2
              try rw [← hwx] at HU2
              try rw [← hwx] at HQ
              clear hwx
              refine hK.out _ _ ?_ (fun hHeld => ?_)
              · exact HR.out
              clear hK K
              try simp only [Act.put, List.setIfInBounds_toArray, List.set_cons_zero, List.set_cons_succ]
              refine wpAnyH_take (i := 4) (oi := { dst := some 15, op := Go.Op.move (Go.Operand.tmp 19), type := 32, pos := "law.go:21", after := #[{ on := 3, ground := Go.Ground.data }], guard := none }) (v := ?v4) rfl (by kernel_rfl) (by kernel_rfl) (by kernel_rfl) (fun _ _ _ h => h) (Or.inl ⟨by rfl, ?hy4⟩) hHeld ?rest4
              case hy4 =>
                intro w0 hSw
                try obtain ⟨-, hS1, -⟩ := (HP.out.fr hSw id).facts
                go_simp
                try with_reducible rfl
              try simp only [Act.put, List.setIfInBounds_toArray, List.set_cons_zero, List.set_cons_succ]
              refine wpAnyH_take (i := 5) (oi := { dst := some 20, op := Go.Op.extract (Go.Operand.tmp 15) 0, type := 25, pos := "law.go:21", after := #[{ on := 4, ground := Go.Ground.data }], guard := none }) (v := ?v5) rfl (by kernel_rfl) (by kernel_rfl) (by kernel_rfl) (fun _ _ _ h => h) (Or.inl ⟨by rfl, ?hy5⟩) hHeld ?rest5
              case hy5 =>
                intro w0 hSw
                try obtain ⟨-, hS1, -⟩ := (HP.out.fr hSw id).facts
                go_simp
                try with_reducible rfl
              try simp only [Act.put, List.setIfInBounds_toArray, List.set_cons_zero, List.set_cons_succ]
              refine wpAnyH_take (i := 6) (oi := { dst := some 21, op := Go.Op.extract (Go.Operand.tmp 15) 1, type := 31, pos := "law.go:21", after := #[{ on := 4, ground := Go.Ground.data }, { on := 8, ground := Go.Ground.gcOnly Go.Departure.lateStores }], guard := none }) (v := ?v6) rfl (by kernel_rfl) (by kernel_rfl) (by kernel_rfl) (fun _ _ _ h => h) (Or.inl ⟨by rfl, ?hy6⟩) hHeld ?rest6
              case hy6 =>
                intro w0 hSw
                try obtain ⟨-, hS1, -⟩ := (HP.out.fr hSw id).facts
                go_simp
                try with_reducible rfl
              try simp only [Act.put, List.setIfInBounds_toArray, List.set_cons_zero, List.set_cons_succ]
              refine wpAnyH_ready (rs := [8]) (by kernel_rfl) (by simp) ?_
              refine AllReadyH.cons (o := { dst := none, op := Go.Op.store 25 (Go.Operand.tmp 3) (Go.Operand.tmp 20), type := 0, pos := "law.go:21", after := #[{ on := 7, ground := Go.Ground.data }, { on := 5, ground := Go.Ground.data }, { on := 3, ground := Go.Ground.chain }, { on := 0, ground := Go.Ground.phase }, { on := 1, ground := Go.Ground.phase }, { on := 2, ground := Go.Ground.phase }, { on := 3, ground := Go.Ground.phase }, { on := 4, ground := Go.Ground.phase }, { on := 5, ground := Go.Ground.phase }, { on := 6, ground := Go.Ground.textOnly Go.Departure.lateStores }, { on := 7, ground := Go.Ground.phase }], guard := none }) rfl (fun K hK => ?_) ?_
              · skip
                refine step_storeBlk _ (by rfl) (.tmp 3) (.tmp 20) 25 (by rfl) _ 25 _ #[.int .i64 9, .int .i64 1, .string ⟨#[97, 114, 114, 101, 115, 116]⟩, .slice An2 2 cn2, .int .i64 0, .int .i64 0, .slice Ac2 2 cc2, .slice Au2 0 cu2, .int .i64 0, .bool false] _ 10 136 info25 (by rfl) (by rfl) (by rfl) HZ.out (by rfl) (ten_one (by simp [Value.oneCell'])) ?_
                intro wz hbz hfz hsz
                replace HN2 := Lib.hid (own_fr HN2.out hfz (own_ne_blk HN2.out HZ.out (by decide)))
                replace HC2 := Lib.hid (own_fr HC2.out hfz (own_ne_blk HC2.out HZ.out (by decide)))
                replace HU2 := Lib.hid (own_fr HU2.out hfz (own_ne_blk HU2.out HZ.out (by decide)))
                replace HR := Lib.hid (HR.out.trans_ hfz (fun i e => Or.inr (by have := HG.out; omega)))
                have HQ := Lib.hid hbz
                clear hbz hfz hsz HZ
                obtain ⟨wx, hwx⟩ : ∃ wx, wx = wz := ⟨_, rfl⟩
                rw [← hwx] at HR ⊢
                try rw [← hwx] at HL
                try rw [← hwx] at HZ
                try rw [← hwx] at HN2
                try rw [← hwx] at HC2
                try rw [← hwx] at HU2
                try rw [← hwx] at HQ
                clear hwx
                refine hK.out _ _ ?_ (fun hHeld => ?_)
                · exact HR.out
                clear hK K
                try simp only [Act.put, List.setIfInBounds_toArray, List.set_cons_zero, List.set_cons_succ]
                refine wpAnyH_done (by kernel_rfl) ?_ _
                refine last_do ({ dst := some 4, op := Go.Op.assign (Go.Operand.tmp 21), type := 31, pos := "law.go:21", after := #[{ on := 6, ground := Go.Ground.data }, { on := 8, ground := Go.Ground.chain }, { on := 0, ground := Go.Ground.phase }, { on := 1, ground := Go.Ground.phase }, { on := 2, ground := Go.Ground.phase }, { on := 3, ground := Go.Ground.phase }, { on := 4, ground := Go.Ground.phase }, { on := 5, ground := Go.Ground.phase }, { on := 6, ground := Go.Ground.phase }, { on := 7, ground := Go.Ground.phase }, { on := 8, ground := Go.Ground.phase }], guard := none }) rfl (fun K hK => ?_)
                go_simp
                refine hK _ _ ?_
                go_wp2_with fail
                go_meet
                case rel => exact ⟨_, _, _, _, _, _, _, rfl, rfl, HQ.out, HN2.out, HC2.out, HU2.out, HR.out⟩
              exact AllReadyH.nil
            exact AllReadyH.nil
          exact AllReadyH.nil
        refine AllReadyH.cons (o := { dst := some 3, op := Go.Op.alloc 25, type := 0, pos := "law.go:21", after := #[], guard := none }) rfl (fun K hK => ?_) ?_
        · skip
          go_simp
          have hbn := Blk.new wx 25 #[.int .i64 0, .int .i64 0, .string ⟨#[]⟩, .slice none 0 0, .int .i64 0, .int .i64 0, .slice none 0 0, .slice none 0 0, .int .i64 0, .bool false]
          have hge := HR.out.size
          have hrn := HR.out.alloc (.cells #[.int .i64 0, .int .i64 0, .string ⟨#[]⟩, .slice none 0 0, .int .i64 0, .int .i64 0, .slice none 0 0, .slice none 0 0, .int .i64 0, .bool false] 25)
          try replace HL := Lib.hid ((HL.out.alloc (.cells #[.int .i64 0, .int .i64 0, .string ⟨#[]⟩, .slice none 0 0, .int .i64 0, .int .i64 0, .slice none 0 0, .slice none 0 0, .int .i64 0, .bool false] 25)).more (B' := fun k => k < (wx.alloc (.cells #[.int .i64 0, .int .i64 0, .string ⟨#[]⟩, .slice none 0 0, .int .i64 0, .int .i64 0, .slice none 0 0, .slice none 0 0, .int .i64 0, .bool false] 25)).heap.size) (fun k hk => Nat.lt_of_lt_of_le (show k < wx.heap.size from hk) (by simp)))
          try replace HZ := Lib.hid (HZ.out.alloc (.cells #[.int .i64 0, .int .i64 0, .string ⟨#[]⟩, .slice none 0 0, .int .i64 0, .int .i64 0, .slice none 0 0, .slice none 0 0, .int .i64 0, .bool false] 25))
          try replace HN2 := Lib.hid (HN2.out.alloc (.cells #[.int .i64 0, .int .i64 0, .string ⟨#[]⟩, .slice none 0 0, .int .i64 0, .int .i64 0, .slice none 0 0, .slice none 0 0, .int .i64 0, .bool false] 25))
          try replace HC2 := Lib.hid (HC2.out.alloc (.cells #[.int .i64 0, .int .i64 0, .string ⟨#[]⟩, .slice none 0 0, .int .i64 0, .int .i64 0, .slice none 0 0, .slice none 0 0, .int .i64 0, .bool false] 25))
          try replace HU2 := Lib.hid (HU2.out.alloc (.cells #[.int .i64 0, .int .i64 0, .string ⟨#[]⟩, .slice none 0 0, .int .i64 0, .int .i64 0, .slice none 0 0, .slice none 0 0, .int .i64 0, .bool false] 25))
          generalize wx.alloc _ = wz at *
          generalize wx.heap.size = gz at *
          have HZ := Lib.hid hbn
          have HG := Lib.hid hge
          replace HR := Lib.hid hrn
          clear hbn hge hrn
          obtain ⟨wx, hwx⟩ : ∃ wx, wx = wz := ⟨_, rfl⟩
          rw [← hwx] at HR ⊢
          try rw [← hwx] at HL
          try rw [← hwx] at HZ
          try rw [← hwx] at HN2
          try rw [← hwx] at HC2
          try rw [← hwx] at HU2
          try rw [← hwx] at HQ
          clear hwx
          refine hK.out _ _ ?_ (fun hHeld => ?_)
          · exact HR.out
          clear hK K
          try simp only [Act.put, List.setIfInBounds_toArray, List.set_cons_zero, List.set_cons_succ]
          refine wpAnyH_ready (rs := [2]) (by kernel_rfl) (by simp) ?_
          refine AllReadyH.cons (o := { dst := some 18, op := Go.Op.call { callee := Go.Callee.value (Go.Operand.func 29), args := #[Go.Operand.const (Go.Value.int Go.IntKind.i64 2), Go.Operand.const (Go.Value.int Go.IntKind.i64 1), Go.Operand.const (Go.Value.string { data := #[97, 114, 114, 101, 115, 116] }), Go.Operand.tmp 17], argTypes := #[2, 3, 9, 22] }, type := 27, pos := "law.go:21", after := #[{ on := 1, ground := Go.Ground.data }], guard := none }) rfl (fun K hK => ?_) ?_
          · skip
            go_simp
            go_wp2_with (go_at_call 29; ((with_reducible refine (H29.out _ _ _ _ _ _ _).mono ?_); rintro e wz ⟨rfl, hbz⟩))
            replace HR := Lib.hid (HR.out.trans (Fr.of_below hbz (S := fun _ => False)))
            try replace HL := Lib.hid (((HL.out.below hbz (fun k hk => hk)).old (by omega)).more (B' := fun k => k < wz.heap.size) (fun k hk => hk.2))
            try replace HZ := Lib.hid (HZ.out.below hbz HZ.out.lt)
            try replace HN2 := Lib.hid (own_below HN2.out hbz (fun g hg => (HN2.out.lt g hg).2))
            try replace HC2 := Lib.hid (own_below HC2.out hbz (fun g hg => (HC2.out.lt g hg).2))
            try replace HU2 := Lib.hid (own_below HU2.out hbz (fun g hg => (HU2.out.lt g hg).2))
            clear hbz
            obtain ⟨wx, hwx⟩ : ∃ wx, wx = wz := ⟨_, rfl⟩
            rw [← hwx] at HR ⊢
            try rw [← hwx] at HL
            try rw [← hwx] at HZ
            try rw [← hwx] at HN2
            try rw [← hwx] at HC2
            try rw [← hwx] at HU2
            try rw [← hwx] at HQ
            clear hwx
            refine hK.out _ _ ?_ (fun hHeld => ?_)
            · exact HR.out
            clear hK K
            try simp only [Act.put, List.setIfInBounds_toArray, List.set_cons_zero, List.set_cons_succ]
            refine wpAnyH_ready (rs := [3]) (by kernel_rfl) (by simp) ?_
            refine AllReadyH.cons (o := { dst := some 19, op := Go.Op.call { callee := Go.Callee.value (Go.Operand.func 19), args := #[Go.Operand.tmp 16, Go.Operand.tmp 18], argTypes := #[25, 27] }, type := 32, pos := "law.go:21", after := #[{ on := 0, ground := Go.Ground.data }, { on := 2, ground := Go.Ground.data }, { on := 2, ground := Go.Ground.chain }], guard := none }) rfl (fun K hK => ?_) ?_
            · skip
              go_simp
              go_wp2_with (go_at_call 19; ((with_reducible refine (HAdd.out _ _ _ HR.out HL.out).mono ?_); rintro e wz ⟨An2, Ac2, Au2, cn2, cc2, cu2, rfl, hn2, hc2, hu2, hbz⟩))
              have HN2 := Lib.hid (World.ownsRow.mono hn2 (show W4.heap.size ≤ _ from HR.out.size))
              have HC2 := Lib.hid (World.ownsRow.mono hc2 (show W4.heap.size ≤ _ from HR.out.size))
              have HU2 := Lib.hid (World.ownsRow.mono hu2 (show W4.heap.size ≤ _ from HR.out.size))
              clear hn2 hc2 hu2
              replace HR := Lib.hid (HR.out.trans (Fr.of_below hbz (S := fun _ => False)))
              try replace HZ := Lib.hid (HZ.out.below hbz HZ.out.lt)
              clear hbz
              obtain ⟨wx, hwx⟩ : ∃ wx, wx = wz := ⟨_, rfl⟩
              rw [← hwx] at HR ⊢
              try rw [← hwx] at HL
              try rw [← hwx] at HZ
              try rw [← hwx] at HN2
              try rw [← hwx] at HC2
              try rw [← hwx] at HU2
              try rw [← hwx] at HQ
              clear hwx
              refine hK.out _ _ ?_ (fun hHeld => ?_)
              · exact HR.out
              clear hK K
              try simp only [Act.put, List.setIfInBounds_toArray, List.set_cons_zero, List.set_cons_succ]
              refine wpAnyH_take (i := 4) (oi := { dst := some 15, op := Go.Op.move (Go.Operand.tmp 19), type := 32, pos := "law.go:21", after := #[{ on := 3, ground := Go.Ground.data }], guard := none }) (v := ?v7) rfl (by kernel_rfl) (by kernel_rfl) (by kernel_rfl) (fun _ _ _ h => h) (Or.inl ⟨by rfl, ?hy7⟩) hHeld ?rest7
              case hy7 =>
                intro w0 hSw
                try obtain ⟨-, hS1, -⟩ := (HP.out.fr hSw id).facts
                go_simp
                try with_reducible rfl
              try simp only [Act.put, List.setIfInBounds_toArray, List.set_cons_zero, List.set_cons_succ]
              refine wpAnyH_take (i := 5) (oi := { dst := some 20, op := Go.Op.extract (Go.Operand.tmp 15) 0, type := 25, pos := "law.go:21", after := #[{ on := 4, ground := Go.Ground.data }], guard := none }) (v := ?v8) rfl (by kernel_rfl) (by kernel_rfl) (by kernel_rfl) (fun _ _ _ h => h) (Or.inl ⟨by rfl, ?hy8⟩) hHeld ?rest8
              case hy8 =>
                intro w0 hSw
                try obtain ⟨-, hS1, -⟩ := (HP.out.fr hSw id).facts
                go_simp
                try with_reducible rfl
              try simp only [Act.put, List.setIfInBounds_toArray, List.set_cons_zero, List.set_cons_succ]
              refine wpAnyH_take (i := 6) (oi := { dst := some 21, op := Go.Op.extract (Go.Operand.tmp 15) 1, type := 31, pos := "law.go:21", after := #[{ on := 4, ground := Go.Ground.data }, { on := 8, ground := Go.Ground.gcOnly Go.Departure.lateStores }], guard := none }) (v := ?v9) rfl (by kernel_rfl) (by kernel_rfl) (by kernel_rfl) (fun _ _ _ h => h) (Or.inl ⟨by rfl, ?hy9⟩) hHeld ?rest9
              case hy9 =>
                intro w0 hSw
                try obtain ⟨-, hS1, -⟩ := (HP.out.fr hSw id).facts
                go_simp
                try with_reducible rfl
              try simp only [Act.put, List.setIfInBounds_toArray, List.set_cons_zero, List.set_cons_succ]
              refine wpAnyH_ready (rs := [8]) (by kernel_rfl) (by simp) ?_
              refine AllReadyH.cons (o := { dst := none, op := Go.Op.store 25 (Go.Operand.tmp 3) (Go.Operand.tmp 20), type := 0, pos := "law.go:21", after := #[{ on := 7, ground := Go.Ground.data }, { on := 5, ground := Go.Ground.data }, { on := 3, ground := Go.Ground.chain }, { on := 0, ground := Go.Ground.phase }, { on := 1, ground := Go.Ground.phase }, { on := 2, ground := Go.Ground.phase }, { on := 3, ground := Go.Ground.phase }, { on := 4, ground := Go.Ground.phase }, { on := 5, ground := Go.Ground.phase }, { on := 6, ground := Go.Ground.textOnly Go.Departure.lateStores }, { on := 7, ground := Go.Ground.phase }], guard := none }) rfl (fun K hK => ?_) ?_
              · skip
                refine step_storeBlk _ (by rfl) (.tmp 3) (.tmp 20) 25 (by rfl) _ 25 _ #[.int .i64 9, .int .i64 1, .string ⟨#[97, 114, 114, 101, 115, 116]⟩, .slice An2 2 cn2, .int .i64 0, .int .i64 0, .slice Ac2 2 cc2, .slice Au2 0 cu2, .int .i64 0, .bool false] _ 10 136 info25 (by rfl) (by rfl) (by rfl) HZ.out (by rfl) (ten_one (by simp [Value.oneCell'])) ?_
                intro wz hbz hfz hsz
                replace HN2 := Lib.hid (own_fr HN2.out hfz (own_ne_blk HN2.out HZ.out (by decide)))
                replace HC2 := Lib.hid (own_fr HC2.out hfz (own_ne_blk HC2.out HZ.out (by decide)))
                replace HU2 := Lib.hid (own_fr HU2.out hfz (own_ne_blk HU2.out HZ.out (by decide)))
                replace HR := Lib.hid (HR.out.trans_ hfz (fun i e => Or.inr (by have := HG.out; omega)))
                have HQ := Lib.hid hbz
                clear hbz hfz hsz HZ
                obtain ⟨wx, hwx⟩ : ∃ wx, wx = wz := ⟨_, rfl⟩
                rw [← hwx] at HR ⊢
                try rw [← hwx] at HL
                try rw [← hwx] at HZ
                try rw [← hwx] at HN2
                try rw [← hwx] at HC2
                try rw [← hwx] at HU2
                try rw [← hwx] at HQ
                clear hwx
                refine hK.out _ _ ?_ (fun hHeld => ?_)
                · exact HR.out
                clear hK K
                try simp only [Act.put, List.setIfInBounds_toArray, List.set_cons_zero, List.set_cons_succ]
                refine wpAnyH_done (by kernel_rfl) ?_ _
                refine last_do ({ dst := some 4, op := Go.Op.assign (Go.Operand.tmp 21), type := 31, pos := "law.go:21", after := #[{ on := 6, ground := Go.Ground.data }, { on := 8, ground := Go.Ground.chain }, { on := 0, ground := Go.Ground.phase }, { on := 1, ground := Go.Ground.phase }, { on := 2, ground := Go.Ground.phase }, { on := 3, ground := Go.Ground.phase }, { on := 4, ground := Go.Ground.phase }, { on := 5, ground := Go.Ground.phase }, { on := 6, ground := Go.Ground.phase }, { on := 7, ground := Go.Ground.phase }, { on := 8, ground := Go.Ground.phase }], guard := none }) rfl (fun K hK => ?_)
                go_simp
                refine hK _ _ ?_
                go_wp2_with fail
                go_meet
                case rel => exact ⟨_, _, _, _, _, _, _, rfl, rfl, HQ.out, HN2.out, HC2.out, HU2.out, HR.out⟩
              exact AllReadyH.nil
            exact AllReadyH.nil
          exact AllReadyH.nil
        exact AllReadyH.nil
      refine AllReadyH.cons (o := { dst := some 3, op := Go.Op.alloc 25, type := 0, pos := "law.go:21", after := #[], guard := none }) rfl (fun K hK => ?_) ?_
      · skip
        go_simp
        have hbn := Blk.new wx 25 #[.int .i64 0, .int .i64 0, .string ⟨#[]⟩, .slice none 0 0, .int .i64 0, .int .i64 0, .slice none 0 0, .slice none 0 0, .int .i64 0, .bool false]
        have hge := HR.out.size
        have hrn := HR.out.alloc (.cells #[.int .i64 0, .int .i64 0, .string ⟨#[]⟩, .slice none 0 0, .int .i64 0, .int .i64 0, .slice none 0 0, .slice none 0 0, .int .i64 0, .bool false] 25)
        try replace HL := Lib.hid ((HL.out.alloc (.cells #[.int .i64 0, .int .i64 0, .string ⟨#[]⟩, .slice none 0 0, .int .i64 0, .int .i64 0, .slice none 0 0, .slice none 0 0, .int .i64 0, .bool false] 25)).more (B' := fun k => k < (wx.alloc (.cells #[.int .i64 0, .int .i64 0, .string ⟨#[]⟩, .slice none 0 0, .int .i64 0, .int .i64 0, .slice none 0 0, .slice none 0 0, .int .i64 0, .bool false] 25)).heap.size) (fun k hk => Nat.lt_of_lt_of_le (show k < wx.heap.size from hk) (by simp)))
        try replace HZ := Lib.hid (HZ.out.alloc (.cells #[.int .i64 0, .int .i64 0, .string ⟨#[]⟩, .slice none 0 0, .int .i64 0, .int .i64 0, .slice none 0 0, .slice none 0 0, .int .i64 0, .bool false] 25))
        try replace HN2 := Lib.hid (HN2.out.alloc (.cells #[.int .i64 0, .int .i64 0, .string ⟨#[]⟩, .slice none 0 0, .int .i64 0, .int .i64 0, .slice none 0 0, .slice none 0 0, .int .i64 0, .bool false] 25))
        try replace HC2 := Lib.hid (HC2.out.alloc (.cells #[.int .i64 0, .int .i64 0, .string ⟨#[]⟩, .slice none 0 0, .int .i64 0, .int .i64 0, .slice none 0 0, .slice none 0 0, .int .i64 0, .bool false] 25))
        try replace HU2 := Lib.hid (HU2.out.alloc (.cells #[.int .i64 0, .int .i64 0, .string ⟨#[]⟩, .slice none 0 0, .int .i64 0, .int .i64 0, .slice none 0 0, .slice none 0 0, .int .i64 0, .bool false] 25))
        generalize wx.alloc _ = wz at *
        generalize wx.heap.size = gz at *
        have HZ := Lib.hid hbn
        have HG := Lib.hid hge
        replace HR := Lib.hid hrn
        clear hbn hge hrn
        obtain ⟨wx, hwx⟩ : ∃ wx, wx = wz := ⟨_, rfl⟩
        rw [← hwx] at HR ⊢
        try rw [← hwx] at HL
        try rw [← hwx] at HZ
        try rw [← hwx] at HN2
        try rw [← hwx] at HC2
        try rw [← hwx] at HU2
        try rw [← hwx] at HQ
        clear hwx
        refine hK.out _ _ ?_ (fun hHeld => ?_)
        · exact HR.out
        clear hK K
        try simp only [Act.put, List.setIfInBounds_toArray, List.set_cons_zero, List.set_cons_succ]
        refine wpAnyH_ready (rs := [1]) (by kernel_rfl) (by simp) ?_
        refine AllReadyH.cons (o := { dst := some 17, op := Go.Op.buildSlice 22 4 #[(0, Go.Operand.const (Go.Value.int Go.IntKind.i64 3)), (1, Go.Operand.const (Go.Value.int Go.IntKind.i64 4)), (2, Go.Operand.const (Go.Value.int Go.IntKind.i64 5)), (3, Go.Operand.const (Go.Value.int Go.IntKind.i64 6))], type := 22, pos := "law.go:21", after := #[], guard := none }) rfl (fun K hK => ?_) ?_
        · skip
          go_simp
          have hbn := Reads.newS wx [.int .i64 3, .int .i64 4, .int .i64 5, .int .i64 6] 3 (0, 0) 4 1 rfl _ rfl
          have hrn := HR.out.alloc (.cells [.int .i64 3, .int .i64 4, .int .i64 5, .int .i64 6].toArray 3)
          try replace HL := Lib.hid ((HL.out.alloc (.cells [.int .i64 3, .int .i64 4, .int .i64 5, .int .i64 6].toArray 3)).more (B' := fun k => k < (wx.alloc (.cells [.int .i64 3, .int .i64 4, .int .i64 5, .int .i64 6].toArray 3)).heap.size) (fun k hk => Nat.lt_of_lt_of_le (show k < wx.heap.size from hk) (by simp)))
          try replace HZ := Lib.hid (HZ.out.alloc (.cells [.int .i64 3, .int .i64 4, .int .i64 5, .int .i64 6].toArray 3))
          try replace HN2 := Lib.hid (HN2.out.alloc (.cells [.int .i64 3, .int .i64 4, .int .i64 5, .int .i64 6].toArray 3))
          try replace HC2 := Lib.hid (HC2.out.alloc (.cells [.int .i64 3, .int .i64 4, .int .i64 5, .int .i64 6].toArray 3))
          try replace HU2 := Lib.hid (HU2.out.alloc (.cells [.int .i64 3, .int .i64 4, .int .i64 5, .int .i64 6].toArray 3))
          have HL := Lib.hid (hbn.more (B' := fun k => k < (wx.alloc (.cells [.int .i64 3, .int .i64 4, .int .i64 5, .int .i64 6].toArray 3)).heap.size) (fun k hk => by simp; omega))
          clear hbn
          generalize wx.alloc _ = wz at *
          generalize wx.heap.size = gl at *
          replace HR := Lib.hid hrn
          clear hrn
          obtain ⟨wx, hwx⟩ : ∃ wx, wx = wz := ⟨_, rfl⟩
          rw [← hwx] at HR ⊢
          try rw [← hwx] at HL
          try rw [← hwx] at HZ
          try rw [← hwx] at HN2
          try rw [← hwx] at HC2
          try rw [← hwx] at HU2
          try rw [← hwx] at HQ
          clear hwx
          refine hK.out _ _ ?_ (fun hHeld => ?_)
          · exact HR.out
          clear hK K
          try simp only [Act.put, List.setIfInBounds_toArray, List.set_cons_zero, List.set_cons_succ]
          refine wpAnyH_ready (rs := [2]) (by kernel_rfl) (by simp) ?_
          refine AllReadyH.cons (o := { dst := some 18, op := Go.Op.call { callee := Go.Callee.value (Go.Operand.func 29), args := #[Go.Operand.const (Go.Value.int Go.IntKind.i64 2), Go.Operand.const (Go.Value.int Go.IntKind.i64 1), Go.Operand.const (Go.Value.string { data := #[97, 114, 114, 101, 115, 116] }), Go.Operand.tmp 17], argTypes := #[2, 3, 9, 22] }, type := 27, pos := "law.go:21", after := #[{ on := 1, ground := Go.Ground.data }], guard := none }) rfl (fun K hK => ?_) ?_
          · skip
            go_simp
            go_wp2_with (go_at_call 29; ((with_reducible refine (H29.out _ _ _ _ _ _ _).mono ?_); rintro e wz ⟨rfl, hbz⟩))
            replace HR := Lib.hid (HR.out.trans (Fr.of_below hbz (S := fun _ => False)))
            try replace HL := Lib.hid (((HL.out.below hbz (fun k hk => hk)).old (by omega)).more (B' := fun k => k < wz.heap.size) (fun k hk => hk.2))
            try replace HZ := Lib.hid (HZ.out.below hbz HZ.out.lt)
            try replace HN2 := Lib.hid (own_below HN2.out hbz (fun g hg => (HN2.out.lt g hg).2))
            try replace HC2 := Lib.hid (own_below HC2.out hbz (fun g hg => (HC2.out.lt g hg).2))
            try replace HU2 := Lib.hid (own_below HU2.out hbz (fun g hg => (HU2.out.lt g hg).2))
            clear hbz
            obtain ⟨wx, hwx⟩ : ∃ wx, wx = wz := ⟨_, rfl⟩
            rw [← hwx] at HR ⊢
            try rw [← hwx] at HL
            try rw [← hwx] at HZ
            try rw [← hwx] at HN2
            try rw [← hwx] at HC2
            try rw [← hwx] at HU2
            try rw [← hwx] at HQ
            clear hwx
            refine hK.out _ _ ?_ (fun hHeld => ?_)
            · exact HR.out
            clear hK K
            try simp only [Act.put, List.setIfInBounds_toArray, List.set_cons_zero, List.set_cons_succ]
            refine wpAnyH_ready (rs := [3]) (by kernel_rfl) (by simp) ?_
            refine AllReadyH.cons (o := { dst := some 19, op := Go.Op.call { callee := Go.Callee.value (Go.Operand.func 19), args := #[Go.Operand.tmp 16, Go.Operand.tmp 18], argTypes := #[25, 27] }, type := 32, pos := "law.go:21", after := #[{ on := 0, ground := Go.Ground.data }, { on := 2, ground := Go.Ground.data }, { on := 2, ground := Go.Ground.chain }], guard := none }) rfl (fun K hK => ?_) ?_
            · skip
              go_simp
              go_wp2_with (go_at_call 19; ((with_reducible refine (HAdd.out _ _ _ HR.out HL.out).mono ?_); rintro e wz ⟨An2, Ac2, Au2, cn2, cc2, cu2, rfl, hn2, hc2, hu2, hbz⟩))
              have HN2 := Lib.hid (World.ownsRow.mono hn2 (show W4.heap.size ≤ _ from HR.out.size))
              have HC2 := Lib.hid (World.ownsRow.mono hc2 (show W4.heap.size ≤ _ from HR.out.size))
              have HU2 := Lib.hid (World.ownsRow.mono hu2 (show W4.heap.size ≤ _ from HR.out.size))
              clear hn2 hc2 hu2
              replace HR := Lib.hid (HR.out.trans (Fr.of_below hbz (S := fun _ => False)))
              try replace HZ := Lib.hid (HZ.out.below hbz HZ.out.lt)
              clear hbz
              obtain ⟨wx, hwx⟩ : ∃ wx, wx = wz := ⟨_, rfl⟩
              rw [← hwx] at HR ⊢
              try rw [← hwx] at HL
              try rw [← hwx] at HZ
              try rw [← hwx] at HN2
              try rw [← hwx] at HC2
              try rw [← hwx] at HU2
              try rw [← hwx] at HQ
              clear hwx
              refine hK.out _ _ ?_ (fun hHeld => ?_)
              · exact HR.out
              clear hK K
              try simp only [Act.put, List.setIfInBounds_toArray, List.set_cons_zero, List.set_cons_succ]
              refine wpAnyH_take (i := 4) (oi := { dst := some 15, op := Go.Op.move (Go.Operand.tmp 19), type := 32, pos := "law.go:21", after := #[{ on := 3, ground := Go.Ground.data }], guard := none }) (v := ?v10) rfl (by kernel_rfl) (by kernel_rfl) (by kernel_rfl) (fun _ _ _ h => h) (Or.inl ⟨by rfl, ?hy10⟩) hHeld ?rest10
              case hy10 =>
                intro w0 hSw
                try obtain ⟨-, hS1, -⟩ := (HP.out.fr hSw id).facts
                go_simp
                try with_reducible rfl
              try simp only [Act.put, List.setIfInBounds_toArray, List.set_cons_zero, List.set_cons_succ]
              refine wpAnyH_take (i := 5) (oi := { dst := some 20, op := Go.Op.extract (Go.Operand.tmp 15) 0, type := 25, pos := "law.go:21", after := #[{ on := 4, ground := Go.Ground.data }], guard := none }) (v := ?v11) rfl (by kernel_rfl) (by kernel_rfl) (by kernel_rfl) (fun _ _ _ h => h) (Or.inl ⟨by rfl, ?hy11⟩) hHeld ?rest11
              case hy11 =>
                intro w0 hSw
                try obtain ⟨-, hS1, -⟩ := (HP.out.fr hSw id).facts
                go_simp
                try with_reducible rfl
              try simp only [Act.put, List.setIfInBounds_toArray, List.set_cons_zero, List.set_cons_succ]
              refine wpAnyH_take (i := 6) (oi := { dst := some 21, op := Go.Op.extract (Go.Operand.tmp 15) 1, type := 31, pos := "law.go:21", after := #[{ on := 4, ground := Go.Ground.data }, { on := 8, ground := Go.Ground.gcOnly Go.Departure.lateStores }], guard := none }) (v := ?v12) rfl (by kernel_rfl) (by kernel_rfl) (by kernel_rfl) (fun _ _ _ h => h) (Or.inl ⟨by rfl, ?hy12⟩) hHeld ?rest12
              case hy12 =>
                intro w0 hSw
                try obtain ⟨-, hS1, -⟩ := (HP.out.fr hSw id).facts
                go_simp
                try with_reducible rfl
              try simp only [Act.put, List.setIfInBounds_toArray, List.set_cons_zero, List.set_cons_succ]
              refine wpAnyH_ready (rs := [8]) (by kernel_rfl) (by simp) ?_
              refine AllReadyH.cons (o := { dst := none, op := Go.Op.store 25 (Go.Operand.tmp 3) (Go.Operand.tmp 20), type := 0, pos := "law.go:21", after := #[{ on := 7, ground := Go.Ground.data }, { on := 5, ground := Go.Ground.data }, { on := 3, ground := Go.Ground.chain }, { on := 0, ground := Go.Ground.phase }, { on := 1, ground := Go.Ground.phase }, { on := 2, ground := Go.Ground.phase }, { on := 3, ground := Go.Ground.phase }, { on := 4, ground := Go.Ground.phase }, { on := 5, ground := Go.Ground.phase }, { on := 6, ground := Go.Ground.textOnly Go.Departure.lateStores }, { on := 7, ground := Go.Ground.phase }], guard := none }) rfl (fun K hK => ?_) ?_
              · skip
                refine step_storeBlk _ (by rfl) (.tmp 3) (.tmp 20) 25 (by rfl) _ 25 _ #[.int .i64 9, .int .i64 1, .string ⟨#[97, 114, 114, 101, 115, 116]⟩, .slice An2 2 cn2, .int .i64 0, .int .i64 0, .slice Ac2 2 cc2, .slice Au2 0 cu2, .int .i64 0, .bool false] _ 10 136 info25 (by rfl) (by rfl) (by rfl) HZ.out (by rfl) (ten_one (by simp [Value.oneCell'])) ?_
                intro wz hbz hfz hsz
                replace HN2 := Lib.hid (own_fr HN2.out hfz (own_ne_blk HN2.out HZ.out (by decide)))
                replace HC2 := Lib.hid (own_fr HC2.out hfz (own_ne_blk HC2.out HZ.out (by decide)))
                replace HU2 := Lib.hid (own_fr HU2.out hfz (own_ne_blk HU2.out HZ.out (by decide)))
                replace HR := Lib.hid (HR.out.trans_ hfz (fun i e => Or.inr (by have := HG.out; omega)))
                have HQ := Lib.hid hbz
                clear hbz hfz hsz HZ
                obtain ⟨wx, hwx⟩ : ∃ wx, wx = wz := ⟨_, rfl⟩
                rw [← hwx] at HR ⊢
                try rw [← hwx] at HL
                try rw [← hwx] at HZ
                try rw [← hwx] at HN2
                try rw [← hwx] at HC2
                try rw [← hwx] at HU2
                try rw [← hwx] at HQ
                clear hwx
                refine hK.out _ _ ?_ (fun hHeld => ?_)
                · exact HR.out
                clear hK K
                try simp only [Act.put, List.setIfInBounds_toArray, List.set_cons_zero, List.set_cons_succ]
                refine wpAnyH_done (by kernel_rfl) ?_ _
                refine last_do ({ dst := some 4, op := Go.Op.assign (Go.Operand.tmp 21), type := 31, pos := "law.go:21", after := #[{ on := 6, ground := Go.Ground.data }, { on := 8, ground := Go.Ground.chain }, { on := 0, ground := Go.Ground.phase }, { on := 1, ground := Go.Ground.phase }, { on := 2, ground := Go.Ground.phase }, { on := 3, ground := Go.Ground.phase }, { on := 4, ground := Go.Ground.phase }, { on := 5, ground := Go.Ground.phase }, { on := 6, ground := Go.Ground.phase }, { on := 7, ground := Go.Ground.phase }, { on := 8, ground := Go.Ground.phase }], guard := none }) rfl (fun K hK => ?_)
                go_simp
                refine hK _ _ ?_
                go_wp2_with fail
                go_meet
                case rel => exact ⟨_, _, _, _, _, _, _, rfl, rfl, HQ.out, HN2.out, HC2.out, HU2.out, HR.out⟩
              exact AllReadyH.nil
            exact AllReadyH.nil
          exact AllReadyH.nil
        exact AllReadyH.nil
      exact AllReadyH.nil

  case rest =>
    obtain ⟨An2, Ac2, Au2, cn2, cc2, cu2, g2, rfl, rfl, hq, hn, hc, hu, hf⟩ := hcut
    have HB5 := Lib.hid (HB4.out.trans (hf.below HB4.out.size (fun k hk e => e)))
    have hb5 := HB4.out.size
    have HN := Lib.hid (World.ownsRow.mono hn hb5)
    have HC := Lib.hid (World.ownsRow.mono hc hb5)
    have HU := Lib.hid (World.ownsRow.mono hu hb5)
    have HP := Lib.hid hq
    clear hn hc hu hf hq HAdd HB4
    have HAdd := Lib.hid fun (W : World) (A : Option Addr) (c : Nat) (hf : Fr (fun _ => False) wc W) (hL : RI W (fun k => k < W.heap.size) A [9]) => HA2.out W An2 Ac2 Au2 cn2 cc2 cu2 w.heap.size A c _ (Tab.fr (Tab.below HT.out HB5.out HT.out.lt) hf id) ⟨own_fr HN.out hf (fun _ _ => id), own_fr HC.out hf (fun _ _ => id), own_fr HU.out hf (fun _ _ => id)⟩ hL
    clear HA1 HA2 HFr
    go_upto_region 5 with (fail)
    go_cut [5, 6] (fun va vb wx => ∃ An Ac Au cn cc cu g, va = .pointer (some ⟨g, 0, none⟩) ∧ vb = .int .i64 0 ∧ Blk wx g 25 #[.int .i64 9, .int .i64 1, .string ⟨#[97, 114, 114, 101, 115, 116]⟩, .slice An 2 cn, .int .i64 0, .int .i64 0, .slice Ac 3 cc, .slice Au 0 cu, .int .i64 0, .bool false] ∧ wx.ownsRow wc.heap.size 3 1 (.slice An 2 cn) 2 [.int .i64 3, .int .i64 4] ∧ wx.ownsRow wc.heap.size 2 1 (.slice Ac 3 cc) 3 [.int .i64 1, .int .i64 2, .int .i64 3] ∧ wx.ownsRow wc.heap.size 3 1 (.slice Au 0 cu) 0 [] ∧ Fr (fun _ => False) wc wx)
    case first =>
      refine wp_region_last (S := fun w' => Fr (fun _ => False) wc w') #[{ dst := some 23, op := Go.Op.load 25 (Go.Operand.tmp 3), type := 25, pos := "law.go:22", after := #[], guard := none }, { dst := some 24, op := Go.Op.buildSlice 22 1 #[(0, Go.Operand.const (Go.Value.int Go.IntKind.i64 9))], type := 22, pos := "law.go:22", after := #[], guard := none }, { dst := some 25, op := Go.Op.call { callee := Go.Callee.value (Go.Operand.func 29), args := #[Go.Operand.const (Go.Value.int Go.IntKind.i64 3), Go.Operand.const (Go.Value.int Go.IntKind.i64 4), Go.Operand.const (Go.Value.string { data := #[102, 97, 108, 108] }), Go.Operand.tmp 24], argTypes := #[2, 3, 9, 22] }, type := 27, pos := "law.go:22", after := #[{ on := 1, ground := Go.Ground.data }], guard := none }, { dst := some 26, op := Go.Op.call { callee := Go.Callee.value (Go.Operand.func 19), args := #[Go.Operand.tmp 23, Go.Operand.tmp 25], argTypes := #[25, 27] }, type := 32, pos := "law.go:22", after := #[{ on := 0, ground := Go.Ground.data }, { on := 2, ground := Go.Ground.data }, { on := 2, ground := Go.Ground.chain }], guard := none }, { dst := some 22, op := Go.Op.move (Go.Operand.tmp 26), type := 32, pos := "law.go:22", after := #[{ on := 3, ground := Go.Ground.data }], guard := none }, { dst := some 27, op := Go.Op.extract (Go.Operand.tmp 22) 0, type := 25, pos := "law.go:22", after := #[{ on := 4, ground := Go.Ground.data }], guard := none }, { dst := some 28, op := Go.Op.extract (Go.Operand.tmp 22) 1, type := 31, pos := "law.go:22", after := #[{ on := 4, ground := Go.Ground.data }, { on := 8, ground := Go.Ground.gcOnly Go.Departure.lateStores }], guard := none }, { dst := some 5, op := Go.Op.alloc 25, type := 0, pos := "law.go:22", after := #[], guard := none }, { dst := none, op := Go.Op.store 25 (Go.Operand.tmp 5) (Go.Operand.tmp 27), type := 0, pos := "law.go:22", after := #[{ on := 7, ground := Go.Ground.data }, { on := 5, ground := Go.Ground.data }, { on := 3, ground := Go.Ground.chain }, { on := 0, ground := Go.Ground.phase }, { on := 1, ground := Go.Ground.phase }, { on := 2, ground := Go.Ground.phase }, { on := 3, ground := Go.Ground.phase }, { on := 4, ground := Go.Ground.phase }, { on := 5, ground := Go.Ground.phase }, { on := 6, ground := Go.Ground.textOnly Go.Departure.lateStores }, { on := 7, ground := Go.Ground.phase }], guard := none }] { dst := some 6, op := Go.Op.assign (Go.Operand.tmp 28), type := 31, pos := "law.go:22", after := #[{ on := 6, ground := Go.Ground.data }, { on := 8, ground := Go.Ground.chain }, { on := 0, ground := Go.Ground.phase }, { on := 1, ground := Go.Ground.phase }, { on := 2, ground := Go.Ground.phase }, { on := 3, ground := Go.Ground.phase }, { on := 4, ground := Go.Ground.phase }, { on := 5, ground := Go.Ground.phase }, { on := 6, ground := Go.Ground.phase }, { on := 7, ground := Go.Ground.phase }, { on := 8, ground := Go.Ground.phase }], guard := none } (by rfl) (by kernel_rfl) (by kernel_rfl) ?_ (fun hHeld => ?_)
      · exact (Fr.refl _ _).drew
      have HR := Lib.hid hHeld
      generalize wc.drew = wx at *
      refine wpAnyH_take (i := 0) (oi := { dst := some 23, op := Go.Op.load 25 (Go.Operand.tmp 3), type := 25, pos := "law.go:22", after := #[], guard := none }) (v := ?v100) rfl (by kernel_rfl) (by kernel_rfl) (by kernel_rfl) (fun _ _ _ h => h) (Or.inl ⟨by rfl, ?hy100⟩) hHeld ?rest100
      case hy100 =>
        intro w0 hSw
        try obtain ⟨-, hS1, -⟩ := (HP.out.fr hSw id).facts
        go_simp
        try with_reducible rfl
      try simp only [Act.put, List.setIfInBounds_toArray, List.set_cons_zero, List.set_cons_succ]
      refine wpAnyH_ready (rs := [1, 7]) (by kernel_rfl) (by simp) ?_
      refine AllReadyH.cons (o := { dst := some 24, op := Go.Op.buildSlice 22 1 #[(0, Go.Operand.const (Go.Value.int Go.IntKind.i64 9))], type := 22, pos := "law.go:22", after := #[], guard := none }) rfl (fun K hK => ?_) ?_
      · skip
        go_simp
        have hbn := Reads.newS wx [.int .i64 9] 3 (0, 0) 1 1 rfl _ rfl
        have hrn := HR.out.alloc (.cells [.int .i64 9].toArray 3)
        try replace HL := Lib.hid ((HL.out.alloc (.cells [.int .i64 9].toArray 3)).more (B' := fun k => k < (wx.alloc (.cells [.int .i64 9].toArray 3)).heap.size) (fun k hk => Nat.lt_of_lt_of_le (show k < wx.heap.size from hk) (by simp)))
        try replace HZ := Lib.hid (HZ.out.alloc (.cells [.int .i64 9].toArray 3))
        try replace HN2 := Lib.hid (HN2.out.alloc (.cells [.int .i64 9].toArray 3))
        try replace HC2 := Lib.hid (HC2.out.alloc (.cells [.int .i64 9].toArray 3))
        try replace HU2 := Lib.hid (HU2.out.alloc (.cells [.int .i64 9].toArray 3))
        have HL := Lib.hid (hbn.more (B' := fun k => k < (wx.alloc (.cells [.int .i64 9].toArray 3)).heap.size) (fun k hk => by simp; omega))
        clear hbn
        generalize wx.alloc _ = wz at *
        generalize wx.heap.size = gl at *
        replace HR := Lib.hid hrn
        clear hrn
        obtain ⟨wx, hwx⟩ : ∃ wx, wx = wz := ⟨_, rfl⟩
        rw [← hwx] at HR ⊢
        try rw [← hwx] at HL
        try rw [← hwx] at HZ
        try rw [← hwx] at HN2
        try rw [← hwx] at HC2
        try rw [← hwx] at HU2
        try rw [← hwx] at HQ
        clear hwx
        refine hK.out _ _ ?_ (fun hHeld => ?_)
        · exact HR.out
        clear hK K
        try simp only [Act.put, List.setIfInBounds_toArray, List.set_cons_zero, List.set_cons_succ]
        refine wpAnyH_ready (rs := [2, 7]) (by kernel_rfl) (by simp) ?_
        refine AllReadyH.cons (o := { dst := some 25, op := Go.Op.call { callee := Go.Callee.value (Go.Operand.func 29), args := #[Go.Operand.const (Go.Value.int Go.IntKind.i64 3), Go.Operand.const (Go.Value.int Go.IntKind.i64 4), Go.Operand.const (Go.Value.string { data := #[102, 97, 108, 108] }), Go.Operand.tmp 24], argTypes := #[2, 3, 9, 22] }, type := 27, pos := "law.go:22", after := #[{ on := 1, ground := Go.Ground.data }], guard := none }) rfl (fun K hK => ?_) ?_
        · skip
          go_simp
          go_wp2_with (go_at_call 29; ((with_reducible refine (H29.out _ _ _ _ _ _ _).mono ?_); rintro e wz ⟨rfl, hbz⟩))
          replace HR := Lib.hid (HR.out.trans (Fr.of_below hbz (S := fun _ => False)))
          try replace HL := Lib.hid (((HL.out.below hbz (fun k hk => hk)).old (by omega)).more (B' := fun k => k < wz.heap.size) (fun k hk => hk.2))
          try replace HZ := Lib.hid (HZ.out.below hbz HZ.out.lt)
          try replace HN2 := Lib.hid (own_below HN2.out hbz (fun g hg => (HN2.out.lt g hg).2))
          try replace HC2 := Lib.hid (own_below HC2.out hbz (fun g hg => (HC2.out.lt g hg).2))
          try replace HU2 := Lib.hid (own_below HU2.out hbz (fun g hg => (HU2.out.lt g hg).2))
          clear hbz
          obtain ⟨wx, hwx⟩ : ∃ wx, wx = wz := ⟨_, rfl⟩
          rw [← hwx] at HR ⊢
          try rw [← hwx] at HL
          try rw [← hwx] at HZ
          try rw [← hwx] at HN2
          try rw [← hwx] at HC2
          try rw [← hwx] at HU2
          try rw [← hwx] at HQ
          clear hwx
          refine hK.out _ _ ?_ (fun hHeld => ?_)
          · exact HR.out
          clear hK K
          try simp only [Act.put, List.setIfInBounds_toArray, List.set_cons_zero, List.set_cons_succ]
          refine wpAnyH_ready (rs := [3, 7]) (by kernel_rfl) (by simp) ?_
          refine AllReadyH.cons (o := { dst := some 26, op := Go.Op.call { callee := Go.Callee.value (Go.Operand.func 19), args := #[Go.Operand.tmp 23, Go.Operand.tmp 25], argTypes := #[25, 27] }, type := 32, pos := "law.go:22", after := #[{ on := 0, ground := Go.Ground.data }, { on := 2, ground := Go.Ground.data }, { on := 2, ground := Go.Ground.chain }], guard := none }) rfl (fun K hK => ?_) ?_
          · skip
            go_simp
            go_wp2_with (go_at_call 19; ((with_reducible refine (HAdd.out _ _ _ HR.out HL.out).mono ?_); rintro e wz ⟨An2, Ac2, Au2, cn2, cc2, cu2, rfl, hn2, hc2, hu2, hbz⟩))
            have HN2 := Lib.hid (World.ownsRow.mono hn2 (show wc.heap.size ≤ _ from HR.out.size))
            have HC2 := Lib.hid (World.ownsRow.mono hc2 (show wc.heap.size ≤ _ from HR.out.size))
            have HU2 := Lib.hid (World.ownsRow.mono hu2 (show wc.heap.size ≤ _ from HR.out.size))
            clear hn2 hc2 hu2
            replace HR := Lib.hid (HR.out.trans (Fr.of_below hbz (S := fun _ => False)))
            try replace HZ := Lib.hid (HZ.out.below hbz HZ.out.lt)
            clear hbz
            obtain ⟨wx, hwx⟩ : ∃ wx, wx = wz := ⟨_, rfl⟩
            rw [← hwx] at HR ⊢
            try rw [← hwx] at HL
            try rw [← hwx] at HZ
            try rw [← hwx] at HN2
            try rw [← hwx] at HC2
            try rw [← hwx] at HU2
            try rw [← hwx] at HQ
            clear hwx
            refine hK.out _ _ ?_ (fun hHeld => ?_)
            · exact HR.out
            clear hK K
            try simp only [Act.put, List.setIfInBounds_toArray, List.set_cons_zero, List.set_cons_succ]
            refine wpAnyH_take (i := 4) (oi := { dst := some 22, op := Go.Op.move (Go.Operand.tmp 26), type := 32, pos := "law.go:22", after := #[{ on := 3, ground := Go.Ground.data }], guard := none }) (v := ?v101) rfl (by kernel_rfl) (by kernel_rfl) (by kernel_rfl) (fun _ _ _ h => h) (Or.inl ⟨by rfl, ?hy101⟩) hHeld ?rest101
            case hy101 =>
              intro w0 hSw
              try obtain ⟨-, hS1, -⟩ := (HP.out.fr hSw id).facts
              go_simp
              try with_reducible rfl
            try simp only [Act.put, List.setIfInBounds_toArray, List.set_cons_zero, List.set_cons_succ]
            refine wpAnyH_take (i := 5) (oi := { dst := some 27, op := Go.Op.extract (Go.Operand.tmp 22) 0, type := 25, pos := "law.go:22", after := #[{ on := 4, ground := Go.Ground.data }], guard := none }) (v := ?v102) rfl (by kernel_rfl) (by kernel_rfl) (by kernel_rfl) (fun _ _ _ h => h) (Or.inl ⟨by rfl, ?hy102⟩) hHeld ?rest102
            case hy102 =>
              intro w0 hSw
              try obtain ⟨-, hS1, -⟩ := (HP.out.fr hSw id).facts
              go_simp
              try with_reducible rfl
            try simp only [Act.put, List.setIfInBounds_toArray, List.set_cons_zero, List.set_cons_succ]
            refine wpAnyH_take (i := 6) (oi := { dst := some 28, op := Go.Op.extract (Go.Operand.tmp 22) 1, type := 31, pos := "law.go:22", after := #[{ on := 4, ground := Go.Ground.data }, { on := 8, ground := Go.Ground.gcOnly Go.Departure.lateStores }], guard := none }) (v := ?v103) rfl (by kernel_rfl) (by kernel_rfl) (by kernel_rfl) (fun _ _ _ h => h) (Or.inl ⟨by rfl, ?hy103⟩) hHeld ?rest103
            case hy103 =>
              intro w0 hSw
              try obtain ⟨-, hS1, -⟩ := (HP.out.fr hSw id).facts
              go_simp
              try with_reducible rfl
            try simp only [Act.put, List.setIfInBounds_toArray, List.set_cons_zero, List.set_cons_succ]
            refine wpAnyH_ready (rs := [7]) (by kernel_rfl) (by simp) ?_
            refine AllReadyH.cons (o := { dst := some 5, op := Go.Op.alloc 25, type := 0, pos := "law.go:22", after := #[], guard := none }) rfl (fun K hK => ?_) ?_
            · skip
              go_simp
              have hbn := Blk.new wx 25 #[.int .i64 0, .int .i64 0, .string ⟨#[]⟩, .slice none 0 0, .int .i64 0, .int .i64 0, .slice none 0 0, .slice none 0 0, .int .i64 0, .bool false]
              have hge := HR.out.size
              have hrn := HR.out.alloc (.cells #[.int .i64 0, .int .i64 0, .string ⟨#[]⟩, .slice none 0 0, .int .i64 0, .int .i64 0, .slice none 0 0, .slice none 0 0, .int .i64 0, .bool false] 25)
              try replace HL := Lib.hid ((HL.out.alloc (.cells #[.int .i64 0, .int .i64 0, .string ⟨#[]⟩, .slice none 0 0, .int .i64 0, .int .i64 0, .slice none 0 0, .slice none 0 0, .int .i64 0, .bool false] 25)).more (B' := fun k => k < (wx.alloc (.cells #[.int .i64 0, .int .i64 0, .string ⟨#[]⟩, .slice none 0 0, .int .i64 0, .int .i64 0, .slice none 0 0, .slice none 0 0, .int .i64 0, .bool false] 25)).heap.size) (fun k hk => Nat.lt_of_lt_of_le (show k < wx.heap.size from hk) (by simp)))
              try replace HZ := Lib.hid (HZ.out.alloc (.cells #[.int .i64 0, .int .i64 0, .string ⟨#[]⟩, .slice none 0 0, .int .i64 0, .int .i64 0, .slice none 0 0, .slice none 0 0, .int .i64 0, .bool false] 25))
              try replace HN2 := Lib.hid (HN2.out.alloc (.cells #[.int .i64 0, .int .i64 0, .string ⟨#[]⟩, .slice none 0 0, .int .i64 0, .int .i64 0, .slice none 0 0, .slice none 0 0, .int .i64 0, .bool false] 25))
              try replace HC2 := Lib.hid (HC2.out.alloc (.cells #[.int .i64 0, .int .i64 0, .string ⟨#[]⟩, .slice none 0 0, .int .i64 0, .int .i64 0, .slice none 0 0, .slice none 0 0, .int .i64 0, .bool false] 25))
              try replace HU2 := Lib.hid (HU2.out.alloc (.cells #[.int .i64 0, .int .i64 0, .string ⟨#[]⟩, .slice none 0 0, .int .i64 0, .int .i64 0, .slice none 0 0, .slice none 0 0, .int .i64 0, .bool false] 25))
              generalize wx.alloc _ = wz at *
              generalize wx.heap.size = gz at *
              have HZ := Lib.hid hbn
              have HG := Lib.hid hge
              replace HR := Lib.hid hrn
              clear hbn hge hrn
              obtain ⟨wx, hwx⟩ : ∃ wx, wx = wz := ⟨_, rfl⟩
              rw [← hwx] at HR ⊢
              try rw [← hwx] at HL
              try rw [← hwx] at HZ
              try rw [← hwx] at HN2
              try rw [← hwx] at HC2
              try rw [← hwx] at HU2
              try rw [← hwx] at HQ
              clear hwx
              refine hK.out _ _ ?_ (fun hHeld => ?_)
              · exact HR.out
              clear hK K
              try simp only [Act.put, List.setIfInBounds_toArray, List.set_cons_zero, List.set_cons_succ]
              refine wpAnyH_ready (rs := [8]) (by kernel_rfl) (by simp) ?_
              refine AllReadyH.cons (o := { dst := none, op := Go.Op.store 25 (Go.Operand.tmp 5) (Go.Operand.tmp 27), type := 0, pos := "law.go:22", after := #[{ on := 7, ground := Go.Ground.data }, { on := 5, ground := Go.Ground.data }, { on := 3, ground := Go.Ground.chain }, { on := 0, ground := Go.Ground.phase }, { on := 1, ground := Go.Ground.phase }, { on := 2, ground := Go.Ground.phase }, { on := 3, ground := Go.Ground.phase }, { on := 4, ground := Go.Ground.phase }, { on := 5, ground := Go.Ground.phase }, { on := 6, ground := Go.Ground.textOnly Go.Departure.lateStores }, { on := 7, ground := Go.Ground.phase }], guard := none }) rfl (fun K hK => ?_) ?_
              · skip
                refine step_storeBlk _ (by rfl) (.tmp 5) (.tmp 27) 25 (by rfl) _ 25 _ #[.int .i64 9, .int .i64 1, .string ⟨#[97, 114, 114, 101, 115, 116]⟩, .slice An2 2 cn2, .int .i64 0, .int .i64 0, .slice Ac2 3 cc2, .slice Au2 0 cu2, .int .i64 0, .bool false] _ 10 136 info25 (by rfl) (by rfl) (by rfl) HZ.out (by rfl) (ten_one (by simp [Value.oneCell'])) ?_
                intro wz hbz hfz hsz
                replace HN2 := Lib.hid (own_fr HN2.out hfz (own_ne_blk HN2.out HZ.out (by decide)))
                replace HC2 := Lib.hid (own_fr HC2.out hfz (own_ne_blk HC2.out HZ.out (by decide)))
                replace HU2 := Lib.hid (own_fr HU2.out hfz (own_ne_blk HU2.out HZ.out (by decide)))
                replace HR := Lib.hid (HR.out.trans_ hfz (fun i e => Or.inr (by have := HG.out; omega)))
                have HQ := Lib.hid hbz
                clear hbz hfz hsz HZ
                obtain ⟨wx, hwx⟩ : ∃ wx, wx = wz := ⟨_, rfl⟩
                rw [← hwx] at HR ⊢
                try rw [← hwx] at HL
                try rw [← hwx] at HZ
                try rw [← hwx] at HN2
                try rw [← hwx] at HC2
                try rw [← hwx] at HU2
                try rw [← hwx] at HQ
                clear hwx
                refine hK.out _ _ ?_ (fun hHeld => ?_)
                · exact HR.out
                clear hK K
                try simp only [Act.put, List.setIfInBounds_toArray, List.set_cons_zero, List.set_cons_succ]
                refine wpAnyH_done (by kernel_rfl) ?_ _
                refine last_do ({ dst := some 6, op := Go.Op.assign (Go.Operand.tmp 28), type := 31, pos := "law.go:22", after := #[{ on := 6, ground := Go.Ground.data }, { on := 8, ground := Go.Ground.chain }, { on := 0, ground := Go.Ground.phase }, { on := 1, ground := Go.Ground.phase }, { on := 2, ground := Go.Ground.phase }, { on := 3, ground := Go.Ground.phase }, { on := 4, ground := Go.Ground.phase }, { on := 5, ground := Go.Ground.phase }, { on := 6, ground := Go.Ground.phase }, { on := 7, ground := Go.Ground.phase }, { on := 8, ground := Go.Ground.phase }], guard := none }) rfl (fun K hK => ?_)
                go_simp
                refine hK _ _ ?_
                go_wp2_with fail
                go_meet
                case rel => exact ⟨_, _, _, _, _, _, _, rfl, rfl, HQ.out, HN2.out, HC2.out, HU2.out, HR.out⟩
              exact AllReadyH.nil
            exact AllReadyH.nil
          refine AllReadyH.cons (o := { dst := some 5, op := Go.Op.alloc 25, type := 0, pos := "law.go:22", after := #[], guard := none }) rfl (fun K hK => ?_) ?_
          · skip
            go_simp
            have hbn := Blk.new wx 25 #[.int .i64 0, .int .i64 0, .string ⟨#[]⟩, .slice none 0 0, .int .i64 0, .int .i64 0, .slice none 0 0, .slice none 0 0, .int .i64 0, .bool false]
            have hge := HR.out.size
            have hrn := HR.out.alloc (.cells #[.int .i64 0, .int .i64 0, .string ⟨#[]⟩, .slice none 0 0, .int .i64 0, .int .i64 0, .slice none 0 0, .slice none 0 0, .int .i64 0, .bool false] 25)
            try replace HL := Lib.hid ((HL.out.alloc (.cells #[.int .i64 0, .int .i64 0, .string ⟨#[]⟩, .slice none 0 0, .int .i64 0, .int .i64 0, .slice none 0 0, .slice none 0 0, .int .i64 0, .bool false] 25)).more (B' := fun k => k < (wx.alloc (.cells #[.int .i64 0, .int .i64 0, .string ⟨#[]⟩, .slice none 0 0, .int .i64 0, .int .i64 0, .slice none 0 0, .slice none 0 0, .int .i64 0, .bool false] 25)).heap.size) (fun k hk => Nat.lt_of_lt_of_le (show k < wx.heap.size from hk) (by simp)))
            try replace HZ := Lib.hid (HZ.out.alloc (.cells #[.int .i64 0, .int .i64 0, .string ⟨#[]⟩, .slice none 0 0, .int .i64 0, .int .i64 0, .slice none 0 0, .slice none 0 0, .int .i64 0, .bool false] 25))
            try replace HN2 := Lib.hid (HN2.out.alloc (.cells #[.int .i64 0, .int .i64 0, .string ⟨#[]⟩, .slice none 0 0, .int .i64 0, .int .i64 0, .slice none 0 0, .slice none 0 0, .int .i64 0, .bool false] 25))
            try replace HC2 := Lib.hid (HC2.out.alloc (.cells #[.int .i64 0, .int .i64 0, .string ⟨#[]⟩, .slice none 0 0, .int .i64 0, .int .i64 0, .slice none 0 0, .slice none 0 0, .int .i64 0, .bool false] 25))
            try replace HU2 := Lib.hid (HU2.out.alloc (.cells #[.int .i64 0, .int .i64 0, .string ⟨#[]⟩, .slice none 0 0, .int .i64 0, .int .i64 0, .slice none 0 0, .slice none 0 0, .int .i64 0, .bool false] 25))
            generalize wx.alloc _ = wz at *
            generalize wx.heap.size = gz at *
            have HZ := Lib.hid hbn
            have HG := Lib.hid hge
            replace HR := Lib.hid hrn
            clear hbn hge hrn
            obtain ⟨wx, hwx⟩ : ∃ wx, wx = wz := ⟨_, rfl⟩
            rw [← hwx] at HR ⊢
            try rw [← hwx] at HL
            try rw [← hwx] at HZ
            try rw [← hwx] at HN2
            try rw [← hwx] at HC2
            try rw [← hwx] at HU2
            try rw [← hwx] at HQ
            clear hwx
            refine hK.out _ _ ?_ (fun hHeld => ?_)
            · exact HR.out
            clear hK K
            try simp only [Act.put, List.setIfInBounds_toArray, List.set_cons_zero, List.set_cons_succ]
            refine wpAnyH_ready (rs := [3]) (by kernel_rfl) (by simp) ?_
            refine AllReadyH.cons (o := { dst := some 26, op := Go.Op.call { callee := Go.Callee.value (Go.Operand.func 19), args := #[Go.Operand.tmp 23, Go.Operand.tmp 25], argTypes := #[25, 27] }, type := 32, pos := "law.go:22", after := #[{ on := 0, ground := Go.Ground.data }, { on := 2, ground := Go.Ground.data }, { on := 2, ground := Go.Ground.chain }], guard := none }) rfl (fun K hK => ?_) ?_
            · skip
              go_simp
              go_wp2_with (go_at_call 19; ((with_reducible refine (HAdd.out _ _ _ HR.out HL.out).mono ?_); rintro e wz ⟨An2, Ac2, Au2, cn2, cc2, cu2, rfl, hn2, hc2, hu2, hbz⟩))
              have HN2 := Lib.hid (World.ownsRow.mono hn2 (show wc.heap.size ≤ _ from HR.out.size))
              have HC2 := Lib.hid (World.ownsRow.mono hc2 (show wc.heap.size ≤ _ from HR.out.size))
              have HU2 := Lib.hid (World.ownsRow.mono hu2 (show wc.heap.size ≤ _ from HR.out.size))
              clear hn2 hc2 hu2
              replace HR := Lib.hid (HR.out.trans (Fr.of_below hbz (S := fun _ => False)))
              try replace HZ := Lib.hid (HZ.out.below hbz HZ.out.lt)
              clear hbz
              obtain ⟨wx, hwx⟩ : ∃ wx, wx = wz := ⟨_, rfl⟩
              rw [← hwx] at HR ⊢
              try rw [← hwx] at HL
              try rw [← hwx] at HZ
              try rw [← hwx] at HN2
              try rw [← hwx] at HC2
              try rw [← hwx] at HU2
              try rw [← hwx] at HQ
              clear hwx
              refine hK.out _ _ ?_ (fun hHeld => ?_)
              · exact HR.out
              clear hK K
              try simp only [Act.put, List.setIfInBounds_toArray, List.set_cons_zero, List.set_cons_succ]
              refine wpAnyH_take (i := 4) (oi := { dst := some 22, op := Go.Op.move (Go.Operand.tmp 26), type := 32, pos := "law.go:22", after := #[{ on := 3, ground := Go.Ground.data }], guard := none }) (v := ?v104) rfl (by kernel_rfl) (by kernel_rfl) (by kernel_rfl) (fun _ _ _ h => h) (Or.inl ⟨by rfl, ?hy104⟩) hHeld ?rest104
              case hy104 =>
                intro w0 hSw
                try obtain ⟨-, hS1, -⟩ := (HP.out.fr hSw id).facts
                go_simp
                try with_reducible rfl
              try simp only [Act.put, List.setIfInBounds_toArray, List.set_cons_zero, List.set_cons_succ]
              refine wpAnyH_take (i := 5) (oi := { dst := some 27, op := Go.Op.extract (Go.Operand.tmp 22) 0, type := 25, pos := "law.go:22", after := #[{ on := 4, ground := Go.Ground.data }], guard := none }) (v := ?v105) rfl (by kernel_rfl) (by kernel_rfl) (by kernel_rfl) (fun _ _ _ h => h) (Or.inl ⟨by rfl, ?hy105⟩) hHeld ?rest105
              case hy105 =>
                intro w0 hSw
                try obtain ⟨-, hS1, -⟩ := (HP.out.fr hSw id).facts
                go_simp
                try with_reducible rfl
              try simp only [Act.put, List.setIfInBounds_toArray, List.set_cons_zero, List.set_cons_succ]
              refine wpAnyH_take (i := 6) (oi := { dst := some 28, op := Go.Op.extract (Go.Operand.tmp 22) 1, type := 31, pos := "law.go:22", after := #[{ on := 4, ground := Go.Ground.data }, { on := 8, ground := Go.Ground.gcOnly Go.Departure.lateStores }], guard := none }) (v := ?v106) rfl (by kernel_rfl) (by kernel_rfl) (by kernel_rfl) (fun _ _ _ h => h) (Or.inl ⟨by rfl, ?hy106⟩) hHeld ?rest106
              case hy106 =>
                intro w0 hSw
                try obtain ⟨-, hS1, -⟩ := (HP.out.fr hSw id).facts
                go_simp
                try with_reducible rfl
              try simp only [Act.put, List.setIfInBounds_toArray, List.set_cons_zero, List.set_cons_succ]
              refine wpAnyH_ready (rs := [8]) (by kernel_rfl) (by simp) ?_
              refine AllReadyH.cons (o := { dst := none, op := Go.Op.store 25 (Go.Operand.tmp 5) (Go.Operand.tmp 27), type := 0, pos := "law.go:22", after := #[{ on := 7, ground := Go.Ground.data }, { on := 5, ground := Go.Ground.data }, { on := 3, ground := Go.Ground.chain }, { on := 0, ground := Go.Ground.phase }, { on := 1, ground := Go.Ground.phase }, { on := 2, ground := Go.Ground.phase }, { on := 3, ground := Go.Ground.phase }, { on := 4, ground := Go.Ground.phase }, { on := 5, ground := Go.Ground.phase }, { on := 6, ground := Go.Ground.textOnly Go.Departure.lateStores }, { on := 7, ground := Go.Ground.phase }], guard := none }) rfl (fun K hK => ?_) ?_
              · skip
                refine step_storeBlk _ (by rfl) (.tmp 5) (.tmp 27) 25 (by rfl) _ 25 _ #[.int .i64 9, .int .i64 1, .string ⟨#[97, 114, 114, 101, 115, 116]⟩, .slice An2 2 cn2, .int .i64 0, .int .i64 0, .slice Ac2 3 cc2, .slice Au2 0 cu2, .int .i64 0, .bool false] _ 10 136 info25 (by rfl) (by rfl) (by rfl) HZ.out (by rfl) (ten_one (by simp [Value.oneCell'])) ?_
                intro wz hbz hfz hsz
                replace HN2 := Lib.hid (own_fr HN2.out hfz (own_ne_blk HN2.out HZ.out (by decide)))
                replace HC2 := Lib.hid (own_fr HC2.out hfz (own_ne_blk HC2.out HZ.out (by decide)))
                replace HU2 := Lib.hid (own_fr HU2.out hfz (own_ne_blk HU2.out HZ.out (by decide)))
                replace HR := Lib.hid (HR.out.trans_ hfz (fun i e => Or.inr (by have := HG.out; omega)))
                have HQ := Lib.hid hbz
                clear hbz hfz hsz HZ
                obtain ⟨wx, hwx⟩ : ∃ wx, wx = wz := ⟨_, rfl⟩
                rw [← hwx] at HR ⊢
                try rw [← hwx] at HL
                try rw [← hwx] at HZ
                try rw [← hwx] at HN2
                try rw [← hwx] at HC2
                try rw [← hwx] at HU2
                try rw [← hwx] at HQ
                clear hwx
                refine hK.out _ _ ?_ (fun hHeld => ?_)
                · exact HR.out
                clear hK K
                try simp only [Act.put, List.setIfInBounds_toArray, List.set_cons_zero, List.set_cons_succ]
                refine wpAnyH_done (by kernel_rfl) ?_ _
                refine last_do ({ dst := some 6, op := Go.Op.assign (Go.Operand.tmp 28), type := 31, pos := "law.go:22", after := #[{ on := 6, ground := Go.Ground.data }, { on := 8, ground := Go.Ground.chain }, { on := 0, ground := Go.Ground.phase }, { on := 1, ground := Go.Ground.phase }, { on := 2, ground := Go.Ground.phase }, { on := 3, ground := Go.Ground.phase }, { on := 4, ground := Go.Ground.phase }, { on := 5, ground := Go.Ground.phase }, { on := 6, ground := Go.Ground.phase }, { on := 7, ground := Go.Ground.phase }, { on := 8, ground := Go.Ground.phase }], guard := none }) rfl (fun K hK => ?_)
                go_simp
                refine hK _ _ ?_
                go_wp2_with fail
                go_meet
                case rel => exact ⟨_, _, _, _, _, _, _, rfl, rfl, HQ.out, HN2.out, HC2.out, HU2.out, HR.out⟩
              exact AllReadyH.nil
            exact AllReadyH.nil
          exact AllReadyH.nil
        refine AllReadyH.cons (o := { dst := some 5, op := Go.Op.alloc 25, type := 0, pos := "law.go:22", after := #[], guard := none }) rfl (fun K hK => ?_) ?_
        · skip
          go_simp
          have hbn := Blk.new wx 25 #[.int .i64 0, .int .i64 0, .string ⟨#[]⟩, .slice none 0 0, .int .i64 0, .int .i64 0, .slice none 0 0, .slice none 0 0, .int .i64 0, .bool false]
          have hge := HR.out.size
          have hrn := HR.out.alloc (.cells #[.int .i64 0, .int .i64 0, .string ⟨#[]⟩, .slice none 0 0, .int .i64 0, .int .i64 0, .slice none 0 0, .slice none 0 0, .int .i64 0, .bool false] 25)
          try replace HL := Lib.hid ((HL.out.alloc (.cells #[.int .i64 0, .int .i64 0, .string ⟨#[]⟩, .slice none 0 0, .int .i64 0, .int .i64 0, .slice none 0 0, .slice none 0 0, .int .i64 0, .bool false] 25)).more (B' := fun k => k < (wx.alloc (.cells #[.int .i64 0, .int .i64 0, .string ⟨#[]⟩, .slice none 0 0, .int .i64 0, .int .i64 0, .slice none 0 0, .slice none 0 0, .int .i64 0, .bool false] 25)).heap.size) (fun k hk => Nat.lt_of_lt_of_le (show k < wx.heap.size from hk) (by simp)))
          try replace HZ := Lib.hid (HZ.out.alloc (.cells #[.int .i64 0, .int .i64 0, .string ⟨#[]⟩, .slice none 0 0, .int .i64 0, .int .i64 0, .slice none 0 0, .slice none 0 0, .int .i64 0, .bool false] 25))
          try replace HN2 := Lib.hid (HN2.out.alloc (.cells #[.int .i64 0, .int .i64 0, .string ⟨#[]⟩, .slice none 0 0, .int .i64 0, .int .i64 0, .slice none 0 0, .slice none 0 0, .int .i64 0, .bool false] 25))
          try replace HC2 := Lib.hid (HC2.out.alloc (.cells #[.int .i64 0, .int .i64 0, .string ⟨#[]⟩, .slice none 0 0, .int .i64 0, .int .i64 0, .slice none 0 0, .slice none 0 0, .int .i64 0, .bool false] 25))
          try replace HU2 := Lib.hid (HU2.out.alloc (.cells #[.int .i64 0, .int .i64 0, .string ⟨#[]⟩, .slice none 0 0, .int .i64 0, .int .i64 0, .slice none 0 0, .slice none 0 0, .int .i64 0, .bool false] 25))
          generalize wx.alloc _ = wz at *
          generalize wx.heap.size = gz at *
          have HZ := Lib.hid hbn
          have HG := Lib.hid hge
          replace HR := Lib.hid hrn
          clear hbn hge hrn
          obtain ⟨wx, hwx⟩ : ∃ wx, wx = wz := ⟨_, rfl⟩
          rw [← hwx] at HR ⊢
          try rw [← hwx] at HL
          try rw [← hwx] at HZ
          try rw [← hwx] at HN2
          try rw [← hwx] at HC2
          try rw [← hwx] at HU2
          try rw [← hwx] at HQ
          clear hwx
          refine hK.out _ _ ?_ (fun hHeld => ?_)
          · exact HR.out
          clear hK K
          try simp only [Act.put, List.setIfInBounds_toArray, List.set_cons_zero, List.set_cons_succ]
          refine wpAnyH_ready (rs := [2]) (by kernel_rfl) (by simp) ?_
          refine AllReadyH.cons (o := { dst := some 25, op := Go.Op.call { callee := Go.Callee.value (Go.Operand.func 29), args := #[Go.Operand.const (Go.Value.int Go.IntKind.i64 3), Go.Operand.const (Go.Value.int Go.IntKind.i64 4), Go.Operand.const (Go.Value.string { data := #[102, 97, 108, 108] }), Go.Operand.tmp 24], argTypes := #[2, 3, 9, 22] }, type := 27, pos := "law.go:22", after := #[{ on := 1, ground := Go.Ground.data }], guard := none }) rfl (fun K hK => ?_) ?_
          · skip
            go_simp
            go_wp2_with (go_at_call 29; ((with_reducible refine (H29.out _ _ _ _ _ _ _).mono ?_); rintro e wz ⟨rfl, hbz⟩))
            replace HR := Lib.hid (HR.out.trans (Fr.of_below hbz (S := fun _ => False)))
            try replace HL := Lib.hid (((HL.out.below hbz (fun k hk => hk)).old (by omega)).more (B' := fun k => k < wz.heap.size) (fun k hk => hk.2))
            try replace HZ := Lib.hid (HZ.out.below hbz HZ.out.lt)
            try replace HN2 := Lib.hid (own_below HN2.out hbz (fun g hg => (HN2.out.lt g hg).2))
            try replace HC2 := Lib.hid (own_below HC2.out hbz (fun g hg => (HC2.out.lt g hg).2))
            try replace HU2 := Lib.hid (own_below HU2.out hbz (fun g hg => (HU2.out.lt g hg).2))
            clear hbz
            obtain ⟨wx, hwx⟩ : ∃ wx, wx = wz := ⟨_, rfl⟩
            rw [← hwx] at HR ⊢
            try rw [← hwx] at HL
            try rw [← hwx] at HZ
            try rw [← hwx] at HN2
            try rw [← hwx] at HC2
            try rw [← hwx] at HU2
            try rw [← hwx] at HQ
            clear hwx
            refine hK.out _ _ ?_ (fun hHeld => ?_)
            · exact HR.out
            clear hK K
            try simp only [Act.put, List.setIfInBounds_toArray, List.set_cons_zero, List.set_cons_succ]
            refine wpAnyH_ready (rs := [3]) (by kernel_rfl) (by simp) ?_
            refine AllReadyH.cons (o := { dst := some 26, op := Go.Op.call { callee := Go.Callee.value (Go.Operand.func 19), args := #[Go.Operand.tmp 23, Go.Operand.tmp 25], argTypes := #[25, 27] }, type := 32, pos := "law.go:22", after := #[{ on := 0, ground := Go.Ground.data }, { on := 2, ground := Go.Ground.data }, { on := 2, ground := Go.Ground.chain }], guard := none }) rfl (fun K hK => ?_) ?_
            · skip
              go_simp
              go_wp2_with (go_at_call 19; ((with_reducible refine (HAdd.out _ _ _ HR.out HL.out).mono ?_); rintro e wz ⟨An2, Ac2, Au2, cn2, cc2, cu2, rfl, hn2, hc2, hu2, hbz⟩))
              have HN2 := Lib.hid (World.ownsRow.mono hn2 (show wc.heap.size ≤ _ from HR.out.size))
              have HC2 := Lib.hid (World.ownsRow.mono hc2 (show wc.heap.size ≤ _ from HR.out.size))
              have HU2 := Lib.hid (World.ownsRow.mono hu2 (show wc.heap.size ≤ _ from HR.out.size))
              clear hn2 hc2 hu2
              replace HR := Lib.hid (HR.out.trans (Fr.of_below hbz (S := fun _ => False)))
              try replace HZ := Lib.hid (HZ.out.below hbz HZ.out.lt)
              clear hbz
              obtain ⟨wx, hwx⟩ : ∃ wx, wx = wz := ⟨_, rfl⟩
              rw [← hwx] at HR ⊢
              try rw [← hwx] at HL
              try rw [← hwx] at HZ
              try rw [← hwx] at HN2
              try rw [← hwx] at HC2
              try rw [← hwx] at HU2
              try rw [← hwx] at HQ
              clear hwx
              refine hK.out _ _ ?_ (fun hHeld => ?_)
              · exact HR.out
              clear hK K
              try simp only [Act.put, List.setIfInBounds_toArray, List.set_cons_zero, List.set_cons_succ]
              refine wpAnyH_take (i := 4) (oi := { dst := some 22, op := Go.Op.move (Go.Operand.tmp 26), type := 32, pos := "law.go:22", after := #[{ on := 3, ground := Go.Ground.data }], guard := none }) (v := ?v107) rfl (by kernel_rfl) (by kernel_rfl) (by kernel_rfl) (fun _ _ _ h => h) (Or.inl ⟨by rfl, ?hy107⟩) hHeld ?rest107
              case hy107 =>
                intro w0 hSw
                try obtain ⟨-, hS1, -⟩ := (HP.out.fr hSw id).facts
                go_simp
                try with_reducible rfl
              try simp only [Act.put, List.setIfInBounds_toArray, List.set_cons_zero, List.set_cons_succ]
              refine wpAnyH_take (i := 5) (oi := { dst := some 27, op := Go.Op.extract (Go.Operand.tmp 22) 0, type := 25, pos := "law.go:22", after := #[{ on := 4, ground := Go.Ground.data }], guard := none }) (v := ?v108) rfl (by kernel_rfl) (by kernel_rfl) (by kernel_rfl) (fun _ _ _ h => h) (Or.inl ⟨by rfl, ?hy108⟩) hHeld ?rest108
              case hy108 =>
                intro w0 hSw
                try obtain ⟨-, hS1, -⟩ := (HP.out.fr hSw id).facts
                go_simp
                try with_reducible rfl
              try simp only [Act.put, List.setIfInBounds_toArray, List.set_cons_zero, List.set_cons_succ]
              refine wpAnyH_take (i := 6) (oi := { dst := some 28, op := Go.Op.extract (Go.Operand.tmp 22) 1, type := 31, pos := "law.go:22", after := #[{ on := 4, ground := Go.Ground.data }, { on := 8, ground := Go.Ground.gcOnly Go.Departure.lateStores }], guard := none }) (v := ?v109) rfl (by kernel_rfl) (by kernel_rfl) (by kernel_rfl) (fun _ _ _ h => h) (Or.inl ⟨by rfl, ?hy109⟩) hHeld ?rest109
              case hy109 =>
                intro w0 hSw
                try obtain ⟨-, hS1, -⟩ := (HP.out.fr hSw id).facts
                go_simp
                try with_reducible rfl
              try simp only [Act.put, List.setIfInBounds_toArray, List.set_cons_zero, List.set_cons_succ]
              refine wpAnyH_ready (rs := [8]) (by kernel_rfl) (by simp) ?_
              refine AllReadyH.cons (o := { dst := none, op := Go.Op.store 25 (Go.Operand.tmp 5) (Go.Operand.tmp 27), type := 0, pos := "law.go:22", after := #[{ on := 7, ground := Go.Ground.data }, { on := 5, ground := Go.Ground.data }, { on := 3, ground := Go.Ground.chain }, { on := 0, ground := Go.Ground.phase }, { on := 1, ground := Go.Ground.phase }, { on := 2, ground := Go.Ground.phase }, { on := 3, ground := Go.Ground.phase }, { on := 4, ground := Go.Ground.phase }, { on := 5, ground := Go.Ground.phase }, { on := 6, ground := Go.Ground.textOnly Go.Departure.lateStores }, { on := 7, ground := Go.Ground.phase }], guard := none }) rfl (fun K hK => ?_) ?_
              · skip
                refine step_storeBlk _ (by rfl) (.tmp 5) (.tmp 27) 25 (by rfl) _ 25 _ #[.int .i64 9, .int .i64 1, .string ⟨#[97, 114, 114, 101, 115, 116]⟩, .slice An2 2 cn2, .int .i64 0, .int .i64 0, .slice Ac2 3 cc2, .slice Au2 0 cu2, .int .i64 0, .bool false] _ 10 136 info25 (by rfl) (by rfl) (by rfl) HZ.out (by rfl) (ten_one (by simp [Value.oneCell'])) ?_
                intro wz hbz hfz hsz
                replace HN2 := Lib.hid (own_fr HN2.out hfz (own_ne_blk HN2.out HZ.out (by decide)))
                replace HC2 := Lib.hid (own_fr HC2.out hfz (own_ne_blk HC2.out HZ.out (by decide)))
                replace HU2 := Lib.hid (own_fr HU2.out hfz (own_ne_blk HU2.out HZ.out (by decide)))
                replace HR := Lib.hid (HR.out.trans_ hfz (fun i e => Or.inr (by have := HG.out; omega)))
                have HQ := Lib.hid hbz
                clear hbz hfz hsz HZ
                obtain ⟨wx, hwx⟩ : ∃ wx, wx = wz := ⟨_, rfl⟩
                rw [← hwx] at HR ⊢
                try rw [← hwx] at HL
                try rw [← hwx] at HZ
                try rw [← hwx] at HN2
                try rw [← hwx] at HC2
                try rw [← hwx] at HU2
                try rw [← hwx] at HQ
                clear hwx
                refine hK.out _ _ ?_ (fun hHeld => ?_)
                · exact HR.out
                clear hK K
                try simp only [Act.put, List.setIfInBounds_toArray, List.set_cons_zero, List.set_cons_succ]
                refine wpAnyH_done (by kernel_rfl) ?_ _
                refine last_do ({ dst := some 6, op := Go.Op.assign (Go.Operand.tmp 28), type := 31, pos := "law.go:22", after := #[{ on := 6, ground := Go.Ground.data }, { on := 8, ground := Go.Ground.chain }, { on := 0, ground := Go.Ground.phase }, { on := 1, ground := Go.Ground.phase }, { on := 2, ground := Go.Ground.phase }, { on := 3, ground := Go.Ground.phase }, { on := 4, ground := Go.Ground.phase }, { on := 5, ground := Go.Ground.phase }, { on := 6, ground := Go.Ground.phase }, { on := 7, ground := Go.Ground.phase }, { on := 8, ground := Go.Ground.phase }], guard := none }) rfl (fun K hK => ?_)
                go_simp
                refine hK _ _ ?_
                go_wp2_with fail
                go_meet
                case rel => exact ⟨_, _, _, _, _, _, _, rfl, rfl, HQ.out, HN2.out, HC2.out, HU2.out, HR.out⟩
              exact AllReadyH.nil
            exact AllReadyH.nil
          exact AllReadyH.nil
        exact AllReadyH.nil
      refine AllReadyH.cons (o := { dst := some 5, op := Go.Op.alloc 25, type := 0, pos := "law.go:22", after := #[], guard := none }) rfl (fun K hK => ?_) ?_
      · skip
        go_simp
        have hbn := Blk.new wx 25 #[.int .i64 0, .int .i64 0, .string ⟨#[]⟩, .slice none 0 0, .int .i64 0, .int .i64 0, .slice none 0 0, .slice none 0 0, .int .i64 0, .bool false]
        have hge := HR.out.size
        have hrn := HR.out.alloc (.cells #[.int .i64 0, .int .i64 0, .string ⟨#[]⟩, .slice none 0 0, .int .i64 0, .int .i64 0, .slice none 0 0, .slice none 0 0, .int .i64 0, .bool false] 25)
        try replace HL := Lib.hid ((HL.out.alloc (.cells #[.int .i64 0, .int .i64 0, .string ⟨#[]⟩, .slice none 0 0, .int .i64 0, .int .i64 0, .slice none 0 0, .slice none 0 0, .int .i64 0, .bool false] 25)).more (B' := fun k => k < (wx.alloc (.cells #[.int .i64 0, .int .i64 0, .string ⟨#[]⟩, .slice none 0 0, .int .i64 0, .int .i64 0, .slice none 0 0, .slice none 0 0, .int .i64 0, .bool false] 25)).heap.size) (fun k hk => Nat.lt_of_lt_of_le (show k < wx.heap.size from hk) (by simp)))
        try replace HZ := Lib.hid (HZ.out.alloc (.cells #[.int .i64 0, .int .i64 0, .string ⟨#[]⟩, .slice none 0 0, .int .i64 0, .int .i64 0, .slice none 0 0, .slice none 0 0, .int .i64 0, .bool false] 25))
        try replace HN2 := Lib.hid (HN2.out.alloc (.cells #[.int .i64 0, .int .i64 0, .string ⟨#[]⟩, .slice none 0 0, .int .i64 0, .int .i64 0, .slice none 0 0, .slice none 0 0, .int .i64 0, .bool false] 25))
        try replace HC2 := Lib.hid (HC2.out.alloc (.cells #[.int .i64 0, .int .i64 0, .string ⟨#[]⟩, .slice none 0 0, .int .i64 0, .int .i64 0, .slice none 0 0, .slice none 0 0, .int .i64 0, .bool false] 25))
        try replace HU2 := Lib.hid (HU2.out.alloc (.cells #[.int .i64 0, .int .i64 0, .string ⟨#[]⟩, .slice none 0 0, .int .i64 0, .int .i64 0, .slice none 0 0, .slice none 0 0, .int .i64 0, .bool false] 25))
        generalize wx.alloc _ = wz at *
        generalize wx.heap.size = gz at *
        have HZ := Lib.hid hbn
        have HG := Lib.hid hge
        replace HR := Lib.hid hrn
        clear hbn hge hrn
        obtain ⟨wx, hwx⟩ : ∃ wx, wx = wz := ⟨_, rfl⟩
        rw [← hwx] at HR ⊢
        try rw [← hwx] at HL
        try rw [← hwx] at HZ
        try rw [← hwx] at HN2
        try rw [← hwx] at HC2
        try rw [← hwx] at HU2
        try rw [← hwx] at HQ
        clear hwx
        refine hK.out _ _ ?_ (fun hHeld => ?_)
        · exact HR.out
        clear hK K
        try simp only [Act.put, List.setIfInBounds_toArray, List.set_cons_zero, List.set_cons_succ]
        refine wpAnyH_ready (rs := [1]) (by kernel_rfl) (by simp) ?_
        refine AllReadyH.cons (o := { dst := some 24, op := Go.Op.buildSlice 22 1 #[(0, Go.Operand.const (Go.Value.int Go.IntKind.i64 9))], type := 22, pos := "law.go:22", after := #[], guard := none }) rfl (fun K hK => ?_) ?_
        · skip
          go_simp
          have hbn := Reads.newS wx [.int .i64 9] 3 (0, 0) 1 1 rfl _ rfl
          have hrn := HR.out.alloc (.cells [.int .i64 9].toArray 3)
          try replace HL := Lib.hid ((HL.out.alloc (.cells [.int .i64 9].toArray 3)).more (B' := fun k => k < (wx.alloc (.cells [.int .i64 9].toArray 3)).heap.size) (fun k hk => Nat.lt_of_lt_of_le (show k < wx.heap.size from hk) (by simp)))
          try replace HZ := Lib.hid (HZ.out.alloc (.cells [.int .i64 9].toArray 3))
          try replace HN2 := Lib.hid (HN2.out.alloc (.cells [.int .i64 9].toArray 3))
          try replace HC2 := Lib.hid (HC2.out.alloc (.cells [.int .i64 9].toArray 3))
          try replace HU2 := Lib.hid (HU2.out.alloc (.cells [.int .i64 9].toArray 3))
          have HL := Lib.hid (hbn.more (B' := fun k => k < (wx.alloc (.cells [.int .i64 9].toArray 3)).heap.size) (fun k hk => by simp; omega))
          clear hbn
          generalize wx.alloc _ = wz at *
          generalize wx.heap.size = gl at *
          replace HR := Lib.hid hrn
          clear hrn
          obtain ⟨wx, hwx⟩ : ∃ wx, wx = wz := ⟨_, rfl⟩
          rw [← hwx] at HR ⊢
          try rw [← hwx] at HL
          try rw [← hwx] at HZ
          try rw [← hwx] at HN2
          try rw [← hwx] at HC2
          try rw [← hwx] at HU2
          try rw [← hwx] at HQ
          clear hwx
          refine hK.out _ _ ?_ (fun hHeld => ?_)
          · exact HR.out
          clear hK K
          try simp only [Act.put, List.setIfInBounds_toArray, List.set_cons_zero, List.set_cons_succ]
          refine wpAnyH_ready (rs := [2]) (by kernel_rfl) (by simp) ?_
          refine AllReadyH.cons (o := { dst := some 25, op := Go.Op.call { callee := Go.Callee.value (Go.Operand.func 29), args := #[Go.Operand.const (Go.Value.int Go.IntKind.i64 3), Go.Operand.const (Go.Value.int Go.IntKind.i64 4), Go.Operand.const (Go.Value.string { data := #[102, 97, 108, 108] }), Go.Operand.tmp 24], argTypes := #[2, 3, 9, 22] }, type := 27, pos := "law.go:22", after := #[{ on := 1, ground := Go.Ground.data }], guard := none }) rfl (fun K hK => ?_) ?_
          · skip
            go_simp
            go_wp2_with (go_at_call 29; ((with_reducible refine (H29.out _ _ _ _ _ _ _).mono ?_); rintro e wz ⟨rfl, hbz⟩))
            replace HR := Lib.hid (HR.out.trans (Fr.of_below hbz (S := fun _ => False)))
            try replace HL := Lib.hid (((HL.out.below hbz (fun k hk => hk)).old (by omega)).more (B' := fun k => k < wz.heap.size) (fun k hk => hk.2))
            try replace HZ := Lib.hid (HZ.out.below hbz HZ.out.lt)
            try replace HN2 := Lib.hid (own_below HN2.out hbz (fun g hg => (HN2.out.lt g hg).2))
            try replace HC2 := Lib.hid (own_below HC2.out hbz (fun g hg => (HC2.out.lt g hg).2))
            try replace HU2 := Lib.hid (own_below HU2.out hbz (fun g hg => (HU2.out.lt g hg).2))
            clear hbz
            obtain ⟨wx, hwx⟩ : ∃ wx, wx = wz := ⟨_, rfl⟩
            rw [← hwx] at HR ⊢
            try rw [← hwx] at HL
            try rw [← hwx] at HZ
            try rw [← hwx] at HN2
            try rw [← hwx] at HC2
            try rw [← hwx] at HU2
            try rw [← hwx] at HQ
            clear hwx
            refine hK.out _ _ ?_ (fun hHeld => ?_)
            · exact HR.out
            clear hK K
            try simp only [Act.put, List.setIfInBounds_toArray, List.set_cons_zero, List.set_cons_succ]
            refine wpAnyH_ready (rs := [3]) (by kernel_rfl) (by simp) ?_
            refine AllReadyH.cons (o := { dst := some 26, op := Go.Op.call { callee := Go.Callee.value (Go.Operand.func 19), args := #[Go.Operand.tmp 23, Go.Operand.tmp 25], argTypes := #[25, 27] }, type := 32, pos := "law.go:22", after := #[{ on := 0, ground := Go.Ground.data }, { on := 2, ground := Go.Ground.data }, { on := 2, ground := Go.Ground.chain }], guard := none }) rfl (fun K hK => ?_) ?_
            · skip
              go_simp
              go_wp2_with (go_at_call 19; ((with_reducible refine (HAdd.out _ _ _ HR.out HL.out).mono ?_); rintro e wz ⟨An2, Ac2, Au2, cn2, cc2, cu2, rfl, hn2, hc2, hu2, hbz⟩))
              have HN2 := Lib.hid (World.ownsRow.mono hn2 (show wc.heap.size ≤ _ from HR.out.size))
              have HC2 := Lib.hid (World.ownsRow.mono hc2 (show wc.heap.size ≤ _ from HR.out.size))
              have HU2 := Lib.hid (World.ownsRow.mono hu2 (show wc.heap.size ≤ _ from HR.out.size))
              clear hn2 hc2 hu2
              replace HR := Lib.hid (HR.out.trans (Fr.of_below hbz (S := fun _ => False)))
              try replace HZ := Lib.hid (HZ.out.below hbz HZ.out.lt)
              clear hbz
              obtain ⟨wx, hwx⟩ : ∃ wx, wx = wz := ⟨_, rfl⟩
              rw [← hwx] at HR ⊢
              try rw [← hwx] at HL
              try rw [← hwx] at HZ
              try rw [← hwx] at HN2
              try rw [← hwx] at HC2
              try rw [← hwx] at HU2
              try rw [← hwx] at HQ
              clear hwx
              refine hK.out _ _ ?_ (fun hHeld => ?_)
              · exact HR.out
              clear hK K
              try simp only [Act.put, List.setIfInBounds_toArray, List.set_cons_zero, List.set_cons_succ]
              refine wpAnyH_take (i := 4) (oi := { dst := some 22, op := Go.Op.move (Go.Operand.tmp 26), type := 32, pos := "law.go:22", after := #[{ on := 3, ground := Go.Ground.data }], guard := none }) (v := ?v110) rfl (by kernel_rfl) (by kernel_rfl) (by kernel_rfl) (fun _ _ _ h => h) (Or.inl ⟨by rfl, ?hy110⟩) hHeld ?rest110
              case hy110 =>
                intro w0 hSw
                try obtain ⟨-, hS1, -⟩ := (HP.out.fr hSw id).facts
                go_simp
                try with_reducible rfl
              try simp only [Act.put, List.setIfInBounds_toArray, List.set_cons_zero, List.set_cons_succ]
              refine wpAnyH_take (i := 5) (oi := { dst := some 27, op := Go.Op.extract (Go.Operand.tmp 22) 0, type := 25, pos := "law.go:22", after := #[{ on := 4, ground := Go.Ground.data }], guard := none }) (v := ?v111) rfl (by kernel_rfl) (by kernel_rfl) (by kernel_rfl) (fun _ _ _ h => h) (Or.inl ⟨by rfl, ?hy111⟩) hHeld ?rest111
              case hy111 =>
                intro w0 hSw
                try obtain ⟨-, hS1, -⟩ := (HP.out.fr hSw id).facts
                go_simp
                try with_reducible rfl
              try simp only [Act.put, List.setIfInBounds_toArray, List.set_cons_zero, List.set_cons_succ]
              refine wpAnyH_take (i := 6) (oi := { dst := some 28, op := Go.Op.extract (Go.Operand.tmp 22) 1, type := 31, pos := "law.go:22", after := #[{ on := 4, ground := Go.Ground.data }, { on := 8, ground := Go.Ground.gcOnly Go.Departure.lateStores }], guard := none }) (v := ?v112) rfl (by kernel_rfl) (by kernel_rfl) (by kernel_rfl) (fun _ _ _ h => h) (Or.inl ⟨by rfl, ?hy112⟩) hHeld ?rest112
              case hy112 =>
                intro w0 hSw
                try obtain ⟨-, hS1, -⟩ := (HP.out.fr hSw id).facts
                go_simp
                try with_reducible rfl
              try simp only [Act.put, List.setIfInBounds_toArray, List.set_cons_zero, List.set_cons_succ]
              refine wpAnyH_ready (rs := [8]) (by kernel_rfl) (by simp) ?_
              refine AllReadyH.cons (o := { dst := none, op := Go.Op.store 25 (Go.Operand.tmp 5) (Go.Operand.tmp 27), type := 0, pos := "law.go:22", after := #[{ on := 7, ground := Go.Ground.data }, { on := 5, ground := Go.Ground.data }, { on := 3, ground := Go.Ground.chain }, { on := 0, ground := Go.Ground.phase }, { on := 1, ground := Go.Ground.phase }, { on := 2, ground := Go.Ground.phase }, { on := 3, ground := Go.Ground.phase }, { on := 4, ground := Go.Ground.phase }, { on := 5, ground := Go.Ground.phase }, { on := 6, ground := Go.Ground.textOnly Go.Departure.lateStores }, { on := 7, ground := Go.Ground.phase }], guard := none }) rfl (fun K hK => ?_) ?_
              · skip
                refine step_storeBlk _ (by rfl) (.tmp 5) (.tmp 27) 25 (by rfl) _ 25 _ #[.int .i64 9, .int .i64 1, .string ⟨#[97, 114, 114, 101, 115, 116]⟩, .slice An2 2 cn2, .int .i64 0, .int .i64 0, .slice Ac2 3 cc2, .slice Au2 0 cu2, .int .i64 0, .bool false] _ 10 136 info25 (by rfl) (by rfl) (by rfl) HZ.out (by rfl) (ten_one (by simp [Value.oneCell'])) ?_
                intro wz hbz hfz hsz
                replace HN2 := Lib.hid (own_fr HN2.out hfz (own_ne_blk HN2.out HZ.out (by decide)))
                replace HC2 := Lib.hid (own_fr HC2.out hfz (own_ne_blk HC2.out HZ.out (by decide)))
                replace HU2 := Lib.hid (own_fr HU2.out hfz (own_ne_blk HU2.out HZ.out (by decide)))
                replace HR := Lib.hid (HR.out.trans_ hfz (fun i e => Or.inr (by have := HG.out; omega)))
                have HQ := Lib.hid hbz
                clear hbz hfz hsz HZ
                obtain ⟨wx, hwx⟩ : ∃ wx, wx = wz := ⟨_, rfl⟩
                rw [← hwx] at HR ⊢
                try rw [← hwx] at HL
                try rw [← hwx] at HZ
                try rw [← hwx] at HN2
                try rw [← hwx] at HC2
                try rw [← hwx] at HU2
                try rw [← hwx] at HQ
                clear hwx
                refine hK.out _ _ ?_ (fun hHeld => ?_)
                · exact HR.out
                clear hK K
                try simp only [Act.put, List.setIfInBounds_toArray, List.set_cons_zero, List.set_cons_succ]
                refine wpAnyH_done (by kernel_rfl) ?_ _
                refine last_do ({ dst := some 6, op := Go.Op.assign (Go.Operand.tmp 28), type := 31, pos := "law.go:22", after := #[{ on := 6, ground := Go.Ground.data }, { on := 8, ground := Go.Ground.chain }, { on := 0, ground := Go.Ground.phase }, { on := 1, ground := Go.Ground.phase }, { on := 2, ground := Go.Ground.phase }, { on := 3, ground := Go.Ground.phase }, { on := 4, ground := Go.Ground.phase }, { on := 5, ground := Go.Ground.phase }, { on := 6, ground := Go.Ground.phase }, { on := 7, ground := Go.Ground.phase }, { on := 8, ground := Go.Ground.phase }], guard := none }) rfl (fun K hK => ?_)
                go_simp
                refine hK _ _ ?_
                go_wp2_with fail
                go_meet
                case rel => exact ⟨_, _, _, _, _, _, _, rfl, rfl, HQ.out, HN2.out, HC2.out, HU2.out, HR.out⟩
              exact AllReadyH.nil
            exact AllReadyH.nil
          exact AllReadyH.nil
        exact AllReadyH.nil
      exact AllReadyH.nil

    case rest =>
      obtain ⟨An3, Ac3, Au3, cn3, cc3, cu3, g3, rfl, rfl, hq, hn, hc, hu, hf⟩ := hcut
      have HB6 := Lib.hid (HB5.out.trans (hf.below HB5.out.size (fun k hk e => e)))
      clear HAdd HP HN HC HU H29
      have hrn := ri_own (l := [3, 4]) hn
      have hpl := hrn.plain (by omega)
      have hix0 : ∀ W, (Instr.indexAt 22 (.slice An3 2 cn3) (.int .i64 0)).run Tryd.prog W = .ok (.pointer (some ⟨bk An3, ofs An3, none⟩)) W := fun W => by simpa using ix22 hpl cn3 0 (by decide) W
      have hix1 : ∀ W, (Instr.indexAt 22 (.slice An3 2 cn3) (.int .i64 1)).run Tryd.prog W = .ok (.pointer (some ⟨bk An3, ofs An3 + 1, none⟩)) W := fun W => by simpa using ix22 hpl cn3 1 (by decide) W
      have hc0 : wc.cell? ⟨bk An3, ofs An3, none⟩ = some (.int .i64 3) := by simpa [gd] using ri_cell (k := 0) hrn (by decide)
      have hc1 : wc.cell? ⟨bk An3, ofs An3 + 1, none⟩ = some (.int .i64 4) := by simpa [gd] using ri_cell (k := 1) hrn (by decide)
      obtain ⟨x0, x1, x2⟩ := hq.facts
      have HQ := Lib.hid hq
      have HHn := Lib.hid (show wc.ownsRow _ 3 1 (.slice An3 2 cn3) 2 [.int .i64 3, .int .i64 4] ∧ wc.ownsRow _ 2 1 (.slice Ac3 3 cc3) 3 [.int .i64 1, .int .i64 2, .int .i64 3] ∧ wc.ownsRow _ 3 1 (.slice Au3 0 cu3) 0 [] from ⟨hn, hc, hu⟩)
      have HVx := Lib.hid (HV.out wc An3 Ac3 Au3 cn3 cc3 cu3 _ ⟨hn, hc, hu⟩)
      clear hq hn hc hu hf hrn hpl HV HHn
      go_wp2_with (first | (go_at_call 14; ((with_reducible refine HVx.out.mono ?_); rintro e w9 ⟨rfl, hb9⟩; clear x0 x1 x2; obtain ⟨x0, x1, x2⟩ := (HQ.out.below hb9 HQ.out.lt).facts)) | (go_at_call 16; ((with_reducible refine (HO.out _ _ _ _ _ _ _).mono ?_); rintro e w10 ⟨rfl, hb10⟩)))
      go_ret
      have hb6 := HB6.out.size
      exact ⟨by first | rfl | simp, HB6.out.trans ((hb9.mono hb6).trans (hb10.mono (Nat.le_trans hb6 hb9.size)))⟩
end Go.Proofs.YtipkicijfedfoaaDoor

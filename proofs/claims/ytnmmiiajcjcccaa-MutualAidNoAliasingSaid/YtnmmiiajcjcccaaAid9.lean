import Derived.Test.YtnmmiiajcjcccaaAid8
import Derived.Test.YtnmmiiajcjcccaaRPlain41
namespace Go.Aid
open Go.Quo (gd gd_get)
structure LvSt (n : Nat) (L : List Int) (l : List (Int × Int)) (k : Nat) (s : List Int) : Prop where
  sl : s.length = n
  sv : ∀ i, i < n → gd s i = lv L (l.take k) i
  ok : ∀ x ∈ l.take k, stepOk n x
theorem LvSt.start {n : Nat} {L : List Int} (l : List (Int × Int)) (h : L.length = n) : LvSt n L l 0 L := ⟨h, fun i _ => by simp [lv, lentN, gotN], by simp⟩
theorem LvSt.next {n : Nat} {L : List Int} {l : List (Int × Int)} {k : Nat} {s : List Int} (h : LvSt n L l k s) {a b : Nat} (hk : l[k]? = some ((a : Int), (b : Int))) (ha : a < n) (hb : b < n) (hab : a ≠ b) :
    LvSt n L l (k + 1) ((s.set a (gd s a - 1)).set b (gd s b + 1)) := by
  have e := take_snoc hk
  refine ⟨by simp [h.sl], fun i hi => ?_, ?_⟩
  · rw [gd_set _ _ _ _ (by simp [h.sl]; exact hb), gd_set _ _ _ _ (by rw [h.sl]; exact ha), e]
    have h1 := h.sv i hi
    unfold lv at h1 ⊢
    rw [lentN_snoc, gotN_snoc]
    have e1 : ((a : Int) = (i : Int)) ↔ a = i := by omega
    have e2 : ((b : Int) = (i : Int)) ↔ b = i := by omega
    simp only [e1, e2]
    by_cases h2 : i = b
    · subst h2
      simp [hab]; omega
    · have h2' : b ≠ i := fun e => h2 e.symm
      by_cases h3 : i = a
      · subst h3
        simp only [if_neg h2, if_neg h2', if_true]; omega
      · have h3' : a ≠ i := fun e => h3 e.symm
        simp only [if_neg h2, if_neg h2', if_neg h3, if_neg h3']; omega
  · rw [e]
    intro x hx
    rcases List.mem_append.1 hx with hx | hx
    · exact h.ok x hx
    · obtain rfl : x = ((a : Int), (b : Int)) := by simpa using hx
      exact ⟨by simp, by simp; omega, by simp, by simp; omega, by simp; omega⟩
theorem LvSt.bad {n : Nat} {L : List Int} {l : List (Int × Int)} {k : Nat} {x : Int × Int} (hk : l[k]? = some x) (hx : ¬ stepOk n x) : ¬ FairR n L l := fun h => hx (h.1 x (List.mem_of_getElem? hk))
structure PQSt (n : Nat) (l : List (Int × Int)) (k : Nat) (p q : List Bool) : Prop where
  pl : p.length = n
  ql : q.length = n
  pv : ∀ i, i < n → p[i]? = some (decide (0 < lentN (l.take k) i))
  qv : ∀ i, i < n → q[i]? = some (decide (0 < gotN (l.take k) i))
theorem PQSt.start (n : Nat) (l : List (Int × Int)) : PQSt n l 0 (List.replicate n false) (List.replicate n false) := ⟨by simp, by simp, fun i hi => by simp [hi, lentN], fun i hi => by simp [hi, gotN]⟩
theorem PQSt.next {n : Nat} {l : List (Int × Int)} {k : Nat} {p q : List Bool} (h : PQSt n l k p q) {a b : Nat} (hk : l[k]? = some ((a : Int), (b : Int))) (ha : a < n) (hb : b < n) : PQSt n l (k + 1) (p.set a true) (q.set b true) := by
  have e := take_snoc hk
  refine ⟨by simp [h.pl], by simp [h.ql], fun i hi => ?_, fun i hi => ?_⟩
  · rw [e, lentN_snoc, List.getElem?_set]
    by_cases hi2 : a = i
    · subst hi2; simp [h.pl, ha]
    · rw [if_neg hi2, if_neg (by simpa using fun e : (a : Int) = i => hi2 (by omega)), h.pv i hi]; simp
  · rw [e, gotN_snoc, List.getElem?_set]
    by_cases hi2 : b = i
    · subst hi2; simp [h.ql, hb]
    · rw [if_neg hi2, if_neg (by simpa using fun e : (b : Int) = i => hi2 (by omega)), h.qv i hi]; simp
structure L3 (n : Nat) (L : List Int) (l : List (Int × Int)) (i : Nat) (bl bs : Bool) : Prop where
  lo : bl = true ↔ ∃ j, j < i ∧ lv L l j < 0
  hi : bs = true ↔ ∃ j, j < i ∧ 0 < lv L l j
  no : ∀ j, j < i → ¬ badI L l j ∧ ∀ k, k < n → ¬ badK L l j k
theorem L3.start (n : Nat) (L : List Int) (l : List (Int × Int)) : L3 n L l 0 false false := ⟨by simp, by simp, fun j hj => by omega⟩
theorem ex_succ {P : Nat → Prop} {i : Nat} : (∃ j, j < i + 1 ∧ P j) ↔ (∃ j, j < i ∧ P j) ∨ P i := by
  constructor
  · rintro ⟨j, hj, h⟩
    rcases (by omega : j < i ∨ j = i) with e | rfl
    · exact .inl ⟨j, e, h⟩
    · exact .inr h
  · rintro (⟨j, hj, h⟩ | h)
    · exact ⟨j, by omega, h⟩
    · exact ⟨i, by omega, h⟩
theorem L3.next {n : Nat} {L : List Int} {l : List (Int × Int)} {i : Nat} {bl bs : Bool} (h : L3 n L l i bl bs) (h1 : ¬ badI L l i) (h2 : ∀ k, k < n → ¬ badK L l i k) : L3 n L l (i + 1) (bl || decide (lv L l i < 0)) (bs || decide (0 < lv L l i)) := by
  refine ⟨?_, ?_, fun j hj => ?_⟩
  · rw [ex_succ, ← h.lo]; simp
  · rw [ex_succ, ← h.hi]; simp
  · rcases (by omega : j < i ∨ j = i) with e | rfl
    · exact h.no j e
    · exact ⟨h1, h2⟩
theorem L3.end_ {n : Nat} {L : List Int} {l : List (Int × Int)} {bl bs : Bool} (h : L3 n L l n bl bs) (hok : ∀ x ∈ l, stepOk n x) : (!bl || !bs) = true ↔ FairR n L l := by
  unfold FairR
  rw [← h.lo, ← h.hi]
  constructor
  · intro hb
    refine ⟨hok, h.no, ?_⟩
    rintro ⟨e1, e2⟩
    rw [e1, e2] at hb
    cases hb
  · rintro ⟨-, -, h3⟩
    cases bl <;> cases bs <;> simp_all
theorem lv_r {L : List Int} {l : List (Int × Int)} (k i : Nat) (hL : gd L i ≤ 1000 ∧ -1000 ≤ gd L i) (hl : l.length ≤ 64000) : lv L (l.take k) i ≤ 65000 ∧ -65000 ≤ lv L (l.take k) i := by
  unfold lv
  have h1 : lentN (l.take k) i ≤ (l.take k).length := List.countP_le_length
  have h2 : gotN (l.take k) i ≤ (l.take k).length := List.countP_le_length
  have h3 : (l.take k).length ≤ l.length := by simp; omega
  omega
end Go.Aid
namespace Go.Proofs.Ytnmmiiajcjcccaa
set_option linter.unusedVariables false
open Go.RowKit Go.Own Go.Quo Go.Aid
theorem own_below {w w' : World} {base C : Nat} {e : TypeId} {size n : Nat} {v : Value} {xs : List Value} (h : w.ownsRow base e size v n xs) (hb : Below C w w') (hC : ∀ g, v.ownBlock = some g → g < C) : w'.ownsRow base e size v n xs := by
  refine ⟨h.1, ?_⟩
  rcases h.2 with h0 | ⟨g, cap, cur, rfl, hb1, hg, r⟩
  · exact .inl h0
  · exact .inr ⟨g, cap, cur, rfl, hb1, (hb.block g (hC g rfl)).trans hg, r⟩
set_option maxRecDepth 10000 in
theorem ix28o (b o k : Nat) (hk : k < 2) (w : World) : (Instr.indexAt 28 (.pointer (some ⟨b, o, none⟩)) (.int .i64 (k : Int))).run Try.prog w = .ok (.pointer (some ⟨b, o + k, none⟩)) w := by
  obtain ⟨i, hi, hs⟩ := i3x
  have e : (⟨b, o, none⟩ : Addr).add k = ⟨b, o + k, none⟩ := Addr.add_lit _ _ _
  rw [← e]
  generalize (⟨b, o, none⟩ : Addr) = ad
  simp [Instr.indexAt, asIntOf, run_underlying Try.underlying28, sizeOf, typeInfo, hi, hs, Instr.sureAddr, hk]
set_option maxRecDepth 10000 in
theorem rfair_bad (A A2 : Option Addr) (n n2 c c2 : Nat) (v : Value) (w : World) (h : n ≠ n2 ∨ 64 < n) :
    Calls Try.prog 16 #[.slice A n c, .slice A2 n2 c2, v] w fun e w' => e = .returned (.bool false) ∧ w' = w := by
  have HB := Lib.hid (left_bad A A2 n n2 c c2 w h)
  have hnil1 : ∀ W : World, (binOp .eql 22 (.slice none 0 0) (.slice none 0 0)).run Try.prog W = .ok (.bool true) W := fun _ => by rfl
  clear h
  go_enter Try.func16, Try.ntmps16
  go_wp2_with fail
  refine HB.out.mono ?_
  rintro e w' ⟨rfl, rfl⟩
  go_wp2_with fail
  go_ret
  exact ⟨rfl, rfl⟩
def sub : List Bool → Code → Code
  | [], c => c
  | true :: p, .seq _ y => sub p y
  | false :: p, .seq x _ => sub p x
  | _, c => c
theorem wp_of_eq {P : Program} {c c' : Code} {Q : Exit → Act → World → Prop} {a : Act} {w : World} (h : c' = c) (H : c'.wp P Q a w) : c.wp P Q a w := h ▸ H
set_option maxRecDepth 10000 in
set_option maxHeartbeats 8000000 in
theorem rfair_rest (w w5 : World) (base7 base8 : Nat) (n g cg g8 c2' g3 g4 : Nat) (L s : List Int) (l : List (Int × Int)) (p q : List Bool) (h64 : n ≤ 64) (hl5 : l.length ≤ 64000)
    (HLl : RowKit.Hid (L.length = n)) (HLr : RowKit.Hid (∀ k, gd L k ≤ 1000 ∧ -1000 ≤ gd L k)) (Hok : RowKit.Hid (∀ x ∈ l, stepOk n x)) (Hsv : RowKit.Hid (∀ i, i < n → gd s i = lv L l i)) (Hsl : RowKit.Hid (s.length = n))
    (HPv : RowKit.Hid (∀ i, i < n → p[i]? = some (decide (0 < lentN l i)))) (HQv : RowKit.Hid (∀ i, i < n → q[i]? = some (decide (0 < gotN l i))))
    (J3 : RowKit.Hid (BBk w5 g3 p)) (J4 : RowKit.Hid (BBk w5 g4 q)) (J8 : RowKit.Hid (w5.ownsRow base8 3 1 (.slice (some ⟨g8, 0, none⟩) n c2') n (s.map (Value.int .i64)))) (J7 : RowKit.Hid (w5.ownsRow base7 3 1 (.slice (some ⟨g, 0, none⟩) n cg) n (L.map (Value.int .i64))))
    (bw3 : Below w.heap.size w w5) (x0 x1 x2 x3 x4 x5 x6 x9 x10 x11 x14 x15 x16 x19 x20 x21 x22 x23 x24 x25 x26 x27 x28 x29 x30 x31 x32 x33 x34 x35 x36 x37 x38 x39 x40 x41 x42 x43 x44 x45 x46 x47 x48 x49 x50 x51 x52 x53 x54 x55 x56 x57 x58 x59 x60 x61 x62 x63 x64 x65 x66 x67 x68 x69 x70 x71 x72 x73 x74 x75 x76 x77 x78 x79 x80 x81 x82 x83 x84 x85 x86 x87 x88 x89 x90 x91 x92 x93 x94 x95 x96 x97 x98 x99 x100 x101 x102 x103 x104 x105 x106 x107 x108 x109 x110 x111 x112 x113 x114 x115 x116 x117 x118 x119 x120 x121 x122 x123 x124 x125 x126 x127 x128 x129 x130 x131 x132 x133 x134 x135 x136 x137 x138 x139 x140 x141 x142 x143 x144 x145 x146 x147 x148 x149 x150 x151 x152 x153 x154 x155 x156 x157 x158 x159 x160 x161 x162 x163 x164 x165 x166 x167 x168 x169 x170 x171 x172 x173 x174 x175 x176 x177 x178 x179 x180 x181 x182 x183 x184 x185 x186 x187 x188 x189 x190 x191 x192 x193 x194 x195 x196 x197 x198 x199 x200 x201 x202 x203 x204 x205 x206 x207 x208 x209 x210 x211 x212 x213 x214 x215 x216 x217 x218 x219 x220 x221 x222 x223 x224 x225 x226 x227 x228 x229 x230 x231 x232 x233 : Value) :
    (sub [true, true, true, true, true, true, true, true] (Try.f16.body.getD .skip)).wp Try.prog (bodyPost Try.prog Try.f16 (BoolPost (FairR n L l) w)) ⟨#[x0, x1, x2, x3, x4, x5, x6, .slice (some ⟨g, 0, none⟩) n cg, .slice (some ⟨g8, 0, none⟩) n c2', x9, x10, x11, .slice (some ⟨g3, 0, none⟩) n n, .slice (some ⟨g4, 0, none⟩) n n, x14, x15, x16, .bool false, .bool false, x19, x20, x21, x22, x23, x24, x25, x26, x27, x28, x29, x30, x31, x32, x33, x34, x35, x36, x37, x38, x39, x40, x41, x42, x43, x44, x45, x46, x47, x48, x49, x50, x51, x52, x53, x54, x55, x56, x57, x58, x59, x60, x61, x62, x63, x64, x65, x66, x67, x68, x69, x70, x71, x72, x73, x74, x75, x76, x77, x78, x79, x80, x81, x82, x83, x84, x85, x86, x87, x88, x89, x90, x91, x92, x93, x94, x95, x96, x97, x98, x99, x100, x101, x102, x103, x104, x105, x106, x107, x108, x109, x110, x111, x112, x113, x114, x115, x116, x117, x118, x119, x120, x121, x122, x123, x124, x125, x126, x127, x128, x129, x130, x131, x132, x133, x134, x135, x136, x137, x138, x139, x140, x141, x142, x143, x144, x145, x146, x147, x148, x149, x150, x151, x152, x153, x154, x155, x156, x157, x158, x159, x160, x161, x162, x163, x164, x165, x166, x167, x168, x169, x170, x171, x172, x173, x174, x175, x176, x177, x178, x179, x180, x181, x182, x183, x184, x185, x186, x187, x188, x189, x190, x191, x192, x193, x194, x195, x196, x197, x198, x199, x200, x201, x202, x203, x204, x205, x206, x207, x208, x209, x210, x211, x212, x213, x214, x215, x216, x217, x218, x219, x220, x221, x222, x223, x224, x225, x226, x227, x228, x229, x230, x231, x232, x233], []⟩ w5 := by
  generalize hQ : bodyPost Try.prog Try.f16 (BoolPost (FairR n L l) w) = Q
  dsimp only [sub, Try.f16, Option.getD]
  subst hQ
  have H30 := Lib.hid (L3.start n L l)
  go_wp2_with fail
  go_loopw [17, 18, 19, 20] (fun vl vs vi _ wr => ∃ (i j : Nat) (bl bs : Bool), i ≤ n ∧ vi = .int .i64 i ∧ vl = .bool bl ∧ vs = .bool bs ∧ L3 n L l i bl bs ∧ wr = w5.drewN j) (fun _ _ vi _ _ => n - (intOf vi).toNat)
  case atStart => exact ⟨0, 0, false, false, Nat.zero_le _, rfl, rfl, rfl, H30.out, rfl⟩
  case round =>
    obtain ⟨i, j, bl, bs, hi, rfl, rfl, rfl, h3, hwj⟩ := hrel
    have H3 := Lib.hid h3
    have HWj := Lib.hid hwj
    clear h3 hwj
    by_cases hlt : i < n
    · have hlt' : (i : Int) < n := by omega
      have K3 := Lib.hid (show BBk wr g3 p by rw [HWj.out]; exact J3.out.drewN j)
      have K4 := Lib.hid (show BBk wr g4 q by rw [HWj.out]; exact J4.out.drewN j)
      have K8 := Lib.hid (show wr.ownsRow base8 3 1 (.slice (some ⟨g8, 0, none⟩) n c2') n (s.map (Value.int .i64)) by rw [HWj.out]; exact own_drewN J8.out j)
      have K7 := Lib.hid (show wr.ownsRow base7 3 1 (.slice (some ⟨g, 0, none⟩) n cg) n (L.map (Value.int .i64)) by rw [HWj.out]; exact own_drewN J7.out j)
      have hixc := fun W => ixb (g := g3) n n i hlt W
      have hixd := fun W => ixb (g := g4) n n i hlt W
      have hix8 := fun W => ixg (g := g8) n c2' i hlt W
      have hix7 := fun W => ixg (g := g) n cg i hlt W
      have cc := bb_at K3.out (HPv.out i hlt)
      have cd := bb_at K4.out (HQv.out i hlt)
      have c8 := K8.out.cellAt i (by omega)
      rw [List.getElem?_map, List.getElem?_eq_getElem (by rw [Hsl.out]; exact hlt), ← gd_get (by rw [Hsl.out]; exact hlt), Option.map_some, Hsv.out i hlt] at c8
      have c7 := K7.out.cellAt i (by omega)
      rw [List.getElem?_map, List.getElem?_eq_getElem (by rw [HLl.out]; exact hlt), ← gd_get (by rw [HLl.out]; exact hlt), Option.map_some] at c7
      have rv := lv_r l.length i (HLr.out i) hl5
      rw [List.take_length] at rv
      obtain ⟨wo, rfl⟩ : ∃ wo : World, wo = wr := ⟨_, rfl⟩
      go_upto_region 23 with (fail)
      go_cut [157] (fun vb wx => ∃ b : Bool, vb = .bool b ∧ (b = true ↔ badI L l i) ∧ wx = wo)
      case first =>
        by_cases hP : 0 < lentN l i
        · rw [decide_eq_true hP] at cc
          by_cases hQ : 0 < gotN l i
          · rw [decide_eq_true hQ] at cd
            go_wp2_with fail
            go_meet
            case rel => exact ⟨true, rfl, ⟨fun _ => by unfold badI; omega, fun _ => rfl⟩, rfl⟩
          · rw [decide_eq_false hQ] at cd
            rcases (by omega : gd L i ≤ 0 ∨ (¬ gd L i ≤ 0 ∧ lv L l i < 0) ∨ (¬ gd L i ≤ 0 ∧ ¬ lv L l i < 0)) with k1 | ⟨k1, k2⟩ | ⟨k1, k2⟩
            · go_wp2_with fail
              go_meet
              case rel => exact ⟨true, rfl, ⟨fun _ => by unfold badI; omega, fun _ => rfl⟩, rfl⟩
            · go_wp2_with fail
              go_meet
              case rel => exact ⟨true, rfl, ⟨fun _ => by unfold badI; omega, fun _ => rfl⟩, rfl⟩
            · go_wp2_with fail
              go_meet
              case rel => exact ⟨false, rfl, ⟨fun h => (by cases h), fun h => by unfold badI at h; omega⟩, rfl⟩
        · rw [decide_eq_false hP] at cc
          by_cases hQ : 0 < gotN l i
          · rw [decide_eq_true hQ] at cd
            rcases (by omega : 0 ≤ gd L i ∨ (¬ 0 ≤ gd L i ∧ 0 < lv L l i) ∨ (¬ 0 ≤ gd L i ∧ ¬ 0 < lv L l i)) with k1 | ⟨k1, k2⟩ | ⟨k1, k2⟩
            · go_wp2_with fail
              go_meet
              case rel => exact ⟨true, rfl, ⟨fun _ => by unfold badI; omega, fun _ => rfl⟩, rfl⟩
            · go_wp2_with fail
              go_meet
              case rel => exact ⟨true, rfl, ⟨fun _ => by unfold badI; omega, fun _ => rfl⟩, rfl⟩
            · go_wp2_with fail
              go_meet
              case rel => exact ⟨false, rfl, ⟨fun h => (by cases h), fun h => by unfold badI at h; omega⟩, rfl⟩
          · rw [decide_eq_false hQ] at cd
            go_wp2_with fail
            go_meet
            case rel => exact ⟨false, rfl, ⟨fun h => (by cases h), fun h => by unfold badI at h; omega⟩, rfl⟩
      case rest =>
        obtain ⟨b, rfl, hbad, hwc⟩ := hcut
        obtain rfl : wo = wc := hwc.symm
        have HBd := Lib.hid hbad
        clear hbad
        cases b with
        | true =>
          have HB6 := Lib.hid (show Below w.heap.size w wo by rw [HWj.out]; exact below_drewN bw3 _)
          go_wp2_with fail
          go_ret
          exact ⟨false, rfl, ⟨fun h => (by cases h), fun h => absurd (HBd.out.1 (by trivial)) (h.2.1 i hlt).1⟩, HB6.out⟩
        | false =>
          have HNb := Lib.hid (show ¬ badI L l i from fun h => by have := HBd.out.2 h; cases this)
          clear HBd
          go_upto_region 25 with (fail)
          go_cut [17] (fun vb wx => ∃ b : Bool, vb = .bool b ∧ b = (bl || decide (lv L l i < 0)) ∧ wx = wo)
          case first =>
            cases bl with
            | true =>
              go_wp2_with fail
              go_meet
              case rel => exact ⟨true, rfl, rfl, rfl⟩
            | false =>
              go_wp2_with fail
              go_meet
              case rel => exact ⟨_, rfl, by simp, rfl⟩
          case rest =>
          obtain ⟨b1, rfl, hb1, hwc⟩ := hcut
          obtain rfl : wo = wc := hwc.symm
          have HB1 := Lib.hid hb1
          clear hb1
          go_upto_region 26 with (fail)
          go_cut [18] (fun vb wx => ∃ b : Bool, vb = .bool b ∧ b = (bs || decide (0 < lv L l i)) ∧ wx = wo)
          case first =>
            cases bs with
            | true =>
              go_wp2_with fail
              go_meet
              case rel => exact ⟨true, rfl, rfl, rfl⟩
            | false =>
              go_wp2_with fail
              go_meet
              case rel => exact ⟨_, rfl, by simp, rfl⟩
          case rest =>
          obtain ⟨b2, rfl, hb2, hwc⟩ := hcut
          obtain rfl : wo = wc := hwc.symm
          have H4 := Lib.hid fun hk => (show L3 n L l (i + 1) b1 b2 by rw [HB1.out, hb2]; exact H3.out.next HNb.out hk)
          clear hb2 HB1
          go_wp2_with fail
          go_loopw [20] (fun vk wr => ∃ (k j2 : Nat), k ≤ n ∧ vk = .int .i64 k ∧ (∀ k', k' < k → ¬ badK L l i k') ∧ wr = wo.drewN j2) (fun vk _ => n - (intOf vk).toNat)
          case atStart => exact ⟨0, 0, Nat.zero_le _, rfl, fun k' hk' => by omega, rfl⟩
          case round =>
            obtain ⟨k, j2, hk, rfl, hno, hwk⟩ := hrel
            have HNo := Lib.hid hno
            have HWk := Lib.hid hwk
            clear hno hwk
            by_cases hkt : k < n
            · have hkt' : (k : Int) < n := by omega
              have cc' := bb_at (show BBk wr g3 p by rw [HWk.out]; exact K3.out.drewN j2) (HPv.out i hlt)
              have cd' := bb_at (show BBk wr g4 q by rw [HWk.out]; exact K4.out.drewN j2) (HQv.out i hlt)
              have M8 := Lib.hid (show wr.ownsRow base8 3 1 (.slice (some ⟨g8, 0, none⟩) n c2') n (s.map (Value.int .i64)) by rw [HWk.out]; exact own_drewN K8.out j2)
              have c8i := M8.out.cellAt i (by omega)
              rw [List.getElem?_map, List.getElem?_eq_getElem (by rw [Hsl.out]; exact hlt), ← gd_get (by rw [Hsl.out]; exact hlt), Option.map_some, Hsv.out i hlt] at c8i
              have c8k := M8.out.cellAt k (by omega)
              rw [List.getElem?_map, List.getElem?_eq_getElem (by rw [Hsl.out]; exact hkt), ← gd_get (by rw [Hsl.out]; exact hkt), Option.map_some, Hsv.out k hkt] at c8k
              have hix8k := fun W => ixg (g := g8) n c2' k hkt W
              have hw1 : IntKind.i64.wrap (lv L l i - 1) = lv L l i - 1 := IntWalk.i64_in _ (by omega)
              have hw2 : IntKind.i64.wrap (lv L l i + 1) = lv L l i + 1 := IntWalk.i64_in _ (by omega)
              have HST := Lib.hid fun (h : ¬ badK L l i k) => (show ∀ k', k' < k + 1 → ¬ badK L l i k' from fun k' hk' => by
                rcases (by omega : k' < k ∨ k' = k) with e | rfl
                · exact HNo.out k' e
                · exact h)
              have HBo := Lib.hid (show Below w.heap.size w wr by rw [HWk.out, HWj.out]; exact below_drewN (below_drewN bw3 _) _)
              clear cc cd c8 c7
              by_cases hP : 0 < lentN l i
              · have hQ : ¬ 0 < gotN l i := fun h => HNb.out (by unfold badI; omega)
                rw [decide_eq_true hP] at cc'
                rw [decide_eq_false hQ] at cd'
                rcases (by omega : ¬ (lv L l i + 1 < lv L l k) ∨ ((lv L l i + 1 < lv L l k) ∧ ¬ 0 < lv L l k) ∨ ((lv L l i + 1 < lv L l k) ∧ 0 < lv L l k)) with k1 | ⟨k1, k2⟩ | ⟨k1, k2⟩
                · have k1' : decide (lv L l i + 1 < lv L l k) = false := by simpa using k1
                  have HT := Lib.hid (HST.out (by unfold badK; omega))
                  go_wp2_with fail
                  go_quiet (fail)
                  go_wp2_with fail
                  exact ⟨⟨k + 1, _, by omega, by go_num, HT.out, by rw [HWk.out, World.drewN_drewN]⟩, by simp [intOf]; omega⟩
                · have k1' : decide (lv L l i + 1 < lv L l k) = true := by simpa using k1
                  have k2' : decide (0 < lv L l k) = false := by simpa using k2
                  have HT := Lib.hid (HST.out (by unfold badK; omega))
                  go_wp2_with fail
                  go_quiet (fail)
                  go_wp2_with fail
                  exact ⟨⟨k + 1, _, by omega, by go_num, HT.out, by rw [HWk.out, World.drewN_drewN]⟩, by simp [intOf]; omega⟩
                · have k1' : decide (lv L l i + 1 < lv L l k) = true := by simpa using k1
                  have k2' : decide (0 < lv L l k) = true := by simpa using k2
                  have HT := Lib.hid (show badK L l i k by unfold badK; omega)
                  go_wp2_with fail
                  go_quiet (fail)
                  go_wp2_with fail
                  go_ret
                  exact ⟨false, rfl, ⟨fun h => (by cases h), fun h => absurd HT.out ((h.2.1 i hlt).2 k hkt)⟩, below_drewN HBo.out _⟩
              · rw [decide_eq_false hP] at cc'
                by_cases hQ : 0 < gotN l i
                · rw [decide_eq_true hQ] at cd'
                  rcases (by omega : ¬ (lv L l k < lv L l i - 1) ∨ ((lv L l k < lv L l i - 1) ∧ ¬ lv L l k < 0) ∨ ((lv L l k < lv L l i - 1) ∧ lv L l k < 0)) with k1 | ⟨k1, k2⟩ | ⟨k1, k2⟩
                  · have k1' : decide (lv L l k < lv L l i - 1) = false := by simpa using k1
                    have HT := Lib.hid (HST.out (by unfold badK; omega))
                    go_wp2_with fail
                    go_quiet (fail)
                    go_wp2_with fail
                    exact ⟨⟨k + 1, _, by omega, by go_num, HT.out, by rw [HWk.out, World.drewN_drewN]⟩, by simp [intOf]; omega⟩
                  · have k1' : decide (lv L l k < lv L l i - 1) = true := by simpa using k1
                    have k2' : decide (lv L l k < 0) = false := by simpa using k2
                    have HT := Lib.hid (HST.out (by unfold badK; omega))
                    go_wp2_with fail
                    go_quiet (fail)
                    go_wp2_with fail
                    exact ⟨⟨k + 1, _, by omega, by go_num, HT.out, by rw [HWk.out, World.drewN_drewN]⟩, by simp [intOf]; omega⟩
                  · have k1' : decide (lv L l k < lv L l i - 1) = true := by simpa using k1
                    have k2' : decide (lv L l k < 0) = true := by simpa using k2
                    have HT := Lib.hid (show badK L l i k by unfold badK; omega)
                    go_wp2_with fail
                    go_quiet (fail)
                    go_wp2_with fail
                    go_ret
                    exact ⟨false, rfl, ⟨fun h => (by cases h), fun h => absurd HT.out ((h.2.1 i hlt).2 k hkt)⟩, below_drewN HBo.out _⟩
                · rw [decide_eq_false hQ] at cd'
                  have HT := Lib.hid (HST.out (by unfold badK; omega))
                  go_wp2_with fail
                  go_quiet (fail)
                  go_wp2_with fail
                  exact ⟨⟨k + 1, _, by omega, by go_num, HT.out, by rw [HWk.out, World.drewN_drewN]⟩, by simp [intOf]; omega⟩
            · have hkt' : ¬ (k : Int) < n := by omega
              have he : k = n := by omega
              subst he
              have HL4 := Lib.hid (H4.out (fun k' hk' => HNo.out k' hk'))
              go_wp2_with fail
              exact ⟨⟨i + 1, _, b1, b2, by omega, by go_num, rfl, rfl, HL4.out, by rw [HWk.out, HWj.out, World.drewN_drewN]⟩, by simp [intOf]; omega⟩
    · have hlt' : ¬ (i : Int) < n := by omega
      have he : i = n := by omega
      subst he
      have HE := Lib.hid (H3.out.end_ Hok.out)
      cases bl <;> cases bs
      all_goals
        go_wp2_with fail
        go_ret
        have HB6 := Lib.hid (show Below w.heap.size w wr by rw [HWj.out]; exact below_drewN bw3 _)
        first
          | exact ⟨true, rfl, HE.out, HB6.out⟩
          | exact ⟨false, rfl, HE.out, HB6.out⟩

end Go.Proofs.Ytnmmiiajcjcccaa

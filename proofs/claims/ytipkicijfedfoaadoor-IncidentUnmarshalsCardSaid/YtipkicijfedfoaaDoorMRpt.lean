import Derived.Test.YtipkicijfedfoaaDoorMRin
import Derived.Test.YtipkicijfedfoaaDoorMGL
import Derived.Lib.AppendStr
import Derived.Deep.RegionHeld
import Derived.Deep.RegionLaw
namespace Go.Own
open Go.RowKit
theorem wp_append_str {P : Program} (w : World) {o : Oper} {a : Act} {K : Act → World → Prop} {Q : Exit → Act → World → Prop} (s x : Operand) (t u : TypeId)
    (ho : o.op = .call { callee := .builtin .append, args := #[s, x], argTypes := #[t, u] })
    (base : Nat) (e : TypeId) (ht : P.underlying t = some (.slice e)) (hu : P.underlying u = some .string) (hi : (P.info? e).map (fun i => (i.zero, i.size, i.bytes)) = some (some (.int .u8 0), 1, 1))
    (v : Value) (n : Nat) (xs : List Value) (hs : a.eval s = v) (hown : w.ownsRow base e 1 v n xs) (str : ByteArray) (hx : a.eval x = .string str)
    (h63 : n + str.size ≤ maxLen) (hbytes : n + str.size ≤ 140737488355328) (hbase : base ≤ w.heap.size)
    (h : ∀ A' c' w', w'.ownsRow base e 1 (.slice A' (n + str.size) c') (n + str.size) (xs ++ Lib.strCells str) → w.grownBy w' v.ownBlock → K (a.put o.dst (.slice A' (n + str.size) c')) w') : o.wp P a w K Q := by
  obtain ⟨i, hi, hz, hsize, hby⟩ := info_parts hi
  obtain ⟨v', w', hrun, h2, h3, -⟩ := Lib.run_append_own_string (P := P) w base t u o.type e i ht hu hi hz hsize hby v n xs hown str h63 hbytes hbase
  unfold Oper.wp execOp
  simp only [ho, resolve, invoke, builtin, Sem.run_bind, Sem.run_pure, Result.andThen_ok, List.map_toArray, List.map_cons, List.map_nil, hs, hx, hrun]
  have hv : ∃ A' c', v' = .slice A' (n + str.size) c' := by
    have hl := h2.1
    rcases h2.2 with ⟨rfl, hx0⟩ | ⟨g, cap, cur, rfl, _⟩
    · have : n + str.size = 0 := by
        rw [hx0] at hl; simp at hl; omega
      rw [this]; exact ⟨_, _, rfl⟩
    · exact ⟨_, _, rfl⟩
  obtain ⟨A', c', rfl⟩ := hv
  exact h A' c' w' h2 h3
theorem wpList_append_str {P : Program} (w : World) {ops : Array Oper} {rest : List Oper} {o : Oper} {a : Act} {Q : Exit → Act → World → Prop} (hgd : o.guard = none) (s x : Operand) (t u : TypeId)
    (ho : o.op = .call { callee := .builtin .append, args := #[s, x], argTypes := #[t, u] })
    (base : Nat) (e : TypeId) (ht : P.underlying t = some (.slice e)) (hu : P.underlying u = some .string) (hi : (P.info? e).map (fun i => (i.zero, i.size, i.bytes)) = some (some (.int .u8 0), 1, 1))
    (v : Value) (n : Nat) (xs : List Value) (hs : a.eval s = v) (hown : w.ownsRow base e 1 v n xs) (str : ByteArray) (hx : a.eval x = .string str)
    (h63 : n + str.size ≤ maxLen) (hbytes : n + str.size ≤ 140737488355328) (hbase : base ≤ w.heap.size)
    (h : ∀ A' c' w', w'.ownsRow base e 1 (.slice A' (n + str.size) c') (n + str.size) (xs ++ Lib.strCells str) → w.grownBy w' v.ownBlock → wpList P ops Q rest (a.put o.dst (.slice A' (n + str.size) c')) w') : wpList P ops Q (o :: rest) a w :=
  wpList_plain hgd fun _ hK => wp_append_str w s x t u ho base e ht hu hi v n xs hs hown str hx h63 hbytes hbase fun A' c' w' h2 h3 => hK _ _ (h A' c' w' h2 h3)
theorem step_append_str {P : Program} (w : World) {ops : Array Oper} {o : Oper} {a : Act} {K : Act → World → Prop} {Q : Exit → Act → World → Prop} {E : Prop} (hgd : o.guard = none) (s x : Operand) (t u : TypeId)
    (ho : o.op = .call { callee := .builtin .append, args := #[s, x], argTypes := #[t, u] })
    (base : Nat) (e : TypeId) (ht : P.underlying t = some (.slice e)) (hu : P.underlying u = some .string) (hi : (P.info? e).map (fun i => (i.zero, i.size, i.bytes)) = some (some (.int .u8 0), 1, 1))
    (v : Value) (n : Nat) (xs : List Value) (hs : a.eval s = v) (hown : w.ownsRow base e 1 v n xs) (str : ByteArray) (hx : a.eval x = .string str)
    (h63 : n + str.size ≤ maxLen) (hbytes : n + str.size ≤ 140737488355328) (hbase : base ≤ w.heap.size)
    (h : ∀ A' c' w', w'.ownsRow base e 1 (.slice A' (n + str.size) c') (n + str.size) (xs ++ Lib.strCells str) → w.grownBy w' v.ownBlock → K (a.put o.dst (.slice A' (n + str.size) c')) w') :
    if Region.wanted o (yielded ops a.tmps) = true then Oper.wp P o a w K Q else E := by
  have hw : Region.wanted o (yielded ops a.tmps) = true := by simp [Region.wanted, hgd]
  rw [if_pos hw]
  exact wp_append_str w s x t u ho base e ht hu hi v n xs hs hown str hx h63 hbytes hbase h
end Go.Own
namespace Go.Proofs.YtipkicijfedfoaaDoor
set_option linter.unusedVariables false
open Go.RowKit Go.Own Go.Quo Go.Inc Go.Wire
set_option maxRecDepth 10000 in
set_option maxHeartbeats 2000000 in
theorem ints72 (B : Nat → Prop) (A : Option Addr) (c : Nat) (l : List Int) (w : World) (h : RI w B A l) (hl : l.length ≤ 100000) : Calls Tryd.prog 72 #[.slice A l.length c] w (RowPost l 3 w) := by
  have hp := h.plain (by omega)
  have HR := Lib.hid ((h.old (by omega)).more (B' := fun k => k < w.heap.size) (fun k hk => hk.2))
  clear h
  go_enter Tryd.func72, Tryd.ntmps72
  go_wp2_with fail
  go_loopw [3, 8] (fun va vi wr => ∃ (k : Nat) (A' : Option Addr) (c' : Nat), k ≤ l.length ∧ vi = .int .i64 k ∧ va = .slice A' k c' ∧ wr.ownsRow w.heap.size 3 1 (.slice A' k c') k ((l.take k).map (Value.int .i64)) ∧ Below w.heap.size w wr) (fun _ vi _ => l.length - (intOf vi).toNat)
  case atStart => exact ⟨0, none, 0, Nat.zero_le _, rfl, rfl, World.ownsRow_nil _ _ _ _, Below.refl _ _⟩
  case round =>
    obtain ⟨k, A', c', hk, rfl, rfl, hown, hbel⟩ := hrel
    have HO := Lib.hid hown
    have HB := Lib.hid hbel
    by_cases hlt : k < l.length
    · have hlt' : (k : Int) < l.length := by omega
      have hix := fun W => ix23 hp c k hlt W
      have hc := ri_cell (HR.out.below hbel (fun _ h => h)) hlt
      have hTk := Lib.hid (show l.take (k + 1) = l.take k ++ [gd l k] by rw [List.take_add_one, List.getElem?_eq_getElem hlt, gd_get hlt]; rfl)
      have hsz := hbel.size
      clear hown hbel
      generalize gd l k = v at *
      go_wp2_with (at_builtin; refine wpList_append_any _ rfl _ _ _ rfl w.heap.size 3 _ 1 8 Tryd.underlying22 info3 rfl (by omega) (.slice A' k c') k ((l.take k).map (Value.int .i64)) rfl (HO.out.alloc _) _ (some ⟨wr.heap.size, 0, none⟩) 1 1 [.int .i64 v] rfl (Reads.newS wr [.int .i64 v] 3 (0, 0) 1 1 rfl _ rfl) (by simp [Value.oneCell']) (by simp only [maxLen]; omega) (by omega) (by simp; omega) ?_; intro A2 c2 w2 hown hgr hat)
      refine ⟨⟨k + 1, A2, c2, by omega, by go_num, rfl, ?_, ?_⟩, by simp [intOf]; omega⟩
      · rw [hTk.out, List.map_append]; exact hown
      · exact Below.grown (HB.out.alloc hsz _) hgr (by simp; omega) (fun j hj => (HO.out.lt j hj).1)
    · have hlt' : ¬ (k : Int) < l.length := by omega
      have he : k = l.length := by omega
      subst he
      rw [List.take_length] at hown
      clear HO
      go_wp2_with fail
      go_ret
      exact ⟨A', c', rfl, hown, HB.out⟩
theorem encU_le {u : Nat} (h : u < 18446744073709551616) : (encU u).length ≤ 10 := encU_len10 h
theorem encI_le {n : Int} (h : In64 n) : (encI n).length ≤ 10 := encI_len h.1 h.2
set_option maxRecDepth 10000 in
set_option maxHeartbeats 2000000 in
theorem put0 (n : Int) (b : Bool) (d : ByteArray) (v : Value) (hv : v.oneCell' = true) (w : World) (hn : In64 n) : Calls Tryd.prog 88 #[.agg #[.int .i64 0, .int .i64 n, .bool b, .string d, v]] w (BysPost (encI n) w) := by
  have HI := Lib.hid fun W => rInt113 n W hn
  have HB := Lib.hid ((Below.refl w.heap.size w).alloc (Nat.le_refl _) (.cells #[.int .i64 0, .int .i64 n, .bool b, .string d, v] 69))
  obtain ⟨x0, x1, x2⟩ := (Blk.new w 69 #[.int .i64 0, .int .i64 n, .bool b, .string d, v]).facts
  clear hn
  generalize encI n = en at *
  go_enter Tryd.func88, Tryd.ntmps88
  go_wp2_with (go_at_call 113; ((with_reducible refine (HI.out _).mono ?_); rintro e w2 ⟨A, c, rfl, ho, hb⟩; have HO := Lib.hid ho; have HB2 := Lib.hid (HB.out.trans (hb.mono HB.out.size)); clear ho hb))
  go_ret
  exact ⟨A, c, rfl, World.ownsRow.mono HO.out (by simp), HB2.out⟩
set_option maxRecDepth 10000 in
set_option maxHeartbeats 2000000 in
theorem put1 (n : Int) (b : Bool) (d : ByteArray) (v : Value) (hv : v.oneCell' = true) (w : World) : Calls Tryd.prog 88 #[.agg #[.int .i64 1, .int .i64 n, .bool b, .string d, v]] w (BysPost (encB b) w) := by
  have HB := Lib.hid fun o => (((Below.refl w.heap.size w).alloc (Nat.le_refl _) (.cells #[.int .i64 1, .int .i64 n, .bool b, .string d, v] 69)).alloc (by simp) o)
  have HO := Lib.hid fun (x : Int) => World.ownsRow_lit (base := w.heap.size) (e := 5) (size := 1) (w.alloc (.cells #[.int .i64 1, .int .i64 n, .bool b, .string d, v] 69)) #[.int .u8 x] 1 (by simp) (by simp only [maxLen]; omega) rfl
  obtain ⟨x0, x1, x2⟩ := (Blk.new w 69 #[.int .i64 1, .int .i64 n, .bool b, .string d, v]).facts
  cases b with
  | true =>
    go_enter Tryd.func88, Tryd.ntmps88
    go_wp2_with fail
    go_ret
    exact ⟨_, _, rfl, by simpa [encB, bys] using HO.out 1, HB.out _⟩
  | false =>
    go_enter Tryd.func88, Tryd.ntmps88
    go_wp2_with fail
    go_ret
    exact ⟨_, _, rfl, by simpa [encB, bys] using HO.out 0, HB.out _⟩
set_option maxRecDepth 10000 in
set_option maxHeartbeats 4000000 in
theorem put3 (n : Int) (b : Bool) (d : ByteArray) (v : Value) (hv : v.oneCell' = true) (w : World) (hd : d.size ≤ 100000) : Calls Tryd.prog 88 #[.agg #[.int .i64 3, .int .i64 n, .bool b, .string d, v]] w (BysPost (encS d) w) := by
  have HI := Lib.hid fun W => rInt113 (d.size : Int) W ⟨by omega, by omega⟩
  have hel := encI_le (n := (d.size : Int)) ⟨by omega, by omega⟩
  have HW := Lib.hid ((Below.refl w.heap.size w).alloc (Nat.le_refl _) (.cells #[.int .i64 3, .int .i64 n, .bool b, .string d, v] 69))
  have HX := Lib.hid (Blk.new w 69 #[.int .i64 3, .int .i64 n, .bool b, .string d, v])
  have HE := Lib.hid (show encS d = encI (d.size : Int) ++ strL d from rfl)
  have HL := Lib.hid (strCells_strL d)
  have HLn := Lib.hid (strL_len d)
  obtain ⟨x0, x1, x2⟩ := HX.out.facts
  generalize encI (d.size : Int) = en at *
  generalize encS d = es at *
  go_enter Tryd.func88, Tryd.ntmps88
  go_upto_region 10 with (fail)
  have hsw : w.heap.size + 1 = (w.alloc (.cells #[.int .i64 3, .int .i64 n, .bool b, .string d, v] 69)).heap.size := by simp
  generalize w.alloc _ = W at *
  have HK := Lib.hid fun (W' : World) (hb : Below W.heap.size W W') => (show W'.cell? ⟨w.heap.size, 3, none⟩ = some (.string d) by rw [Blk.cell (HX.out.below hb HX.out.lt)]; rfl)
  have K0 := HK.out _ (Below.refl _ W).drew
  clear x0 x1 x2
  have hk0 := K0
  go_region_law (first
    | (refine step_append_str _ (by rfl) (.tmp 24) (.tmp 26) _ _ (by rfl) W.heap.size 5 Tryd.underlying40 Tryd.underlying9 info5 (.slice A en.length c) en.length (bys en) (by rfl) HO2.out d (by rfl) (by simp only [maxLen]; omega) (by omega) B2.size ?_
       intro A3 c3 w3 hown hgr
       have HO3 := Lib.hid hown
       have B3 := Lib.hid (B2.grown hgr B2.size (fun g hg => (HO2.out.lt g hg).1))
       have KB3 := HK.out _ B3.out)
    | (go_simp; ((with_reducible refine (HI.out _).mono ?_); rintro e w2 ⟨A, c, rfl, ho2, hb2⟩; have HO2 := Lib.hid ho2; have B2 := ((Below.refl W.heap.size W).drew).trans hb2; clear ho2 hb2; have KB2 := HK.out _ B2)))
  all_goals
    go_wp2_with fail
    go_ret
    have e1 : es.length = en.length + d.size := by rw [HE.out, List.length_append, HLn.out]
    refine ⟨A3, c3, by rw [e1]; rfl, ?_, HW.out.trans (B3.out.mono HW.out.size)⟩
    have := HO3.out
    rw [HL.out] at this
    rw [e1, HE.out]
    unfold bys at this ⊢
    rw [List.map_append]
    exact World.ownsRow.mono this (by omega)
theorem flat_le (l : List Int) (h : InR l) : (l.flatMap encI).length ≤ 10 * l.length := by
  induction l with
  | nil => simp
  | cons a r ih =>
    have h1 := encI_le (n := a) (h a (by simp))
    have h2 := ih (fun x hx => h x (by simp [hx]))
    simp only [List.flatMap_cons, List.length_append, List.length_cons]
    omega
theorem take_flat {l : List Int} {k : Nat} (hk : k < l.length) : (l.take (k + 1)).flatMap encI = (l.take k).flatMap encI ++ encI (gd l k) := by
  rw [List.take_succ_eq_append_getElem hk, List.flatMap_append, gd_get hk]; simp
theorem inR_gd {l : List Int} (h : InR l) {k : Nat} (hk : k < l.length) : In64 (gd l k) := by
  rw [gd_get hk]; exact h _ (List.getElem_mem hk)
set_option maxRecDepth 10000 in
set_option maxHeartbeats 4000000 in
theorem put4 (n : Int) (b : Bool) (d : ByteArray) (B : Nat → Prop) (A : Option Addr) (c : Nat) (l : List Int) (w : World) (h : RI w B A l) (hl : l.length ≤ 100000) (hr : InR l) :
    Calls Tryd.prog 88 #[.agg #[.int .i64 4, .int .i64 n, .bool b, .string d, .slice A l.length c]] w (BysPost (encIs l) w) := by
  have hp := h.plain (by omega)
  have HI := Lib.hid fun n W (hn : In64 n) => rInt113 n W hn
  have HW := Lib.hid ((Below.refl w.heap.size w).alloc (Nat.le_refl _) (.cells #[.int .i64 4, .int .i64 n, .bool b, .string d, .slice A l.length c] 69))
  have HX := Lib.hid (Blk.new w 69 #[.int .i64 4, .int .i64 n, .bool b, .string d, .slice A l.length c])
  have HR := Lib.hid (((h.old (by omega)).more (B' := fun k => k < w.heap.size) (fun k hk => hk.2)).alloc (.cells #[.int .i64 4, .int .i64 n, .bool b, .string d, .slice A l.length c] 69))
  have HRr := Lib.hid hr
  have hE := Lib.hid (show encIs l = encI (l.length : Int) ++ l.flatMap encI from rfl)
  have hI0 := Lib.hid (fun W => rInt113 (l.length : Int) W ⟨by omega, by omega⟩)
  have he0 := encI_le (n := (l.length : Int)) ⟨by omega, by omega⟩
  generalize encI (l.length : Int) = e0 at *
  obtain ⟨x0, x1, x2⟩ := HX.out.facts
  have HS := Lib.hid (show w.heap.size < (w.alloc (.cells #[.int .i64 4, .int .i64 n, .bool b, .string d, .slice A l.length c] 69)).heap.size by simp)
  clear h hr
  go_enter Tryd.func88, Tryd.ntmps88
  go_upto_region 12 with (fail)
  generalize w.alloc _ = W at *
  go_wp2_with (go_at_call 113; ((with_reducible refine (hI0.out _).mono ?_); rintro e w2 ⟨A2, c2, rfl, ho2, hb2⟩; have HO2 := Lib.hid (World.ownsRow.mono ho2 (Nat.le_of_lt HS.out)); have HX2 := Lib.hid (HX.out.below hb2 HX.out.lt); have HR2 := Lib.hid (HR.out.below hb2 (fun k hk => Nat.lt_trans hk HS.out)); have HW2 := Lib.hid (HW.out.trans (hb2.mono (Nat.le_of_lt HS.out))); clear ho2 hb2 x0 x1 x2))
  clear HX HR HW HS
  go_loopw [3, 4] (fun va vi wr => ∃ (k m : Nat) (A' : Option Addr) (c' : Nat), k ≤ l.length ∧ vi = .int .i64 k ∧ m = (e0 ++ (l.take k).flatMap encI).length ∧ va = .slice A' m c' ∧ wr.ownsRow w.heap.size 5 1 (.slice A' m c') m (bys (e0 ++ (l.take k).flatMap encI)) ∧ Blk wr w.heap.size 69 #[.int .i64 4, .int .i64 n, .bool b, .string d, .slice A l.length c] ∧ RI wr (fun k => k < w.heap.size) A l ∧ Below w.heap.size w wr) (fun _ vi _ => l.length - (intOf vi).toNat)
  case atStart => exact ⟨0, e0.length, A2, c2, Nat.zero_le _, rfl, by simp, rfl, by simpa using HO2.out, HX2.out, HR2.out, HW2.out⟩
  case round =>
    obtain ⟨k, m, A', c', hk, rfl, hm, rfl, hown, hx, hri, hbel⟩ := hrel
    have HO := Lib.hid hown
    have HX := Lib.hid hx
    have HB := Lib.hid hbel
    have HM := Lib.hid hm
    have HRi := Lib.hid hri
    have hmk : m ≤ 10 * l.length + 10 := by
      have := flat_le (l.take k) (fun x hx => HRr.out x (List.mem_of_mem_take hx))
      rw [hm, List.length_append]
      rw [List.length_take] at this
      omega
    obtain ⟨x0, x1, x2⟩ := hx.facts
    by_cases hlt : k < l.length
    · have hlt' : (k : Int) < l.length := by omega
      have hix := fun W => ix22 hp c k hlt W
      have hc := ri_cell hri hlt
      have HTk := Lib.hid (take_flat hlt)
      have hin := inR_gd HRr.out hlt
      have hel := encI_le hin
      have HIx := Lib.hid (fun W => rInt113 (gd l k) W hin)
      clear hown hx hri hbel hm hin
      generalize encI (gd l k) = ek at *
      generalize gd l k = v at *
      go_wp2_with (first | (go_at_call 113; ((with_reducible refine (HIx.out _).mono ?_); rintro e w3 ⟨A3, c3, rfl, ho3, hb3⟩; have HO3 := Lib.hid (own_below HO.out hb3 (fun g hg => (HO.out.lt g hg).2)); have HX3 := Lib.hid (HX.out.below hb3 HX.out.lt); have HRi3 := Lib.hid ((HRi.out.old (by omega)).below hb3 (fun k hk => hk.2)); have HB3 := Lib.hid (HB.out.trans (hb3.mono HB.out.size)); have HOk := Lib.hid ho3; have hs3 := HB3.out.size; have HSz := Lib.hid hb3.size; clear ho3 hb3 x0 x1 x2)) | (at_builtin; refine wpList_append_any _ rfl _ _ _ rfl w.heap.size 5 _ 1 1 Tryd.underlying40 info5 rfl (by omega) (.slice A' m c') m (bys (e0 ++ (l.take k).flatMap encI)) rfl HO3.out _ A3 ek.length c3 (bys ek) rfl (Reads.of_own HOk.out) (bys_one _) (by simp only [maxLen]; omega) (by omega) hs3 ?_; intro A4 c4 w4 hown4 hgr4 hat4))
      have hgb := own_ne_blk HO3.out HX3.out (by decide)
      refine ⟨⟨k + 1, m + ek.length, A4, c4, by omega, by go_num, by rw [HTk.out, HM.out]; simp; omega, rfl, ?_, HX3.out.grown hgr4 (fun e => hgb _ e.symm rfl), (HRi3.out.grown hgr4 (fun k hk e => by have := (HO3.out.lt k e.symm).1; omega)).more (fun k hk => hk.1), HB3.out.grown hgr4 hs3 (fun g hg => (HO3.out.lt g hg).1)⟩, by simp [intOf]; omega⟩
      rw [HTk.out]
      simpa [bys] using hown4
    · have hlt' : ¬ (k : Int) < l.length := by omega
      have he : k = l.length := by omega
      subst he
      rw [List.take_length, ← hE.out] at hown hm
      subst hm
      clear HO HM
      have HO := Lib.hid hown
      clear hown hx hri hbel
      go_wp2_with fail
      go_ret
      exact ⟨A', c', rfl, HO.out, HB.out⟩
end Go.Proofs.YtipkicijfedfoaaDoor

import Derived.Test.YtipkicijfedfoaaDoorMRpt
import Derived.Test.YtipkicijfedfoaaDoorMGB
import Derived.Deep.MidRow
namespace Go.Proofs.YtipkicijfedfoaaDoor
set_option linter.unusedVariables false
open Go.RowKit Go.Own Go.Quo Go.Inc Go.Wire
structure Th where
  k : Int
  n : Int
  b : Bool
  d : ByteArray
  A : Option Addr
  c : Nat
  l : List Int
def thL (t : Th) : List Value := [.int .i64 t.k, .int .i64 t.n, .bool t.b, .string t.d, .slice t.A t.l.length t.c]
def encT (t : Th) : List Int := if t.k = 0 then encI t.n else if t.k = 1 then encB t.b else if t.k = 3 then encS t.d else encIs t.l
def okT (w : World) (B : Nat → Prop) (t : Th) : Prop := (t.k = 0 ∧ In64 t.n) ∨ t.k = 1 ∨ (t.k = 3 ∧ t.d.size ≤ 1000) ∨ (t.k = 4 ∧ InR t.l ∧ t.l.length ≤ 1000 ∧ RI w B t.A t.l)
theorem okT.below {w w' : World} {B : Nat → Prop} {t : Th} {b : Nat} (h : okT w B t) (hb : Below b w w') (hB : ∀ k, B k → k < b) : okT w' B t := by
  rcases h with h | h | h | ⟨h1, h2, h3, h4⟩
  · exact .inl h
  · exact .inr (.inl h)
  · exact .inr (.inr (.inl h))
  · exact .inr (.inr (.inr ⟨h1, h2, h3, h4.below hb hB⟩))
theorem put_any (t : Th) (B : Nat → Prop) (w : World) (h : okT w B t) : Calls Tryd.prog 88 #[.agg (thL t).toArray] w (BysPost (encT t) w) := by
  obtain ⟨k, n, b, d, A, c, l⟩ := t
  unfold encT thL
  unfold okT at h
  simp only at h ⊢
  rcases h with ⟨rfl, h⟩ | rfl | ⟨rfl, h⟩ | ⟨rfl, h1, h2, h3⟩
  · exact put0 n b d _ rfl w h
  · exact put1 n b d _ rfl w
  · exact put3 n b d _ rfl w (by omega)
  · exact put4 n b d B A c l w h3 (by omega) h1
theorem encT_le {w : World} {B : Nat → Prop} {t : Th} (h : okT w B t) : (encT t).length ≤ 10010 := by
  obtain ⟨k, n, b, d, A, c, l⟩ := t
  unfold encT
  unfold okT at h
  simp only at h ⊢
  rcases h with ⟨rfl, h⟩ | rfl | ⟨rfl, h⟩ | ⟨rfl, h1, h2, h3⟩
  · have := encI_le h; simp; omega
  · simp [encB]
  · have h5 : (encI (d.size : Int)).length ≤ 10 := encI_le ⟨by omega, by omega⟩
    have e : encS d = encI (d.size : Int) ++ strL d := rfl
    simp [e, strL_len]; omega
  · have h5 : (encI (l.length : Int)).length ≤ 10 := encI_le ⟨by omega, by omega⟩
    have := flat_le l h1
    have e : encIs l = encI (l.length : Int) ++ l.flatMap encI := rfl
    rw [if_neg (by decide), if_neg (by decide), if_neg (by decide), e, List.length_append]
    omega
theorem flatT_le {w : World} {B : Nat → Prop} (l : List Th) (h : ∀ t ∈ l, okT w B t) : (l.flatMap encT).length ≤ 10010 * l.length := by
  induction l with
  | nil => simp
  | cons a r ih =>
    have h1 := encT_le (h a (by simp))
    have h2 := ih (fun x hx => h x (by simp [hx]))
    simp only [List.flatMap_cons, List.length_append, List.length_cons]
    omega
theorem info69 : (Tryd.prog.info? 69).map (fun i => (i.zero, i.size, i.bytes)) = some (some (.agg #[.int .i64 0, .int .i64 0, .bool false, .string ⟨#[]⟩, .slice none 0 0]), 5, 64) := by kernel_rfl
theorem size69 : (Tryd.prog.info? 69).map (·.size) = some 5 := by kernel_rfl
theorem i69x : ∃ i, Tryd.prog.info? 69 = some i ∧ i.size = 5 := by obtain ⟨i, h, _, h2, _⟩ := info_parts info69; exact ⟨i, h, h2⟩
theorem ix91 {A : Option Addr} {n : Nat} (hA : Plain A n) (c k : Nat) (hk : k < n) (w : World) : (Instr.indexAt 91 (.slice A n c) (.int .i64 (k : Int))).run Tryd.prog w = .ok (.pointer (some ⟨bk A, ofs A + k * 5, none⟩)) w := by
  obtain ⟨i, h1, h2⟩ := i69x
  exact run_indexAt2 (P := Tryd.prog) Tryd.underlying91 h1 h2 hA c k hk w
theorem th_range {w : World} {B : Nat → Prop} {A : Option Addr} {ts : List Th} (h : Reads w B 5 A ts.length (ts.flatMap thL)) {k : Nat} (hk : k < ts.length) : w.rangeAt (bk A) (ofs A + k * 5) (thL ts[k]) := by
  intro j v hv
  have hj : j < 5 := by have := (List.getElem?_eq_some_iff.1 hv).1; simpa [thL] using this
  have hlt : k * 5 + j < ts.length * 5 := by omega
  have := h.cell2 (k * 5 + j) hlt (by omega)
  rw [flat_get thL 5 (fun _ => rfl) ts k j _ (List.getElem?_eq_getElem hk) hj] at this
  rw [Nat.add_assoc, this]; exact hv
set_option maxRecDepth 10000 in
set_option maxHeartbeats 4000000 in
theorem all71 (B : Nat → Prop) (A : Option Addr) (c : Nat) (ts : List Th) (w : World) (h : Reads w B 5 A ts.length (ts.flatMap thL)) (hl : ts.length ≤ 20) (hok : ∀ t ∈ ts, okT w (fun k => k < w.heap.size) t) :
    Calls Tryd.prog 71 #[.slice A ts.length c] w (BysPost (ts.flatMap encT) w) := by
  have hp := h.plain (by omega)
  have HR := Lib.hid ((h.old (by omega)).more (B' := fun k => k < w.heap.size) (fun k hk => hk.2))
  have HK := Lib.hid hok
  clear h hok
  go_enter Tryd.func71, Tryd.ntmps71
  go_wp2_with fail
  have o0 : (w.alloc (.cells #[] 5)).ownsRow w.heap.size 5 1 (.slice (some ⟨w.heap.size, 0, none⟩) 0 0) 0 (bys []) := ⟨rfl, .inr ⟨w.heap.size, 0, #[], rfl, Nat.le_refl _, heap_alloc_new w _, Nat.le_refl _, by simp [maxLen], rfl, rfl⟩⟩
  have b0 : Below w.heap.size w (w.alloc (.cells #[] 5)) := (Below.refl _ _).alloc (Nat.le_refl _) _
  generalize w.alloc (.cells #[] 5) = W0 at *
  go_loopw [3, 4] (fun va vi wr => ∃ (k m : Nat) (A' : Option Addr) (c' : Nat), k ≤ ts.length ∧ vi = .int .i64 k ∧ m = ((ts.take k).flatMap encT).length ∧ va = .slice A' m c' ∧ wr.ownsRow w.heap.size 5 1 (.slice A' m c') m (bys ((ts.take k).flatMap encT)) ∧ Below w.heap.size w wr) (fun _ vi _ => ts.length - (intOf vi).toNat)
  case atStart => exact ⟨0, 0, _, 0, Nat.zero_le _, rfl, rfl, rfl, o0, b0⟩
  case round =>
    obtain ⟨k, m, A', c', hk, rfl, hm, rfl, hown, hbel⟩ := hrel
    have HO := Lib.hid hown
    have HB := Lib.hid hbel
    have HM := Lib.hid hm
    have hmk : m ≤ 10010 * 20 := by
      have := flatT_le (ts.take k) (fun x hx => HK.out x (List.mem_of_mem_take hx))
      rw [hm]
      rw [List.length_take] at this
      omega
    by_cases hlt : k < ts.length
    · have hlt' : (k : Int) < ts.length := by omega
      have hix := fun W => ix91 hp c k hlt W
      have HRg := Lib.hid (th_range (HR.out.below hbel (fun k hk => hk)) hlt)
      have HTk := Lib.hid (show (ts.take (k + 1)).flatMap encT = (ts.take k).flatMap encT ++ encT ts[k] by rw [List.take_succ_eq_append_getElem hlt, List.flatMap_append]; simp)
      have hokk := HK.out ts[k] (List.getElem_mem hlt)
      have hel := encT_le hokk
      have HP := Lib.hid (put_any ts[k] (fun k => k < w.heap.size) wr (hokk.below hbel (fun k hk => hk)))
      have hsz := hbel.size
      clear hown hbel hm hokk b0 o0
      generalize encT ts[k] = ek at *
      have hth : ∃ v0 v1 v2 v3 v4 : Value, thL ts[k] = [v0, v1, v2, v3, v4] := ⟨_, _, _, _, _, rfl⟩
      generalize thL ts[k] = tv at *
      obtain ⟨v0, v1, v2, v3, v4, rfl⟩ := hth
      have hr := HRg.out
      go_wp2_with (first | (refine wpList_load_mid rfl 69 _ rfl (bk A) (ofs A + k * 5) rfl [v0, v1, v2, v3, v4] _ hr Tryd.underlying69 rfl size69 ?_) | (go_at_call 88; ((with_reducible refine HP.out.mono ?_); rintro e w3 ⟨A3, c3, rfl, ho3, hb3⟩; have HO3 := Lib.hid (own_below HO.out hb3 (fun g hg => (HO.out.lt g hg).2)); have HB3 := Lib.hid (HB.out.trans (hb3.mono HB.out.size)); have HOk := Lib.hid ho3; have hs3 := HB3.out.size; clear ho3 hb3)) | (at_builtin; refine wpList_append_any _ rfl _ _ _ rfl w.heap.size 5 _ 1 1 Tryd.underlying40 info5 rfl (by omega) (.slice A' m c') m (bys ((ts.take k).flatMap encT)) rfl HO3.out _ A3 ek.length c3 (bys ek) rfl (Reads.of_own HOk.out) (bys_one _) (by simp only [maxLen]; omega) (by omega) hs3 ?_; intro A4 c4 w4 hown4 hgr4 hat4))
      refine ⟨⟨k + 1, m + ek.length, A4, c4, by omega, by go_num, by rw [HTk.out, HM.out]; simp, rfl, ?_, HB3.out.grown hgr4 hs3 (fun g hg => (HO3.out.lt g hg).1)⟩, by simp [intOf]; omega⟩
      rw [HTk.out]
      simpa [bys] using hown4
    · have hlt' : ¬ (k : Int) < ts.length := by omega
      have he : k = ts.length := by omega
      subst he
      rw [List.take_length] at hown hm
      clear HO HM
      have HO := Lib.hid hown
      have HM := Lib.hid hm
      clear hown hbel hm
      go_wp2_with fail
      go_ret
      exact ⟨A', c', by rw [← HM.out]; rfl, by rw [← HM.out]; exact HO.out, HB.out⟩
end Go.Proofs.YtipkicijfedfoaaDoor

namespace Go.Proofs.YtipkicijfedfoaaDoor
set_option linter.unusedVariables false
open Go.RowKit Go.Own Go.Quo Go.Inc Go.Wire
/-- all numbers fit, all lists are short -/
structure IcS (x : Ic) : Prop where
  id : In64 x.id
  urg : In64 x.urg
  code : x.code.size ≤ 1000
  nodes : InR x.nodes
  nodesL : x.nodes.length ≤ 1000
  dist : In64 x.dist
  since : In64 x.since
  calls : InR x.calls
  callsL : x.calls.length ≤ 1000
  units : InR x.units
  unitsL : x.units.length ≤ 1000
  merged : In64 x.merged
theorem IcS.w {x : Ic} (h : IcS x) : IcW x := ⟨h.id, h.urg, by have := h.code; omega, h.nodes, by have := h.nodesL; omega, h.dist, h.since, h.calls, by have := h.callsL; omega, h.units, by have := h.unitsL; omega, h.merged⟩
theorem reach_held {w w' : World} {g : Nat} {t : TypeId} {v0 v1 v2 v3 v4 v5 v6 v7 v8 v9 : Value} (h : Blk w' g t #[v0, v1, v2, v3, v4, v5, v6, v7, v8, v9]) : w'.cell? ⟨g, 0, none⟩ = some v0 ∧ w'.cell? ⟨g, 1, none⟩ = some v1 ∧ w'.cell? ⟨g, 2, none⟩ = some v2 ∧ w'.cell? ⟨g, 3, none⟩ = some v3 ∧ w'.cell? ⟨g, 4, none⟩ = some v4 ∧ w'.cell? ⟨g, 5, none⟩ = some v5 ∧ w'.cell? ⟨g, 6, none⟩ = some v6 ∧ w'.cell? ⟨g, 7, none⟩ = some v7 ∧ w'.cell? ⟨g, 8, none⟩ = some v8 ∧ w'.cell? ⟨g, 9, none⟩ = some v9 := by
  refine ⟨?_, ?_, ?_, ?_, ?_, ?_, ?_, ?_, ?_, ?_⟩ <;> (rw [Blk.cell h]; rfl)
def ths (x : Ic) (An A6 Au : Option Addr) (cn c6 cu : Nat) : List Th := [⟨0, x.id, false, ⟨#[]⟩, none, 0, []⟩, ⟨0, x.urg, false, ⟨#[]⟩, none, 0, []⟩, ⟨3, 0, false, x.code, none, 0, []⟩, ⟨4, 0, false, ⟨#[]⟩, An, cn, x.nodes⟩, ⟨0, x.dist, false, ⟨#[]⟩, none, 0, []⟩, ⟨0, x.since, false, ⟨#[]⟩, none, 0, []⟩, ⟨4, 0, false, ⟨#[]⟩, A6, c6, x.calls⟩, ⟨4, 0, false, ⟨#[]⟩, Au, cu, x.units⟩, ⟨0, x.merged, false, ⟨#[]⟩, none, 0, []⟩, ⟨1, 0, x.closed, ⟨#[]⟩, none, 0, []⟩]
theorem ths_enc (x : Ic) (An A6 Au : Option Addr) (cn c6 cu : Nat) : (ths x An A6 Au cn c6 cu).flatMap encT = encX x := by
  unfold ths encX
  simp only [List.flatMap_cons, List.flatMap_nil, encT]
  simp
theorem ths_ok {w : World} {B : Nat → Prop} {x : Ic} {An A6 Au : Option Addr} {cn c6 cu : Nat} (hx : IcS x) (hn : RI w B An x.nodes) (hc : RI w B A6 x.calls) (hu : RI w B Au x.units) : ∀ t ∈ ths x An A6 Au cn c6 cu, okT w B t := by
  intro t ht
  unfold ths at ht
  simp only [List.mem_cons, List.not_mem_nil, or_false] at ht
  unfold okT
  rcases ht with rfl | rfl | rfl | rfl | rfl | rfl | rfl | rfl | rfl | rfl
  · exact .inl ⟨rfl, hx.id⟩
  · exact .inl ⟨rfl, hx.urg⟩
  · exact .inr (.inr (.inl ⟨rfl, hx.code⟩))
  · exact .inr (.inr (.inr ⟨rfl, hx.nodes, hx.nodesL, hn⟩))
  · exact .inl ⟨rfl, hx.dist⟩
  · exact .inl ⟨rfl, hx.since⟩
  · exact .inr (.inr (.inr ⟨rfl, hx.calls, hx.callsL, hc⟩))
  · exact .inr (.inr (.inr ⟨rfl, hx.units, hx.unitsL, hu⟩))
  · exact .inl ⟨rfl, hx.merged⟩
  · exact .inr (.inl rfl)
set_option maxRecDepth 10000 in
set_option maxHeartbeats 8000000 in
theorem all40 (B : Nat → Prop) (id urg dist since merged : Int) (code : ByteArray) (nodes calls units : List Int) (An Ac Au : Option Addr) (cn cc cu : Nat) (closed : Bool) (w : World)
    (hn : RI w B An nodes) (hc : RI w B Ac calls) (hu : RI w B Au units) (hx : IcS ⟨id, urg, code, nodes, dist, since, calls, units, merged, closed⟩) :
    Calls Tryd.prog 40 #[.agg #[.int .i64 id, .int .i64 urg, .string code, .slice An nodes.length cn, .int .i64 dist, .int .i64 since, .slice Ac calls.length cc, .slice Au units.length cu, .int .i64 merged, .bool closed]] w (BysPost (encX ⟨id, urg, code, nodes, dist, since, calls, units, merged, closed⟩) w) := by
  have HW := Lib.hid ((Below.refl w.heap.size w).alloc (Nat.le_refl _) (.cells #[.int .i64 id, .int .i64 urg, .string code, .slice An nodes.length cn, .int .i64 dist, .int .i64 since, .slice Ac calls.length cc, .slice Au units.length cu, .int .i64 merged, .bool closed] 25))
  have HX := Lib.hid (Blk.new w 25 #[.int .i64 id, .int .i64 urg, .string code, .slice An nodes.length cn, .int .i64 dist, .int .i64 since, .slice Ac calls.length cc, .slice Au units.length cu, .int .i64 merged, .bool closed])
  have HN := Lib.hid (((hn.old (by omega)).more (B' := fun k => k < w.heap.size) (fun k hk => hk.2)).alloc (.cells #[.int .i64 id, .int .i64 urg, .string code, .slice An nodes.length cn, .int .i64 dist, .int .i64 since, .slice Ac calls.length cc, .slice Au units.length cu, .int .i64 merged, .bool closed] 25))
  have HC := Lib.hid (((hc.old (by omega)).more (B' := fun k => k < w.heap.size) (fun k hk => hk.2)).alloc (.cells #[.int .i64 id, .int .i64 urg, .string code, .slice An nodes.length cn, .int .i64 dist, .int .i64 since, .slice Ac calls.length cc, .slice Au units.length cu, .int .i64 merged, .bool closed] 25))
  have HU := Lib.hid (((hu.old (by omega)).more (B' := fun k => k < w.heap.size) (fun k hk => hk.2)).alloc (.cells #[.int .i64 id, .int .i64 urg, .string code, .slice An nodes.length cn, .int .i64 dist, .int .i64 since, .slice Ac calls.length cc, .slice Au units.length cu, .int .i64 merged, .bool closed] 25))
  have HXS := Lib.hid hx
  have hlc : calls.length ≤ 1000 := hx.callsL
  have HSz := Lib.hid (show w.heap.size < (w.alloc (.cells #[.int .i64 id, .int .i64 urg, .string code, .slice An nodes.length cn, .int .i64 dist, .int .i64 since, .slice Ac calls.length cc, .slice Au units.length cu, .int .i64 merged, .bool closed] 25)).heap.size by simp)
  clear hn hc hu hx
  go_enter Tryd.func40, Tryd.ntmps40
  go_upto_region 1 with (fail)
  generalize w.alloc _ = W at *
  have HK := Lib.hid fun (W' : World) (hb : Below W.heap.size W W') => reach_held (w := W) (HX.out.below hb HX.out.lt)
  have K0 := HK.out _ (Below.refl _ W).drew
  have H72 := Lib.hid (ints72 _ Ac cc calls W.drew (HC.out.drew) (by omega))
  have H71 := Lib.hid fun (W' : World) (A6 : Option Addr) (c6 : Nat) (hb : Below W.heap.size W W') (hr : RI W' (fun k => k < W'.heap.size) A6 calls) =>
    (show Calls Tryd.prog 71 #[.slice (some ⟨W'.heap.size, 0, none⟩) 10 10] (W'.alloc (.cells ((ths ⟨id, urg, code, nodes, dist, since, calls, units, merged, closed⟩ An A6 Au cn c6 cu).flatMap thL).toArray 69)) (BysPost (encX ⟨id, urg, code, nodes, dist, since, calls, units, merged, closed⟩) (W'.alloc (.cells ((ths ⟨id, urg, code, nodes, dist, since, calls, units, merged, closed⟩ An A6 Au cn c6 cu).flatMap thL).toArray 69))) from by
      have := all71 (fun k => k = W'.heap.size) (some ⟨W'.heap.size, 0, none⟩) 10 (ths ⟨id, urg, code, nodes, dist, since, calls, units, merged, closed⟩ An A6 Au cn c6 cu) (W'.alloc (.cells ((ths ⟨id, urg, code, nodes, dist, since, calls, units, merged, closed⟩ An A6 Au cn c6 cu).flatMap thL).toArray 69)) (Reads.newS W' _ 69 (0, 0) 10 5 rfl _ rfl) (show 10 ≤ 20 by decide) (ths_ok HXS.out (((HN.out.below hb (fun k hk => Nat.lt_trans hk HSz.out)).alloc _).more (fun k hk => by have := hb.size; have := HSz.out; simp; omega)) ((hr.alloc _).more (fun k hk => by simp; omega)) (((HU.out.below hb (fun k hk => Nat.lt_trans hk HSz.out)).alloc _).more (fun k hk => by have := hb.size; have := HSz.out; simp; omega)))
      rw [ths_enc] at this
      exact this)
  simp only [ths, thL, List.flatMap_cons, List.flatMap_nil, List.cons_append, List.nil_append, List.append_nil, List.length_nil] at H71
  go_region_held (fun w' => w'.cell? ⟨w.heap.size, 0, none⟩ = some (.int .i64 id) ∧ w'.cell? ⟨w.heap.size, 1, none⟩ = some (.int .i64 urg) ∧ w'.cell? ⟨w.heap.size, 2, none⟩ = some (.string code) ∧ w'.cell? ⟨w.heap.size, 3, none⟩ = some (.slice An nodes.length cn) ∧ w'.cell? ⟨w.heap.size, 4, none⟩ = some (.int .i64 dist) ∧ w'.cell? ⟨w.heap.size, 5, none⟩ = some (.int .i64 since) ∧ w'.cell? ⟨w.heap.size, 6, none⟩ = some (.slice Ac calls.length cc) ∧ w'.cell? ⟨w.heap.size, 7, none⟩ = some (.slice Au units.length cu) ∧ w'.cell? ⟨w.heap.size, 8, none⟩ = some (.int .i64 merged) ∧ w'.cell? ⟨w.heap.size, 9, none⟩ = some (.bool closed)) (first | assumption | exact K0 | exact HK.out _ (B2.alloc B2.size _)) (first
    | (go_at_call 72; ((with_reducible refine H72.out.mono ?_); rintro e w2 ⟨A6, c6, rfl, ho2, hb2⟩; have B2 := ((Below.refl W.heap.size W).drew).trans hb2; have HO2 := Lib.hid ho2; clear ho2 hb2; have KB2 := HK.out _ B2))
    | (go_at_call 71; ((with_reducible refine (H71.out w2 A6 c6 B2 ((ri_own HO2.out).old (by omega) |>.more (fun k hk => hk.2))).mono ?_); rintro e w3 ⟨A7, c7, rfl, ho3, hb3⟩; have B3 := (B2.alloc B2.size _).trans (hb3.mono (by have := B2.size; simp; omega)); have HO3 := Lib.hid ho3; have hs3 := B2.size; clear ho3 hb3; have KB3 := HK.out _ B3)))
  all_goals
    go_wp2_with fail
    go_ret
    have := HSz.out
    exact ⟨A7, c7, rfl, World.ownsRow.mono HO3.out (by simp; omega), HW.out.trans (B3.mono (by omega))⟩
end Go.Proofs.YtipkicijfedfoaaDoor

import Derived.Test.YtipkicijfedfoaaDoorRpt
import Derived.Test.YtipkicijfedfoaaDoorOpen
import Derived.Deep.MidRow
namespace Go.Proofs.YtipkicijfedfoaaDoor
set_option linter.unusedVariables false
open Go.RowKit Go.Own Go.Quo Go.Inc Go.Wire
structure Th where
  k : Int
  n : Int
  b : Bool
  d : ByteArray
  A : Option Addr
  c : Nat
  l : List Int
def thL (t : Th) : List Value := [.int .i64 t.k, .int .i64 t.n, .bool t.b, .string t.d, .slice t.A t.l.length t.c]
def encT (t : Th) : List Int := if t.k = 0 then encI t.n else if t.k = 1 then encB t.b else if t.k = 3 then encS t.d else encIs t.l
def okT (w : World) (B : Nat → Prop) (t : Th) : Prop := (t.k = 0 ∧ In64 t.n) ∨ t.k = 1 ∨ (t.k = 3 ∧ t.d.size ≤ 1000) ∨ (t.k = 4 ∧ InR t.l ∧ t.l.length ≤ 1000 ∧ RI w B t.A t.l)
theorem okT.below {w w' : World} {B : Nat → Prop} {t : Th} {b : Nat} (h : okT w B t) (hb : Below b w w') (hB : ∀ k, B k → k < b) : okT w' B t := by
  rcases h with h | h | h | ⟨h1, h2, h3, h4⟩
  · exact .inl h
  · exact .inr (.inl h)
  · exact .inr (.inr (.inl h))
  · exact .inr (.inr (.inr ⟨h1, h2, h3, h4.below hb hB⟩))
theorem put_any (t : Th) (B : Nat → Prop) (w : World) (h : okT w B t) : Calls Tryd.prog 88 #[.agg (thL t).toArray] w (BysPost (encT t) w) := by
  obtain ⟨k, n, b, d, A, c, l⟩ := t
  unfold encT thL
  unfold okT at h
  simp only at h ⊢
  rcases h with ⟨rfl, h⟩ | rfl | ⟨rfl, h⟩ | ⟨rfl, h1, h2, h3⟩
  · exact put0 n b d _ rfl w h
  · exact put1 n b d _ rfl w
  · exact put3 n b d _ rfl w (by omega)
  · exact put4 n b d B A c l w h3 (by omega) h1
theorem encT_le {w : World} {B : Nat → Prop} {t : Th} (h : okT w B t) : (encT t).length ≤ 10010 := by
  obtain ⟨k, n, b, d, A, c, l⟩ := t
  unfold encT
  unfold okT at h
  simp only at h ⊢
  rcases h with ⟨rfl, h⟩ | rfl | ⟨rfl, h⟩ | ⟨rfl, h1, h2, h3⟩
  · have := encI_le h; simp; omega
  · simp [encB]
  · have h5 : (encI (d.size : Int)).length ≤ 10 := encI_le ⟨by omega, by omega⟩
    have e : encS d = encI (d.size : Int) ++ strL d := rfl
    simp [e, strL_len]; omega
  · have h5 : (encI (l.length : Int)).length ≤ 10 := encI_le ⟨by omega, by omega⟩
    have := flat_le l h1
    have e : encIs l = encI (l.length : Int) ++ l.flatMap encI := rfl
    rw [if_neg (by decide), if_neg (by decide), if_neg (by decide), e, List.length_append]
    omega
theorem flatT_le {w : World} {B : Nat → Prop} (l : List Th) (h : ∀ t ∈ l, okT w B t) : (l.flatMap encT).length ≤ 10010 * l.length := by
  induction l with
  | nil => simp
  | cons a r ih =>
    have h1 := encT_le (h a (by simp))
    have h2 := ih (fun x hx => h x (by simp [hx]))
    simp only [List.flatMap_cons, List.length_append, List.length_cons]
    omega
theorem info69 : (Tryd.prog.info? 69).map (fun i => (i.zero, i.size, i.bytes)) = some (some (.agg #[.int .i64 0, .int .i64 0, .bool false, .string ⟨#[]⟩, .slice none 0 0]), 5, 64) := by kernel_rfl
theorem size69 : (Tryd.prog.info? 69).map (·.size) = some 5 := by kernel_rfl
theorem i69x : ∃ i, Tryd.prog.info? 69 = some i ∧ i.size = 5 := by obtain ⟨i, h, _, h2, _⟩ := info_parts info69; exact ⟨i, h, h2⟩
theorem ix91 {A : Option Addr} {n : Nat} (hA : Plain A n) (c k : Nat) (hk : k < n) (w : World) : (Instr.indexAt 91 (.slice A n c) (.int .i64 (k : Int))).run Tryd.prog w = .ok (.pointer (some ⟨bk A, ofs A + k * 5, none⟩)) w := by
  obtain ⟨i, h1, h2⟩ := i69x
  exact run_indexAt2 (P := Tryd.prog) Tryd.underlying91 h1 h2 hA c k hk w
theorem th_range {w : World} {B : Nat → Prop} {A : Option Addr} {ts : List Th} (h : Reads w B 5 A ts.length (ts.flatMap thL)) {k : Nat} (hk : k < ts.length) : w.rangeAt (bk A) (ofs A + k * 5) (thL ts[k]) := by
  intro j v hv
  have hj : j < 5 := by have := (List.getElem?_eq_some_iff.1 hv).1; simpa [thL] using this
  have hlt : k * 5 + j < ts.length * 5 := by omega
  have := h.cell2 (k * 5 + j) hlt (by omega)
  rw [flat_get thL 5 (fun _ => rfl) ts k j _ (List.getElem?_eq_getElem hk) hj] at this
  rw [Nat.add_assoc, this]; exact hv
set_option maxRecDepth 10000 in
set_option maxHeartbeats 4000000 in
theorem all71 (B : Nat → Prop) (A : Option Addr) (c : Nat) (ts : List Th) (w : World) (h : Reads w B 5 A ts.length (ts.flatMap thL)) (hl : ts.length ≤ 20) (hok : ∀ t ∈ ts, okT w (fun k => k < w.heap.size) t) :
    Calls Tryd.prog 71 #[.slice A ts.length c] w (BysPost (ts.flatMap encT) w) := by
  have hp := h.plain (by omega)
  have HR := Lib.hid ((h.old (by omega)).more (B' := fun k => k < w.heap.size) (fun k hk => hk.2))
  have HK := Lib.hid hok
  clear h hok
  go_enter Tryd.func71, Tryd.ntmps71
  go_wp2_with fail
  have o0 : (w.alloc (.cells #[] 5)).ownsRow w.heap.size 5 1 (.slice (some ⟨w.heap.size, 0, none⟩) 0 0) 0 (bys []) := ⟨rfl, .inr ⟨w.heap.size, 0, #[], rfl, Nat.le_refl _, heap_alloc_new w _, Nat.le_refl _, by simp [maxLen], rfl, rfl⟩⟩
  have b0 : Below w.heap.size w (w.alloc (.cells #[] 5)) := (Below.refl _ _).alloc (Nat.le_refl _) _
  generalize w.alloc (.cells #[] 5) = W0 at *
  go_loopw [3, 4] (fun va vi wr => ∃ (k m : Nat) (A' : Option Addr) (c' : Nat), k ≤ ts.length ∧ vi = .int .i64 k ∧ m = ((ts.take k).flatMap encT).length ∧ va = .slice A' m c' ∧ wr.ownsRow w.heap.size 5 1 (.slice A' m c') m (bys ((ts.take k).flatMap encT)) ∧ Below w.heap.size w wr) (fun _ vi _ => ts.length - (intOf vi).toNat)
  case atStart => exact ⟨0, 0, _, 0, Nat.zero_le _, rfl, rfl, rfl, o0, b0⟩
  case round =>
    obtain ⟨k, m, A', c', hk, rfl, hm, rfl, hown, hbel⟩ := hrel
    have HO := Lib.hid hown
    have HB := Lib.hid hbel
    have HM := Lib.hid hm
    have hmk : m ≤ 10010 * 20 := by
      have := flatT_le (ts.take k) (fun x hx => HK.out x (List.mem_of_mem_take hx))
      rw [hm]
      rw [List.length_take] at this
      omega
    by_cases hlt : k < ts.length
    · have hlt' : (k : Int) < ts.length := by omega
      have hix := fun W => ix91 hp c k hlt W
      have HRg := Lib.hid (th_range (HR.out.below hbel (fun k hk => hk)) hlt)
      have HTk := Lib.hid (show (ts.take (k + 1)).flatMap encT = (ts.take k).flatMap encT ++ encT ts[k] by rw [List.take_succ_eq_append_getElem hlt, List.flatMap_append]; simp)
      have hokk := HK.out ts[k] (List.getElem_mem hlt)
      have hel := encT_le hokk
      have HP := Lib.hid (put_any ts[k] (fun k => k < w.heap.size) wr (hokk.below hbel (fun k hk => hk)))
      have hsz := hbel.size
      clear hown hbel hm hokk b0 o0
      generalize encT ts[k] = ek at *
      have hth : ∃ v0 v1 v2 v3 v4 : Value, thL ts[k] = [v0, v1, v2, v3, v4] := ⟨_, _, _, _, _, rfl⟩
      generalize thL ts[k] = tv at *
      obtain ⟨v0, v1, v2, v3, v4, rfl⟩ := hth
      have hr := HRg.out
      go_wp2_with (first | (refine wpList_load_mid rfl 69 _ rfl (bk A) (ofs A + k * 5) rfl [v0, v1, v2, v3, v4] _ hr Tryd.underlying69 rfl size69 ?_) | (go_at_call 88; ((with_reducible refine HP.out.mono ?_); rintro e w3 ⟨A3, c3, rfl, ho3, hb3⟩; have HO3 := Lib.hid (own_below HO.out hb3 (fun g hg => (HO.out.lt g hg).2)); have HB3 := Lib.hid (HB.out.trans (hb3.mono HB.out.size)); have HOk := Lib.hid ho3; have hs3 := HB3.out.size; clear ho3 hb3)) | (at_builtin; refine wpList_append_any _ rfl _ _ _ rfl w.heap.size 5 _ 1 1 Tryd.underlying40 info5 rfl (by omega) (.slice A' m c') m (bys ((ts.take k).flatMap encT)) rfl HO3.out _ A3 ek.length c3 (bys ek) rfl (Reads.of_own HOk.out) (bys_one _) (by simp only [maxLen]; omega) (by omega) hs3 ?_; intro A4 c4 w4 hown4 hgr4 hat4))
      refine ⟨⟨k + 1, m + ek.length, A4, c4, by omega, by go_num, by rw [HTk.out, HM.out]; simp, rfl, ?_, HB3.out.grown hgr4 hs3 (fun g hg => (HO3.out.lt g hg).1)⟩, by simp [intOf]; omega⟩
      rw [HTk.out]
      simpa [bys] using hown4
    · have hlt' : ¬ (k : Int) < ts.length := by omega
      have he : k = ts.length := by omega
      subst he
      rw [List.take_length] at hown hm
      clear HO HM
      have HO := Lib.hid hown
      have HM := Lib.hid hm
      clear hown hbel hm
      go_wp2_with fail
      go_ret
      exact ⟨A', c', by rw [← HM.out]; rfl, by rw [← HM.out]; exact HO.out, HB.out⟩
end Go.Proofs.YtipkicijfedfoaaDoor

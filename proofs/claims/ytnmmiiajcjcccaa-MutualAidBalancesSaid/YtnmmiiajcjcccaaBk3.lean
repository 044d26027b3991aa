import Derived.Test.YtnmmiiajcjcccaaBk2
import Derived.Deep.RegionLaw
namespace Go.Own
open Go.RowKit
def cutG (A : Option Addr) (c k sz : Nat) : Option Addr := if c = k then A else A.map (·.add (k * sz))
section
variable {P : Program} {T : TypeId} {sz : Nat}
theorem run_lo (hu : P.underlying T = some (.slice (P.elem T))) (hi : ∃ i, P.info? (P.elem T) = some i ∧ i.size = sz) {A : Option Addr} {n c : Nat} (k : Nat) (hk : k ≤ n) (W : World) :
    (Instr.slice T (.slice A n c) (some (.int .i64 (k : Int))) none none).run P W = .ok (.slice (cutG A c k sz) (n - k) (c - k)) W := by
  obtain ⟨i, h1, h2⟩ := hi
  rw [run_slice_l W T A n c hu .i64 (k : Int) (by omega) (by omega)]
  simp [sizeOf, typeInfo, h1, h2, sliced, cutG]
theorem run_lo2 (hu : P.underlying T = some (.slice (P.elem T))) (hi : ∃ i, P.info? (P.elem T) = some i ∧ i.size = sz) {A : Option Addr} {n c : Nat} (k : Nat) (hk : k ≤ n) (W : World) :
    (Instr.sliceAt T (.slice A n c) (some (.int .i64 (k : Int))) none none).run P W = .ok (.slice (cutG A c k sz) (n - k) (c - k)) W := by
  rw [run_sliceAt_slice W T _ _ _ _ hu]
  exact run_lo hu hi k hk W
theorem run_hi (hu : P.underlying T = some (.slice (P.elem T))) (hi : ∃ i, P.info? (P.elem T) = some i ∧ i.size = sz) {A : Option Addr} {n c : Nat} (k : Nat) (hk : k ≤ c) (W : World) :
    (Instr.slice T (.slice A n c) none (some (.int .i64 (k : Int))) none).run P W = .ok (.slice A k c) W := by
  obtain ⟨i, h1, h2⟩ := hi
  rw [run_slice_h W T A n c hu .i64 (k : Int) (by omega) (by omega)]
  simp [sizeOf, typeInfo, h1, h2, sliced]
  intro _
  cases A <;> simp [Addr.add]
theorem run_hi2 (hu : P.underlying T = some (.slice (P.elem T))) (hi : ∃ i, P.info? (P.elem T) = some i ∧ i.size = sz) {A : Option Addr} {n c : Nat} (k : Nat) (hk : k ≤ c) (W : World) :
    (Instr.sliceAt T (.slice A n c) none (some (.int .i64 (k : Int))) none).run P W = .ok (.slice A k c) W := by
  rw [run_sliceAt_slice W T _ _ _ _ hu]
  exact run_hi hu hi k hk W
end
theorem Reads.take_ {w : World} {B : Nat → Prop} {size n : Nat} {A : Option Addr} {xs : List Value} (h : Reads w B size A n xs) {k : Nat} (hk : k ≤ n) : Reads w B size A k (xs.take (k * size)) := by
  refine ⟨by rw [List.length_take, h.1]; exact Nat.min_eq_left (Nat.mul_le_mul_right _ hk), fun h0 => ?_⟩
  obtain ⟨ad, e, hb, hc⟩ := h.2 (by omega)
  refine ⟨ad, e, hb, fun j u hu => hc j u ?_⟩
  rw [List.getElem?_take] at hu
  split at hu
  · exact hu
  · cases hu
theorem flat_take {α : Type} (f : α → List Value) (s : Nat) (hs : ∀ x, (f x).length = s) : ∀ (l : List α) (k : Nat), (l.flatMap f).take (k * s) = (l.take k).flatMap f
  | [], k => by simp
  | a :: r, 0 => by simp
  | a :: r, k + 1 => by
    rw [List.flatMap_cons, List.take_append, hs, show (k + 1) * s - s = k * s by rw [Nat.add_mul]; omega, flat_take f s hs r k, List.take_of_length_le (by rw [hs, Nat.add_mul]; omega)]
    rfl
theorem flat_drop {α : Type} (f : α → List Value) (s : Nat) (hs : ∀ x, (f x).length = s) : ∀ (l : List α) (k : Nat), (l.flatMap f).drop (k * s) = (l.drop k).flatMap f
  | [], k => by simp
  | a :: r, 0 => by simp
  | a :: r, k + 1 => by
    rw [List.flatMap_cons, List.drop_append, hs, show (k + 1) * s - s = k * s by rw [Nat.add_mul]; omega, flat_drop f s hs r k, List.drop_eq_nil_of_le (by rw [hs, Nat.add_mul]; omega)]
    rfl
theorem reads_take {α : Type} {w : World} {B : Nat → Prop} {A : Option Addr} {f : α → List Value} {s : Nat} (hs : ∀ x, (f x).length = s) {l : List α} (h : Reads w B s A l.length (l.flatMap f)) {k : Nat} (hk : k ≤ l.length) : Reads w B s A k ((l.take k).flatMap f) := by
  have := h.take_ hk
  rwa [flat_take f s hs] at this
theorem reads_drop {α : Type} {w : World} {B : Nat → Prop} {A : Option Addr} {f : α → List Value} {s : Nat} (hs : ∀ x, (f x).length = s) {l : List α} (h : Reads w B s A l.length (l.flatMap f)) {k c : Nat} (hk : k ≤ l.length) (hc : l.length ≤ c) : Reads w B s (cutG A c k s) (l.length - k) ((l.drop k).flatMap f) := by
  have := h.cut hk hc
  rwa [flat_drop f s hs] at this
end Go.Own
namespace Go.Proofs.Ytnmmiiajcjcccaa
set_option linter.unusedVariables false
open Go.RowKit Go.Own Go.Quo Go.Aid
theorem own_cap {w : World} {base : Nat} {e : TypeId} {size n c : Nat} {A : Option Addr} {xs : List Value} (h : w.ownsRow base e size (.slice A n c) n xs) : n ≤ c := by
  rcases h.2 with ⟨e1, e2⟩ | ⟨g, cap, cur, e1, _, _, h3, _⟩
  · omega
  · injection e1 with _ _ e3
    omega
theorem und37 : Try.prog.underlying 37 = some (.slice (Try.prog.elem 37)) := by kernel_rfl
theorem el37 : ∃ i, Try.prog.info? (Try.prog.elem 37) = some i ∧ i.size = 3 := by
  have : Try.prog.elem 37 = 42 := by kernel_rfl
  rw [this]; exact i42x
theorem lns_one (l : List Ln) : ∀ u ∈ l.flatMap lnL, u.oneCell' = true := by
  intro u hu
  obtain ⟨x, -, hx⟩ := List.mem_flatMap.1 hu
  simp [lnL] at hx
  rcases hx with rfl | rfl | rfl <;> rfl
def BackPost (B : Nat → Prop) (r : Nat) (A2 : Option Addr) (c2 : Nat) (w : World) (q : LSt × Int) (e : Ending) (w' : World) : Prop := e = .returned (.int .i64 q.2) ∧ ∃ A1 c1, q.1.now.length ≤ c1 ∧ Bok w' B r q.1 A1 A2 c1 c2 ∧ Fr (fun k => k = r) w w'
set_option maxRecDepth 10000 in
set_option maxHeartbeats 8000000 in
theorem back_any (B : Nat → Prop) (r : Nat) (s : LSt) (A1 A2 : Option Addr) (c1 c2 : Nat) (u : Int) (w : World) (h : Bok w B r s A1 A2 c1 c2) (hc1 : s.now.length ≤ c1) (hl : s.now.length ≤ 1000) (hsr : s.now.Pairwise (fun a b => a.u < b.u)) (hB : ∀ k, w.heap.size ≤ k → B k) (hBr : ¬ B r) :
    Calls Try.prog 36 #[.pointer (some ⟨r, 0, none⟩), .int .i64 u] w (BackPost B r A2 c2 w (backF s u)) := by
  have HP := Lib.hid (place_any B r s A1 A2 c1 c2 u w h hl)
  have HH := Lib.hid h
  have hrl := h.rb.lt
  obtain ⟨q0, q1, q2⟩ := h.rb.facts
  have HBk := Lib.hid (show backF s u = if hasU s.now u = true then (⟨s.n, delU s.now u, s.all⟩, 0) else (s, 4) from rfl)
  have HDel := Lib.hid fun k x (hx : s.now[k]? = some x) => delU_at hsr hx
  have HBr := Lib.hid hBr
  have HB := Lib.hid hB
  clear h hsr hB hBr
  go_enter Try.func36, Try.ntmps36
  go_wp2_with fail
  refine HP.out.mono ?_
  rintro e w' ⟨rfl, ⟨rfl, hno⟩ | ⟨k, x, rfl, hx, hxu⟩⟩
  · have HNo := Lib.hid (show backF s u = (s, 4) by rw [HBk.out, if_neg (by rw [hno]; decide)])
    clear hno
    go_wp2_with fail
    go_ret
    rw [HNo.out]
    exact ⟨rfl, A1, c1, hc1, HH.out, Fr.refl _ _⟩
  · have hkl := (List.getElem?_eq_some_iff.1 hx).1
    have hhas : hasU s.now u = true := hasU_iff.2 ⟨x, List.mem_of_getElem? hx, hxu⟩
    have HD := Lib.hid (show delU s.now u = s.now.take k ++ s.now.drop (k + 1) by rw [← hxu]; exact HDel.out k x hx)
    have HYes := Lib.hid (show backF s u = (⟨s.n, delU s.now u, s.all⟩, 0) by rw [HBk.out, if_pos hhas])
    clear hhas hx hxu HDel HBk HP
    obtain ⟨l, hl2⟩ : ∃ l, s.now = l := ⟨_, rfl⟩
    obtain ⟨n, hn⟩ : ∃ n, s.n = n := ⟨_, rfl⟩
    obtain ⟨al, hal⟩ : ∃ m, s.all = m := ⟨_, rfl⟩
    have HRb := Lib.hid (show Blk w' r 39 #[.int .i64 (n : Int), .slice A1 l.length c1, .slice A2 al.length c2] by rw [← hn, ← hl2, ← hal]; exact HH.out.rb)
    have HNow := Lib.hid (show Reads w' B 3 A1 l.length (l.flatMap lnL) by rw [← hl2]; exact HH.out.now)
    have HAll := Lib.hid (show Reads w' B 3 A2 al.length (al.flatMap lnL) by rw [← hal]; exact HH.out.all)
    rw [hn, hl2, hal] at q1
    rw [hl2] at HD hl hkl hc1
    have HFin := Lib.hid (show ∀ w2 A3 c3, (l.take k ++ l.drop (k + 1)).length ≤ c3 → Blk w2 r 39 #[.int .i64 (n : Int), .slice A3 (l.take k ++ l.drop (k + 1)).length c3, .slice A2 al.length c2] → Reads w2 B 3 A3 (l.take k ++ l.drop (k + 1)).length ((l.take k ++ l.drop (k + 1)).flatMap lnL) → Reads w2 B 3 A2 al.length (al.flatMap lnL) → Fr (fun k => k = r) w' w2 → BackPost B r A2 c2 w' (backF s u) (.returned (.int .i64 0)) w2 from fun w2 A3 c3 h0 h1 h2 h3 h4 => by
      rw [HYes.out]
      refine ⟨rfl, A3, c3, ?_, ⟨?_, ?_, ?_⟩, h4⟩
      · show (delU s.now u).length ≤ c3; rw [hl2, HD.out]; exact h0
      · show Blk w2 r 39 #[.int .i64 (s.n : Int), .slice A3 (delU s.now u).length c3, .slice A2 s.all.length c2]; rw [hl2, HD.out, hn, hal]; exact h1
      · show Reads w2 B 3 A3 (delU s.now u).length ((delU s.now u).flatMap lnL); rw [hl2, HD.out]; exact h2
      · show Reads w2 B 3 A2 s.all.length (s.all.flatMap lnL); rw [hal]; exact h3)
    clear HH hn hl2 hal HD HYes
    have hk1 : ¬ ((k : Int) < 0) := by omega
    have hwk : IntKind.i64.wrap ((k : Int) + 1) = ((k + 1 : Nat) : Int) := by rw [IntWalk.i64_in _ (by omega)]; omega
    have s1 := fun W => run_hi (P := Try.prog) und37 el37 (A := A1) (n := l.length) (c := c1) k (by omega) W
    have s2 := fun W => run_hi2 (P := Try.prog) und37 el37 (A := A1) (n := l.length) (c := c1) k (by omega) W
    have s3 := fun W => run_lo (P := Try.prog) und37 el37 (A := A1) (n := l.length) (c := c1) (k + 1) (by omega) W
    have s4 := fun W => run_lo2 (P := Try.prog) und37 el37 (A := A1) (n := l.length) (c := c1) (k + 1) (by omega) W
    have HT := Lib.hid (reads_take lnL_len HNow.out (show k ≤ l.length by omega))
    have HDr := Lib.hid (reads_drop lnL_len HNow.out (show k + 1 ≤ l.length by omega) hc1)
    have hrn : r ≠ w'.heap.size := by omega
    have hb1 : (0 : Int) ≤ (k : Int) + 1 := by omega
    have hb2 : (k : Int) + 1 ≤ (l.length : Int) := by omega
    have hbA := HNow.out.bk_lt
    have z0 : Blk (w'.alloc (.cells #[] 42)).drew r 39 #[.int .i64 (n : Int), .slice A1 l.length c1, .slice A2 al.length c2] := HRb.out.alloc _
    have o0 := World.ownsRow_lit (base := w'.heap.size) (e := 42) (size := 3) w' #[] 0 (Nat.le_refl _) (by simp [maxLen]) (by simp)
    have HO0 := Lib.hid (show (w'.alloc (.cells #[] 42)).drew.ownsRow w'.heap.size 42 3 (.slice (some ⟨w'.heap.size, 0, none⟩) 0 0) 0 [] from o0)
    have HT0 := Lib.hid (show Reads (w'.alloc (.cells #[] 42)).drew (fun j => B j ∧ j < w'.heap.size) 3 A1 k ((l.take k).flatMap lnL) from (HT.out.old (by omega)).alloc _)
    have HD0 := Lib.hid (show Reads (w'.alloc (.cells #[] 42)).drew (fun j => B j ∧ j < w'.heap.size) 3 (cutG A1 c1 (k + 1) 3) (l.length - (k + 1)) ((l.drop (k + 1)).flatMap lnL) from (HDr.out.old (by omega)).alloc _)
    have HA0 := Lib.hid (show Reads (w'.alloc (.cells #[] 42)).drew (fun j => B j ∧ j < w'.heap.size) 3 A2 al.length (al.flatMap lnL) from (HAll.out.old (by omega)).alloc _)
    have HZ0 := Lib.hid z0
    clear o0 z0 HT HDr hbA
    go_wp2_with fail
    go_region_law (first
      | (refine step_append_any _ (by rfl) (.tmp 12) (.tmp 18) _ (by rfl) w'.heap.size 42 _ 3 24 Try.underlying37 info42 rfl (by omega) (.slice (some ⟨w'.heap.size, 0, none⟩) 0 0) 0 [] (by rfl) HO0.out _ A1 k c1 ((l.take k).flatMap lnL) (by rfl) HT0.out (lns_one _) (by simp only [maxLen]; omega) (by omega) (by simp) ?_
         intro A4 c4 w4 hown4 hgr4 hat4
         rw [Nat.zero_add, List.nil_append] at *
         have z4 := HZ0.out.grown hgr4 (by simp [Value.ownBlock]; omega)
         obtain ⟨y0, y1, y2⟩ := z4.facts
         have hlt4 := HD0.out.grown hgr4 (fun j hj => by simp [Value.ownBlock]; omega)
         have hal4 := HA0.out.grown hgr4 (fun j hj => by simp [Value.ownBlock]; omega)
         have HOW := Lib.hid hown4
         have hsz4 := hgr4.size
         simp at hsz4)
      | (refine step_append_any _ (by rfl) (.tmp 19) (.tmp 26) _ (by rfl) w'.heap.size 42 _ 3 24 Try.underlying37 info42 rfl (by omega) (.slice A4 k c4) k ((l.take k).flatMap lnL) (by rfl) HOW.out _ (cutG A1 c1 (k + 1) 3) (l.length - (k + 1)) (c1 - (k + 1)) ((l.drop (k + 1)).flatMap lnL) (by rfl) hlt4 (lns_one _) (by simp only [maxLen]; omega) (by omega) (by omega) ?_
         intro A5 c5 w5 hown5 hgr5 hat5
         have hr5 : ∀ j, j < w'.heap.size → some j ≠ (Value.slice A4 k c4).ownBlock := fun j hj e => by have := (HOW.out.lt j e.symm).1; omega
         have z5 := z4.grown hgr5 (hr5 r hrl)
         obtain ⟨x0, x1, x2⟩ := z5.facts
         have hal5 := hal4.grown hgr5 (fun j hj => hr5 j hj.2)))
    all_goals go_wp2_with fail
    all_goals
      go_ret
      have e5 : (l.take k ++ l.drop (k + 1)).length = k + (l.length - (k + 1)) := by rw [List.length_append, List.length_take, List.length_drop]; omega
      have hc5 : k + (l.length - (k + 1)) ≤ c5 := own_cap hown5
      have hge5 : ∀ j, (Value.slice A5 (k + (l.length - (k + 1))) c5).ownBlock = some j → w'.heap.size ≤ j := fun j hj => (hown5.lt j hj).1
      refine HFin.out _ A5 c5 (by rw [e5]; exact hc5) ?_ ?_ ?_ ?_
      · rw [e5]
        simpa using z5.set_ 1 (.slice A5 (k + (l.length - (k + 1))) c5)
      · have := ((Reads.of_own hown5).more (B' := fun j => w'.heap.size ≤ j) hge5).setCell (p := ⟨r, 1, none⟩) (by simp; omega) (.slice A5 (k + (l.length - (k + 1))) c5)
        rw [e5, List.flatMap_append]
        exact this.more HB.out
      · exact (hal5.more (fun j hj => hj.1)).setCell (p := ⟨r, 1, none⟩) HBr.out _
      · exact (Fr.grown (Fr.grown (((Fr.refl (fun k => k = r) w').alloc (.cells #[] 42)).drew) hgr4 (fun j hj => by simp [Value.ownBlock] at hj; omega)) hgr5 (fun j hj => .inr (HOW.out.lt j hj).1)).setCell (p := ⟨r, 1, none⟩) (.inl rfl) _
end Go.Proofs.Ytnmmiiajcjcccaa

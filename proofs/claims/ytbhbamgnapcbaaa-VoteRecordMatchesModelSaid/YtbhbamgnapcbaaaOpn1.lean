import Derived.Test.YtbhbamgnapcbaaaRec2
import Derived.Test.YtbhbamgnapcbaaaAli2
namespace Go.Wire
theorem encJ_len : ∀ (l : List (Int × List Int)) (prev : Int), (∀ x ∈ l, x.2.length ≤ 8192) → (encJ prev l).length ≤ l.length * 8211
  | [], prev, _ => by simp [encJ]
  | (k, b) :: r, prev, h => by
    have h1 := encJ_len r (chF prev k b) (fun x hx => h x (List.mem_cons_of_mem _ hx))
    have h2 : b.length ≤ 8192 := h (k, b) (List.mem_cons_self ..)
    have h3 := encI_len (n := (b.length : Int)) (by omega) (by omega)
    rw [encJ, List.length_append, encR, List.length_append, List.length_append, List.length_append, List.length_cons]
    have h4 : (le8 (chF prev k b)).length = 8 := by simp [le8]
    simp only [List.length_cons, List.length_nil]
    omega
end Go.Wire
namespace Go.Proofs.Ytbhbamgnapcbaaa
set_option linter.unusedVariables false
open Go.RowKit Go.Own Go.Quo Go.Wire
theorem info33' : (Try.prog.info? 33).map (fun i => (i.zero, i.size, i.bytes)) = some (some (.agg #[.int .u8 0, .slice none 0 0]), 2, 32) := by kernel_rfl
def sumB (l : List Rc) : Nat := (l.map (fun r => r.body.length)).sum
def smallB (l : List Rc) (most : Int) : Bool := decide ((l.length : Int) ≤ most) && decide ((sumB l : Int) ≤ 4000)
theorem sumB_take {l : List Rc} {k : Nat} {x : Rc} (hx : l[k]? = some x) : sumB (l.take (k + 1)) = sumB (l.take k) + x.body.length := by
  unfold sumB
  rw [List.take_add_one, hx]
  simp
theorem sumB_le {l : List Rc} (h : ∀ x ∈ l, x.body.length ≤ 140737488351232) : sumB l ≤ l.length * 140737488351232 := by
  unfold sumB
  induction l with
  | nil => simp
  | cons a r ih =>
    have h1 := h a (List.mem_cons_self ..)
    have h2 := ih (fun x hx => h x (List.mem_cons_of_mem _ hx))
    simp only [List.map_cons, List.sum_cons, List.length_cons]
    omega
theorem sumB_mem {l : List Rc} {x : Rc} (h : x ∈ l) : x.body.length ≤ sumB l := by
  unfold sumB
  induction l with
  | nil => simp at h
  | cons a r ih =>
    simp only [List.map_cons, List.sum_cons]
    rcases List.mem_cons.1 h with e | e
    · subst e; omega
    · have := ih e; omega
set_option maxRecDepth 10000 in
set_option maxHeartbeats 1000000 in
theorem small_any (w : World) (A : Option Addr) (c : Nat) (l : List Rc) (h : Reads w (· < w.heap.size) 2 A l.length (l.flatMap rcL)) (hl : l.length ≤ 140737488351232) (hb : ∀ x ∈ l, x.body.length ≤ 140737488351232) :
    Calls Try.prog 9 #[.slice A l.length c, .int .i64 30] w fun e w' => e = .returned (.bool (smallB l 30)) ∧ Below w.heap.size w w' := by
  have HS := Lib.hid (show smallB l 30 = (decide ((l.length : Int) ≤ 30) && decide ((sumB (l.take l.length) : Int) ≤ 4000)) by rw [List.take_length]; rfl)
  generalize smallB l 30 = q at *
  have HT := Lib.hid fun (k : Nat) (hk : k ≤ l.length) => show sumB (l.take k) ≤ k * 140737488351232 by
    have := sumB_le (l := l.take k) (fun x hx => hb x (List.mem_of_mem_take hx))
    rw [List.length_take, Nat.min_eq_left hk] at this
    exact this
  have HB := Lib.hid hb
  obtain ⟨i, hi, hz, hsz, hby⟩ := info_parts info33'
  have hPl := h.plain (by omega)
  clear hb
  go_enter Try.func9, Try.ntmps9
  go_wp2_with fail
  go_loopw [5, 10] (fun vs vi wr => ∃ (k : Nat) (s : Int), k ≤ l.length ∧ vi = .int .i64 k ∧ vs = .int .i64 s ∧ (l.length ≤ 30 → s = sumB (l.take k)) ∧ Below w.heap.size w wr) (fun _ vi _ => l.length - (intOf vi).toNat)
  case atStart => exact ⟨0, 0, Nat.zero_le _, rfl, rfl, fun _ => rfl, Below.refl _ _⟩
  case round =>
    obtain ⟨k, s, hk, rfl, rfl, hs, hbel⟩ := hrel
    have HSS := Lib.hid hs
    clear hs
    have hsz' := hbel.size
    by_cases hlt : k < l.length
    · have hlt' : (k : Int) < l.length := by omega
      obtain ⟨x, hgx⟩ : ∃ x, l[k]? = some x := ⟨_, List.getElem?_eq_getElem hlt⟩
      have hRr := h.below hbel (fun _ h => h)
      have hix := fun W => run_indexAt2 (P := Try.prog) Try.underlying22 hi hsz hPl c k hlt W
      obtain ⟨c0, c1⟩ := rc_cells hRr hgx
      have hxl := HB.out x (List.mem_of_getElem? hgx)
      have HX := Lib.hid (sumB_take hgx)
      clear hgx hRr
      go_wp2
      refine ⟨⟨k + 1, _, by omega, by go_num, rfl, fun h30 => ?_, hbel.alloc hsz' _⟩, by simp [intOf]; omega⟩
      have e1 := HSS.out h30
      have e2 := HT.out k hk
      rw [HX.out, e1]
      have e3 : (sumB (l.take k) : Int) + x.body.length < 9223372036854775808 := by omega
      have e4 : (0 : Int) ≤ (sumB (l.take k) : Int) + x.body.length := by omega
      first | (rw [wrap64_in (by omega) (by omega)]; simp) | (simp only [wrap64]; omega)
    · have hk' : ¬ (k : Int) < l.length := by omega
      have he : k = l.length := by omega
      by_cases h1 : (l.length : Int) ≤ 30
      · have HQ := Lib.hid (show q = decide (s ≤ 4000) by rw [HS.out, HSS.out (by omega), he]; simp [h1])
        go_wp2
        go_ret
        exact ⟨by rw [HQ.out]; rfl, hbel⟩
      · have HQ := Lib.hid (show q = false by rw [HS.out]; simp; omega)
        go_wp2
        go_ret
        exact ⟨by rw [HQ.out]; rfl, hbel⟩
set_option maxHeartbeats 400000 in
theorem term_b (w : World) (j v : Nat) (term voted : Int) (h : Blk w v 91 #[.pointer (some ⟨j, 0, none⟩), .int .i64 term, .int .i64 voted]) : Calls Try.prog 15 #[.pointer (some ⟨v, 0, none⟩)] w fun e w' => e = .returned (.int .i64 term) ∧ w = w' := by
  obtain ⟨q0, q1, q2⟩ := h.facts
  go_enter Try.func15, Try.ntmps15
  go_wp2
  go_ret
  exact ⟨rfl, rfl⟩
set_option maxHeartbeats 400000 in
theorem voted_b (w : World) (j v : Nat) (term voted : Int) (h : Blk w v 91 #[.pointer (some ⟨j, 0, none⟩), .int .i64 term, .int .i64 voted]) : Calls Try.prog 16 #[.pointer (some ⟨v, 0, none⟩)] w fun e w' => e = .returned (.int .i64 voted) ∧ w = w' := by
  obtain ⟨q0, q1, q2⟩ := h.facts
  go_enter Try.func16, Try.ntmps16
  go_wp2
  go_ret
  exact ⟨rfl, rfl⟩
end Go.Proofs.Ytbhbamgnapcbaaa

import Derived.Test.YtgjkahndclijgaaSim4
import Derived.Test.YtgjkahndclijgaaBase2
namespace Go.Proofs.Ytgjkahndclijgaa
open Go.RowKit Go.Own

/-- A packet in transit as the reference keeps it. -/
structure It where
  id : Int
  frm : Int
  to : Int
  A : Option Addr
  n : Nat
  c : Nat
  body : List Int
def itc (x : It) : List Value := [.int .i64 x.id, .int .i64 x.frm, .int .i64 x.to, .slice x.A x.n x.c]
def itcs (l : List It) : List Value := l.flatMap itc
theorem itcs_length (l : List It) : (itcs l).length = l.length * 4 := by
  induction l with
  | nil => rfl
  | cons a r ih => simp [itcs, itc] at ih ⊢; omega
theorem itcs_append (l r : List It) : itcs (l ++ r) = itcs l ++ itcs r := by simp [itcs]
theorem itcs_get (l : List It) (k j : Nat) (x : It) (hx : l[k]? = some x) (hj : j < 4) : (itcs l)[k * 4 + j]? = (itc x)[j]? := by
  induction l generalizing k with
  | nil => simp at hx
  | cons a r ih =>
    have e : itcs (a :: r) = itc a ++ itcs r := rfl
    rw [e]
    cases k with
    | zero =>
      simp at hx
      subst hx
      rw [Nat.zero_mul, Nat.zero_add, List.getElem?_append_left (by simp [itc]; omega)]
    | succ k =>
      rw [List.getElem?_append_right (by simp [itc]; omega)]
      have : (k + 1) * 4 + j - (itc a).length = k * 4 + j := by simp [itc]; omega
      rw [this]
      exact ih k (by simpa using hx)
theorem itcs_one (l : List It) : ∀ v ∈ itcs l, v.oneCell' = true := by
  intro v hv
  obtain ⟨x, _, hx⟩ := List.mem_flatMap.1 hv
  simp only [itc, List.mem_cons, List.not_mem_nil, or_false] at hx
  rcases hx with rfl | rfl | rfl | rfl <;> rfl
structure RefS where
  n : Nat
  ga : Option Addr
  gc : Nat
  groups : List Int
  ia : Option Addr
  ic : Nat
  items : List It
  next : Int
  sent : Int
  came : Int
  lost : Int
  dbl : Int
abbrev rv (R : RefS) : Value := .agg #[.int .i64 R.n, .slice R.ga R.n R.gc, .slice R.ia R.items.length R.ic, .int .i64 R.next, .int .i64 R.sent, .int .i64 R.came, .int .i64 R.lost, .int .i64 R.dbl]
structure Ref (w : World) (B : Nat → Prop) (R : RefS) : Prop where
  grp : Reads w B 1 R.ga R.n (R.groups.map (Value.int .i64))
  its : Reads w B 4 R.ia R.items.length (itcs R.items)
  bod : ∀ x ∈ R.items, Reads w B 1 x.A x.n (bytesV x.body)
theorem Ref.fr {w w' : World} {B S : Nat → Prop} {R : RefS} (h : Ref w B R) (hf : Fr S w w') (hS : ∀ k, B k → ¬ S k) : Ref w' B R := ⟨h.grp.fr hf hS, h.its.fr hf hS, fun x hx => (h.bod x hx).fr hf hS⟩
theorem Ref.below {w w' : World} {B : Nat → Prop} {R : RefS} (h : Ref w B R) (hb : Below w.heap.size w w') : Ref w' B R := h.fr (S := fun _ => False) (Fr.of_below hb) (by simp)
theorem Ref.more {w : World} {B B' : Nat → Prop} {R : RefS} (h : Ref w B R) (hB : ∀ k, B k → B' k) : Ref w B' R := ⟨h.grp.more hB, h.its.more hB, fun x hx => (h.bod x hx).more hB⟩
theorem zero40 (w : World) : (zeroValue 40).run Try.prog w = .ok (.agg #[.int .i64 0, .slice none 0 0, .slice none 0 0, .int .i64 0, .int .i64 0, .int .i64 0, .int .i64 0, .int .i64 0]) w := by kernel_rfl

set_option maxRecDepth 10000 in
set_option maxHeartbeats 400000 in
theorem rnew_bad (n : Int) (w : World) (h : n < 1 ∨ 512 < n) :
    Calls Try.prog 30 #[.int .i64 n] w fun e w' => e = .returned (.tuple #[.agg #[.int .i64 0, .slice none 0 0, .slice none 0 0, .int .i64 0, .int .i64 0, .int .i64 0, .int .i64 0, .int .i64 0], .int .i64 1]) ∧ Below w.heap.size w w' := by
  rcases h with h | h
  · go_enter Try.func30, Try.ntmps30
    go_wp2
    refine bodyPost_ret (v := .tuple #[.agg #[.int .i64 0, .slice none 0 0, .slice none 0 0, .int .i64 0, .int .i64 0, .int .i64 0, .int .i64 0, .int .i64 0], .int .i64 1]) (by simp [results, Try.results30, go_sem]) rfl ⟨rfl, ?_⟩
    exact (Below.refl _ _).alloc (Nat.le_refl _) _
  · have : ¬ n < 1 := by omega
    go_enter Try.func30, Try.ntmps30
    go_wp2
    refine bodyPost_ret (v := .tuple #[.agg #[.int .i64 0, .slice none 0 0, .slice none 0 0, .int .i64 0, .int .i64 0, .int .i64 0, .int .i64 0, .int .i64 0], .int .i64 1]) (by simp [results, Try.results30, go_sem]) rfl ⟨rfl, ?_⟩
    exact (Below.refl _ _).alloc (Nat.le_refl _) _
def ref0 (w : World) (n : Nat) : RefS := ⟨n, some ⟨w.heap.size + 1, 0, none⟩, n, List.replicate n 0, none, 0, [], 0, 0, 0, 0, 0⟩
set_option maxRecDepth 10000 in
set_option maxHeartbeats 400000 in
theorem rnew_good (n : Nat) (w : World) (h1 : 1 ≤ n) (h2 : n ≤ 512) :
    Calls Try.prog 30 #[.int .i64 n] w fun e w' => e = .returned (.tuple #[rv (ref0 w n), .int .i64 0]) ∧ Ref w' (w.heap.size ≤ ·) (ref0 w n) ∧ Below w.heap.size w w' := by
  have hmk := run_make1 (P := Try.prog) 37 3 (.int .i64 0) 8 Try.underlying37 info3 rfl n (by omega) (by omega)
  go_enter Try.func30, Try.ntmps30
  go_wp2
  refine bodyPost_ret (v := .tuple #[rv (ref0 w n), .int .i64 0]) (by simp [results, Try.results30, go_sem, ref0]) rfl ⟨rfl, ?_, ?_⟩
  · refine ⟨?_, Reads.none_, by simp [ref0]⟩
    have hb := Blk.new (w.alloc (.cells #[.int .i64 n, .slice (some ⟨w.heap.size + 1, 0, none⟩) n n, .slice none 0 0, .int .i64 0, .int .i64 0, .int .i64 0, .int .i64 0, .int .i64 0] 40)) 3 (zrow (.int .i64 0) n)
    have := Reads.of_blk (B := (w.heap.size ≤ ·)) (size := 1) (n := n) hb (by simp [zrow]) (by simp)
    simpa [ref0, zrow] using this
  · exact ((Below.refl _ _).alloc (Nat.le_refl _) _).alloc (by simp) _
set_option maxRecDepth 10000 in
set_option maxHeartbeats 400000 in
theorem is_any (R : RefS) (a : Int) (w : World) :
    Calls Try.prog 32 #[rv R, .int .i64 a] w fun e w' => e = .returned (.bool (epB R.n a)) ∧ Below w.heap.size w w' := by
  by_cases h0 : 0 ≤ a
  · go_enter Try.func32, Try.ntmps32
    go_wp2
    go_ret
    exact ⟨by simp [h0, epB], (Below.refl _ _).alloc (Nat.le_refl _) _⟩
  · go_enter Try.func32, Try.ntmps32
    go_wp2
    go_ret
    exact ⟨by simp [epB]; omega, (Below.refl _ _).alloc (Nat.le_refl _) _⟩

theorem info63 : (Try.prog.info? 63).map (fun i => (i.zero, i.size, i.bytes)) = some (some (.agg #[.int .i64 0, .int .i64 0, .int .i64 0, .slice none 0 0]), 4, 48) := by kernel_rfl
theorem i63 : ∃ i, Try.prog.info? 63 = some i ∧ i.size = 4 := by obtain ⟨i, h, _, h2, _⟩ := info_parts info63; exact ⟨i, h, h2⟩
def rfind (l : List It) (id : Int) : Option It := l.find? (·.id == id)
theorem rfind_none {l : List It} {id : Int} {k : Nat} {x : It} (h : rfind l id = none) (hx : l[k]? = some x) : (x.id == id) = false := by
  have := List.find?_eq_none.1 h x (List.mem_of_getElem? hx)
  simpa using this
set_option maxRecDepth 10000 in
set_option maxHeartbeats 400000 in
theorem find_no (R : RefS) (B : Nat → Prop) (id : Int) (w : World) (h : Ref w B R) (hl : R.items.length ≤ 1000) (hx : rfind R.items id = none) :
    Calls Try.prog 42 #[rv R, .int .i64 id] w fun e w' => e = .returned (.tuple #[.agg #[.int .i64 0, .int .i64 0, .slice none 0 0], .bool false]) ∧ Below w.heap.size w w' := by
  have hits := (h.its.old (by omega)).more (B' := (· < w.heap.size)) (fun k hk => hk.2)
  have hsm := hits.plain (by omega)
  obtain ⟨i63, hi63, hi631⟩ := i63
  go_enter Try.func42, Try.ntmps42
  go_wp2
  go_loopw [11] (fun i wr => ∃ k : Nat, k ≤ R.items.length ∧ i = .int .i64 k ∧ Blk wr (w.heap.size + 1) 31 #[.int .i64 0, .int .i64 0, .slice none 0 0] ∧ Below w.heap.size w wr) (fun i _ => R.items.length - (intOf i).toNat)
  case atStart => exact ⟨0, Nat.zero_le _, rfl, (by simpa using Blk.new (w.alloc _) 31 _), ((Below.refl _ _).alloc (Nat.le_refl _) _).alloc (by simp) _⟩
  case round =>
    obtain ⟨k, hk, rfl, hbr, hbel⟩ := hrel
    have hsz := hbel.size
    obtain ⟨blt, bc, bf⟩ := hbr.facts
    by_cases hlt : k < R.items.length
    · have hlt' : (k : Int) < R.items.length := by omega
      obtain ⟨x, hgx⟩ : ∃ x, R.items[k]? = some x := ⟨_, List.getElem?_eq_getElem hlt⟩
      have hne := rfind_none hx hgx
      have hR := hits.below hbel (fun _ h => h)
      have hix := fun W => run_indexAt2 (P := Try.prog) Try.underlying38 hi63 hi631 hsm R.ic k hlt W
      have c0 : wr.cell? ⟨bk R.ia, ofs R.ia + k * 4, none⟩ = some (.int .i64 x.id) := (hR.cell2 (k * 4 + 0) (by omega) (by omega)).trans (itcs_get _ _ _ _ hgx (by omega))
      have c1 : wr.cell? ⟨bk R.ia, ofs R.ia + k * 4 + 1, none⟩ = some (.int .i64 x.frm) := (hR.cell2 (k * 4 + 1) (by omega) (by omega)).trans (itcs_get _ _ _ _ hgx (by omega))
      have c2 : wr.cell? ⟨bk R.ia, ofs R.ia + k * 4 + 2, none⟩ = some (.int .i64 x.to) := (hR.cell2 (k * 4 + 2) (by omega) (by omega)).trans (itcs_get _ _ _ _ hgx (by omega))
      have c3 : wr.cell? ⟨bk R.ia, ofs R.ia + k * 4 + 3, none⟩ = some (.slice x.A x.n x.c) := (hR.cell2 (k * 4 + 3) (by omega) (by omega)).trans (itcs_get _ _ _ _ hgx (by omega))
      clear hits hgx hx h hR
      go_wp2
      go_roundw
      case rel => exact ⟨k + 1, by omega, by go_num, hbr.alloc _, hbel.alloc hsz _⟩
      case measure => simp [intOf]; omega
    · have hge : ¬ ((k : Int) < R.items.length) := by omega
      clear hits hx h
      go_wp2
      refine bodyPost_ret (v := .tuple #[.agg #[.int .i64 0, .int .i64 0, .slice none 0 0], .bool false]) (by simp [results, Try.results42, go_sem, bc]) rfl ⟨rfl, ?_⟩
      exact ((hbel.setCell (by simp) _).setCell (by simp) _).setCell (by simp) _
theorem rfind_some {l : List It} {id : Int} {x : It} (h : rfind l id = some x) : ∃ k0, l[k0]? = some x ∧ (x.id == id) = true ∧ ∀ (j : Nat) (y : It), j < k0 → l[j]? = some y → (y.id == id) = false := by
  unfold rfind at h
  obtain ⟨h1, l1, l2, rfl, h2⟩ := List.find?_eq_some_iff_append.1 h
  refine ⟨l1.length, by simp, h1, fun j y hj hy => ?_⟩
  rw [List.getElem?_append_left hj] at hy
  simpa using h2 y (List.mem_of_getElem? hy)
set_option maxRecDepth 10000 in
set_option maxHeartbeats 400000 in
theorem find_yes (R : RefS) (B : Nat → Prop) (id : Int) (x : It) (w : World) (h : Ref w B R) (hl : R.items.length ≤ 1000) (hx : rfind R.items id = some x) :
    Calls Try.prog 42 #[rv R, .int .i64 id] w fun e w' => e = .returned (.tuple #[.agg #[.int .i64 x.frm, .int .i64 x.to, .slice x.A x.n x.c], .bool true]) ∧ Below w.heap.size w w' := by
  have hits := (h.its.old (by omega)).more (B' := (· < w.heap.size)) (fun k hk => hk.2)
  have hsm := hits.plain (by omega)
  obtain ⟨k0, hk0, hid, hbef⟩ := rfind_some hx
  have hk0l : k0 < R.items.length := (List.getElem?_eq_some_iff.1 hk0).1
  obtain ⟨i63, hi63, hi631⟩ := i63
  have HB := Lib.hid hbef; clear hbef
  have HK := Lib.hid hk0; clear hk0 hx
  have HID := Lib.hid hid; clear hid
  go_enter Try.func42, Try.ntmps42
  go_wp2
  go_loopw [11] (fun i wr => ∃ k : Nat, k ≤ k0 ∧ i = .int .i64 k ∧ Blk wr (w.heap.size + 1) 31 #[.int .i64 0, .int .i64 0, .slice none 0 0] ∧ Below w.heap.size w wr) (fun i _ => R.items.length - (intOf i).toNat)
  case atStart => exact ⟨0, Nat.zero_le _, rfl, (by simpa using Blk.new (w.alloc _) 31 _), ((Below.refl _ _).alloc (Nat.le_refl _) _).alloc (by simp) _⟩
  case round =>
    obtain ⟨k, hk, rfl, hbr, hbel⟩ := hrel
    have hsz := hbel.size
    obtain ⟨blt, bc, bf⟩ := hbr.facts
    have hlt : k < R.items.length := by omega
    have hlt' : (k : Int) < R.items.length := by omega
    obtain ⟨y, hgx⟩ : ∃ y, R.items[k]? = some y := ⟨_, List.getElem?_eq_getElem hlt⟩
    have hR := hits.below hbel (fun _ h => h)
    have hix := fun W => run_indexAt2 (P := Try.prog) Try.underlying38 hi63 hi631 hsm R.ic k hlt W
    have c0 : wr.cell? ⟨bk R.ia, ofs R.ia + k * 4, none⟩ = some (.int .i64 y.id) := (hR.cell2 (k * 4 + 0) (by omega) (by omega)).trans (itcs_get _ _ _ _ hgx (by omega))
    have c1 : wr.cell? ⟨bk R.ia, ofs R.ia + k * 4 + 1, none⟩ = some (.int .i64 y.frm) := (hR.cell2 (k * 4 + 1) (by omega) (by omega)).trans (itcs_get _ _ _ _ hgx (by omega))
    have c2 : wr.cell? ⟨bk R.ia, ofs R.ia + k * 4 + 2, none⟩ = some (.int .i64 y.to) := (hR.cell2 (k * 4 + 2) (by omega) (by omega)).trans (itcs_get _ _ _ _ hgx (by omega))
    have c3 : wr.cell? ⟨bk R.ia, ofs R.ia + k * 4 + 3, none⟩ = some (.slice y.A y.n y.c) := (hR.cell2 (k * 4 + 3) (by omega) (by omega)).trans (itcs_get _ _ _ _ hgx (by omega))
    by_cases hkk : k < k0
    · have hne := HB.out k y hkk hgx
      clear hits hgx h hR
      go_wp2
      go_roundw
      case rel => exact ⟨k + 1, by omega, by go_num, hbr.alloc _, hbel.alloc hsz _⟩
      case measure => simp [intOf]; omega
    · have hyx : y = x := by
        have e : k = k0 := by omega
        subst e
        have := HK.out
        rw [hgx] at this
        exact Option.some.inj this
      have hid := HID.out
      rw [← hyx] at hid
      have HY := Lib.hid hyx
      clear hits hgx h hR hyx
      go_wp2
      refine bodyPost_ret (v := .tuple #[.agg #[.int .i64 y.frm, .int .i64 y.to, .slice y.A y.n y.c], .bool true]) (by simp [results, Try.results42, go_sem, bc, blt]) rfl ⟨by rw [HY.out], ?_⟩
      exact (((hbel.setCell (by simp) _).setCell (by simp) _).setCell (by simp) _).alloc (by simpa using hsz) _
end Go.Proofs.Ytgjkahndclijgaa

import Derived.Test.YtgjkahndclijgaaPlay1
namespace Go.Proofs.Ytgjkahndclijgaa
set_option linter.unusedVariables false
open Go.RowKit Go.Own
structure ActsR (w : World) (A : Option Addr) (l : List ActS) : Prop where
  top : Reads w (· < w.heap.size) 6 A l.length (acs l)
  body : ∀ a ∈ l, Reads w (· < w.heap.size) 1 a.A a.n (bytesV a.body)
  grp : ∀ a ∈ l, Reads w (· < w.heap.size) 1 a.GA a.gn (a.groups.map (Value.int .i64))
  len : l.length ≤ 9223372036854775807
theorem ActsR.below {w w' : World} {A : Option Addr} {l : List ActS} (h : ActsR w A l) (hb : Below w.heap.size w w') : ActsR w' A l :=
  ⟨(h.top.below hb (fun _ h => h)).more (fun _ hk => Nat.lt_of_lt_of_le hk hb.size), fun a ha => ((h.body a ha).below hb (fun _ h => h)).more (fun _ hk => Nat.lt_of_lt_of_le hk hb.size), fun a ha => ((h.grp a ha).below hb (fun _ h => h)).more (fun _ hk => Nat.lt_of_lt_of_le hk hb.size), h.len⟩
def PlayNil (w : World) (e : Ending) (w' : World) : Prop := e = .returned (.tuple #[.pointer none, .agg refZ, .bool true]) ∧ Below w.heap.size w w'
def PlayOk (G : Nat) (w : World) (e : Ending) (w' : World) : Prop := ∃ p m g N R, e = .returned (.tuple #[.pointer (some ⟨p, 0, none⟩), rv R, .bool true]) ∧ Agree G N R 60 ∧ Wd w' p m g N R (fun _ => False) ∧ Below w.heap.size w w' ∧ w.heap.size ≤ p ∧ w.heap.size ≤ m ∧ w.heap.size ≤ g
set_option maxRecDepth 10000 in
set_option maxHeartbeats 1000000 in
theorem played_many (G : Int) (A : Option Addr) (c : Nat) (l : List ActS) (w : World) (h : ActsR w A l) (hf : fewB l = false) :
    Calls Try.prog 15 #[.int .i64 G, .slice A l.length c] w (PlayNil w) := by
  have HF := Lib.hid fun W (hb : Below w.heap.size w W) => by
    have := few_any _ A c l W (h.below hb).top h.len
    rw [hf] at this; exact this
  clear hf h
  go_enter Try.func15, Try.ntmps15
  go_wp2_with (go_at_call 19; ((with_reducible refine (HF.out _ ((Below.refl _ _).alloc (Nat.le_refl _) _)).mono ?_); rintro e w1 ⟨rfl, hb⟩; have hblk := (Blk.new w 40 refZ).below hb (by simp); obtain ⟨b0, b1, b2⟩ := hblk.facts))
  refine bodyPost_ret (v := .tuple #[.pointer none, .agg refZ, .bool true]) (by simp [results, Try.results15, go_sem, b1]) rfl ⟨rfl, ?_⟩
  repeat (with_reducible refine Below.setCell ?_ (by simp) _)
  exact ((Below.refl _ _).alloc (Nat.le_refl _) _).trans (hb.mono (by simp))
set_option maxRecDepth 10000 in
set_option maxHeartbeats 1000000 in
theorem played_bad (G : Int) (hG : G < 1 ∨ 512 < G) (A : Option Addr) (c : Nat) (l : List ActS) (w : World) (h : ActsR w A l) (hf : fewB l = true) :
    Calls Try.prog 15 #[.int .i64 G, .slice A l.length c] w (PlayNil w) := by
  have HF := Lib.hid fun W (hb : Below w.heap.size w W) => by
    have := few_any _ A c l W (h.below hb).top h.len
    rw [hf] at this; exact this
  have HN := Lib.hid fun W => new_bad G W hG
  have HR := Lib.hid fun W => rnew_bad G W hG
  clear hf h hG
  go_enter Try.func15, Try.ntmps15
  go_wp2_with (first
    | (go_at_call 19; ((with_reducible refine (HF.out _ ((Below.refl _ _).alloc (Nat.le_refl _) _)).mono ?_); rintro e w1 ⟨rfl, hb⟩; have hblk := (Blk.new w 40 refZ).below hb (by simp)))
    | (go_at_call 11; ((with_reducible refine (HN.out _).mono ?_); rintro e w2 ⟨rfl, rfl⟩))
    | (go_at_call 30; ((with_reducible refine (HR.out _).mono ?_); rintro e w3 ⟨rfl, hb3⟩; have hblk3 := hblk.below hb3 hblk.lt; obtain ⟨b0, b1, b2⟩ := hblk3.facts; clear hblk hblk3)))
  go_region
  all_goals
    go_wp2
    refine bodyPost_ret (v := .tuple #[.pointer none, .agg refZ, .bool true]) (by simp [results, Try.results15, go_sem, b0, b1]) rfl ⟨rfl, ?_⟩
    repeat (first | with_reducible refine Below.drew ?_ | with_reducible refine Below.alloc ?_ (by simp; omega) _ | with_reducible refine Below.setCell ?_ (by simp) _)
    exact (((Below.refl _ _).alloc (Nat.le_refl _) _).trans (hb.mono (by simp))).trans (hb3.mono (by have := hb.size; simp at this; omega))
theorem few_parts {l : List ActS} (h : fewB l = true) : l.length ≤ 60 ∧ ∀ a ∈ l, a.n ≤ 200 := by
  unfold fewB at h
  rw [Bool.and_eq_true] at h
  refine ⟨by simpa using h.2, fun a ha => ?_⟩
  have := List.all_eq_true.1 h.1 a ha
  simp [small] at this
  exact this.1
theorem agree0 (w w2 : World) (G : Nat) (h2 : G ≤ 512) : Agree G (net0 w G) (ref0 w2 G) 0 :=
  ⟨by simp [net0, ref0], rfl, rfl, rfl, rfl, rfl, rfl, rfl, by simp [net0], by simp [net0], by simp [net0], by simp [net0], by simp [net0], by simp [net0], by simp [net0], by simp [net0], by simp [net0], by simp [net0], by simp [net0, h2], by simp [net0]⟩
theorem wd0 {w w1 w2 w3 : World} {G : Nat} (hb0 : w.heap.size < w1.heap.size) (hn : Net w2 (w1.heap.size + 2) (net0 w1 G)) (hs2 : w2.heap.size = w1.heap.size + 3) (hr : Ref w3 (w2.heap.size ≤ ·) (ref0 w2 G)) (hb3 : Below w2.heap.size w2 w3) (o : Obj) :
    Wd (w3.alloc o) (w1.heap.size + 2) (w1.heap.size + 1) w1.heap.size (net0 w1 G) (ref0 w2 G) (XB w.heap.size w3.heap.size) := by
  have hs3 := hb3.size
  have hr' : Ref w3 (fun j => w2.heap.size ≤ j ∧ j < w3.heap.size) (ref0 w2 G) := ⟨hr.grp.old (by omega), hr.its.old (by omega), fun x hx => (hr.bod x hx).old (by omega)⟩
  refine ⟨(hn.below hb3).alloc o, rfl, rfl, (hr'.below ((Below.refl _ _).alloc (Nat.le_refl _) o)).more (fun j hj => by simp only [XB]; omega), by simp [net0], by simp only [XB]; omega, by simp only [XB]; omega, by simp only [XB]; omega⟩
theorem ActsR.act {w W : World} {A : Option Addr} {l : List ActS} (h : ActsR w A l) (hb : Below w.heap.size w W) {k : Nat} {x : ActS} (hx : l[k]? = some x) (hn : x.n ≤ 200) {p m g b c : Nat} (hp : w.heap.size ≤ p) (hm : w.heap.size ≤ m) (hg : w.heap.size ≤ g) (hb' : w.heap.size ≤ b) (hc : w.heap.size ≤ c) : ActR W p m g b c x := by
  have hxm := List.mem_of_getElem? hx
  exact ⟨((h.body x hxm).below hb (fun _ h => h)).more (fun j hj => by omega), ((h.grp x hxm).below hb (fun _ h => h)).more (fun j hj => by omega), hn⟩
set_option maxRecDepth 10000 in
set_option maxHeartbeats 2000000 in
theorem played_ok (G : Nat) (hG1 : 1 ≤ G) (hG2 : G ≤ 512) (A : Option Addr) (c : Nat) (l : List ActS) (w : World) (h : ActsR w A l) (hf : fewB l = true) :
    Calls Try.prog 15 #[.int .i64 G, .slice A l.length c] w (PlayOk G w) := by
  obtain ⟨hl60, hsml⟩ := few_parts hf
  have HF := Lib.hid fun W (hb : Below w.heap.size w W) => by
    have := few_any _ A c l W (h.below hb).top h.len
    rw [hf] at this; exact this
  have HN := Lib.hid fun W => new_good G W hG1 hG2
  have HR := Lib.hid fun W => rnew_good G W hG1 hG2
  have hsm := h.top.plain (by omega)
  obtain ⟨i52, hi52, hi521⟩ := i52
  have HA := Lib.hid hsml; clear hsml
  have HH := Lib.hid h
  clear hf h
  go_enter Try.func15, Try.ntmps15
  go_wp2_with (first
    | (go_at_call 19; ((with_reducible refine (HF.out _ ((Below.refl _ _).alloc (Nat.le_refl _) _)).mono ?_); rintro e w1 ⟨rfl, hb⟩; have hblk := (Blk.new w 40 refZ).below hb (by simp)))
    | (go_at_call 11; ((with_reducible refine (HN.out _).mono ?_); rintro e w2 ⟨rfl, hn2, hb2, hs2⟩; have hblk2 := hblk.below hb2 hblk.lt; have HS2 := Lib.hid hs2; clear hs2))
    | (go_at_call 30; ((with_reducible refine (HR.out _).mono ?_); rintro e w3 ⟨rfl, hr3, hb3⟩; have hblk3 := hblk2.below hb3 hblk2.lt; have HZ := Lib.hid (wd0 hblk.lt hn2 HS2.out hr3 hb3); clear hblk hblk2 hn2 hr3)))
  have hw13 : w.heap.size < w1.heap.size := by have := hb.size; simp at this; omega
  have hs2 := hb2.size
  have hs3 := hb3.size
  have hbw3 : Below w.heap.size w w3 := ((((Below.refl _ _).alloc (Nat.le_refl _) _).trans (hb.mono (by simp))).trans (hb2.mono (by omega))).trans (hb3.mono (by omega))
  have HS3 : w1.heap.size + 3 ≤ w3.heap.size := by have := HS2.out; omega
  clear HF HN HR HS2 hb hb2 hb3 hs2 hs3
  go_loopw [11, 45] (fun ok i wr => ∃ (k : Nat) (R : RefS), k ≤ l.length ∧ i = .int .i64 k ∧ ok = .bool true ∧ KK G (w1.heap.size + 2) (w1.heap.size + 1) w1.heap.size k (XB w.heap.size w3.heap.size) R wr ∧ Blk wr w3.heap.size 40 (refC R) ∧ Blk wr w.heap.size 40 refZ ∧ Below w.heap.size w wr) (fun _ i _ => l.length - (intOf i).toNat)
  case atStart =>
    exact ⟨0, ref0 w2 G, Nat.zero_le _, rfl, rfl, ⟨_, agree0 w1 w2 G hG2, HZ.out _⟩, Blk.new w3 40 _, hblk3.alloc _, hbw3.alloc (by omega) _⟩
  case round =>
    obtain ⟨k, R, hk, rfl, rfl, hKK, hb9, hb5, hbel⟩ := hrel
    have hsz := hbel.size
    clear HZ hblk3 hbw3
    by_cases hlt : k < l.length
    · have hlt' : (k : Int) < l.length := by omega
      obtain ⟨x, hgx⟩ : ∃ x, l[k]? = some x := ⟨_, List.getElem?_eq_getElem hlt⟩
      have hix := fun W => run_indexAt2 (P := Try.prog) Try.underlying36 hi52 hi521 hsm c k hlt W
      obtain ⟨c0, c1, c2, c3, c4, c5⟩ := acs_cells (HH.out.top.below hbel (fun _ h => h)) hgx
      obtain ⟨N, hag, hwd⟩ := hKK
      have l9 := hb9.lt
      have l5 := hb5.lt
      have hact := HH.out.act (p := w1.heap.size + 2) (m := w1.heap.size + 1) (g := w1.heap.size) (b := w.heap.size) (c := w3.heap.size) (hbel.alloc hsz (.cells (actC x) 52)) hgx (HA.out x (List.mem_of_getElem? hgx)) (by omega) (by omega) (by omega) (by omega) (by omega)
      have hwd1 : Wd (wr.alloc (.cells (actC x) 52)) (w1.heap.size + 2) (w1.heap.size + 1) w1.heap.size N R (XB w.heap.size w3.heap.size) := hwd.fr ((Fr.refl _ _).alloc _) (fun _ h => h) (fun _ h => h)
      have HC := Lib.hid (any_do (by simp; omega) hwd1 hag (by omega) hact)
      have h9' := hb9.alloc (.cells (actC x) 52)
      have h5' := hb5.alloc (.cells (actC x) 52)
      have hbel' := hbel.alloc hsz (.cells (actC x) 52)
      obtain ⟨q0, q1, q2⟩ := hb9.facts
      simp only [refC] at q1
      clear hgx hact hwd hwd1 hb9 hb5
      go_wp2_with (first
        | (go_at_call 31; ((with_reducible refine HC.out.mono ?_); rintro e w4 ⟨R', rfl, hF4, hK4⟩; have g9 := h9'.fr hF4 (by simp only [SS]; omega); have g5 := h5'.fr hF4 (by simp only [SS]; omega); have l9 := g9.lt))
        | (refine wpList_storeBlk rfl (.tmp 9) (.tmp 54) 40 rfl w3.heap.size 40 (refC R) _ _ 8 96 info40 rfl rfl rfl g9 rfl (by simp [Value.oneCell']) ?_
           intro w5 x2 hF5 hs5))
      obtain ⟨N', hag', hwd'⟩ := hK4
      have hbel4 : Below w.heap.size w w4 := hbel'.trans (hF4.below (by simp; omega) (fun j hj => by simp only [SS]; omega))
      refine ⟨⟨k + 1, R', by omega, by go_num, rfl, ⟨N', hag', hwd'.fr hF5 (fun _ hj => .inr hj) (fun _ h => h)⟩, x2, g5.fr hF5 (by omega), hbel4.trans (hF5.below (by have := hbel4.size; omega) (fun j hj => by omega))⟩, by simp [intOf]; omega⟩
    · have hge : ¬ ((k : Int) < l.length) := by omega
      obtain ⟨N, hag, hwd⟩ := hKK
      obtain ⟨q0, q1, q2⟩ := hb9.facts
      simp only [refC] at q1
      obtain ⟨r0, r1, r2⟩ := hb5.facts
      simp only [refZ] at r1
      have hne : w.heap.size ≠ w3.heap.size := by omega
      have hne' : w3.heap.size ≠ w.heap.size := by omega
      go_wp2_with fail
      go_region
      all_goals
        go_wp2
        refine bodyPost_ret (v := .tuple #[.pointer (some ⟨w1.heap.size + 2, 0, none⟩), rv R, .bool true]) (by simp [results, Try.results15, go_sem, r1]) rfl ⟨w1.heap.size + 2, w1.heap.size + 1, w1.heap.size, N, R, rfl, hag.mono (by omega), ?_, ?_, by omega, by omega, by omega⟩
        · refine hwd.fr (Y := fun j => j = w.heap.size) ?_ (Z := fun _ => False) (fun _ hj => .inl hj) (fun _ hj => False.elim hj)
          repeat (first | with_reducible refine Fr.drew ?_ | with_reducible refine Fr.setCell ?_ (Or.inl (by simp)) _)
          with_reducible exact Fr.refl _ _
        · repeat (first | with_reducible refine Below.drew ?_ | with_reducible refine Below.setCell ?_ (by simp) _)
          exact hbel
end Go.Proofs.Ytgjkahndclijgaa

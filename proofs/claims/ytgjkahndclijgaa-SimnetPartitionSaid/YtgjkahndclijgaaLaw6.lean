import Derived.Test.YtgjkahndclijgaaLaw4
namespace Go.Proofs.Ytgjkahndclijgaa
set_option linter.unusedVariables false
open Go.RowKit Go.Own
theorem Agree.ids' {G : Nat} {N : NetS} {R : RefS} {k : Nat} (h : Agree G N R k) : idsR R.items = N.items.map (·.1) := by
  have := congrArg (List.map (fun x : Int × Int × Int × List Int => x.1)) h.it
  rw [List.map_map, List.map_map] at this
  exact this.symm
set_option maxRecDepth 10000 in
set_option maxHeartbeats 1000000 in
theorem partition_nil (A : Option Addr) (c : Nat) (l : List ActS) (w : World) (h : ActsR w A l) (hf : fewB l = false) :
    Calls Try.prog 9 #[.slice A l.length c] w (LawPost w) := by
  have HP := Lib.hid (played_many 4 A c l w h hf)
  have HA := Lib.hid awake_any
  clear h hf
  go_enter Try.func9, Try.ntmps9
  go_wp2_with (first
    | (go_at_call 15; ((with_reducible refine HP.out.mono ?_); rintro e w1 ⟨rfl, hb⟩))
    | (go_at_call 10; ((with_reducible refine (HA.out _).mono ?_); rintro e w2 ⟨rfl, hb2⟩)))
  go_ret
  refine ⟨rfl, ?_⟩
  have hs := hb.size
  exact (hb.alloc hs _).trans (hb2.mono (by simp; omega))
theorem iget_at {l : List (Int × Pk)} (h : (l.map (·.1)).Pairwise (· < ·)) : ∀ {k : Nat} {y : Int × Pk}, l[k]? = some y → iget l y.1 = some y.2 := by
  induction l with
  | nil => intro k y hy; simp at hy
  | cons a r ih =>
    intro k y hy
    simp only [List.map_cons, List.pairwise_cons] at h
    cases k with
    | zero => simp at hy; subst hy; simp [iget]
    | succ k =>
      have hy' : r[k]? = some y := by simpa using hy
      have hlt := h.1 y.1 (List.mem_map.2 ⟨y, List.mem_of_getElem? hy', rfl⟩)
      have := ih h.2 hy'
      unfold iget at this ⊢
      rw [List.find?_cons]
      have e : (a.1 == y.1) = false := by simp; omega
      rw [e]; exact this
theorem _root_.Go.Own.Reads.of_blkN {w : World} {b : Nat} {l : List Int} (h : Blk w b 5 (bytesV l).toArray) : Reads w (· = b) 1 (some ⟨b, 0, none⟩) l.length (bytesV l) := by
  have := Reads.of_blk (B := (· = b)) (n := l.length) (size := 1) h (by simp [bytesV]) rfl
  have e : ((bytesV l).toArray.toList.take (l.length * 1)) = bytesV l := List.take_of_length_le (by simp [bytesV])
  rw [e] at this; exact this
theorem idel_head {a : Int × Pk} {r : List (Int × Pk)} : idel (a :: r) a.1 = r := by simp [idel]
theorem con_0123 (a b : Int) (hne : a ≠ b) : conB [0, 1, 2, 3] a b = false := by
  unfold conB
  cases ha : epB 4 a with
  | false => simp
  | true =>
    cases hb : epB 4 b with
    | false => simp
    | true =>
      obtain ⟨a0, a1⟩ := epB_true ha
      obtain ⟨b0, b1⟩ := epB_true hb
      have ha' : a = 0 ∨ a = 1 ∨ a = 2 ∨ a = 3 := by omega
      have hb' : b = 0 ∨ b = 1 ∨ b = 2 ∨ b = 3 := by omega
      rcases ha' with rfl | rfl | rfl | rfl <;> rcases hb' with rfl | rfl | rfl | rfl <;> first | exact absurd rfl hne | decide
theorem con_0000 (a b : Int) (ha : epB 4 a = true) (hb : epB 4 b = true) : conB [0, 0, 0, 0] a b = true := by
  obtain ⟨a0, a1⟩ := epB_true ha
  obtain ⟨b0, b1⟩ := epB_true hb
  have ha' : a = 0 ∨ a = 1 ∨ a = 2 ∨ a = 3 := by omega
  have hb' : b = 0 ∨ b = 1 ∨ b = 2 ∨ b = 3 := by omega
  rcases ha' with rfl | rfl | rfl | rfl <;> rcases hb' with rfl | rfl | rfl | rfl <;> decide
def grpN (N : NetS) (gs : List Int) : NetS := { N with groups := gs }
theorem del_none {G : Nat} {N : NetS} {R : RefS} {k : Nat} (h : Agree G N R k) : (delI (grpN N [0, 1, 2, 3]) N.items).map (·.1) = [] := by
  have : delI (grpN N [0, 1, 2, 3]) N.items = [] := by
    unfold delI grpN
    rw [List.filter_eq_nil_iff]
    intro x hx
    simp [con_0123 _ _ (h.ep x hx).2.2]
  rw [this]; rfl
theorem del_all {N : NetS} {R : RefS} {k : Nat} (h : Agree 4 N R k) : (delI (grpN N [0, 0, 0, 0]) N.items).map (·.1) = N.items.map (·.1) := by
  have : delI (grpN N [0, 0, 0, 0]) N.items = N.items := by
    unfold delI grpN
    rw [List.filter_eq_self]
    intro x hx
    exact con_0000 _ _ (h.ep x hx).1 (h.ep x hx).2.1
  rw [this]
def leftN (N : NetS) (k : Nat) : NetS := { N with groups := [0, 0, 0, 0], items := N.items.drop k, came := N.came + k }
set_option maxRecDepth 10000 in
set_option maxHeartbeats 4000000 in
theorem partition_ok_ (A : Option Addr) (c : Nat) (l : List ActS) (w : World) (h : ActsR w A l) (hf : fewB l = true) :
    Calls Try.prog 9 #[.slice A l.length c] w (LawPost w) := by
  have HP := Lib.hid (show Calls Try.prog 15 #[.int .i64 4, .slice A l.length c] w (PlayOk 4 w) from played_ok 4 (by omega) (by omega) A c l w h hf)
  have HA := Lib.hid awake_any
  obtain ⟨i2, hi2, hi21⟩ := i2x
  obtain ⟨i63, hi63, hi631⟩ := i63
  clear h hf
  go_enter Try.func9, Try.ntmps9
  go_wp2_with (
    (go_at_call 15; ((with_reducible refine HP.out.mono ?_); rintro e w1 ⟨p, m, g, N, R, rfl, hag, hwd, hb, hp, hm, hg⟩)))
  have hlts := hwd.net.lts
  have hNm := hwd.hm
  have hNg := hwd.hg
  generalize hW : (w1.alloc (.cells (refC R) 40)).alloc (.cells #[.int .i64 0, .int .i64 1, .int .i64 2, .int .i64 3] 3) = W
  have hb0 : Blk W w1.heap.size 40 (refC R) := by rw [← hW]; exact (Blk.new w1 40 (refC R)).alloc _
  have hr0 : Reads W (· = w1.heap.size + 1) 1 (some ⟨w1.heap.size + 1, 0, none⟩) 4 ([0, 1, 2, 3].map (Value.int .i64)) := by
    rw [← hW]; exact (Reads.newS (w1.alloc (.cells (refC R) 40)) ([0, 1, 2, 3].map (Value.int .i64)) 3 (0, 0) 4 1 rfl (w1.heap.size + 1) (by simp)).more (fun k hk => by simpa using hk)
  have hwdW : Wd W p m g N R (fun _ => False) := by rw [← hW]; exact (hwd.below ((Below.refl _ _).alloc (Nat.le_refl _) _)).below ((Below.refl _ _).alloc (Nat.le_refl _) _)
  have hbW : Below w.heap.size w W := by rw [← hW]; exact (hb.alloc hb.size _).alloc (by have := hb.size; simp; omega) _
  have hsW : W.heap.size = w1.heap.size + 2 := by rw [← hW]; simp
  clear hW hwd
  refine (partition_ok p N _ _ 4 4 [0, 1, 2, 3] W hwdW.net hag.gl.1.symm hr0).mono ?_
  rintro e w2 ⟨rfl, hn2, hF2⟩
  have hn2 : Net w2 p (grpN N [0, 1, 2, 3]) := hn2
  have hgne : w1.heap.size ≠ N.g := by have := hlts.2.1; omega
  have hb2 := hb0.fr hF2 hgne
  have hR2 := (hwdW.ref.fr hF2 (fun k hk => by rw [hNg]; exact hk.2.2.1)).more (B' := fun k => k ≠ p ∧ k ≠ m ∧ k ≠ g) (fun k hk => ⟨hk.1, hk.2.1, hk.2.2.1⟩)
  have hbw2 : Below w.heap.size w w2 := hbW.trans (hF2.below (by have := hbW.size; omega) (fun k hk => by rw [hNg]; omega))
  have hs2 := hF2.size
  clear hr0 hb0 hwdW hF2 hbW
  have hcnt := hag.cnt
  have HDl := Lib.hid (by
    have := deliverable_ids p (grpN N [0, 1, 2, 3]) w2 hn2 (by simp only [grpN]; omega) hag.up
    rw [show (grpN N [0, 1, 2, 3]).items = N.items from rfl, del_none hag] at this
    exact this)
  have hsW' : w1.heap.size + 2 ≤ w2.heap.size := by omega
  have HSW := Lib.hid hsW; clear hsW hs2
  obtain ⟨xs, hxs⟩ : ∃ xs, N.items.map (·.1) = xs := ⟨_, rfl⟩
  have hx1 : xs.length ≤ 60 := by rw [← hxs]; simpa using hcnt
  have HXL : Hid (xs.length = N.items.length) := by show _ = _; rw [← hxs]; simp
  have HPd0 := Lib.hid fun W' (hn : Net W' p (grpN N [0, 1, 2, 3])) => by
    have := pending_ids p (grpN N [0, 1, 2, 3]) W' hn (by simp only [grpN]; omega) hag.up
    rw [show (grpN N [0, 1, 2, 3]).items.map (·.1) = xs from hxs] at this
    exact this
  have HXS := Lib.hid hxs; clear hxs
  go_wp2_with (first
    | (go_at_call 26; ((with_reducible refine HDl.out.mono ?_); rintro e w3 ⟨A3, c3, rfl, -, hn3, hB3⟩; have hb3 := hb2.below hB3 hb2.lt; have hR3 := hR2.below hB3; have hbw3 := hbw2.trans (hB3.mono hbw2.size); have HPd := Lib.hid (HPd0.out w3 hn3)))
    | (go_at_call 18; ((with_reducible refine HPd.out.mono ?_); rintro e w4 ⟨A4, c4, rfl, hr4, hn4, hB4⟩; have hb4 := hb3.below hB4 hb3.lt; have hR4 := hR3.below hB4; have hbw4 := hbw3.trans (hB4.mono hbw3.size))))
  have p4 := hr4.plain (by omega)
  have hr4' := hr4.old (by omega)
  clear hn2 hn3 hB3 hb3 hR3 HPd HDl hB4 hb2 hR2 hr4
  have hsz4 := hbw4.size
  go_loopw [39] (fun i wr => ∃ k : Nat, k ≤ xs.length ∧ i = .int .i64 k ∧ Below w4.heap.size w4 wr) (fun i _ => xs.length - (intOf i).toNat)
  case atStart => exact ⟨0, Nat.zero_le _, rfl, Below.refl _ _⟩
  case round =>
    obtain ⟨k, hk, rfl, hbr⟩ := hrel
    have hszr := hbr.size
    by_cases hlt : k < xs.length
    · have hlt' : (k : Int) < xs.length := by omega
      obtain ⟨⟨id, x⟩, hgx⟩ : ∃ y, N.items[k]? = some y := ⟨_, List.getElem?_eq_getElem (by have := HXL.out; omega)⟩
      have hxk : xs[k]? = some id := by rw [← HXS.out]; simp [hgx]
      have hix := fun W => run_indexAt2 (P := Try.prog) Try.underlying46 hi2 hi21 p4 c4 k hlt W
      simp only [Nat.mul_one] at hix
      have c0 : wr.cell? ⟨bk A4, ofs A4 + k, none⟩ = some (.int .i64 id) := ((hr4'.below hbr (fun _ hk => hk.2)).cell2 k (by omega) (by omega)).trans (by simp [hxk])
      have hget := iget_at hag.up hgx
      have HDv := Lib.hid (deliver_cut p (grpN N [0, 1, 2, 3]) id x wr (hn4.below hbr) hget (con_0123 _ _ (hag.ep _ (List.mem_of_getElem? hgx)).2.2))
      clear hgx hxk hget
      go_wp2_with (
        (go_at_call 14; ((with_reducible refine HDv.out.mono ?_); rintro e w5 ⟨rfl, hn5, hB5⟩)))
      go_roundw
      case rel => exact ⟨k + 1, by omega, by go_num, ((hbr.trans (hB5.mono hbr.size)).alloc (by have := hB5.size; omega) _)⟩
      case measure => simp [intOf]; omega
    · have hge : ¬ ((k : Int) < xs.length) := by omega
      clear hr4' p4 hlt
      have hnr := hn4.below hbr
      have hb5 := hb4.below hbr hb4.lt
      have hR5 := hR4.below hbr
      have hbw5 := hbw4.trans (hbr.mono hsz4)
      have hmk : ∀ W : World, (Instr.makeSlice 37 (.int .i64 4) (.int .i64 4)).run Try.prog W = .ok (.slice (some ⟨W.heap.size, 0, none⟩) 4 4) (W.alloc (.cells #[.int .i64 0, .int .i64 0, .int .i64 0, .int .i64 0] 3)) := fun _ => by kernel_rfl
      have hbz := hbr.size
      clear hbr hn4 hb4 hR4 hbw4
      have hlr := hnr.lts
      have hl9 := hb5.lt
      have HPt : Hid (Calls Try.prog 22 #[.pointer (some ⟨p, 0, none⟩), .slice (some ⟨wr.heap.size, 0, none⟩) 4 4] (wr.alloc (.cells #[.int .i64 0, .int .i64 0, .int .i64 0, .int .i64 0] 3)).drew (fun e w' => e = .returned (.int .i64 0) ∧ Net w' p (grpN N [0, 0, 0, 0]) ∧ Blk w' w1.heap.size 40 (refC R) ∧ Ref w' (fun k => k ≠ p ∧ k ≠ m ∧ k ≠ g) R ∧ Below w.heap.size w w')) := by
        show Calls _ _ _ _ _
        have hrz : Reads (wr.alloc (.cells #[.int .i64 0, .int .i64 0, .int .i64 0, .int .i64 0] 3)).drew (· = wr.heap.size) 1 (some ⟨wr.heap.size, 0, none⟩) 4 ([0, 0, 0, 0].map (Value.int .i64)) := (Reads.newS wr ([0, 0, 0, 0].map (Value.int .i64)) 3 (0, 0) 4 1 rfl wr.heap.size rfl).drew
        refine (partition_ok p (grpN N [0, 1, 2, 3]) _ _ 4 4 [0, 0, 0, 0] _ (hnr.alloc _).drew rfl hrz).mono ?_
        rintro e w' ⟨h1, h2, h3⟩
        have h3' : Fr (fun k => k = N.g) (wr.alloc (.cells #[.int .i64 0, .int .i64 0, .int .i64 0, .int .i64 0] 3)).drew w' := h3
        refine ⟨h1, h2, (hb5.alloc _).drew.fr h3' hgne, ?_, ?_⟩
        · exact (hR5.below (((Below.refl _ _).alloc (Nat.le_refl _) _).drew)).fr h3' (fun k hk => by rw [hNg]; exact hk.2.2)
        · exact ((hbw5.alloc hbw5.size _).drew).trans (h3'.below (by have := hbw5.size; simp; omega) (fun k hk => by rw [hNg]; omega))
      obtain ⟨q0, q1, q2⟩ := hb5.facts
      simp only [refC] at q1
      have HDl := Lib.hid fun W' (hn : Net W' p (grpN N [0, 0, 0, 0])) => by
        have := deliverable_ids p (grpN N [0, 0, 0, 0]) W' hn (by simp only [grpN]; omega) hag.up
        rw [show (grpN N [0, 0, 0, 0]).items = N.items from rfl, del_all hag, HXS.out] at this
        exact this
      have HAl := Lib.hid fun W' (hr : Ref W' (fun k => k ≠ p ∧ k ≠ m ∧ k ≠ g) R) => by
        have := all_any R _ W' hr (by have := hag.count; omega)
        rw [hag.ids', HXS.out] at this
        exact this
      clear hnr hb5 hR5
      go_wp2_with fail
      go_region_with (first
        | (go_at_call 22; ((with_reducible refine HPt.out.mono ?_); rintro e w6 ⟨rfl, hn6, hb6, hR6, hbw6⟩; obtain ⟨d0, d1, d2⟩ := hb6.facts; simp only [refC] at d1))
        | (go_at_call 26; ((with_reducible refine (HDl.out _ hn6).mono ?_); rintro e w7 ⟨A7, c7, rfl, r7, hn7, B7⟩; have hb7 := hb6.below B7 hb6.lt; have hR7 := hR6.below B7; have hbw7 := hbw6.trans (B7.mono hbw6.size); obtain ⟨f0, f1, f2⟩ := hb7.facts; simp only [refC] at f1))
        | (go_at_call 25; ((with_reducible refine (HAl.out _ hR7).mono ?_); rintro e w8 ⟨A8, c8, rfl, r8, B8⟩; have hb8 := hb7.below B8 hb7.lt; have hR8 := hR7.below B8; have hn8 := hn7.below B8; have hbw8 := hbw7.trans (B8.mono hbw7.size); have r7' := (r7.old (by omega)).below B8 (fun _ hk => hk.2)))
        | (go_at_call 24; ((with_reducible refine (numbers_yes _ _ A7 A8 xs c7 c8 _ r7' r8 (by omega)).mono ?_); rintro e w9 ⟨rfl, j, rfl⟩)))
      all_goals
        have hn9 := hn8.drewN j
        have hb9 := hb8.drewN j
        have hR9 : Ref (w8.drewN j) (fun k => k ≠ p ∧ k ≠ m ∧ k ≠ g) R := ⟨hR8.grp.drewN j, hR8.its.drewN j, fun x hx => (hR8.bod x hx).drewN j⟩
        have hbw9 := below_drewN hbw8 j
        clear hn6 hb6 hR6 hbw6 d0 d1 d2 r7 hn7 B7 hb7 hR7 hbw7 f0 f1 f2 r8 B8 hb8 hR8 hn8 hbw8 r7' q0 q1 q2 HPt HDl HAl hmk
        generalize w8.drewN j = w9 at *
        obtain ⟨wo, rfl⟩ : ∃ wo : World, wo = wr := ⟨_, rfl⟩
        clear hlr hl9 hbz hbw5 hszr hge hk
        obtain ⟨q0, q1, q2⟩ := hb9.facts
        simp only [refC] at q1
        go_wp2
        have hits := hR9.its
        have hsm := hits.plain (by omega)
        have hcR1 : R.items.length ≤ N.items.length := by have := hag.count; omega
        have hcR2 : N.items.length ≤ R.items.length := by have := hag.count; omega
        have hbz9 := hbw9.size
        have HIT := Lib.hid hits; clear hits
        go_loopw [67] (fun i wr => ∃ k : Nat, k ≤ R.items.length ∧ i = .int .i64 k ∧ Net wr p (leftN N k) ∧ Fr (fun j => j = p ∨ j = m) w9 wr) (fun i _ => R.items.length - (intOf i).toNat)
        case atStart =>
          refine ⟨0, Nat.zero_le _, rfl, ?_, Fr.refl _ _⟩
          have e0 : leftN N 0 = grpN N [0, 0, 0, 0] := by simp [leftN, grpN]
          rw [e0]; exact hn9
        case round =>
          obtain ⟨k2, hk2, rfl, hnr, hFr⟩ := hrel
          have hszr := hFr.size
          by_cases hlt : k2 < R.items.length
          · have hlt' : (k2 : Int) < R.items.length := by omega
            obtain ⟨y, hgy⟩ : ∃ y, R.items[k2]? = some y := ⟨_, List.getElem?_eq_getElem hlt⟩
            obtain ⟨⟨id, x⟩, hgx⟩ : ∃ y, N.items[k2]? = some y := ⟨_, List.getElem?_eq_getElem (by omega)⟩
            have hkey : key (id, x) = keyR y := by
              have := congrArg (fun t => t[k2]?) hag.it
              simpa [hgx, hgy] using this
            have hep := hag.ep _ (List.mem_of_getElem? hgx)
            obtain ⟨xf, xt, xb, bb⟩ := x
            simp only [key, keyR, Prod.mk.injEq] at hkey
            obtain ⟨rfl, rfl, rfl, rfl⟩ := hkey
            have hdrop : N.items.drop k2 = (y.id, (⟨y.frm, y.to, y.body, bb⟩ : Pk)) :: N.items.drop (k2 + 1) := by
              rw [List.drop_eq_getElem_cons (by omega)]
              congr 1
              exact (List.getElem?_eq_some_iff.1 hgx).2
            have hix := fun W => run_indexAt2 (P := Try.prog) Try.underlying38 hi63 hi631 hsm R.ic k2 hlt W
            have hRr := hR9.fr hFr (fun k hk => by omega)
            have c0 : wr.cell? ⟨bk R.ia, ofs R.ia + k2 * 4, none⟩ = some (.int .i64 y.id) := (hRr.its.cell2 (k2 * 4 + 0) (by omega) (by omega)).trans (itcs_get _ _ _ _ hgy (by omega))
            have c1 : wr.cell? ⟨bk R.ia, ofs R.ia + k2 * 4 + 1, none⟩ = some (.int .i64 y.frm) := (hRr.its.cell2 (k2 * 4 + 1) (by omega) (by omega)).trans (itcs_get _ _ _ _ hgy (by omega))
            have c2 : wr.cell? ⟨bk R.ia, ofs R.ia + k2 * 4 + 2, none⟩ = some (.int .i64 y.to) := (hRr.its.cell2 (k2 * 4 + 2) (by omega) (by omega)).trans (itcs_get _ _ _ _ hgy (by omega))
            have c3 : wr.cell? ⟨bk R.ia, ofs R.ia + k2 * 4 + 3, none⟩ = some (.slice y.A y.n y.c) := (hRr.its.cell2 (k2 * 4 + 3) (by omega) (by omega)).trans (itcs_get _ _ _ _ hgy (by omega))
            have hyb := hRr.bod y (List.mem_of_getElem? hgy)
            have hxb : Blk wr bb 5 (bytesV y.body).toArray := hnr.body (y.id, ⟨y.frm, y.to, y.body, bb⟩) (by simp [leftN, hdrop])
            have hbp : bb ≠ p := hxb.ne_ hnr.blk (by decide)
            have hbm : bb ≠ m := by rw [← hNm]; exact (hnr.map.ne_blk hxb).symm
            have hcame := hag.came
            have HDv := Lib.hid (deliver_ok p (leftN N k2) y.id ⟨y.frm, y.to, y.body, bb⟩ (wr.alloc (.cells (itA y) 63)) (hnr.alloc _) (by simp [leftN, hdrop, iget]) (con_0000 _ _ hep.1 hep.2.1) (by simp only [leftN]; omega) (by simp only [leftN]; omega))
            have hleft : cameN (leftN N k2) y.id = leftN N (k2 + 1) := by
              simp [cameN, leftN, hdrop, idel]; omega
            rw [hleft] at HDv
            have g1 : Blk (wr.alloc (.cells (itA y) 63)) wr.heap.size 63 (itA y) := Blk.new wr 63 _
            have hpm : wr.heap.size ≠ p ∧ wr.heap.size ≠ m := by have := hnr.lts; simp only [leftN] at this; rw [hNm] at this; omega
            have hxb1 := hxb.alloc (.cells (itA y) 63)
            have hyb1 := hyb.alloc (.cells (itA y) 63)
            have hszr2 : wr.heap.size < (wr.alloc (.cells (itA y) 63)).heap.size := by simp
            have hFr1 := hFr.alloc (.cells (itA y) 63)
            clear hdrop hgx hgy hleft hxb hyb hRr hag hep hnr hFr
            go_wp2_with (first
              | (go_at_call 14; ((with_reducible refine HDv.out.mono ?_); rintro e w10 ⟨rfl, hn10, hF10⟩
                                 have hF10' : Fr (fun k => k = p ∨ k = m) (wr.alloc (.cells (itA y) 63)) w10 := by rw [← hNm]; exact hF10
                                 clear hF10
                                 have g10 := g1.fr hF10' (by omega)
                                 have hx10 := (hxb1.fr hF10' (by omega)).alloc (.cells (pkA ⟨y.frm, y.to, y.body, bb⟩) 31)
                                 have hy10 := (hyb1.fr hF10' (fun k hk => by omega)).alloc (.cells (pkA ⟨y.frm, y.to, y.body, bb⟩) 31)
                                 obtain ⟨t0, t1, t2⟩ := g10.facts
                                 simp only [itA] at t1
                                 simp only [pv]))
              | (go_at_call 20; ((with_reducible refine (same_yes y.frm y.to (some ⟨bb, 0, none⟩) y.A y.body.length y.n y.body.length y.c y.body _ _ _ (Reads.of_blkN hx10) (hy10.old (by omega)) (fun k hk hh => by have := hx10.lt; omega) (fun k hk hh => by have := hh.2; omega)).mono ?_); rintro e w11 ⟨rfl, hB11⟩)))
            exact ⟨⟨k2 + 1, by omega, by go_num, (hn10.alloc _).below hB11, ((hFr1.trans hF10').alloc _).trans (Fr.of_below hB11)⟩, by simp [intOf]; omega⟩
          · have hge : ¬ ((k2 : Int) < R.items.length) := by omega
            have hdr : (leftN N k2).items = [] := by simp only [leftN]; exact List.drop_eq_nil_of_le (by omega)
            have HPd := Lib.hid (by
              have := pending_ids p (leftN N k2) wr hnr (by rw [hdr]; simp) (by rw [hdr]; simp)
              rw [hdr] at this
              exact this)
            have hbwr : Below w.heap.size w wr := hbw9.trans (hFr.below (by omega) (fun k hk => by omega))
            clear hdr
            go_wp2_with (first
              | (go_at_call 18; ((with_reducible refine HPd.out.mono ?_); rintro e w10 ⟨A10, c10, rfl, -, -, hB10⟩))
              | (go_at_call 10; ((with_reducible refine (HA.out _).mono ?_); rintro e w11 ⟨rfl, hB11⟩)))
            go_ret
            have h10 := hbwr.trans (hB10.mono hbwr.size)
            exact ⟨rfl, h10.trans (hB11.mono h10.size)⟩
theorem partition_law (A : Option Addr) (c : Nat) (l : List ActS) (w : World) (h : ActsR w A l) :
    Calls Try.prog 9 #[.slice A l.length c] w (LawPost w) := by
  cases hf : fewB l with
  | false => exact partition_nil A c l w h hf
  | true => exact partition_ok_ A c l w h hf
end Go.Proofs.Ytgjkahndclijgaa

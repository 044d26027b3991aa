import Derived.Test.YtbhbamgnapcbaaaRefO
import Derived.Test.YtbhbamgnapcbaaaOpn1
import Derived.Deep.RegionHeld
namespace Go.Proofs.Ytbhbamgnapcbaaa
set_option linter.unusedVariables false
open Go.RowKit Go.Own Go.Quo Go.Wire
theorem JS.wider {w : World} {Z Z' : Nat → Prop} {p j : Nat} {recs : List (Int × List Int)} {dur : Int} {off : Bool} (h : JS w Z p j recs dur off) (hZ : ∀ k, Z k → Z' k) : JS w Z' p j recs dur off := by
  obtain ⟨A, c, Ar, cr, As, cs, rs, h1, h2⟩ := h
  exact ⟨A, c, Ar, cr, As, cs, rs, ⟨h1.fb, h1.fo, h1.jb, h1.ro, h1.so, hZ _ h1.zp, hZ _ h1.zj, fun g hg => hZ _ (h1.zf g hg), fun g hg => hZ _ (h1.zr g hg), fun g hg => hZ _ (h1.zs g hg), fun r hr => (h1.bd r hr).more (fun k hk => ⟨hZ _ hk.1, hk.2⟩)⟩, h2⟩
/-- The argument: records in memory as given. -/
structure RcA (w : World) (A : Option Addr) (l : List Rc) : Prop where
  r : Reads w (· < w.heap.size) 2 A l.length (l.flatMap rcL)
  n : l.length ≤ 140737488351232
  b : ∀ x ∈ l, Reads w (· < w.heap.size) 1 x.A x.body.length (bys x.body) ∧ Bytes x.body ∧ x.body.length ≤ 140737488351232 ∧ 0 ≤ x.kind ∧ x.kind < 256
set_option maxRecDepth 10000 in
set_option maxHeartbeats 4000000 in
theorem opens_law (A : Option Addr) (c : Nat) (l : List Rc) (w : World) (h : RcA w A l) :
    Calls Try.prog 3 #[.slice A l.length c] w fun e w' => e = .returned (.bool true) ∧ Below w.heap.size w w' := by
  have HAl := Lib.hid fun W => alive_any W
  have HSm := Lib.hid fun W (x : Reads W (· < W.heap.size) 2 A l.length (l.flatMap rcL)) => small_any W A c l x h.n (fun x hx => (h.b x hx).2.2.1)
  have HNw := Lib.hid fun W => storage_new W
  have HJo := Lib.hid fun W p x => jopen_empty W p (fun _ => False) x
  obtain ⟨i, hi, hz, hsz, hby⟩ := info_parts info33
  have hPl := h.r.plain (by omega)
  have hnil1 : ∀ (a : Addr) (W : World), (binOp .eql 36 (.pointer (some a)) (.pointer none)).run Try.prog W = .ok (.bool false) W := fun _ _ => by rfl
  have hnil2 : ∀ (W : World), (binOp .eql 36 (.pointer none) (.pointer none)).run Try.prog W = .ok (.bool true) W := fun _ => by rfl
  have HVn := Lib.hid fun W => vopen_none W
  have hR := h.r
  have HH := Lib.hid h
  have hln := h.n
  clear h
  go_enter Try.func3, Try.ntmps3
  go_wp2_with fail
  refine (HAl.out w).mono ?_
  rintro e w1 ⟨rfl, hB1⟩
  have s1 := hB1.size
  have hR1 := (hR.below hB1 (fun _ h => h)).more (B' := (· < w1.heap.size)) (fun k hk => by omega)
  go_wp2_with fail
  refine (HSm.out w1 hR1).mono ?_
  rintro e w2 ⟨rfl, hB2⟩
  have b2 : Below w.heap.size w w2 := hB1.trans (hB2.mono s1)
  have s2 := b2.size
  clear hR1
  cases hsm : smallB l 30 with
  | false =>
    go_wp2
    go_ret
    exact ⟨rfl, b2⟩
  | true =>
    have hl30 : l.length ≤ 30 := by unfold smallB at hsm; simp at hsm; omega
    have hs4 : sumB l ≤ 4000 := by unfold smallB at hsm; simp at hsm; omega
    have HBL := Lib.hid (show ∀ x ∈ l, x.body.length ≤ 4000 from fun x hx => Nat.le_trans (sumB_mem hx) hs4)
    clear hsm hs4
    go_wp2_with fail
    refine (HNw.out w2).mono ?_
    rintro e w3 ⟨rfl, hF3, hB3⟩
    have b3 := b2.trans (hB3.mono s2)
    have s3 := hB3.size
    go_wp2_with fail
    refine (HJo.out w3 _ hF3).mono ?_
    rintro e w4 ⟨j, rfl, hj4, hjs4, hf4⟩
    have b4 := b3.trans (hf4.below (B := w.heap.size) b3.size (fun k hk e => by omega))
    have hjs : JS w4 (fun k => w.heap.size ≤ k) w2.heap.size j [] 0 false := hjs4.wider (fun k hk => hk.elim (fun e => by omega) (fun e => e.elim (fun e => e.elim) (fun e => by omega)))
    clear hjs4 hF3
    go_wp2_with fail
    go_loopw [27] (fun vi wr => ∃ (k : Nat) (dur : Int), k ≤ l.length ∧ vi = .int .i64 k ∧ JS wr (fun k => w.heap.size ≤ k) w2.heap.size j ((l.take k).map recOf) dur false ∧ Below w.heap.size w wr) (fun vi _ => l.length - (intOf vi).toNat)
    case atStart => exact ⟨0, 0, Nat.zero_le _, rfl, by simpa using hjs, b4⟩
    case round =>
      obtain ⟨k, dur, hk, rfl, hjr, hbel⟩ := hrel
      have hsz' := hbel.size
      by_cases hlt : k < l.length
      · have hlt' : (k : Int) < l.length := by omega
        obtain ⟨x, hgx⟩ : ∃ x, l[k]? = some x := ⟨_, List.getElem?_eq_getElem hlt⟩
        have hxm := List.mem_of_getElem? hgx
        have hRr := hR.below hbel (fun _ h => h)
        have hix := fun W => run_indexAt2 (P := Try.prog) Try.underlying22 hi hsz hPl c k hlt W
        obtain ⟨c0, c1⟩ := rc_cells hRr hgx
        obtain ⟨hxr0, hxb, hxl, hk0, hk1⟩ := HH.out.b x hxm
        have hxl2 := HBL.out x hxm
        have hxr := (hxr0.below hbel (fun _ h => h)).more (B' := fun k => ¬ w.heap.size ≤ k) (fun k hk => by omega)
        have hjr2 := hjr.fr (w' := wr.alloc (.cells #[.int .u8 x.kind, .slice x.A x.body.length x.c] 33)) ((Fr.refl (fun _ => False) _).alloc _) (fun _ _ => id)
        have HTk := Lib.hid (show (l.take (k + 1)).map recOf = (l.take k).map recOf ++ [(x.kind, x.body)] by rw [List.take_add_one, hgx]; simp [recOf])
        have hfit : (encJ initS ((l.take k).map recOf ++ [(x.kind, x.body)])).length ≤ 16777216 := by
          rw [← HTk.out]
          have := encJ_len ((l.take (k + 1)).map recOf) initS (fun y hy => by
            obtain ⟨z, hz, rfl⟩ := List.mem_map.1 hy
            have := HBL.out z (List.mem_of_mem_take hz)
            simp only [recOf]; omega)
          rw [List.length_map, List.length_take] at this
          omega
        have HAp := Lib.hid (js_append _ _ w2.heap.size j _ dur x.kind x.A x.c x.body hjr2 hk0 hk1 hxb (by omega) (hxr.alloc (.cells #[.int .u8 x.kind, .slice x.A x.body.length x.c] 33)) hfit (by simp; omega))
        clear hfit hxr hxr0 hxb hjr2 hRr hgx hxm
        go_wp2_with fail
        refine HAp.out.mono ?_
        rintro e w6 ⟨rfl, hj6, hf6⟩
        have b6 := (hbel.alloc hsz' (.cells #[.int .u8 x.kind, .slice x.A x.body.length x.c] 33)).trans (hf6.below (B := w.heap.size) (by simp; omega) (fun k hk e => by omega))
        go_wp2
        exact ⟨⟨k + 1, dur, by omega, by go_num, by rw [HTk.out]; exact hj6.wider (fun k hk => hk.elim id (fun e => by simp at e; omega)), b6⟩, by simp [intOf]; omega⟩
      · have hk' : ¬ (k : Int) < l.length := by omega
        have he : k = l.length := by omega
        subst he
        rw [List.take_length] at hjr
        have HVo := Lib.hid (vopen_any wr _ w2.heap.size j (l.map recOf) dur hjr (by simp; omega) (fun y hy => by
            obtain ⟨z, hz, rfl⟩ := List.mem_map.1 hy
            have := HBL.out z hz
            exact ⟨(HH.out.b z hz).2.1, by simp only [recOf]; omega⟩))
        go_wp2_with fail
        refine HVo.out.mono ?_
        rintro e w7 ⟨hy7, hn7, hB7⟩
        have b7 := hbel.trans (hB7.mono hsz')
        have s7 := hB7.size
        have HRo := Lib.hid (ropen_any w7 A c l ((hR.below b7 (fun _ h => h)).more (fun k hk => by omega)) (by omega) (fun y hy => by
            have := HBL.out y hy
            obtain ⟨u1, u2, u3, -⟩ := HH.out.b y hy
            exact ⟨(u1.below b7 (fun _ h => h)).more (fun k hk => by omega), u2, by omega⟩))
        generalize rAll (l.map recOf) (0, -1) = res at *
        cases res with
        | none =>
          obtain rfl := hn7 rfl
          go_wp2_with fail
          refine HRo.out.mono ?_
          rintro e w8 ⟨-, hn8, hB8⟩
          obtain rfl := hn8 rfl
          have b8 := b7.trans (hB8.mono b7.size)
          go_wp2_with (go_at_call 13; ((with_reducible refine (HVn.out _).mono ?_); rintro e w9 ⟨rfl, rfl⟩))
          go_quiet (fail)
          go_wp2
          go_ret
          exact ⟨rfl, below_drewN (b8.alloc b8.size _) _⟩
        | some q =>
          obtain ⟨t, n⟩ := q
          obtain ⟨rfl, hb7⟩ := hy7 _ _ rfl
          go_wp2_with fail
          refine HRo.out.mono ?_
          rintro e w8 ⟨hy8, -, hB8⟩
          obtain rfl := hy8 _ _ rfl
          have b8 := b7.trans (hB8.mono b7.size)
          have hb8 := hb7.below hB8 hb7.lt
          go_wp2_with (go_at_call 13; ((with_reducible refine (HVn.out _).mono ?_); rintro e w9 ⟨rfl, rfl⟩))
          have hb9 := hb8.alloc (.cells #[.int .i64 t, .int .i64 n] 40)
          have m9 : Blk (w8.alloc (.cells #[.int .i64 t, .int .i64 n] 40)) w8.heap.size 40 #[.int .i64 t, .int .i64 n] := Blk.new w8 40 _
          have b9 := b8.alloc b8.size (.cells #[.int .i64 t, .int .i64 n] 40)
          generalize w8.alloc (.cells #[.int .i64 t, .int .i64 n] 40) = W9 at *
          obtain ⟨x0, x1, x2⟩ := m9.facts
          have HT9 := Lib.hid fun q => (term_b (W9.drewN q) j wr.heap.size t n (hb9.drewN q)).mono (fun e w' hh => And.intro hh.1 (⟨q, hh.2.symm⟩ : ∃ n, w' = W9.drewN n))
          have HF9 := Lib.hid fun q => (voted_b (W9.drewN q) j wr.heap.size t n (hb9.drewN q)).mono (fun e w' hh => And.intro hh.1 (⟨q, hh.2.symm⟩ : ∃ n, w' = W9.drewN n))
          go_quiet (first
            | (go_at_call 15; with_reducible exact HT9.out _)
            | (go_at_call 16; with_reducible exact HF9.out _))
          go_wp2
          go_ret
          exact ⟨rfl, below_drewN b9 _⟩
end Go.Proofs.Ytbhbamgnapcbaaa

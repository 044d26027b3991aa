import Derived.Test.YtgjkahndclijgaaLaw4
namespace Go.Proofs.Ytgjkahndclijgaa
set_option linter.unusedVariables false
open Go.RowKit Go.Own
theorem _root_.Go.Own.Reads.of_blkN {w : World} {b : Nat} {l : List Int} (h : Blk w b 5 (bytesV l).toArray) : Reads w (· = b) 1 (some ⟨b, 0, none⟩) l.length (bytesV l) := by
  have := Reads.of_blk (B := (· = b)) (n := l.length) (size := 1) h (by simp [bytesV]) rfl
  have e : ((bytesV l).toArray.toList.take (l.length * 1)) = bytesV l := List.take_of_length_le (by simp [bytesV])
  rw [e] at this; exact this
/-! ### The map 'sent' of the law beside the network -/
def sv (x : It) : Int × Value := (x.id, .agg (pkC x))
structure Sent (N : NetS) (L : List It) (k : Nat) : Prop where
  it : N.items.map key = L.map keyR
  up : (N.items.map (·.1)).Pairwise (· < ·)
  le : ∀ x ∈ N.items, x.1 ≤ N.last
  len : ∀ x ∈ N.items, x.2.body.length ≤ 200
  last : 0 ≤ N.last ∧ N.last ≤ k
  sent : 0 ≤ N.sent ∧ N.sent ≤ k
  came : 0 ≤ N.came ∧ N.came ≤ k
  lost : 0 ≤ N.lost ∧ N.lost ≤ k
  dbl : 0 ≤ N.dbl ∧ N.dbl ≤ k
  cnt : N.items.length ≤ k
theorem Sent.mono {N : NetS} {L : List It} {k : Nat} (h : Sent N L k) : Sent N L (k + 1) :=
  { h with
    last := ⟨h.last.1, by have := h.last.2; omega⟩
    sent := ⟨h.sent.1, by have := h.sent.2; omega⟩
    came := ⟨h.came.1, by have := h.came.2; omega⟩
    lost := ⟨h.lost.1, by have := h.lost.2; omega⟩
    dbl := ⟨h.dbl.1, by have := h.dbl.2; omega⟩
    cnt := Nat.le_succ_of_le h.cnt }
theorem kget_sv (L : List It) (id : Int) : kget (L.map sv) id = (rfind L id).map fun x => .agg (pkC x) := by
  unfold kget rfind
  rw [List.find?_map]
  cases h : List.find? ((fun x : Int × Value => x.1 == id) ∘ sv) L with
  | none => rw [show List.find? (fun x : It => x.id == id) L = none from h]; rfl
  | some x => rw [show List.find? (fun x : It => x.id == id) L = some x from h]; rfl
theorem kdel_sv (L : List It) (id : Int) : kdel (L.map sv) id = (L.eraseP (·.id == id)).map sv := by
  unfold kdel
  rw [List.eraseP_map]; rfl
theorem erase_key : ∀ (l : List (Int × Pk)) (r : List It) (id : Int), l.map key = r.map keyR → (idel l id).map key = (r.eraseP (·.id == id)).map keyR
  | [], [], _, _ => rfl
  | [], b :: r, _, h => by simp at h
  | a :: l, [], _, h => by simp at h
  | a :: l, b :: r, id, h => by
    simp only [List.map_cons, List.cons.injEq] at h
    have ih := erase_key l r id h.2
    have h1 := h.1
    simp only [key, keyR, Prod.mk.injEq] at h1
    unfold idel at ih ⊢
    rw [List.eraseP_cons, List.eraseP_cons, h1.1]
    cases hb : (b.id == id) with
    | true => simpa using h.2
    | false =>
      simp only [cond_false, List.map_cons]
      rw [ih, h.1]
theorem Sent.none_ {N : NetS} {L : List It} {k : Nat} (h : Sent N L k) {id : Int} (hx : iget N.items id = none) : rfind L id = none := by
  have h1 := find_key N.items id
  rw [h.it, find_keyR] at h1
  unfold iget at hx
  rw [Option.map_eq_none_iff] at hx
  rw [hx] at h1
  simpa using h1
theorem Sent.some_ {N : NetS} {L : List It} {k : Nat} (h : Sent N L k) {id : Int} {x : Pk} (hx : iget N.items id = some x) : ∃ y, rfind L id = some y ∧ y.frm = x.frm ∧ y.to = x.to ∧ y.body = x.body ∧ y ∈ L := by
  have h1 := find_key N.items id
  rw [h.it, find_keyR] at h1
  unfold iget at hx
  rw [Option.map_eq_some_iff] at hx
  obtain ⟨z, hz, rfl⟩ := hx
  rw [hz] at h1
  simp only [Option.map_some, Option.map_eq_some_iff] at h1
  obtain ⟨y, hy, e⟩ := h1
  simp only [keyR, key, Prod.mk.injEq] at e
  exact ⟨y, hy, e.2.1, e.2.2.1, e.2.2.2, List.mem_of_find?_eq_some hy⟩
/-- A new number is not in the map. -/
theorem Sent.fresh {N : NetS} {L : List It} {k : Nat} (h : Sent N L k) : rfind L (N.last + 1) = none := by
  refine h.none_ ?_
  unfold iget
  rw [Option.map_eq_none_iff, List.find?_eq_none]
  intro x hx
  have := h.le x hx
  simp; omega
theorem Sent.send {N : NetS} {L : List It} {k : Nat} (h : Sent N L k) (f t : Int) (body : List Int) (bb : Nat) (A : Option Addr) (n c : Nat) (hb : body.length ≤ 200) :
    Sent (sentN N ⟨f, t, body, bb⟩) (L ++ [⟨N.last + 1, f, t, A, n, c, body⟩]) (k + 1) := by
  have := h.last; have := h.sent; have := h.came; have := h.lost; have := h.dbl; have := h.cnt
  refine ⟨by simp [sentN, putN, h.it, key, keyR], snoc_up h.up h.le _, snoc_le h.le _, snoc_len h.len hb, ?_, ?_, ?_, ?_, ?_, ?_⟩
  all_goals simp [sentN, putN]; omega
theorem Sent.dup {N : NetS} {L : List It} {k : Nat} (h : Sent N L k) (f t : Int) (body : List Int) (bb : Nat) (A : Option Addr) (n c : Nat) (hb : body.length ≤ 200) :
    Sent (dupN N ⟨f, t, body, bb⟩) (L ++ [⟨N.last + 1, f, t, A, n, c, body⟩]) (k + 1) := by
  have := h.last; have := h.sent; have := h.came; have := h.lost; have := h.dbl; have := h.cnt
  refine ⟨by simp [dupN, putN, h.it, key, keyR], snoc_up h.up h.le _, snoc_le h.le _, snoc_len h.len hb, ?_, ?_, ?_, ?_, ?_, ?_⟩
  all_goals simp [dupN, putN]; omega
theorem Sent.drop {N : NetS} {L : List It} {k : Nat} (h : Sent N L k) {id : Int} {x : Pk} (hx : iget N.items id = some x) : Sent (lostN N id) (L.eraseP (·.id == id)) (k + 1) := by
  have := h.last; have := h.sent; have := h.came; have := h.lost; have := h.dbl; have := h.cnt
  have := idel_length hx
  refine ⟨erase_key _ _ id h.it, idel_up id h.up, fun y hy => h.le y (idel_mem hy), fun y hy => h.len y (idel_mem hy), ?_, ?_, ?_, ?_, ?_, ?_⟩
  all_goals simp [lostN]; omega
theorem Sent.give {N : NetS} {L : List It} {k : Nat} (h : Sent N L k) {id : Int} {x : Pk} (hx : iget N.items id = some x) : Sent (cameN N id) (L.eraseP (·.id == id)) (k + 1) := by
  have := h.last; have := h.sent; have := h.came; have := h.lost; have := h.dbl; have := h.cnt
  have := idel_length hx
  refine ⟨erase_key _ _ id h.it, idel_up id h.up, fun y hy => h.le y (idel_mem hy), fun y hy => h.len y (idel_mem hy), ?_, ?_, ?_, ?_, ?_, ?_⟩
  all_goals simp [cameN]; omega
theorem Sent.part {N : NetS} {L : List It} {k : Nat} (h : Sent N L k) (gs : List Int) : Sent { N with groups := gs } L (k + 1) :=
  ⟨h.it, h.up, h.le, h.len, h.mono.last, h.mono.sent, h.mono.came, h.mono.lost, h.mono.dbl, h.mono.cnt⟩
def svs (L : List It) : List (Int × Value) := L.map sv
theorem svs_length (L : List It) : (svs L).length = L.length := by simp [svs]
theorem Sent.count {N : NetS} {L : List It} {k : Nat} (h : Sent N L k) : L.length = N.items.length := by
  have := congrArg List.length h.it
  simpa using this.symm
theorem below_mput {B : Nat} {w w' : World} (h : Below B w w') {s : Nat} (hs : B ≤ s) (q : IntKind) (k : Int) (v : Value) : Below B w (mput w' s q k v) :=
  ⟨h.os, h.tape, h.output, by rw [size_mput]; exact h.size, fun j hj => (mput_far w' s q k v j (by omega)).trans (h.block j hj)⟩
theorem below_mdel {B : Nat} {w w' : World} (h : Below B w w') {s : Nat} (hs : B ≤ s) (q : IntKind) (k : Int) : Below B w (mdel w' s q k) :=
  ⟨h.os, h.tape, h.output, by rw [size_mdel]; exact h.size, fun j hj => (mdel_far w' s q k j (by omega)).trans (h.block j hj)⟩
theorem Net.mput_far {w : World} {p : Nat} {N : NetS} (h : Net w p N) {s : Nat} (hs : N.m ≠ s) (q : IntKind) (k : Int) (v : Value) : Net (mput w s q k v) p N :=
  ⟨h.blk.mput _ _ _ _, h.grp.mput _ _ _ _, h.map.mput_far hs _ _, fun x hx => (h.body x hx).mput _ _ _ _, h.apart⟩
theorem Net.mdel_far {w : World} {p : Nat} {N : NetS} (h : Net w p N) {s : Nat} (hs : N.m ≠ s) (q : IntKind) (k : Int) : Net (Own.mdel w s q k) p N :=
  ⟨h.blk.mdel _ _ _, h.grp.mdel _ _ _, h.map.mdel_far hs _, fun x hx => (h.body x hx).mdel _ _ _, h.apart⟩
theorem dstep {w W w3 : World} {p m s : Nat} {L : List It} (hF : Fr (fun j => j = p ∨ j = m) W w3) (hp : w.heap.size ≤ p) (hm : w.heap.size ≤ m) (hps : s ≠ p) (hms : s ≠ m) (hb : Below w.heap.size w W) (hmap : MapB W s .i64 (svs L)) (hL : ∀ y ∈ L, Reads W (· < w.heap.size) 1 y.A y.n (bytesV y.body)) :
    MapB w3 s .i64 (svs L) ∧ (∀ y ∈ L, Reads w3 (· < w.heap.size) 1 y.A y.n (bytesV y.body)) ∧ Below w.heap.size w w3 :=
  ⟨hmap.fr hF (by omega), fun y hy => (hL y hy).fr hF (fun k hk => by omega), hb.trans (hF.below hb.size (fun k hk => by omega))⟩
/-- What holds at every round's head. -/
def DRel (w : World) (p m g s k : Nat) (wr : World) : Prop :=
  ∃ N L, Net wr p N ∧ N.m = m ∧ N.g = g ∧ MapB wr s .i64 (svs L) ∧ Sent N L k ∧ (∀ x ∈ L, Reads wr (· < w.heap.size) 1 x.A x.n (bytesV x.body)) ∧ Below w.heap.size w wr
set_option maxRecDepth 10000 in
set_option maxHeartbeats 1000000 in
theorem delivers_nil (A : Option Addr) (c : Nat) (l : List ActS) (w : World) (h : ActsR w A l) (hf : fewB l = false) :
    Calls Try.prog 6 #[.slice A l.length c] w (LawPost w) := by
  have HF := Lib.hid (by
    have := few_any _ A c l w h.top h.len
    rw [hf] at this; exact this)
  have HA := Lib.hid awake_any
  clear h hf
  go_enter Try.func6, Try.ntmps6
  go_wp2_with (first
    | (go_at_call 19; ((with_reducible refine HF.out.mono ?_); rintro e w1 ⟨rfl, hb⟩))
    | (go_at_call 10; ((with_reducible refine (HA.out _).mono ?_); rintro e w2 ⟨rfl, hb2⟩)))
  go_ret
  exact ⟨rfl, hb.trans (hb2.mono hb.size)⟩
set_option maxRecDepth 10000 in
set_option maxHeartbeats 8000000 in
theorem delivers_ok (A : Option Addr) (c : Nat) (l : List ActS) (w : World) (h : ActsR w A l) (hf : fewB l = true) :
    Calls Try.prog 6 #[.slice A l.length c] w (LawPost w) := by
  obtain ⟨hl60, hsml⟩ := few_parts hf
  have HF := Lib.hid (by
    have := few_any _ A c l w h.top h.len
    rw [hf] at this; exact this)
  have HN := Lib.hid fun W => (show Calls Try.prog 11 #[.int .i64 4] W _ from new_good 4 W (by omega) (by omega))
  have HA := Lib.hid awake_any
  have hsm := h.top.plain (by omega)
  obtain ⟨i52, hi52, hi521⟩ := i52
  have HAs := Lib.hid hsml; clear hsml
  have HH := Lib.hid h
  have hmm := @run_makeMap Try.prog
  clear hf h
  go_enter Try.func6, Try.ntmps6
  go_wp2_with (first
    | (go_at_call 19; ((with_reducible refine HF.out.mono ?_); rintro e w1 ⟨rfl, hb1⟩))
    | (go_at_call 11; ((with_reducible refine (HN.out _).mono ?_); rintro e w2 ⟨rfl, hn2, hb2, hs2⟩; have HS2 := Lib.hid hs2; clear hs2)))
  have hs1 := hb1.size
  have hbw2 : Below w.heap.size w w2 := hb1.trans (hb2.mono hs1)
  have hs2 : w1.heap.size + 3 = w2.heap.size := HS2.out.symm
  clear HF HN hmm hb1 hb2 HS2
  have hsg : w.heap.size ≤ w1.heap.size := hs1
  have hD0 : DRel w (w1.heap.size + 2) (w1.heap.size + 1) w1.heap.size w2.heap.size 0 (w2.alloc (.map #[] 0)) := by
    refine ⟨net0 w1 4, [], hn2.alloc _, rfl, rfl, MapB.new w2 .i64, ?_, by simp, hbw2.alloc (by omega) _⟩
    exact ⟨rfl, by simp [net0], by simp [net0], by simp [net0], by simp [net0], by simp [net0], by simp [net0], by simp [net0], by simp [net0], by simp [net0]⟩
  clear hn2 hbw2
  generalize hpp : w1.heap.size + 2 = p at *
  generalize hmm2 : w1.heap.size + 1 = m at *
  generalize hgg : w1.heap.size = g at *
  generalize hss : w2.heap.size = s at *
  have hord : w.heap.size ≤ g ∧ g < m ∧ m < p ∧ p < s := by omega
  clear hpp hmm2 hgg hss hs2 hsg hs1
  go_loopw [37] (fun i wr => ∃ k : Nat, k ≤ l.length ∧ i = .int .i64 k ∧ DRel w p m g s k wr) (fun i _ => l.length - (intOf i).toNat)
  case atStart => exact ⟨0, Nat.zero_le _, rfl, hD0⟩
  case round =>
    clear hD0
    obtain ⟨k, hk, rfl, N, L, hn, hNm, hNg, hmap, hst, hLr, hbel⟩ := hrel
    have HNm := Lib.hid hNm
    have HNg := Lib.hid hNg
    have hsz := hbel.size
    have hmlt := hmap.lt
    by_cases hlt : k < l.length
    · have hlt' : (k : Int) < l.length := by omega
      obtain ⟨x, hgx⟩ : ∃ x, l[k]? = some x := ⟨_, List.getElem?_eq_getElem hlt⟩
      have hix := fun W => run_indexAt2 (P := Try.prog) Try.underlying36 hi52 hi521 hsm c k hlt W
      obtain ⟨c0, c1, c2, c3, c4, c5⟩ := acs_cells (HH.out.top.below hbel (fun _ h => h)) hgx
      have hxm := List.mem_of_getElem? hgx
      have hx200 := HAs.out x hxm
      have hb1 := hbel.alloc hsz (.cells (actC x) 52)
      have hxb := (HH.out.body x hxm).below hb1 (fun _ h => h)
      have hxg := (HH.out.grp x hxm).below hb1 (fun _ h => h)
      have hn1 := hn.alloc (.cells (actC x) 52)
      have hmap1 := hmap.alloc (.cells (actC x) 52)
      have g1 : Blk (wr.alloc (.cells (actC x) 52)) wr.heap.size 52 (actC x) := Blk.new wr 52 _
      have hLr1 := Lib.hid fun y (hy : y ∈ L) => (hLr y hy).alloc (.cells (actC x) 52)
      have hlts := hn.lts
      have hwne : wr.heap.size ≠ p ∧ wr.heap.size ≠ m ∧ wr.heap.size ≠ g ∧ wr.heap.size ≠ s := by rw [hNm, hNg] at hlts; omega
      have hl := hst.last; have hse := hst.sent; have hca := hst.came; have hlo := hst.lost; have hdb := hst.dbl; have hcnt := hst.cnt
      have HX := Lib.hid hgx
      clear hgx hn hmap hLr
      by_cases k0 : x.kind = 0
      · have b0 : (x.kind == 0) = true := by simp [k0]
        clear k0
        cases hso : sendOk N x.frm x.tgt with
        | false =>
          have HC := Lib.hid (send_bad p N x.frm x.tgt x.A x.n x.c (wr.alloc (.cells (actC x) 52)) hn1 hso)
          clear hNm hNg hso
          go_wp2_with (
            (go_at_call 12; ((with_reducible refine HC.out.mono ?_); rintro e w3 ⟨rfl, hn3, hB3⟩)))
          go_roundw
          case rel => exact ⟨k + 1, by omega, by go_num, N, L, hn3, HNm.out, HNg.out, hmap1.below hB3 hmap1.lt, hst.mono, fun y hy => (hLr1.out y hy).below hB3 (fun j hj => by simp; omega), hb1.trans (hB3.mono hb1.size)⟩
          case measure => simp [intOf]; omega
        | true =>
          have hbl : x.body.length = x.n := by have := hxb.1; simpa [bytesV] using this
          have HC := Lib.hid (send_ok p N _ x.frm x.tgt x.A x.n x.c x.body (wr.alloc (.cells (actC x) 52)) hn1 hso hxb (by omega) hl.1 (by omega) hst.le (fun j hj hB => by simp at hj; omega) (by omega) hse.1 (by omega))
          have HL := Lib.hid (fun bb => hst.send x.frm x.tgt x.body bb x.A x.n x.c (by omega))
          have hkn : kget (svs L) (N.last + 1) = none := by unfold svs; rw [kget_sv, hst.fresh]; rfl
          have hlk := fun (W : World) (h : MapB W s .i64 (svs L)) => by
            have := MapB.lookup (P := Try.prog) h Try.underlying50 Try.underlying2 zero31 (N.last + 1) true
            rw [hkn] at this
            exact this
          simp only [Option.getD_none, Option.isSome_none, if_true] at hlk
          have hup := fun (W : World) (h : MapB W s .i64 (svs L)) => MapB.update (P := Try.prog) h Try.underlying50 Try.underlying2 (N.last + 1)
          have hput : Hid (kput (svs L) (N.last + 1) (.agg (pkC ⟨N.last + 1, x.frm, x.tgt, x.A, x.n, x.c, x.body⟩)) = svs (L ++ [⟨N.last + 1, x.frm, x.tgt, x.A, x.n, x.c, x.body⟩])) := by
            show _ = _
            rw [kput_new]
            · simp [svs, sv]
            · intro y hy e
              obtain ⟨z, hz, rfl⟩ := List.mem_map.1 hy
              have := List.find?_eq_none.1 hst.fresh z hz
              simp at this
              exact this e
          have HBL := Lib.hid hbl
          clear hNm hNg hso hkn hbl
          go_wp2_with fail
          refine HC.out.mono ?_
          rintro e w3 ⟨rfl, ⟨bb, hbb, hn3⟩, hF3⟩
          have hF3' : Fr (fun j => j = p ∨ j = m) (wr.alloc (.cells (actC x) 52)) w3 := by rw [← HNm.out]; exact hF3
          clear hF3
          have g3 := g1.fr hF3' (by omega)
          have hmap3 := hmap1.fr hF3' (by omega)
          have hmlt3 := hmap3.lt
          obtain ⟨t0, t1, t2⟩ := g3.facts
          simp only [actC] at t1
          go_wp2
          obtain ⟨-, hL3, hB3⟩ := dstep hF3' (by omega) (by omega) (by omega) (by omega) hb1 hmap1 hLr1.out
          refine ⟨⟨k + 1, by omega, by go_num, sentN N ⟨x.frm, x.tgt, x.body, bb⟩, L ++ [⟨N.last + 1, x.frm, x.tgt, x.A, x.n, x.c, x.body⟩], (hn3.alloc _).mput_far (by show N.m ≠ s; rw [HNm.out]; omega) _ _ _, HNm.out, HNg.out, ?_, HL.out bb, ?_, below_mput (hB3.alloc hB3.size _) (by omega) _ _ _⟩, by simp [intOf]; omega⟩
          · rw [← hput.out]
            exact (hmap3.alloc _).put _ _
          · intro y hy
            rcases List.mem_append.1 hy with hy | hy
            · exact ((hL3 y hy).alloc _).mput _ _ _ _
            · simp at hy; subst hy
              exact ((hxb.fr hF3' (fun j hj => by omega)).alloc _).mput _ _ _ _
      by_cases k1 : x.kind = 1
      · have b0 : (x.kind == 0) = false := by simp [k0]
        have b1 : (x.kind == 1) = true := by simp [k1]
        clear k0 k1
        cases hig : iget N.items x.id with
        | none =>
          have HC := Lib.hid (deliver_no p N x.id (wr.alloc (.cells (actC x) 52)) hn1 hig)
          clear hNm hNg hig
          go_wp2_with (
            (go_at_call 14; ((with_reducible refine HC.out.mono ?_); rintro e w3 ⟨rfl, hn3, hB3⟩)))
          have hB3' := hb1.trans (hB3.mono hb1.size)
          go_roundw
          case rel => exact ⟨k + 1, by omega, by go_num, N, L, hn3.alloc _, HNm.out, HNg.out, (hmap1.below hB3 hmap1.lt).alloc _, hst.mono, fun y hy => ((hLr1.out y hy).below hB3 (fun j hj => by simp; omega)).alloc _, hB3'.alloc hB3'.size _⟩
          case measure => simp [intOf]; omega
        | some z =>
          cases hcn : conB N.groups z.frm z.to with
          | false =>
            have HC := Lib.hid (deliver_cut p N x.id z (wr.alloc (.cells (actC x) 52)) hn1 hig hcn)
            clear hNm hNg hig hcn
            go_wp2_with (
              (go_at_call 14; ((with_reducible refine HC.out.mono ?_); rintro e w3 ⟨rfl, hn3, hB3⟩)))
            have hB3' := hb1.trans (hB3.mono hb1.size)
            go_roundw
            case rel => exact ⟨k + 1, by omega, by go_num, N, L, hn3.alloc _, HNm.out, HNg.out, (hmap1.below hB3 hmap1.lt).alloc _, hst.mono, fun y hy => ((hLr1.out y hy).below hB3 (fun j hj => by simp; omega)).alloc _, hB3'.alloc hB3'.size _⟩
            case measure => simp [intOf]; omega
          | true =>
            obtain ⟨y, hy, e1, e2, e3, hyL⟩ := hst.some_ hig
            obtain ⟨zf, zt, zb, zz⟩ := z
            simp only at e1 e2 e3 hcn
            subst e1 e2 e3
            have hzb : Blk (wr.alloc (.cells (actC x) 52)) zz 5 (bytesV y.body).toArray := hn1.body _ (iget_mem hig)
            have hzp : zz ≠ p := hzb.ne_ hn1.blk (by decide)
            have hzm : zz ≠ m := by rw [← hNm]; exact (hn1.map.ne_blk hzb).symm
            have HC := Lib.hid (deliver_ok p N x.id ⟨y.frm, y.to, y.body, zz⟩ (wr.alloc (.cells (actC x) 52)) hn1 hig hcn hca.1 (by omega))
            have HL := Lib.hid (hst.give hig)
            have hky : kget (svs L) x.id = some (.agg (pkC y)) := by unfold svs; rw [kget_sv, hy]; rfl
            have hlk := fun (W : World) (h : MapB W s .i64 (svs L)) => by
              have := MapB.lookup (P := Try.prog) h Try.underlying50 Try.underlying2 zero31 x.id true
              rw [hky] at this
              exact this
            simp only [Option.getD_some, Option.isSome_some, if_true] at hlk
            have hdl := fun (W : World) (ty K' : TypeId) (h : MapB W s .i64 (svs L)) => MapB.delete (P := Try.prog) h Try.underlying50 Try.underlying2 x.id ty K'
            have HYL := Lib.hid hyL
            have HCN := Lib.hid fun W (hn : Net W p (cameN N x.id)) => connected_b p y.frm y.to (cameN N x.id) W hn true hcn
            clear hNm hNg hig hky hy hyL hcn
            go_wp2_with fail
            refine HC.out.mono ?_
            rintro e w3 ⟨rfl, hn3, hF3⟩
            have hF3' : Fr (fun j => j = p ∨ j = m) (wr.alloc (.cells (actC x) 52)) w3 := by rw [← HNm.out]; exact hF3
            clear hF3
            have g3 := g1.fr hF3' (by omega)
            have hmap3 := hmap1.fr hF3' (by omega)
            have hmlt3 := hmap3.lt
            have hzb3 := hzb.fr hF3' (by omega)
            obtain ⟨hm3, hL3, hB3⟩ := dstep hF3' (by omega) (by omega) (by omega) (by omega) hb1 hmap1 hLr1.out
            have hyb3 := hL3 y HYL.out
            obtain ⟨t0, t1, t2⟩ := g3.facts
            simp only [actC] at t1
            simp only [pv]
            have HSm := Lib.hid (same_yes y.frm y.to (some ⟨zz, 0, none⟩) y.A y.body.length y.n y.body.length y.c y.body _ _ _ (Reads.of_blkN ((hzb3.alloc (.cells #[.int .i64 y.frm, .int .i64 y.to, .slice (some ⟨zz, 0, none⟩) y.body.length y.body.length] 31)).alloc (.cells (pkC y) 31))) (((hyb3.alloc (.cells #[.int .i64 y.frm, .int .i64 y.to, .slice (some ⟨zz, 0, none⟩) y.body.length y.body.length] 31)).alloc (.cells (pkC y) 31)).old (by omega)) (fun k hk hh => by have := hzb3.lt; simp at hk; omega) (fun k hk hh => by have := hh.2; omega))
            have q12 : Blk ((w3.alloc (.cells #[.int .i64 y.frm, .int .i64 y.to, .slice (some ⟨zz, 0, none⟩) y.body.length y.body.length] 31)).alloc (.cells (pkC y) 31)) w3.heap.size 31 #[.int .i64 y.frm, .int .i64 y.to, .slice (some ⟨zz, 0, none⟩) y.body.length y.body.length] := (Blk.new w3 31 _).alloc _
            have q7 := (g3.alloc (.cells #[.int .i64 y.frm, .int .i64 y.to, .slice (some ⟨zz, 0, none⟩) y.body.length y.body.length] 31)).alloc (.cells (pkC y) 31)
            have qn := (hn3.alloc (.cells #[.int .i64 y.frm, .int .i64 y.to, .slice (some ⟨zz, 0, none⟩) y.body.length y.body.length] 31)).alloc (.cells (pkC y) 31)
            have qm := (hmap3.alloc (.cells #[.int .i64 y.frm, .int .i64 y.to, .slice (some ⟨zz, 0, none⟩) y.body.length y.body.length] 31)).alloc (.cells (pkC y) 31)
            have qL : ∀ u ∈ L, Reads ((w3.alloc (.cells #[.int .i64 y.frm, .int .i64 y.to, .slice (some ⟨zz, 0, none⟩) y.body.length y.body.length] 31)).alloc (.cells (pkC y) 31)) (· < w.heap.size) 1 u.A u.n (bytesV u.body) := fun u hu => ((hL3 u hu).alloc _).alloc _
            have QL := Lib.hid qL; clear qL
            have qb := (hB3.alloc hB3.size (.cells #[.int .i64 y.frm, .int .i64 y.to, .slice (some ⟨zz, 0, none⟩) y.body.length y.body.length] 31)).alloc (by have := hB3.size; simp; omega) (.cells (pkC y) 31)
            have QB := Lib.hid qb
            have HL3 := Lib.hid hL3
            clear hL3 hn1 hmap1 g1 hxb hxg
            go_wp2_with fail
            refine HSm.out.mono ?_
            rintro e w4 ⟨rfl, hB4⟩
            have r12 := q12.below hB4 q12.lt
            have r7 := q7.below hB4 q7.lt
            have rn := qn.below hB4
            have rm := qm.below hB4 qm.lt
            have rml := rm.lt
            have rb := QB.out.trans (hB4.mono QB.out.size)
            obtain ⟨v0, v1, v2⟩ := r12.facts
            obtain ⟨y0, y1, y2⟩ := r7.facts
            simp only [actC] at y1
            have RL := Lib.hid fun u (hu : u ∈ L) => (QL.out u hu).below hB4 (fun j hj => by have := QB.out.size; omega)
            have HCN4 := Lib.hid (HCN.out w4 rn)
            clear q12 q7 qn qm r12 r7 g3 hm3 t0 t1 t2
            go_wp2_with fail
            refine HCN4.out.mono ?_
            rintro e w5 ⟨rfl, j, rfl⟩
            go_wp2
            refine ⟨⟨k + 1, by omega, by go_num, cameN N x.id, L.eraseP (·.id == x.id), ?_, HNm.out, HNg.out, ?_, HL.out, ?_, ?_⟩, by simp [intOf]; omega⟩
            · exact (rn.mdel_far (by show N.m ≠ s; rw [HNm.out]; omega) _ _).drewN j
            · have := rm.del x.id
              unfold svs at this ⊢
              rw [kdel_sv] at this
              exact this.drewN j
            · intro u hu
              exact ((RL.out u (List.mem_of_mem_eraseP hu)).mdel _ _ _).drewN j
            · exact below_drewN (below_mdel rb (by omega) _ _) j
      by_cases k2 : x.kind = 2
      · have b0 : (x.kind == 0) = false := by simp [k0]
        have b1 : (x.kind == 1) = false := by simp [k1]
        have b2 : (x.kind == 2) = true := by simp [k2]
        clear k0 k1 k2
        cases hig : iget N.items x.id with
        | none =>
          have HC := Lib.hid (drop_no p N x.id (wr.alloc (.cells (actC x) 52)) hn1 hig)
          clear hNm hNg hig
          go_wp2_with (
            (go_at_call 21; ((with_reducible refine HC.out.mono ?_); rintro e w3 ⟨rfl, hn3, hB3⟩)))
          go_roundw
          case rel => exact ⟨k + 1, by omega, by go_num, N, L, hn3, HNm.out, HNg.out, hmap1.below hB3 hmap1.lt, hst.mono, fun y hy => (hLr1.out y hy).below hB3 (fun j hj => by simp; omega), hb1.trans (hB3.mono hb1.size)⟩
          case measure => simp [intOf]; omega
        | some z =>
          have HC := Lib.hid (drop_ok p N x.id z (wr.alloc (.cells (actC x) 52)) hn1 hig hlo.1 (by omega))
          have HL := Lib.hid (hst.drop hig)
          have hdl := fun (W : World) (ty K' : TypeId) (h : MapB W s .i64 (svs L)) => MapB.delete (P := Try.prog) h Try.underlying50 Try.underlying2 x.id ty K'
          clear hNm hNg hig
          go_wp2_with fail
          refine HC.out.mono ?_
          rintro e w3 ⟨rfl, hn3, hF3⟩
          have hF3' : Fr (fun j => j = p ∨ j = m) (wr.alloc (.cells (actC x) 52)) w3 := by rw [← HNm.out]; exact hF3
          clear hF3
          have g3 := g1.fr hF3' (by omega)
          have hmap3 := hmap1.fr hF3' (by omega)
          have hmlt3 := hmap3.lt
          obtain ⟨t0, t1, t2⟩ := g3.facts
          simp only [actC] at t1
          go_wp2
          obtain ⟨-, hL3, hB3⟩ := dstep hF3' (by omega) (by omega) (by omega) (by omega) hb1 hmap1 hLr1.out
          refine ⟨⟨k + 1, by omega, by go_num, lostN N x.id, L.eraseP (·.id == x.id), hn3.mdel_far (by show N.m ≠ s; rw [HNm.out]; omega) _ _, HNm.out, HNg.out, ?_, HL.out, ?_, below_mdel hB3 (by omega) _ _⟩, by simp [intOf]; omega⟩
          · have := hmap3.del x.id
            unfold svs at this ⊢
            rw [kdel_sv] at this
            exact this
          · intro y hy
            exact (hL3 y (List.mem_of_mem_eraseP hy)).mdel _ _ _
      by_cases k3 : x.kind = 3
      · have b0 : (x.kind == 0) = false := by simp [k0]
        have b1 : (x.kind == 1) = false := by simp [k1]
        have b2 : (x.kind == 2) = false := by simp [k2]
        have b3 : (x.kind == 3) = true := by simp [k3]
        clear k0 k1 k2 k3
        cases hig : iget N.items x.id with
        | none =>
          have HC := Lib.hid (dup_no p N x.id (wr.alloc (.cells (actC x) 52)) hn1 hig)
          clear hNm hNg hig
          go_wp2_with (
            (go_at_call 13; ((with_reducible refine HC.out.mono ?_); rintro e w3 ⟨rfl, hn3, hB3⟩)))
          go_roundw
          case rel => exact ⟨k + 1, by omega, by go_num, N, L, hn3, HNm.out, HNg.out, hmap1.below hB3 hmap1.lt, hst.mono, fun y hy => (hLr1.out y hy).below hB3 (fun j hj => by simp; omega), hb1.trans (hB3.mono hb1.size)⟩
          case measure => simp [intOf]; omega
        | some z =>
          have hzl := hst.len _ (iget_mem hig)
          simp only at hzl
          obtain ⟨y, hy, e1, e2, e3, hyL⟩ := hst.some_ hig
          obtain ⟨zf, zt, zb, zz⟩ := z
          simp only at e1 e2 e3 hzl
          subst e1 e2 e3
          have HC := Lib.hid (dup_ok p N x.id ⟨y.frm, y.to, y.body, zz⟩ (wr.alloc (.cells (actC x) 52)) hn1 hig (by simp only; omega) hl.1 (by omega) hst.le hdb.1 (by omega))
          have HL := Lib.hid (fun bb => hst.dup y.frm y.to y.body bb y.A y.n y.c hzl)
          have hkn : kget (svs L) (N.last + 1) = none := by unfold svs; rw [kget_sv, hst.fresh]; rfl
          have hlk := fun (W : World) (h : MapB W s .i64 (svs L)) => by
            have := MapB.lookup (P := Try.prog) h Try.underlying50 Try.underlying2 zero31 (N.last + 1) true
            rw [hkn] at this
            exact this
          simp only [Option.getD_none, Option.isSome_none, if_true] at hlk
          have hky : kget (svs L) x.id = some (.agg (pkC y)) := by unfold svs; rw [kget_sv, hy]; rfl
          have hlk2 := fun (W : World) (h : MapB W s .i64 (svs L)) => by
            have := MapB.lookup (P := Try.prog) h Try.underlying50 Try.underlying2 zero31 x.id false
            rw [hky] at this
            exact this
          simp only [Option.getD_some, Option.isSome_some, Bool.false_eq_true, if_false] at hlk2
          have hup := fun (W : World) (h : MapB W s .i64 (svs L)) => MapB.update (P := Try.prog) h Try.underlying50 Try.underlying2 (N.last + 1)
          have hput : Hid (kput (svs L) (N.last + 1) (.agg (pkC y)) = svs (L ++ [⟨N.last + 1, y.frm, y.to, y.A, y.n, y.c, y.body⟩])) := by
            show _ = _
            rw [kput_new]
            · simp [svs, sv]
            · intro y hy e
              obtain ⟨z, hz, rfl⟩ := List.mem_map.1 hy
              have := List.find?_eq_none.1 hst.fresh z hz
              simp at this
              exact this e
          have HYL := Lib.hid hyL
          clear hNm hNg hig hkn hky hy hyL
          go_wp2_with fail
          refine HC.out.mono ?_
          rintro e w3 ⟨rfl, ⟨bb, hbb, hn3⟩, hF3⟩
          have hF3' : Fr (fun j => j = p ∨ j = m) (wr.alloc (.cells (actC x) 52)) w3 := by rw [← HNm.out]; exact hF3
          clear hF3
          have g3 := g1.fr hF3' (by omega)
          have hmap3 := hmap1.fr hF3' (by omega)
          have hmlt3 := hmap3.lt
          obtain ⟨t0, t1, t2⟩ := g3.facts
          simp only [actC] at t1
          go_wp2
          obtain ⟨-, hL3, hB3⟩ := dstep hF3' (by omega) (by omega) (by omega) (by omega) hb1 hmap1 hLr1.out
          refine ⟨⟨k + 1, by omega, by go_num, dupN N ⟨y.frm, y.to, y.body, bb⟩, L ++ [⟨N.last + 1, y.frm, y.to, y.A, y.n, y.c, y.body⟩], (hn3.alloc _).mput_far (by show N.m ≠ s; rw [HNm.out]; omega) _ _ _, HNm.out, HNg.out, ?_, HL.out bb, ?_, below_mput (hB3.alloc hB3.size _) (by omega) _ _ _⟩, by simp [intOf]; omega⟩
          · rw [← hput.out]
            exact (hmap3.alloc _).put _ _
          · intro u hu
            rcases List.mem_append.1 hu with hu | hu
            · exact ((hL3 u hu).alloc _).mput _ _ _ _
            · simp at hu; subst hu
              exact ((hL3 y HYL.out).alloc _).mput _ _ _ _
      by_cases k4 : x.kind = 4
      · have b0 : (x.kind == 0) = false := by simp [k0]
        have b1 : (x.kind == 1) = false := by simp [k1]
        have b2 : (x.kind == 2) = false := by simp [k2]
        have b3 : (x.kind == 3) = false := by simp [k3]
        have b4 : (x.kind == 4) = true := by simp [k4]
        clear k0 k1 k2 k3 k4
        by_cases hgn : x.gn = N.groups.length
        · have HC := Lib.hid (partition_ok p N _ x.GA x.gn x.gc x.groups (wr.alloc (.cells (actC x) 52)) hn1 hgn hxg)
          clear hNm hNg hgn
          go_wp2_with fail
          refine HC.out.mono ?_
          rintro e w3 ⟨rfl, hn3, hF3⟩
          have hF3' : Fr (fun j => j = g) (wr.alloc (.cells (actC x) 52)) w3 := by rw [← HNg.out]; exact hF3
          clear hF3
          go_wp2
          refine ⟨⟨k + 1, by omega, by go_num, _, L, hn3, HNm.out, HNg.out, hmap1.fr hF3' (by omega), hst.part _, fun y hy => (hLr1.out y hy).fr hF3' (fun j hj => by omega), hb1.trans (hF3'.below hb1.size (fun j hj => by omega))⟩, by simp [intOf]; omega⟩
        · have HC := Lib.hid (partition_bad p N x.GA x.gn x.gc (wr.alloc (.cells (actC x) 52)) hn1 hgn)
          clear hNm hNg hgn
          go_wp2_with fail
          refine HC.out.mono ?_
          rintro e w3 ⟨rfl, rfl⟩
          go_wp2
          refine ⟨⟨k + 1, by omega, by go_num, N, L, hn1, HNm.out, HNg.out, hmap1, hst.mono, hLr1.out, hb1⟩, by simp [intOf]; omega⟩
      have b0 : (x.kind == 0) = false := by simp [k0]
      have b1 : (x.kind == 1) = false := by simp [k1]
      have b2 : (x.kind == 2) = false := by simp [k2]
      have b3 : (x.kind == 3) = false := by simp [k3]
      have b4 : (x.kind == 4) = false := by simp [k4]
      clear k0 k1 k2 k3 k4 hNm hNg
      go_wp2
      go_roundw
      case rel => exact ⟨k + 1, by omega, by go_num, N, L, hn1, HNm.out, HNg.out, hmap1, hst.mono, hLr1.out, hb1⟩
      case measure => simp [intOf]; omega
    · have hge : ¬ ((k : Int) < l.length) := by omega
      have hcnt := hst.cnt
      have HPd := Lib.hid (pending_any p N wr hn (by omega))
      have hln := fun (W : World) (ty : TypeId) (h : MapB W s .i64 (svs L)) => by
        have := MapB.length (P := Try.prog) h Try.underlying50 ty
        rw [svs_length, hst.count] at this
        exact this
      clear hNm hNg
      go_wp2_with fail
      refine HPd.out.mono ?_
      rintro e w3 ⟨A3, c3, d3, rfl, -, -, -, hB3⟩
      have hmap3 := hmap.below hB3 hmap.lt
      go_wp2_with (
        (go_at_call 10; ((with_reducible refine (HA.out _).mono ?_); rintro e w4 ⟨rfl, hB4⟩)))
      go_ret
      have h3 := hbel.trans (hB3.mono hsz)
      exact ⟨rfl, h3.trans (hB4.mono h3.size)⟩
theorem delivers_law (A : Option Addr) (c : Nat) (l : List ActS) (w : World) (h : ActsR w A l) :
    Calls Try.prog 6 #[.slice A l.length c] w (LawPost w) := by
  cases hf : fewB l with
  | false => exact delivers_nil A c l w h hf
  | true => exact delivers_ok A c l w h hf
end Go.Proofs.Ytgjkahndclijgaa

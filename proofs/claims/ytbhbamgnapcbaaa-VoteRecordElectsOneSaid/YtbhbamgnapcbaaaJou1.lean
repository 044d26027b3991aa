import Derived.Test.YtbhbamgnapcbaaaSto
import Derived.Deep.RegionLaw
namespace Go.Wire
def le8 (s : Int) : List Int := (List.range 8).map (byteAt s)
def encR (prev kind : Int) (body : List Int) : List Int := encI (body.length : Int) ++ [kind] ++ body ++ le8 (chF prev kind body)
def leTo (s : Int) (k : Nat) : List Int := (List.range k).map (byteAt s)
theorem leTo_succ (s : Int) (k : Nat) : leTo s (k + 1) = leTo s k ++ [byteAt s k] := by
  unfold leTo
  rw [List.range_succ, List.map_append]; rfl
theorem leTo_len (s : Int) (k : Nat) : (leTo s k).length = k := by simp [leTo]
end Go.Wire
namespace Go.Proofs.Ytbhbamgnapcbaaa
set_option linter.unusedVariables false
open Go.RowKit Go.Own Go.Quo Go.Wire
abbrev recV (kind : Int) (A : Option Addr) (n c : Nat) : Value := .agg #[.int .u8 kind, .slice A n c]
abbrev recC (kind : Int) (A : Option Addr) (n c : Nat) : Array Value := #[.int .u8 kind, .slice A n c]
set_option maxRecDepth 10000 in
set_option maxHeartbeats 1000000 in
theorem clone_any (B : Nat → Prop) (kind : Int) (A : Option Addr) (c : Nat) (body : List Int) (w : World) (h : Reads w B 1 A body.length (bys body)) (hl : body.length ≤ 1000000) :
    Calls Try.prog 33 #[recV kind A body.length c] w fun e w' => ∃ A' c', e = .returned (recV kind A' body.length c') ∧ Reads w' (w.heap.size ≤ ·) 1 A' body.length (bys body) ∧ Below w.heap.size w w' := by
  have h0 := (h.alloc (.cells (recC kind A body.length c) 35)).alloc (.cells #[.int .u8 0, .slice none 0 0] 35)
  have g1 : Blk ((w.alloc (.cells (recC kind A body.length c) 35)).alloc (.cells #[.int .u8 0, .slice none 0 0] 35)) w.heap.size 35 (recC kind A body.length c) := (Blk.new w 35 _).alloc _
  have g2 : Blk ((w.alloc (.cells (recC kind A body.length c) 35)).alloc (.cells #[.int .u8 0, .slice none 0 0] 35)) (w.heap.size + 1) 35 #[.int .u8 0, .slice none 0 0] := by simpa using Blk.new (w.alloc (.cells (recC kind A body.length c) 35)) 35 #[.int .u8 0, .slice none 0 0]
  have b1 : Below w.heap.size w ((w.alloc (.cells (recC kind A body.length c) 35)).alloc (.cells #[.int .u8 0, .slice none 0 0] 35)) := ((Below.refl _ _).alloc (Nat.le_refl _) _).alloc (by simp) _
  have s1 : w.heap.size + 2 ≤ ((w.alloc (.cells (recC kind A body.length c) 35)).alloc (.cells #[.int .u8 0, .slice none 0 0] 35)).heap.size := by simp
  clear h
  go_enter Try.func33, Try.ntmps33
  go_wp2_with fail
  generalize (w.alloc (.cells (recC kind A body.length c) 35)).alloc (.cells #[.int .u8 0, .slice none 0 0] 35) = W1 at *
  obtain ⟨q0, q1, q2⟩ := g1.facts
  go_region_law (first
    | (refine step_append_any _ (by rfl) (.const (.slice none 0 0)) (.tmp 6) _ (by rfl) W1.heap.size 5 (.int .u8 0) 1 1 Try.underlying31 info5 rfl (by omega) (.slice none 0 0) 0 [] (by rfl) (World.ownsRow_nil _ _ _ _) _ A body.length c (bys body) (by rfl) h0.drew (bys_one body) (by simp only [maxLen]; omega) (by omega) (by simp) ?_
       intro A4 c4 w4 hown4 hgr4 hat4
       have j1 := (g1.drew).grown hgr4 (by simp [Value.ownBlock])
       have j4 := (g2.drew).grown hgr4 (by simp [Value.ownBlock])
       obtain ⟨x0, x1, x2⟩ := j1.facts
       obtain ⟨y0, y1, y2⟩ := j4.facts))
  all_goals
    go_wp2_with fail
    have ho : w4.ownsRow W1.heap.size 5 1 (.slice A4 body.length c4) body.length (bys body) := by simpa using hown4
    have hr := (Reads.of_own ho).more (B' := (W1.heap.size ≤ ·)) (fun g hg => (ho.lt g hg).1)
    refine bodyPost_ret (v := recV kind A4 body.length c4) (by simp [results, Try.results33, go_sem, y1]) rfl ⟨A4, c4, rfl, ?_, ?_⟩
    · exact ((hr.setCell (by simp; omega) _).setCell (by simp; omega) _).more (fun g hg => by omega)
    · exact (((b1.drew).grown hgr4 (by have := b1.size; simp; omega) (fun g hg => by cases hg)).setCell (by simp) _).setCell (by simp) _
def ApPost (R : List Int) (sm : Int) (w : World) (e : Ending) (w' : World) : Prop := ∃ A' c', e = .returned (.tuple #[.slice A' R.length c', .int .u64 sm]) ∧ Reads w' (w.heap.size ≤ ·) 1 A' R.length (bys R) ∧ Below w.heap.size w w'
set_option maxRecDepth 10000 in
set_option maxHeartbeats 2000000 in
theorem appendRecord_nil (prev kind : Int) (hk0 : 0 ≤ kind) (hk1 : kind < 256) (A : Option Addr) (c : Nat) (body : List Int) (w : World) (h : Reads w (· < w.heap.size) 1 A body.length (bys body)) (hB : Bytes body) (hl : body.length ≤ 8192) :
    Calls Try.prog 36 #[.slice none 0 0, .int .u64 prev, recV kind A body.length c] w (ApPost (encR prev kind body) (chF prev kind body) w) := by
  have h0 := (h.alloc (.cells (recC kind A body.length c) 35)).alloc (.cells #[.slice none 0 0] 100)
  have g1 : Blk ((w.alloc (.cells (recC kind A body.length c) 35)).alloc (.cells #[.slice none 0 0] 100)) w.heap.size 35 (recC kind A body.length c) := (Blk.new w 35 _).alloc _
  have w1 : WrP ((w.alloc (.cells (recC kind A body.length c) 35)).alloc (.cells #[.slice none 0 0] 100)) (w.heap.size + 1) [] := by simpa using WrP.new (w.alloc (.cells (recC kind A body.length c) 35))
  have b1 : Below w.heap.size w ((w.alloc (.cells (recC kind A body.length c) 35)).alloc (.cells #[.slice none 0 0] 100)) := ((Below.refl _ _).alloc (Nat.le_refl _) _).alloc (by simp) _
  have hel := encI_len (n := (body.length : Int)) (by omega) (by omega)
  have HI := Lib.hid fun W' (x : WrP W' (w.heap.size + 1) []) => int_any (w.heap.size + 1) (body.length : Int) [] W' x (by omega) (by omega) (by simp)
  have HEn := Lib.hid fun W' (x : WrP W' (w.heap.size + 1) (encI (body.length : Int))) => encoded_cap (w.heap.size + 1) _ W' x (by omega)
  have HCh := Lib.hid fun W' (x : Reads W' (· < w.heap.size) 1 A body.length (bys body)) => chain_any _ A c prev kind hk0 hk1 body W' x hB (by omega)
  have HE := Lib.hid (show encR prev kind body = encI (body.length : Int) ++ [kind] ++ body ++ leTo (chF prev kind body) 8 from rfl)
  have HLs := Lib.hid (leTo_succ (chF prev kind body))
  have HLl := Lib.hid (leTo_len (chF prev kind body))
  have HL0 := Lib.hid (show leTo (chF prev kind body) 0 = [] from rfl)
  have HBy := Lib.hid fun k => (show byteAt (chF prev kind body) k = chF prev kind body / 2 ^ (8 * k) % 256 from rfl)
  generalize encR prev kind body = R at *
  generalize leTo (chF prev kind body) = LE at *
  generalize byteAt (chF prev kind body) = BA at *
  generalize chF prev kind body = sm at *
  generalize encI (body.length : Int) = en at *
  clear h hB
  go_enter Try.func36, Try.ntmps36
  go_wp2_with fail
  generalize (w.alloc (.cells (recC kind A body.length c) 35)).alloc (.cells #[.slice none 0 0] 100) = W1 at *
  refine (HI.out W1 w1).mono ?_
  rintro e w2 ⟨rfl, hw2, hB2⟩
  rw [List.nil_append] at hw2
  have g2 := g1.below hB2 (by omega)
  have h2 := h0.below hB2 (fun k hk => by omega)
  have b2 := b1.trans (hB2.mono (by omega))
  clear w1 HI
  obtain ⟨q0, q1, q2⟩ := g2.facts
  go_wp2_with fail
  refine (HEn.out w2 hw2).mono ?_
  rintro e w3 ⟨A3, c3, rfl, r3, hB3, hc3⟩
  have g3 := g2.below hB3 g2.lt
  have h3 := h2.below hB3 (fun k hk => by omega)
  have b3 := b2.trans (hB3.mono b2.size)
  have hs3 := hB3.size
  have hs2 := b2.size
  obtain ⟨x0, x1, x2⟩ := g3.facts
  go_wp2_with (first
    | (at_builtin; refine wpList_append_any _ rfl _ _ _ rfl w2.heap.size 5 _ 1 1 Try.underlying31 info5 rfl (by omega) (.slice none 0 0) 0 [] rfl (World.ownsRow_nil _ _ _ _) _ A3 en.length c3 (bys en) rfl r3 (bys_one en) (by simp only [maxLen]; omega) (by omega) hs3 ?_; intro A4 c4 w4 hown4 hgr4 hat4; have g4 := g3.grown hgr4 (by simp [Value.ownBlock]); have h4 := h3.grown hgr4 (fun k hk => by simp [Value.ownBlock]); have b4 := b3.grown hgr4 b3.size (fun g hg => by cases hg); have o4 : w4.ownsRow w2.heap.size 5 1 (.slice A4 en.length c4) en.length (bys en) := (by simpa using hown4); have s4 := hgr4.size; obtain ⟨y0, y1, y2⟩ := g4.facts)
    | (at_builtin; refine wpList_append_any _ rfl _ _ _ rfl w2.heap.size 5 _ 1 1 Try.underlying31 info5 rfl (by omega) (.slice A4 en.length c4) en.length (bys en) rfl (o4.alloc _) _ (some ⟨w4.heap.size, 0, none⟩) 1 1 [.int .u8 kind] rfl (Reads.newS _ [.int .u8 kind] 5 (0, 0) 1 1 rfl _ rfl) (by simp [Value.oneCell']) (by simp only [maxLen]; omega) (by omega) (by simp; omega) ?_; intro A5 c5 w5 hown5 hgr5 hat5; have n5 := own_ne (o4.alloc (.cells #[.int .u8 kind] 5)) (g4.alloc (.cells #[.int .u8 kind] 5)) (by decide); have g5 := (g4.alloc _).grown hgr5 (fun e => n5 _ e.symm rfl); have h5 := (h4.alloc _).grown hgr5 (fun k hk e => by have := (o4.lt k e.symm).1; omega); have b5 := (b4.alloc b4.size _).grown hgr5 (Nat.le_trans b4.size (by simp)) (fun g hg => by have := (o4.lt g hg).1; omega); have o5 : w5.ownsRow w2.heap.size 5 1 (.slice A5 (en.length + 1) c5) (en.length + 1) (bys (en ++ [kind])) := (by simpa [bys] using hown5); have s5 := hgr5.size; obtain ⟨z0, z1, z2⟩ := g5.facts)
    | (at_builtin; refine wpList_append_any _ rfl _ _ _ rfl w2.heap.size 5 _ 1 1 Try.underlying31 info5 rfl (by omega) (.slice A5 (en.length + 1) c5) (en.length + 1) (bys (en ++ [kind])) rfl o5 _ A body.length c (bys body) rfl h5 (bys_one body) (by simp only [maxLen]; omega) (by omega) (by simp at s5; omega) ?_; intro A6 c6 w6 hown6 hgr6 hat6; have n6 := own_ne o5 g5 (by decide); have g6 := g5.grown hgr6 (fun e => n6 _ e.symm rfl); have h6 := h5.grown hgr6 (fun k hk e => by have := (o5.lt k e.symm).1; omega); have b6 := b5.grown hgr6 b5.size (fun g hg => by have := (o5.lt g hg).1; omega); have o6 : w6.ownsRow w2.heap.size 5 1 (.slice A6 (en.length + 1 + body.length) c6) (en.length + 1 + body.length) (bys (en ++ [kind] ++ body)) := (by simpa [bys] using hown6); have s6 := hgr6.size; obtain ⟨t0, t1, t2⟩ := g6.facts; have HCh6 := Lib.hid (HCh.out w6 h6))
    | (go_at_call 58; ((with_reducible refine HCh6.out.mono ?_); rintro e w7 ⟨rfl, rfl⟩)))
  have s6' : w2.heap.size ≤ w6.heap.size := by simp at s5; omega
  clear g2 g3 g4 g5 h0 h2 h3 h4 h5 h6 b2 b3 b4 b5 o4 o5 hown4 hown5 hown6 hgr4 hgr5 hgr6 hat4 hat5 hat6 n5 n6 HCh HCh6 HEn q0 q1 q2 x0 x1 x2 y0 y1 y2 z0 z1 z2 t0 t1 t2 r3 hB3 hB2 hw2 g1 b1
  have HM := Lib.hid (show (en ++ [kind] ++ body).length = en.length + 1 + body.length by simp; omega)
  go_loopw [0, 33] (fun vo vi wr => ∃ (k : Nat) (A' : Option Addr) (c' : Nat) (out : List Int), k ≤ 8 ∧ vi = .int .i64 k ∧ vo = .slice A' out.length c' ∧ out.length ≤ 9000 + k ∧ out = en ++ [kind] ++ body ++ LE k ∧ wr.ownsRow w2.heap.size 5 1 (.slice A' out.length c') out.length (bys out) ∧ w2.heap.size ≤ wr.heap.size ∧ Below w.heap.size w wr) (fun _ i _ => 8 - (intOf i).toNat)
  case atStart => exact ⟨0, A6, c6, en ++ [kind] ++ body, by omega, rfl, by rw [HM.out], by rw [HM.out]; omega, by rw [HL0.out]; simp, by rw [HM.out]; exact o6, s6', b6⟩
  case round =>
    obtain ⟨k, A', c', out, hk, rfl, rfl, hol, hout, hown, hsw, hb⟩ := hrel
    have HO := Lib.hid hout
    clear hout
    by_cases hlt : k < 8
    · have hlt' : (k : Int) < 8 := by omega
      have HLk := Lib.hid (HLs.out k)
      have HBk := Lib.hid (HBy.out k)
      obtain ⟨v, hv⟩ : ∃ v, sm / 2 ^ (8 * k) % 256 = v := ⟨_, rfl⟩
      have HV := Lib.hid (show BA k = v by rw [HBk.out, hv])
      go_wp2_with (at_builtin; refine wpList_append_any _ rfl _ _ _ rfl w2.heap.size 5 _ 1 1 Try.underlying31 info5 rfl (by omega) (.slice A' out.length c') out.length (bys out) rfl (hown.alloc _) _ (some ⟨wr.heap.size, 0, none⟩) 1 1 [.int .u8 v] rfl (Reads.newS _ [.int .u8 v] 5 (0, 0) 1 1 rfl _ rfl) (by simp [Value.oneCell']) (by simp only [maxLen]; omega) (by omega) (by simp; omega) ?_; intro A8 c8 w8 hown8 hgr8 hat8)
      have e8 : (out ++ [v]).length = out.length + 1 := by simp
      have s8 := hgr8.size
      refine ⟨⟨k + 1, A8, c8, out ++ [v], by omega, by go_num, by rw [e8], by omega, ?_, by rw [e8]; simpa [bys] using hown8, by simp at s8; omega, (hb.alloc hb.size _).grown hgr8 (Nat.le_trans hb.size (by simp)) (fun g hg => by have := (hown.lt g hg).1; omega)⟩, by simp [intOf]; omega⟩
      rw [HLk.out, HV.out, HO.out]; simp
    · have hge : ¬ ((k : Int) < 8) := by omega
      have HK := Lib.hid (show out = R by rw [HE.out, HO.out, show k = 8 by omega])
      go_wp2
      obtain rfl := HK.out
      exact bodyPost_ret (v := .tuple #[.slice A' out.length c', .int .u64 sm]) (by simp [results, Try.results36, go_sem]) rfl ⟨A', c', rfl, (Reads.of_own hown).more (fun g hg => by have := (hown.lt g hg).1; omega), hb⟩
end Go.Proofs.Ytbhbamgnapcbaaa

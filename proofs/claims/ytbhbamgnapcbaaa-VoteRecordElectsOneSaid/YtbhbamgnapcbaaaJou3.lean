import Derived.Test.YtbhbamgnapcbaaaJou2
namespace Go.Proofs.Ytbhbamgnapcbaaa
set_option linter.unusedVariables false
open Go.RowKit Go.Own Go.Quo Go.Wire
theorem run_mid {A : Option Addr} {n c lo hi : Nat} (h1 : lo ≤ hi) (h2 : hi ≤ c) (W : World) : (Instr.slice 31 (.slice A n c) (some (.int .i64 (lo : Int))) (some (.int .i64 (hi : Int))) none).run Try.prog W = .ok (.slice (cutA A c lo) (hi - lo) (c - lo)) W := by
  have hu : Try.prog.underlying 31 = some (.slice (Try.prog.elem 31)) := by kernel_rfl
  have he : Try.prog.elem 31 = 5 := by kernel_rfl
  obtain ⟨i, k1, k2⟩ := i5x
  rw [run_slice_lh W 31 A n c hu .i64 .i64 (lo : Int) (hi : Int) (by omega) (by omega) (by omega), he]
  simp [sizeOf, typeInfo, k1, k2, sliced, cutA]
theorem run_mid2 {A : Option Addr} {n c lo hi : Nat} (h1 : lo ≤ hi) (h2 : hi ≤ c) (W : World) : (Instr.sliceAt 31 (.slice A n c) (some (.int .i64 (lo : Int))) (some (.int .i64 (hi : Int))) none).run Try.prog W = .ok (.slice (cutA A c lo) (hi - lo) (c - lo)) W := by
  have hu : Try.prog.underlying 31 = some (.slice (Try.prog.elem 31)) := by kernel_rfl
  rw [run_sliceAt_slice W 31 _ _ _ _ hu]
  exact run_mid h1 h2 W
def RRPost (v : Value) (w : World) (e : Ending) (w' : World) : Prop := e = .returned v ∧ Below w.heap.size w w'
set_option maxRecDepth 10000 in
set_option maxHeartbeats 2000000 in
theorem readRecord_nil (A : Option Addr) (c : Nat) (prev : Int) (w : World) : Calls Try.prog 32 #[.slice A 0 c, .int .u64 prev] w (RRPost (.tuple #[recV 0 none 0 0, .int .u64 0, .int .i64 0, .bool false]) w) := by
  have HL := Lib.hid fun W => readLength_nil A c W
  go_enter Try.func32, Try.ntmps32
  go_wp2_with (go_at_call 57; ((with_reducible refine (HL.out _).mono ?_); rintro e w2 ⟨rfl, rfl⟩))
  refine bodyPost_ret (v := .tuple #[recV 0 none 0 0, .int .u64 0, .int .i64 0, .bool false]) (by simp [results, Try.results32, go_sem]) rfl ⟨rfl, ?_⟩
  repeat (first | with_reducible refine Below.setCell ?_ (by simp) _ | with_reducible refine Below.alloc ?_ (by simp) _)
  exact Below.refl _ _
def ROPost (B : Nat → Prop) (kind : Int) (body : List Int) (sm : Int) (rl : Nat) (w : World) (e : Ending) (w' : World) : Prop := ∃ A' c', e = .returned (.tuple #[recV kind A' body.length c', .int .u64 sm, .int .i64 (rl : Int), .bool true]) ∧ Reads w' B 1 A' body.length (bys body) ∧ Below w.heap.size w w'
set_option maxRecDepth 10000 in
set_option maxHeartbeats 4000000 in
theorem readRecord_ok (B : Nat → Prop) (A : Option Addr) (c : Nat) (prev kind : Int) (hk0 : 0 ≤ kind) (hk1 : kind < 256) (body rest : List Int) (hbl : body.length ≤ 8192) (hbB : Bytes body) (w : World) (h : Reads w B 1 A (encR prev kind body ++ rest).length (bys (encR prev kind body ++ rest))) (hc : (encR prev kind body ++ rest).length ≤ c) (hl : rest.length ≤ 50000000) :
    Calls Try.prog 32 #[.slice A (encR prev kind body ++ rest).length c, .int .u64 prev] w (ROPost B kind body (chF prev kind body) (encR prev kind body).length w) := by
  obtain ⟨en, hen⟩ : ∃ en, en = encI (body.length : Int) := ⟨_, rfl⟩
  obtain ⟨sm, hsm⟩ : ∃ sm, sm = chF prev kind body := ⟨_, rfl⟩
  have hb : encR prev kind body ++ rest = en ++ (kind :: (body ++ (leTo sm 8 ++ rest))) := by
    rw [hen, hsm]; unfold encR; simp [le8, leTo]
  have hRl : (encR prev kind body).length = en.length + 1 + body.length + 8 := by
    rw [hen]; unfold encR; simp [le8]; omega
  have h3 : en.length ≤ 3 := by rw [hen]; exact encI_len3 (by omega) (by omega)
  have HRl := Lib.hid hRl
  have hbl2 : (encR prev kind body ++ rest).length = en.length + 1 + body.length + 8 + rest.length := by rw [List.length_append, hRl]
  have HL := Lib.hid fun W' (x : Reads W' B 1 A (en ++ (kind :: (body ++ (leTo sm 8 ++ rest)))).length (bys (en ++ (kind :: (body ++ (leTo sm 8 ++ rest)))))) => by
    have := readLength_ok B A c body.length (kind :: (body ++ (leTo sm 8 ++ rest))) W' (by omega) (by rw [← hen]; exact x) (by rw [← hen, ← hb]; exact hc) (by simp [leTo_len]; omega)
    rw [← hen] at this
    exact this
  rw [hb] at h hc hbl2 ⊢
  rw [← hsm]
  have HG0 := Lib.hid (show gd (en ++ (kind :: (body ++ (leTo sm 8 ++ rest)))) en.length = kind by have := gd_right (a := en) (b := kind :: (body ++ (leTo sm 8 ++ rest))) (i := 0) (by simp); rw [Nat.add_zero] at this; rw [this]; rfl)
  have HG1 := Lib.hid fun i (hi : i < 8) => (show gd (en ++ (kind :: (body ++ (leTo sm 8 ++ rest)))) (en.length + 1 + body.length + i) = byteAt sm i by
    rw [show en ++ (kind :: (body ++ (leTo sm 8 ++ rest))) = (en ++ kind :: body) ++ (leTo sm 8 ++ rest) by simp]
    rw [show en.length + 1 + body.length + i = (en ++ kind :: body).length + i by simp; omega]
    rw [gd_right (by rw [List.length_append, leTo_len]; omega), gd_left (by rw [leTo_len]; omega), gd_get (by rw [leTo_len]; omega)]
    simp [leTo])
  have hcut := Reads.cutB h (k := en.length + 1) (by omega) hc
  have hdr : (en ++ (kind :: (body ++ (leTo sm 8 ++ rest)))).drop (en.length + 1) = body ++ (leTo sm 8 ++ rest) := by
    rw [← List.drop_drop, List.drop_left]; rfl
  rw [hdr] at hcut
  have hbody := Reads.front hcut
  have pA := h.plain (by omega)
  have HCh := Lib.hid fun W' (x : Reads W' B 1 (cutA A c (en.length + 1)) body.length (bys body)) => chain_any B (cutA A c (en.length + 1)) (c - (en.length + 1)) prev kind hk0 hk1 body W' x hbB (by omega)
  rw [← hsm] at HCh
  have HRd := Lib.hid h
  have HBd := Lib.hid hbody
  have HBy := Lib.hid fun i => (show byteAt sm i = sm / 2 ^ (8 * i) % 256 from rfl)
  clear hb hen hsm hdr hcut h hbody
  obtain ⟨L, hL⟩ : ∃ L : Nat, (en ++ (kind :: (body ++ (leTo sm 8 ++ rest)))).length = L := ⟨_, rfl⟩
  generalize en ++ (kind :: (body ++ (leTo sm 8 ++ rest))) = b at *
  rw [hL] at HL HRd hc hbl2 pA ⊢
  have hge1 : en.length + 1 + body.length + 8 ≤ L := by omega
  have hle1 : L ≤ 60000000 := by omega
  have HLb := Lib.hid hL
  have hlc : L ≤ c := hc
  clear hL hbl2 hRl hc
  have b1 : Below w.heap.size w (w.alloc (.cells #[.int .u8 0, .slice none 0 0] 35)) := (Below.refl _ _).alloc (Nat.le_refl _) _
  have g1 : Blk (w.alloc (.cells #[.int .u8 0, .slice none 0 0] 35)) w.heap.size 35 #[.int .u8 0, .slice none 0 0] := Blk.new w 35 _
  have HL1 := Lib.hid (HL.out _ (HRd.out.alloc (.cells #[.int .u8 0, .slice none 0 0] 35)))
  have hnl : ¬ ((L : Int) - en.length < 1 + body.length + 8) := by omega
  have hix := fun W => ix31 pA c en.length (show en.length < L by omega) W
  have r1 : ∀ W : World, (Instr.slice 31 (.slice A L c) (some (.int .i64 ((en.length : Int) + 1))) (some (.int .i64 ((en.length : Int) + 1 + body.length))) none).run Try.prog W = .ok (.slice (cutA A c (en.length + 1)) body.length (c - (en.length + 1))) W := fun W => by
    have := run_mid (A := A) (n := L) (c := c) (lo := en.length + 1) (hi := en.length + 1 + body.length) (by omega) (by omega) W
    rw [show en.length + 1 + body.length - (en.length + 1) = body.length by omega] at this
    simpa using this
  have r2 : ∀ W : World, (Instr.sliceAt 31 (.slice A L c) (some (.int .i64 ((en.length : Int) + 1))) (some (.int .i64 ((en.length : Int) + 1 + body.length))) none).run Try.prog W = .ok (.slice (cutA A c (en.length + 1)) body.length (c - (en.length + 1))) W := fun W => by
    have := run_mid2 (A := A) (n := L) (c := c) (lo := en.length + 1) (hi := en.length + 1 + body.length) (by omega) (by omega) W
    rw [show en.length + 1 + body.length - (en.length + 1) = body.length by omega] at this
    simpa using this
  clear HL
  go_enter Try.func32, Try.ntmps32
  go_wp2_with fail
  generalize w.alloc (.cells #[.int .u8 0, .slice none 0 0] 35) = W1 at *
  refine HL1.out.mono ?_
  rintro e w2 ⟨rfl, hB2⟩
  have b2 := b1.trans (hB2.mono b1.size)
  have g2 := g1.below hB2 g1.lt
  have hrd2 := HRd.out.fr (S := fun _ => False) (Fr.of_below b2) (fun _ _ => id)
  have hbd2 := HBd.out.fr (S := fun _ => False) (Fr.of_below b2) (fun _ _ => id)
  have HCh2 := Lib.hid (HCh.out w2 hbd2)
  have hbdo := (HBd.out.old (by omega)).fr (S := fun _ => False) (Fr.of_below b2) (fun _ _ => id)
  have hc0 : w2.cell? ⟨bk A, ofs A + en.length, none⟩ = some (.int .u8 kind) := by
    have e := HLb.out
    subst e
    have := gdb_at hrd2 (k := en.length) (by omega)
    rw [HG0.out] at this
    exact this
  have HCi := Lib.hid fun i (hi : i < 8) => (show w2.cell? ⟨bk A, ofs A + (en.length + 1 + body.length + i), none⟩ = some (.int .u8 (byteAt sm i)) by
    have e := HLb.out
    subst e
    have := gdb_at hrd2 (k := en.length + 1 + body.length + i) (by omega)
    rw [HG1.out i hi] at this
    exact this)
  clear HL1 hB2 b1 g1 HG0 HG1 HCh HRd HBd
  go_wp2_with (go_at_call 58; ((with_reducible refine HCh2.out.mono ?_); rintro e w3 ⟨rfl, rfl⟩))
  go_loopw [54] (fun vi wr => ∃ k n : Nat, k ≤ 8 ∧ vi = .int .i64 k ∧ wr = w2.drewN n) (fun i _ => 8 - (intOf i).toNat)
  case atStart => exact ⟨0, 0, by omega, rfl, rfl⟩
  case round =>
    obtain ⟨k, nq, hk, rfl, rfl⟩ := hrel
    obtain ⟨q0, q1, q2⟩ := g2.facts
    by_cases hlt : k < 8
    · have hlt' : (k : Int) < 8 := by omega
      have hci := HCi.out k hlt
      have hixk : ∀ W : World, (Instr.indexAt 31 (.slice A L c) (.int .i64 ((en.length : Int) + (1 + body.length) + k))).run Try.prog W = .ok (.pointer (some ⟨bk A, ofs A + (en.length + 1 + body.length + k), none⟩)) W := fun W => by
        have := ix31 pA c (en.length + 1 + body.length + k) (by omega) W
        rw [show (en.length : Int) + (1 + body.length) + k = ((en.length + 1 + body.length + k : Nat) : Int) by omega]
        exact this
      have HBk := Lib.hid (HBy.out k)
      have hw1 : IntKind.i64.wrap ((en.length : Int) + (1 + body.length) + k) = (en.length : Int) + (1 + body.length) + k := IntWalk.i64_in _ (by omega)
      have hw2 : IntKind.i64.wrap (8 * (k : Int)) = 8 * (k : Int) := IntWalk.i64_in _ (by omega)
      obtain ⟨v, hv⟩ : ∃ v, sm / 2 ^ (8 * k) % 256 = v := ⟨_, rfl⟩
      rw [HBk.out, hv] at hci
      go_wp2_with fail
      go_quiet (fail)
      go_wp2
      exact ⟨⟨k + 1, _, by omega, by go_num, rfl⟩, by simp [intOf]; omega⟩
    · have hge : ¬ ((k : Int) < 8) := by omega
      go_wp2_with fail
      refine bodyPost_ret (v := .tuple #[recV kind (cutA A c (en.length + 1)) body.length (c - (en.length + 1)), .int .u64 sm, .int .i64 ((en.length : Int) + (1 + body.length) + 8), .bool true]) (by simp [results, Try.results32, go_sem, q1]) rfl ⟨cutA A c (en.length + 1), c - (en.length + 1), ?_, ?_, ?_⟩
      · rw [HRl.out]
        congr 3
        simp; omega
      · exact (((hbdo.setCell (by simp) _).setCell (by simp) _).drewN _).more (fun k hk => hk.1)
      · have bb := (b2.setCell (p := ⟨w.heap.size, 0, none⟩) (by simp) (.int .u8 kind)).setCell (p := ⟨w.heap.size, 1, none⟩) (by simp) (.slice (cutA A c (en.length + 1)) body.length (c - (en.length + 1)))
        exact ⟨bb.os, bb.tape, bb.output, bb.size, bb.block⟩
end Go.Proofs.Ytbhbamgnapcbaaa

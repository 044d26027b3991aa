import Derived.Test.YtbhbamgnapcbaaaWire
namespace Go.Wire
/-! ### Checksums: as the model reckons them -/
def addB (s b : Int) : Int := bits .xor .u64 (IntKind.u64.wrap (bits .xor .u64 s b * 1099511628211)) (IntKind.u64.wrap (bits .xor .u64 s b * 1099511628211) / 4294967296)
def byteAt (n : Int) (i : Nat) : Int := n / 2 ^ (8 * i) % 256
def addI (s n : Int) (k : Nat) : Int := (List.range k).foldl (fun s i => addB s (byteAt n i)) s
theorem addI_succ (s n : Int) (k : Nat) : addI s n (k + 1) = addB (addI s n k) (byteAt n k) := by
  unfold addI
  rw [List.range_succ, List.foldl_append]; rfl
def updF (s : Int) (l : List Int) : Int := l.foldl addB s
def initS : Int := 14695981039346656037
def chF (prev kind : Int) (body : List Int) : Int := updF (addI (addB (addI initS prev 8) kind) (body.length : Int) 8) body
theorem u64_range (n : Int) : 0 ≤ IntKind.u64.wrap n ∧ IntKind.u64.wrap n < 18446744073709551616 := by rw [IntKind.wrap_u64]; omega
theorem addB_range (s b : Int) : 0 ≤ addB s b ∧ addB s b < 18446744073709551616 := by
  unfold addB
  have h := u64_range (bits .xor .u64 s b * 1099511628211)
  generalize IntKind.u64.wrap (bits .xor .u64 s b * 1099511628211) = x at *
  rw [u64_xor _ _ h.1 h.2 (by omega) (by omega)]
  have : x.toNat ^^^ (x / 4294967296).toNat < 2 ^ 64 := Nat.xor_lt_two_pow (by omega) (by omega)
  omega
end Go.Wire
namespace Go.Proofs.Ytbhbamgnapcbaaa
set_option linter.unusedVariables false
open Go.RowKit Go.Own Go.Quo Go.Wire
theorem ix31 {A : Option Addr} {n : Nat} (hA : Plain A n) (c k : Nat) (hk : k < n) (w : World) : (Instr.indexAt 31 (.slice A n c) (.int .i64 (k : Int))).run Try.prog w = .ok (.pointer (some ⟨bk A, ofs A + k, none⟩)) w := ix45 hA c k hk w
theorem gdb_at {w : World} {B : Nat → Prop} {A : Option Addr} {b : List Int} (h : Reads w B 1 A b.length (bys b)) {k : Nat} (hk : k < b.length) : w.cell? ⟨bk A, ofs A + k, none⟩ = some (.int .u8 (gd b k)) := by
  have := h.cell2 k (by omega) (by omega)
  rw [this, gd_get hk]
  simp [bys, hk]
set_option maxRecDepth 10000 in
set_option maxHeartbeats 1000000 in
theorem addByte_any (s b : Int) (hb0 : 0 ≤ b) (hb1 : b < 256) (w : World) :
    Calls Try.prog 69 #[.int .u64 s, .int .u8 b] w fun e w' => e = .returned (.int .u64 (addB s b)) ∧ w = w' := by
  have hw : IntKind.u64.wrap b = b := by rw [IntKind.wrap_u64]; omega
  have HA := Lib.hid (show addB s b = bits .xor .u64 (IntKind.u64.wrap (bits .xor .u64 s b * 1099511628211)) (IntKind.u64.wrap (bits .xor .u64 s b * 1099511628211) / 4294967296) from rfl)
  generalize addB s b = R at *
  go_enter Try.func69, Try.ntmps69
  go_wp2
  go_ret
  exact ⟨by rw [HA.out]; rfl, rfl⟩
set_option maxRecDepth 10000 in
set_option maxHeartbeats 1000000 in
theorem addInt_any (s n : Int) (w : World) :
    Calls Try.prog 70 #[.int .u64 s, .int .u64 n] w fun e w' => e = .returned (.int .u64 (addI s n 8)) ∧ w = w' := by
  have HC := Lib.hid fun s b h0 h1 => addByte_any s b h0 h1 w
  have HS := Lib.hid (addI_succ s n)
  have H0 := Lib.hid (show addI s n 0 = s from rfl)
  generalize addI s n = F at *
  go_enter Try.func70, Try.ntmps70
  go_wp2_with fail
  go_loopw [0, 6] (fun vs vi wr => ∃ k : Nat, k ≤ 8 ∧ vi = .int .i64 k ∧ vs = .int .u64 (F k) ∧ wr = w) (fun _ i _ => 8 - (intOf i).toNat)
  case atStart => exact ⟨0, by omega, rfl, by rw [H0.out], rfl⟩
  case round =>
    obtain ⟨k, hk, rfl, rfl, rfl⟩ := hrel
    by_cases hlt : k < 8
    · have hlt' : (k : Int) < 8 := by omega
      have hr : 0 ≤ byteAt n k ∧ byteAt n k < 256 := by unfold byteAt; omega
      have HC := Lib.hid (HC.out (F k) (byteAt n k) hr.1 hr.2)
      have HC2 : Hid (Calls Try.prog 69 #[.int .u64 (F k), .int .u8 (n / 2 ^ (8 * k) % 256)] wr fun e w' => e = .returned (.int .u64 (addB (F k) (byteAt n k))) ∧ wr = w') := HC
      have HSk := Lib.hid (HS.out k)
      go_wp2_with (go_at_call 69; ((with_reducible refine HC2.out.mono ?_); rintro e w1 ⟨rfl, rfl⟩))
      exact ⟨⟨k + 1, by omega, by go_num, by rw [HSk.out], by trivial⟩, by simp [intOf]; omega⟩
    · have hge : ¬ ((k : Int) < 8) := by omega
      have HK := Lib.hid (show k = 8 by omega)
      go_wp2
      go_ret
      obtain rfl := HK.out
      exact ⟨rfl, rfl⟩
set_option maxRecDepth 10000 in
set_option maxHeartbeats 1000000 in
theorem update_any (B : Nat → Prop) (A : Option Addr) (c : Nat) (s : Int) (l : List Int) (w : World) (h : Reads w B 1 A l.length (bys l)) (hB : Bytes l) (hl : l.length ≤ 1000000000) :
    Calls Try.prog 56 #[.int .u64 s, .slice A l.length c] w fun e w' => e = .returned (.int .u64 (updF s l)) ∧ w = w' := by
  have HC := Lib.hid fun s b h0 h1 => addByte_any s b h0 h1 w
  have pA := h.plain (by omega)
  have HF := Lib.hid (show updF s l = (l.take l.length).foldl addB s by rw [List.take_of_length_le (Nat.le_refl _)]; rfl)
  have HB := Lib.hid hB
  clear hB
  go_enter Try.func56, Try.ntmps56
  go_wp2_with fail
  go_loopw [0, 9] (fun vs vi wr => ∃ k : Nat, k ≤ l.length ∧ vi = .int .i64 k ∧ vs = .int .u64 ((l.take k).foldl addB s) ∧ wr = w) (fun _ i _ => l.length - (intOf i).toNat)
  case atStart => exact ⟨0, by omega, rfl, rfl, rfl⟩
  case round =>
    obtain ⟨k, hk, rfl, rfl, rfl⟩ := hrel
    by_cases hlt : k < l.length
    · have hlt' : (k : Int) < l.length := by omega
      have hix := fun W => ix31 pA c k hlt W
      have hc := gdb_at h hlt
      have hr := HB.out (gd l k) (by rw [gd_get hlt]; exact List.getElem_mem hlt)
      have HSk := Lib.hid (show (l.take (k + 1)).foldl addB s = addB ((l.take k).foldl addB s) (gd l k) by rw [List.take_succ_eq_append_getElem hlt, List.foldl_append, gd_get hlt]; rfl)
      generalize (l.take k).foldl addB s = x at *
      generalize gd l k = y at *
      have HC := Lib.hid (HC.out x y hr.1 hr.2)
      go_wp2_with (go_at_call 69; ((with_reducible refine HC.out.mono ?_); rintro e w1 ⟨rfl, rfl⟩))
      exact ⟨⟨k + 1, by omega, by go_num, by rw [HSk.out], by trivial⟩, by simp [intOf]; omega⟩
    · have hge : ¬ ((k : Int) < l.length) := by omega
      have HK := Lib.hid (show k = l.length by omega)
      go_wp2
      go_ret
      rw [HF.out, ← HK.out]
      exact ⟨rfl, rfl⟩
set_option maxRecDepth 10000 in
set_option maxHeartbeats 1000000 in
theorem sum_nil (w : World) : Calls Try.prog 31 #[.slice none 0 0] w fun e w' => e = .returned (.int .u64 initS) ∧ w = w' := by
  have HU := Lib.hid (show Calls Try.prog 56 #[.int .u64 14695981039346656037, .slice none 0 0] w fun e w' => e = .returned (.int .u64 initS) ∧ w = w' from update_any (fun _ => False) none 0 initS [] w Reads.none_ (fun x hx => by simp at hx) (by simp))
  go_enter Try.func31, Try.ntmps31
  go_wp2_with (go_at_call 56; ((with_reducible refine HU.out.mono ?_); rintro e w1 ⟨rfl, rfl⟩))
  go_ret
  exact ⟨rfl, rfl⟩
set_option maxRecDepth 10000 in
set_option maxHeartbeats 1000000 in
theorem chain_any (B : Nat → Prop) (A : Option Addr) (c : Nat) (prev kind : Int) (hk0 : 0 ≤ kind) (hk1 : kind < 256) (l : List Int) (w : World) (h : Reads w B 1 A l.length (bys l)) (hB : Bytes l) (hl : l.length ≤ 1000000000) :
    Calls Try.prog 58 #[.int .u64 prev, .int .u8 kind, .slice A l.length c] w fun e w' => e = .returned (.int .u64 (chF prev kind l)) ∧ w = w' := by
  have H1 := Lib.hid (show Calls Try.prog 70 #[.int .u64 14695981039346656037, .int .u64 prev] w fun e w' => e = .returned (.int .u64 (addI initS prev 8)) ∧ w = w' from addInt_any initS prev w)
  have H2 := Lib.hid fun s => addByte_any s kind hk0 hk1 w
  have H3 := Lib.hid fun s => addInt_any s (l.length : Int) w
  have H4 := Lib.hid fun s => update_any B A c s l w h hB hl
  have hw : IntKind.u64.wrap (l.length : Int) = l.length := by rw [IntKind.wrap_u64]; omega
  have HC := Lib.hid (show chF prev kind l = updF (addI (addB (addI initS prev 8) kind) (l.length : Int) 8) l from rfl)
  clear h hB
  generalize addI initS prev 8 = x1 at *
  go_enter Try.func58, Try.ntmps58
  go_wp2_with (first
    | (go_at_call 70; ((with_reducible refine H1.out.mono ?_); rintro e w1 ⟨rfl, rfl⟩))
    | (go_at_call 69; ((with_reducible refine (H2.out _).mono ?_); rintro e w1 ⟨rfl, rfl⟩))
    | (go_at_call 70; ((with_reducible refine (H3.out _).mono ?_); rintro e w1 ⟨rfl, rfl⟩))
    | (go_at_call 56; ((with_reducible refine (H4.out _).mono ?_); rintro e w1 ⟨rfl, rfl⟩)))
  go_ret
  exact ⟨by rw [HC.out]; rfl, rfl⟩
end Go.Proofs.Ytbhbamgnapcbaaa

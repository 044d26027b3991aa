import Derived.Test.YtnpfbpfobbadaaaQuo1
import Derived.Test.YtnpfbpfobbadaaaWPlain
import Derived.IntWalk
namespace Go.Own
open Go.RowKit
theorem own_far {w : World} {base : Nat} {e : TypeId} {size n : Nat} {v : Value} {xs : List Value} (h : w.ownsRow base e size v n xs) {p : Addr} (hp : p.block < base) (u : Value) : (w.setCell p u).ownsRow base e size v n xs :=
  h.kept (row := some p.block) ⟨rfl, rfl, rfl, by simp, fun k hk hne => Below.heap_setCell w p u k (fun e => hne (by rw [e]))⟩ (by
    cases hv : v.ownBlock with
    | none => exact .inl rfl
    | some k => right; intro e; cases e; have := (h.lt _ hv).1; omega)
end Go.Own
namespace Go.Proofs.Ytnpfbpfobbadaaa
set_option linter.unusedVariables false
open Go.RowKit Go.Own Go.Quo Go.Wire
theorem info5 : (Try.prog.info? 5).map (fun i => (i.zero, i.size, i.bytes)) = some (some (.int .u8 0), 1, 1) := by kernel_rfl
abbrev bys (l : List Int) : List Value := l.map (Value.int .u8)
/-- A writer at block p that has written 'out'. -/
def WrP (w : World) (p : Nat) (out : List Int) : Prop := ∃ A c, Blk w p 59 #[.slice A out.length c] ∧ w.ownsRow (p + 1) 5 1 (.slice A out.length c) out.length (bys out)
theorem WrP.below {w w' : World} {p : Nat} {out : List Int} (h : WrP w p out) (hb : Below w.heap.size w w') : WrP w' p out := by
  obtain ⟨A, c, h1, h2⟩ := h
  exact ⟨A, c, h1.below hb h1.lt, h2.kept (row := none) ⟨hb.os, hb.tape, hb.output, hb.size, fun k hk _ => hb.block k hk⟩ (by cases (Value.slice A out.length c).ownBlock <;> simp)⟩
theorem WrP.alloc {w : World} {p : Nat} {out : List Int} (h : WrP w p out) (o : Obj) : WrP (w.alloc o) p out := by
  obtain ⟨A, c, h1, h2⟩ := h
  exact ⟨A, c, h1.alloc o, h2.alloc o⟩
theorem WrP.new (w : World) : WrP (w.alloc (.cells #[.slice none 0 0] 59)) w.heap.size [] := ⟨none, 0, Blk.new w 59 _, World.ownsRow_nil _ _ _ _⟩
set_option maxRecDepth 10000 in
set_option maxHeartbeats 1000000 in
theorem int_any (p : Nat) (n : Int) (out : List Int) (w : World) (hw : WrP w p out) (h0 : -9223372036854775808 ≤ n) (h1 : n < 9223372036854775808) (hl : out.length ≤ 1000000000) :
    Calls Try.prog 56 #[.pointer (some ⟨p, 0, none⟩), .int .i64 n] w (fun e w' => e = .returned (.tuple #[]) ∧ WrP w' p (out ++ encI n) ∧ Below p w w') := by
  have hz := zig_bits h0 h1
  have hlen := encI_len h0 h1
  have hzl := zig_lt h0 h1
  have HE := Lib.hid (show encI n = encU (zig n) from rfl)
  generalize encI n = en at *
  go_enter Try.func56, Try.ntmps56
  go_wp2_with fail
  generalize zig n = z at *
  clear hz
  go_loopw [4] (fun vu wr => ∃ (u : Nat) (o : List Int), vu = .int .u64 u ∧ u < 18446744073709551616 ∧ WrP wr p o ∧ o ++ encU u = out ++ en ∧ Below p w wr) (fun u _ => (intOf u).toNat)
  case atStart => exact ⟨z, out, rfl, hzl, hw, by rw [HE.out], Below.refl _ _⟩
  case round =>
    obtain ⟨u, o, rfl, hu, hwr, ho, hb⟩ := hrel
    have HO := Lib.hid ho
    have hol : o.length + (encU u).length ≤ out.length + en.length := by rw [← List.length_append, ← List.length_append, ho]; exact Nat.le_refl _
    clear ho
    obtain ⟨A, c, hk, hown⟩ := hwr
    obtain ⟨q0, q1, q2⟩ := hk.facts
    by_cases h : u < 128
    · have h' : ¬ (128 : Int) ≤ u := by omega
      have hu8 : IntKind.u8.wrap (u : Int) = u := by rw [IntKind.wrap_u8']; omega
      go_wp2_with (at_builtin; refine wpList_append_any _ rfl _ _ _ rfl (p + 1) 5 _ 1 1 Try.underlying45 info5 rfl (by omega) (.slice A o.length c) o.length (bys o) rfl (hown.alloc _) _ (some ⟨wr.heap.size, 0, none⟩) 1 1 [.int .u8 u] rfl (Reads.newS _ [.int .u8 u] 5 (0, 0) 1 1 rfl _ rfl) (by simp [Value.oneCell']) (by simp only [maxLen]; omega) (by omega) (by simp; omega) ?_; intro A4 c4 w4 hown4 hgr4 hat4; have hk4 := (hk.alloc _).grown hgr4 (by intro e; have := (hown.lt p e.symm).1; omega); obtain ⟨r0, r1, r2⟩ := hk4.facts)
      refine bodyPost_end (v := .tuple #[]) (by simp [results, Try.results56, go_sem]) rfl ⟨rfl, ?_, ?_⟩
      · rw [← HO.out, encU_lt h]
        refine ⟨A4, c4, ?_, ?_⟩
        · have := hk4.set_ 0 (.slice A4 (o.length + 1) c4)
          simpa using this
        · have := own_far hown4 (p := ⟨p, 0, none⟩) (by simp) (.slice A4 (o.length + 1) c4)
          simpa using this
      · exact ((hb.alloc (Nat.le_of_lt (Nat.lt_of_lt_of_le q0 (Nat.le_refl _))) _).grown hgr4 (by simp; omega) (fun g hg => by have := (hown.lt g hg).1; omega)).setCell (by simp) _
    · have h' : (128 : Int) ≤ u := by omega
      obtain ⟨lo, hlo⟩ : ∃ lo : Int, lo = ((u % 128 + 128 : Nat) : Int) := ⟨_, rfl⟩
      have hu8 : bits .or .u8 ((u : Int) % 256) 128 = lo := by rw [hlo, ← low_or u, IntKind.wrap_u8']
      have HLo := Lib.hid hlo; clear hlo
      go_wp2_with (at_builtin; refine wpList_append_any _ rfl _ _ _ rfl (p + 1) 5 _ 1 1 Try.underlying45 info5 rfl (by omega) (.slice A o.length c) o.length (bys o) rfl (hown.alloc _) _ (some ⟨wr.heap.size, 0, none⟩) 1 1 [.int .u8 lo] rfl (Reads.newS _ [.int .u8 lo] 5 (0, 0) 1 1 rfl _ rfl) (by simp [Value.oneCell']) (by simp only [maxLen]; omega) (by omega) (by simp; omega) ?_; intro A4 c4 w4 hown4 hgr4 hat4; have hk4 := (hk.alloc _).grown hgr4 (by intro e; have := (hown.lt p e.symm).1; omega); obtain ⟨r0, r1, r2⟩ := hk4.facts)
      have hsh : (u : Int) / 128 = ((u / 128 : Nat) : Int) := by omega
      refine ⟨⟨u / 128, o ++ [lo], congrArg _ hsh, by omega, ?_, ?_, ?_⟩, by simp [intOf]; omega⟩
      · refine ⟨A4, c4, ?_, ?_⟩
        · have := hk4.set_ 0 (.slice A4 (o.length + 1) c4)
          simpa using this
        · have := own_far hown4 (p := ⟨p, 0, none⟩) (by simp) (.slice A4 (o.length + 1) c4)
          simpa using this
      · rw [← HO.out, encU_ge h, HLo.out, List.append_assoc]; rfl
      · exact ((hb.alloc (Nat.le_of_lt (Nat.lt_of_lt_of_le q0 (Nat.le_refl _))) _).grown hgr4 (by simp; omega) (fun g hg => by have := (hown.lt g hg).1; omega)).setCell (by simp) _
end Go.Proofs.Ytnpfbpfobbadaaa

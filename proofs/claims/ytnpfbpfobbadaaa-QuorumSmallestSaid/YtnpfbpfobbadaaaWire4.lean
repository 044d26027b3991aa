import Derived.Test.YtnpfbpfobbadaaaWire3
namespace Go.Proofs.Ytnpfbpfobbadaaa
set_option linter.unusedVariables false
open Go.RowKit Go.Own Go.Quo Go.Wire
theorem info22 : (Try.prog.info? 22).map (fun i => (i.zero, i.size, i.bytes)) = some (some (.slice none 0 0), 1, 24) := by kernel_rfl
theorem i22x : ∃ i, Try.prog.info? 22 = some i ∧ i.size = 1 := by obtain ⟨i, h, _, h2, _⟩ := info_parts info22; exact ⟨i, h, h2⟩
theorem ix61 (g k : Nat) (hk : k < 2) (w : World) : (Instr.indexAt 61 (.slice (some ⟨g, 0, none⟩) 2 2) (.int .i64 (k : Int))).run Try.prog w = .ok (.pointer (some ⟨g, k, none⟩)) w := by
  obtain ⟨i, h1, h2⟩ := i22x
  have := run_indexAt2 (P := Try.prog) Try.underlying61 h1 h2 (A := some ⟨g, 0, none⟩) (n := 2) (fun _ => ⟨g, 0, rfl⟩) 2 k hk w
  simpa [bk, ofs, adr] using this
/-- One list's part of the encoding. -/
def part (l : List Int) : List Int := (2 * (l.length : Int)) :: l.map (fun x => 2 * x)
theorem part_enc {l : List Int} (hl : l.length ≤ 9) (h : ∀ x ∈ l, 0 ≤ x ∧ x < 64) : encIs l = part l := by
  unfold encIs part
  rw [encI_small (by omega) (by omega)]
  have : ∀ r : List Int, (∀ x ∈ r, 0 ≤ x ∧ x < 64) → r.flatMap encI = r.map (fun x => 2 * x) := by
    intro r hr
    induction r with
    | nil => rfl
    | cons a r ih =>
      have ha := hr a (by simp)
      rw [List.flatMap_cons, ih (fun x hx => hr x (by simp [hx])), encI_small (by omega) (by omega)]
      rfl
  rw [this l h]; rfl
def upB (o n : List Int) : Nat → List Int
  | 0 => []
  | 1 => part o
  | _ => part o ++ part n
theorem part_len (l : List Int) : (part l).length = l.length + 1 := by simp [part]
theorem part_take (l : List Int) (j : Nat) (hj : j < l.length) : (l.take (j + 1)).map (fun x => 2 * x) = (l.take j).map (fun x => 2 * x) ++ [2 * gd l j] := by
  rw [List.take_succ_eq_append_getElem hj, gd_get hj, List.map_append]; rfl
set_option maxRecDepth 10000 in
set_option maxHeartbeats 2000000 in
theorem bytes_yes (B : Nat → Prop) (m : Ms) (w : World) (h : MR w B m) (hv : vB m.o m.n = true) :
    Calls Try.prog 31 #[msV m] w (BysPost (encM m.o m.n) w) := by
  obtain ⟨hl1, hl2, hl3⟩ := v_lens hv
  have HR := Lib.hid (v_range hv)
  have HEm := Lib.hid (show encM m.o m.n = upB m.o m.n 2 by unfold encM upB; rw [if_pos hv, part_enc hl2 (fun x hx => HR.out x (.inl hx)), part_enc hl3 (fun x hx => HR.out x (.inr hx))]; rfl)
  have h1 := h.alloc (.cells (msC m) 24)
  have HO := Lib.hid (right_b B m _ h1 true hv)
  have g1 : Blk (w.alloc (.cells (msC m) 24)) w.heap.size 24 (msC m) := Blk.new w 24 _
  have b1 : Below w.heap.size w (w.alloc (.cells (msC m) 24)) := (Below.refl _ _).alloc (Nat.le_refl _) _
  clear h hv
  go_enter Try.func31, Try.ntmps31
  go_wp2_with (go_at_call 13; ((with_reducible refine HO.out.mono ?_); rintro e w1 ⟨rfl, rfl⟩))
  have h3 := (h1.alloc (.cells (msC m) 24)).alloc (.cells (msC m) 22)
  have k3 : Blk (((w.alloc (.cells (msC m) 24)).alloc (.cells (msC m) 24)).alloc (.cells (msC m) 22)) (w.heap.size + 1 + 1) 22 (msC m) := by simpa using Blk.new ((w.alloc (.cells (msC m) 24)).alloc (.cells (msC m) 24)) 22 (msC m)
  have b3 := (b1.alloc b1.size (.cells (msC m) 24)).alloc (by simp; omega) (.cells (msC m) 22)
  clear h1 HO g1 b1
  generalize ((w.alloc (.cells (msC m) 24)).alloc (.cells (msC m) 24)).alloc (.cells (msC m) 22) = W3 at *
  have l3 := k3.lt
  go_loopw [3, 18] (fun vo vi wr => ∃ (k : Nat) (A : Option Addr) (c : Nat), k ≤ 2 ∧ vi = .int .i64 k ∧ vo = .slice A (upB m.o m.n k).length c ∧ wr.ownsRow W3.heap.size 5 1 (.slice A (upB m.o m.n k).length c) (upB m.o m.n k).length (bys (upB m.o m.n k)) ∧ Below W3.heap.size W3 wr) (fun _ i _ => 2 - (intOf i).toNat)
  case atStart => exact ⟨0, none, 0, by omega, rfl, rfl, World.ownsRow_nil _ _ _ _, Below.refl _ _⟩
  case round =>
    obtain ⟨k, A, c, hk, rfl, rfl, hown, hb⟩ := hrel
    by_cases hlt : k < 2
    · have hlt' : (k : Int) < 2 := by omega
      have hix := fun W => ix61 (w.heap.size + 1 + 1) k hlt W
      have kr := k3.below hb l3
      have hmr := h3.below hb
      obtain ⟨Ax, cx, lx, hcell, hRI, hlx, hrg, hup⟩ : ∃ (Ax : Option Addr) (cx : Nat) (lx : List Int), wr.cell? ⟨w.heap.size + 1 + 1, k, none⟩ = some (.slice Ax lx.length cx) ∧ RI W3 B Ax lx ∧ lx.length ≤ 9 ∧ (∀ x ∈ lx, 0 ≤ x ∧ x < 64) ∧ upB m.o m.n (k + 1) = upB m.o m.n k ++ part lx := by
        have hc := kr.cell k
        rcases (show k = 0 ∨ k = 1 by omega) with rfl | rfl
        · exact ⟨m.A, m.c, m.o, hc, h3.o, hl2, fun x hx => HR.out x (.inl hx), rfl⟩
        · exact ⟨m.A', m.c', m.n, hc, h3.n, hl3, fun x hx => HR.out x (.inr hx), rfl⟩
      have HUp := Lib.hid hup
      have HRg := Lib.hid hrg
      clear hup hrg kr
      have hul : (upB m.o m.n k).length ≤ 100 := by
        rcases (show k = 0 ∨ k = 1 by omega) with rfl | rfl
        · simp [upB]
        · simp [upB, part_len]; omega
      generalize upB m.o m.n k = U at *
      obtain ⟨wo, rfl⟩ : ∃ wo : World, wo = wr := ⟨_, rfl⟩
      have pX := hRI.plain (by omega)
      have hu8 : IntKind.u8.wrap (2 * (lx.length : Int)) = 2 * (lx.length : Int) := by rw [IntKind.wrap_u8']; omega
      have hso := hb.size
      go_wp2_with (at_builtin; refine wpList_append_any _ rfl _ _ _ rfl W3.heap.size 5 _ 1 1 Try.underlying45 info5 rfl (by omega) (.slice A U.length c) U.length (bys U) rfl (hown.alloc _) _ (some ⟨wo.heap.size, 0, none⟩) 1 1 [.int .u8 (2 * (lx.length : Int))] rfl (Reads.newS _ [.int .u8 (2 * (lx.length : Int))] 5 (0, 0) 1 1 rfl _ rfl) (by simp [Value.oneCell']) (by simp only [maxLen]; omega) (by omega) (by simp; omega) ?_; intro A4 c4 w4 hown4 hgr4 hat4)
      have b4 : Below W3.heap.size W3 w4 := (hb.alloc hso _).grown hgr4 (by simp; omega) (fun g hg => by have := (hown.lt g hg).1; omega)
      have ho4 : w4.ownsRow W3.heap.size 5 1 (.slice A4 (U ++ [2 * (lx.length : Int)]).length c4) (U ++ [2 * (lx.length : Int)]).length (bys (U ++ [2 * (lx.length : Int)])) := by simpa using hown4
      have e4 : (U ++ [2 * (lx.length : Int)]).length = U.length + 1 := by simp
      clear hown4 hgr4 hat4 hown hb hmr hcell hso hu8 hix
      go_loopw [3, 31] (fun vo vi wr => ∃ (j : Nat) (A : Option Addr) (c : Nat) (V : List Int), j ≤ lx.length ∧ vi = .int .i64 j ∧ vo = .slice A V.length c ∧ V.length ≤ 101 + j ∧ V = U ++ (2 * (lx.length : Int)) :: (lx.take j).map (fun x => 2 * x) ∧ wr.ownsRow W3.heap.size 5 1 (.slice A V.length c) V.length (bys V) ∧ Below W3.heap.size W3 wr) (fun _ i _ => lx.length - (intOf i).toNat)
      case atStart => exact ⟨0, A4, c4, U ++ [2 * (lx.length : Int)], by omega, rfl, by rw [e4], by omega, rfl, ho4, b4⟩
      case round =>
        obtain ⟨j, Aj, cj, V, hj, rfl, rfl, hVl, hV, hownj, hbj⟩ := hrel
        have HV := Lib.hid hV
        clear hV ho4 b4 e4
        have hsj := hbj.size
        by_cases hjl : j < lx.length
        · have hjl' : (j : Int) < lx.length := by omega
          have hg := HRg.out (gd lx j) (by rw [gd_get hjl]; exact List.getElem_mem hjl)
          have hixj := fun W => ix22 pX cx j hjl W
          have hcj := RI.at_ (hRI.fr (S := fun _ => False) (Fr.of_below hbj) (fun _ _ => id)) hjl
          have hu8 : IntKind.u8.wrap (2 * gd lx j) = 2 * gd lx j := by rw [IntKind.wrap_u8']; omega
          have hi64 : IntKind.i64.wrap (2 * gd lx j) = 2 * gd lx j := IntWalk.i64_in _ (by omega)
          have HPt := Lib.hid (part_take lx j hjl)
          go_wp2_with (at_builtin; refine wpList_append_any _ rfl _ _ _ rfl W3.heap.size 5 _ 1 1 Try.underlying45 info5 rfl (by omega) (.slice Aj V.length cj) V.length (bys V) rfl (hownj.alloc _) _ (some ⟨wr.heap.size, 0, none⟩) 1 1 [.int .u8 (2 * gd lx j)] rfl (Reads.newS _ [.int .u8 (2 * gd lx j)] 5 (0, 0) 1 1 rfl _ rfl) (by simp [Value.oneCell']) (by simp only [maxLen]; omega) (by omega) (by simp; omega) ?_; intro A4 c4 w4 hown4 hgr4 hat4)
          have e5 : (V ++ [2 * gd lx j]).length = V.length + 1 := by simp
          refine ⟨⟨j + 1, A4, c4, V ++ [2 * gd lx j], by omega, by go_num, by rw [e5], by omega, ?_, by simpa using hown4, (hbj.alloc hsj _).grown hgr4 (by simp; omega) (fun g hg => by have := (hownj.lt g hg).1; omega)⟩, by simp [intOf]; omega⟩
          rw [HPt.out, HV.out]; simp
        · have hjl' : ¬ (j : Int) < lx.length := by omega
          have HT := Lib.hid (show V = upB m.o m.n (k + 1) by rw [HUp.out, HV.out, List.take_of_length_le (by omega)]; rfl)
          go_wp2_with fail
          obtain rfl := HT.out
          exact ⟨⟨k + 1, Aj, cj, by omega, by go_num, rfl, hownj, hbj⟩, by simp [intOf]; omega⟩
    · have hge : ¬ ((k : Int) < 2) := by omega
      have HK := Lib.hid (show k = 2 by omega)
      go_wp2
      go_ret
      rw [HEm.out]
      obtain rfl := HK.out
      exact ⟨A, c, rfl, (Reads.of_own hown).more (fun g hg => by have := (hown.lt g hg).1; have := b3.size; omega), b3.trans (hb.mono b3.size)⟩
set_option maxRecDepth 10000 in
set_option maxHeartbeats 1000000 in
theorem bytes_no (B : Nat → Prop) (m : Ms) (w : World) (h : MR w B m) (hv : vB m.o m.n = false) :
    Calls Try.prog 31 #[msV m] w (BysPost (encM m.o m.n) w) := by
  have HEm := Lib.hid (show encM m.o m.n = [] by unfold encM; rw [if_neg (by simp [hv])])
  have HO := Lib.hid (right_b B m _ (h.alloc (.cells (msC m) 24)) false hv)
  clear h hv
  go_enter Try.func31, Try.ntmps31
  go_wp2_with (go_at_call 13; ((with_reducible refine HO.out.mono ?_); rintro e w1 ⟨rfl, rfl⟩))
  go_ret
  rw [HEm.out]
  exact ⟨none, 0, rfl, Reads.none_, ((Below.refl _ _).alloc (Nat.le_refl _) _).alloc (by simp) _⟩
theorem bytes_any (B : Nat → Prop) (m : Ms) (w : World) (h : MR w B m) : Calls Try.prog 31 #[msV m] w (BysPost (encM m.o m.n) w) := by
  cases hv : vB m.o m.n with
  | false => exact bytes_no B m w h hv
  | true => exact bytes_yes B m w h hv
end Go.Proofs.Ytnpfbpfobbadaaa

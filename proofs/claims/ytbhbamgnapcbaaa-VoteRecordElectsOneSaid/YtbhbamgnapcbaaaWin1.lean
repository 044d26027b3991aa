import Derived.Test.YtbhbamgnapcbaaaVWin
import Derived.Deep.CutBlock
import Derived.Deep.RegionLaw
import Derived.Deep.RegionHeld
import Derived.Deep.DeepCutAuto
namespace Go.Proofs.Ytbhbamgnapcbaaa
set_option linter.unusedVariables false
open Go.RowKit Go.Own Go.Quo
def prL (p : Int × Int) : List Value := [.int .i64 p.1, .int .i64 p.2]
theorem prL_len (p : Int × Int) : (prL p).length = 2 := rfl
theorem pr_cells {w : World} {B : Nat → Prop} {A : Option Addr} {l : List (Int × Int)} (h : Reads w B 2 A l.length (l.flatMap prL)) {k : Nat} {x : Int × Int} (hx : l[k]? = some x) :
    w.cell? ⟨bk A, ofs A + k * 2, none⟩ = some (.int .i64 x.1) ∧ w.cell? ⟨bk A, ofs A + k * 2 + 1, none⟩ = some (.int .i64 x.2) := by
  have hk := (List.getElem?_eq_some_iff.1 hx).1
  constructor
  · rw [h.cell2 (k * 2) (by omega) (by omega)]
    simpa [prL] using flat_get prL 2 prL_len l k 0 x hx (by omega)
  · rw [Nat.add_assoc, h.cell2 (k * 2 + 1) (by omega) (by omega)]
    simpa [prL] using flat_get prL 2 prL_len l k 1 x hx (by omega)
theorem info70 : ∃ i, Try.prog.info? 70 = some i ∧ i.size = 2 := by
  have : (Try.prog.info? 70).map (fun i => i.size) = some 2 := by kernel_rfl
  cases h : Try.prog.info? 70 with
  | none => rw [h] at this; cases this
  | some i => rw [h] at this; exact ⟨i, rfl, by simpa using this⟩
theorem zero63 (w : World) : (zeroValue 63).run Try.prog w = .ok (.slice none 0 0) w := by kernel_rfl
theorem own_ne3 {w : World} {base p : Nat} {e t : TypeId} {size n : Nat} {v : Value} {xs : List Value} {cs : Array Value} (h : w.ownsRow base e size v n xs) (hb : Blk w p t cs) (hne : e ≠ t) : ∀ g, v.ownBlock = some g → g ≠ p := by
  intro g hg he
  subst he
  rcases h.2 with ⟨e1, e2⟩ | ⟨g', cap, cur, e1, e2, e3, e4⟩
  · rw [e1] at hg; cases hg
  · rw [e1] at hg
    simp [Value.ownBlock] at hg
    subst hg
    rw [hb] at e3
    injection e3 with e3
    injection e3 with _ e5
    exact hne e5.symm
theorem own_shape {w : World} {base : Nat} {e : TypeId} {size n : Nat} {v : Value} {xs : List Value} (h : w.ownsRow base e size v n xs) : ∃ A c, v = .slice A n c := by
  rcases h.2 with ⟨e1, e2⟩ | ⟨g, cap, cur, e1, _⟩
  · exact ⟨none, 0, by rw [e1, e2]⟩
  · exact ⟨_, _, e1⟩
def WnPost (o n : List Int) (l : List (Int × Int)) (w : World) (e : Ending) (w' : World) : Prop := ∃ r, e = .returned (.int .i64 r) ∧ WinIs o n l r ∧ Below w.heap.size w w'
set_option maxRecDepth 10000 in
set_option maxHeartbeats 4000000 in
theorem winner_any (B B2 : Nat → Prop) (m : Ms) (A : Option Addr) (c : Nat) (l : List (Int × Int)) (w : World) (h : MR w B m) (hr : Reads w B2 2 A l.length (l.flatMap prL)) (hl : l.length ≤ 100) (hwf : ∀ p ∈ l, (Lit.int .i64 p.2).wf = true) :
    Calls Try.prog 28 #[msV m, .slice A l.length c] w (WnPost m.o m.n l w) := by
  obtain ⟨i70, hi70, hs70⟩ := info70
  have hPl := hr.plain (by omega)
  have HR := Lib.hid (hr.old (by omega))
  have HH := Lib.hid h
  have hmm := @run_makeMap Try.prog
  have HWf := Lib.hid hwf
  have b2 : Below w.heap.size w ((w.alloc (.cells (msC m) 65)).alloc (.map #[] 0)) := ((Below.refl _ _).alloc (Nat.le_refl _) _).alloc (by simp) _
  have g2 : Blk ((w.alloc (.cells (msC m) 65)).alloc (.map #[] 0)) w.heap.size 65 (msC m) := (Blk.new w 65 _).alloc _
  have s2 : ((w.alloc (.cells (msC m) 65)).alloc (.map #[] 0)).heap.size = w.heap.size + 2 := by simp
  have E2 : Ents ((w.alloc (.cells (msC m) 65)).alloc (.map #[] 0)) (w.heap.size + 2) (w.heap.size + 1) [] [] := ⟨by simpa using MapB.new (w.alloc (.cells (msC m) 65)) .i64, by simp, by simp, by simp, by simp, by simp⟩
  clear h hr hwf
  go_enter Try.func28, Try.ntmps28
  go_wp2_with fail
  generalize (w.alloc (.cells (msC m) 65)).alloc (.map #[] 0) = W2 at *
  go_loopw [13] (fun vi wr => ∃ (k : Nat) (es : List En), (k ≤ l.length ∧ es.length ≤ k) ∧ vi = .int .i64 k ∧ Ents wr (w.heap.size + 2) (w.heap.size + 1) (l.take k) es ∧ Below (w.heap.size + 1) W2 wr) (fun vi _ => l.length - (intOf vi).toNat)
  case atStart => exact ⟨0, [], ⟨Nat.zero_le _, by simp⟩, rfl, by simpa using E2, Below.refl _ _⟩
  case round =>
    obtain ⟨k, es, ⟨hk, hel⟩, rfl, hE, hbel⟩ := hrel
    have hsr := hbel.size
    have HE := Lib.hid hE
    clear hE E2
    by_cases hlt : k < l.length
    · have hlt' : (k : Int) < l.length := by omega
      obtain ⟨p, hp⟩ : ∃ p, l[k]? = some p := ⟨_, List.getElem?_eq_getElem hlt⟩
      have hTk := Lib.hid (show l.take (k + 1) = l.take k ++ [p] by rw [List.take_add_one, hp]; rfl)
      have hix := fun W => run_indexAt2 (P := Try.prog) Try.underlying66 hi70 hs70 hPl c k hlt W
      have bw : Below w.heap.size w wr := b2.trans (hbel.mono (by omega))
      obtain ⟨c0, c1⟩ := pr_cells (HR.out.below bw (fun _ h => h.2)) hp
      clear hp
      obtain ⟨pv, px⟩ := p
      simp only at c0 c1
      have g3 : Blk (wr.alloc (.cells #[.int .i64 pv, .int .i64 px] 70)) wr.heap.size 70 #[.int .i64 pv, .int .i64 px] := Blk.new wr 70 _
      by_cases hneg : px < 0
      · have hn' : ¬ (0 : Int) ≤ px := by omega
        go_wp2_with fail
        refine ⟨⟨k + 1, es, ⟨by omega, by omega⟩, by go_num, ?_, hbel.alloc (by omega) _⟩, by simp [intOf]; omega⟩
        rw [hTk.out]
        exact (HE.out.neg (pv, px) hneg).fr (S := fun _ => False) ((Fr.refl _ _).alloc _) id (fun _ _ => id)
      · have hn' : (0 : Int) ≤ px := by omega
        have E3 := HE.out.fr (S := fun _ => False) (w' := wr.alloc (.cells #[.int .i64 pv, .int .i64 px] 70)) ((Fr.refl _ _).alloc _) id (fun _ _ => id)
        have b3 : Below (w.heap.size + 1) W2 (wr.alloc (.cells #[.int .i64 pv, .int .i64 px] 70)) := hbel.alloc (by omega) _
        have s3 : (wr.alloc (.cells #[.int .i64 pv, .int .i64 px] 70)).heap.size = wr.heap.size + 1 := by simp
        obtain ⟨kv, hkv⟩ : ∃ kv, es.map enV = kv := ⟨_, rfl⟩
        have hup := fun (W : World) (h : MapB W (w.heap.size + 1) .i64 kv) => MapB.update (P := Try.prog) h Try.underlying106 Try.underlying3 px
        have m3 := E3.m
        rw [hkv] at m3
        have HKv := Lib.hid hkv
        clear hkv
        go_wp2_with fail
        generalize wr.alloc (.cells #[.int .i64 pv, .int .i64 px] 70) = W3 at *
        obtain ⟨q0, q1, q2⟩ := g3.facts
        have hml := m3.lt
        have hml' : w.heap.size < wr.heap.size := by omega
        have hml2 : w.heap.size + 1 < wr.heap.size + 1 := by omega
        have hml3 : w.heap.size + 1 < wr.heap.size + 2 := by omega
        have HE3 := Lib.hid E3
        clear E3
        cases hf : es.find? (fun e => e.x == px) with
        | none =>
          have hno : ∀ e ∈ es, e.x ≠ px := fun e he hh => by
            have := List.find?_eq_none.1 hf e he
            simp [hh] at this
          have hlk : ∀ W : World, MapB W (w.heap.size + 1) .i64 kv → (Instr.lookup 106 (.map (some (w.heap.size + 1))) (.int .i64 px) false).run Try.prog W = .ok (.slice none 0 0) W := fun W h => by
            have := MapB.lookup (P := Try.prog) h Try.underlying106 Try.underlying3 zero63 px false
            rw [← HKv.out, kget_en, hf] at this
            simpa using this
          have HNo := Lib.hid hno
          clear hno hf
          go_region_law (first
            | (refine step_append_any _ (by rfl) (.tmp 26) (.tmp 29) _ (by rfl) (w.heap.size + 2) 3 _ 1 8 Try.underlying63 info3 rfl (by omega) (.slice none 0 0) 0 [] (by rfl) (World.ownsRow_nil _ _ _ _) _ (some ⟨wr.heap.size + 1, 0, none⟩) 1 1 [.int .i64 pv] (by rfl) ((Reads.newS W3 [.int .i64 pv] 3 (0, 0) 1 1 rfl _ s3.symm).drew) (by simp [Value.oneCell']) (by simp only [maxLen]; omega) (by omega) (by simp; omega) ?_
               intro A4 c4 w4 hown4 hgr4 hat4
               have F4 : Fr (fun _ => False) W3 w4 := (((Fr.refl _ W3).alloc _).drew).grown hgr4 (fun k hk => by cases hk)
               have m4 := m3.fr F4 id
               have k4 := g3.fr F4 id
               obtain ⟨y0, y1, y2⟩ := k4.facts))
          all_goals
            go_wp2_with fail
            obtain ⟨g4, e4, hg4⟩ : ∃ g, A4 = some ⟨g, 0, none⟩ ∧ W3.heap.size ≤ g := by
              rcases hown4.2 with ⟨e1, e2⟩ | ⟨g, cap, cur, e1, e2, e3, e4⟩
              · simp at e2
              · injection e1 with e1
                refine ⟨g, e1, ?_⟩
                rcases hat4 with e | e
                · rw [e1] at e; cases e
                · rw [e1] at e; injection e with e; simp at e; omega
            subst e4
            refine ⟨⟨k + 1, es ++ [⟨px, g4, c4, [pv]⟩], ⟨by omega, by simp; omega⟩, by go_num, ?_, ?_⟩, by simp [intOf]; omega⟩
            · rw [hTk.out]
              exact HE3.out.new (pv, px) hn' HNo.out g4 c4 hg4 F4 (by simpa using hown4)
            · exact b3.trans ((F4.below (B := w.heap.size + 1) (by omega) (fun _ _ => id)).trans (((Fr.refl (fun g => g = w.heap.size + 1) _).mput (.inl rfl) _ _ _).below (by have := F4.size; omega) (fun g hg e => by omega)))
        | some e =>
          obtain ⟨a, b, rfl, ha, hex⟩ : ∃ a b, es = a ++ e :: b ∧ (∀ e' ∈ a, (e'.x == px) = false) ∧ e.x = px := by
            obtain ⟨h1, l1, l2, h2, h3⟩ := List.find?_eq_some_iff_append.1 hf
            exact ⟨l1, l2, h2, fun e' he' => by simpa using h3 e' he', by simpa using h1⟩
          have hlk : ∀ W : World, MapB W (w.heap.size + 1) .i64 kv → (Instr.lookup 106 (.map (some (w.heap.size + 1))) (.int .i64 px) false).run Try.prog W = .ok (.slice (some ⟨e.g, 0, none⟩) e.ys.length e.c) W := fun W h => by
            have := MapB.lookup (P := Try.prog) h Try.underlying106 Try.underlying3 zero63 px false
            rw [← HKv.out, kget_en, hf] at this
            simpa [enS] using this
          have hem : e ∈ a ++ e :: b := by simp
          have hown3 := HE3.out.own e hem
          have hyl : e.ys.length ≤ 100 := by
            rw [HE3.out.ys e hem]
            have := vot_len (l.take k) e.x
            rw [List.length_take] at this
            omega
          have hne := HE3.out.ne hem
          have hglt := (HE3.out.lt hem).2
          have hgne : e.g ≠ wr.heap.size := fun hh => by
            have := own_ne3 hown3 g3 (by decide)
            exact this _ rfl hh
          have HX := Lib.hid hex
          have HO3 := Lib.hid hown3
          clear hf ha hem hex
          go_region_law (first
            | (refine step_append_any _ (by rfl) (.tmp 26) (.tmp 29) _ (by rfl) (w.heap.size + 2) 3 _ 1 8 Try.underlying63 info3 rfl (by omega) (.slice (some ⟨e.g, 0, none⟩) e.ys.length e.c) e.ys.length (e.ys.map (Value.int .i64)) (by rfl) ((HO3.out.alloc _).drew) _ (some ⟨wr.heap.size + 1, 0, none⟩) 1 1 [.int .i64 pv] (by rfl) ((Reads.newS W3 [.int .i64 pv] 3 (0, 0) 1 1 rfl _ s3.symm).drew) (by simp [Value.oneCell']) (by simp only [maxLen]; omega) (by omega) (by simp; omega) ?_
               intro A4 c4 w4 hown4 hgr4 hat4
               have F4 : Fr (fun g => g = e.g) W3 w4 := (((Fr.refl _ W3).alloc _).drew).grown hgr4 (fun k hk => .inl (by injection hk with hk; exact hk.symm))
               have m4 := m3.fr F4 hne
               have k4 := g3.fr F4 (fun hh => hgne hh.symm)
               obtain ⟨y0, y1, y2⟩ := k4.facts))
          all_goals
            go_wp2_with fail
            obtain ⟨g4, e4, hg4⟩ : ∃ g, A4 = some ⟨g, 0, none⟩ ∧ (g = e.g ∨ W3.heap.size ≤ g) := by
              rcases hown4.2 with ⟨e1, e2⟩ | ⟨g, cap, cur, e1, e2, e3, e4⟩
              · simp at e2
              · injection e1 with e1
                refine ⟨g, e1, ?_⟩
                rcases hat4 with e | e
                · rw [e1] at e; injection e with e; exact .inl e
                · rw [e1] at e; injection e with e; simp at e; exact .inr (by omega)
            subst e4
            refine ⟨⟨k + 1, a ++ ⟨e.x, g4, c4, e.ys ++ [pv]⟩ :: b, ⟨by omega, by simp at hel ⊢; omega⟩, by go_num, ?_, ?_⟩, by simp [intOf]; omega⟩
            · rw [hTk.out]
              exact HE3.out.old (pv, px) HX.out g4 c4 hg4 F4 hown4
            · exact b3.trans ((F4.below (B := w.heap.size + 1) (by omega) (fun g hg hh => by have := (HO3.out.lt e.g rfl).1; omega)).trans (((Fr.refl (fun g => g = w.heap.size + 1) _).mput (.inl rfl) _ _ _).below (by have := F4.size; omega) (fun g hg e => by omega)))
    · have hlt' : ¬ (k : Int) < l.length := by omega
      have he : k = l.length := by omega
      subst he
      rw [List.take_length] at HE
      have HK := Lib.hid fun W => keys_call (some (w.heap.size + 1)) W
      have hen : es.length ≤ 1000 := by omega
      have HS := Lib.hid (sorted_call HE.out.m (by simpa [enV, Function.comp_def] using HE.out.nd) (fun p hp => by
        obtain ⟨e, he, rfl⟩ := List.mem_map.1 hp
        obtain ⟨h0, q, hq, hqe⟩ := (HE.out.key e.x).1 ⟨e, he, rfl⟩
        show (Lit.int .i64 e.x).wf = true
        rw [← hqe]; exact HWf.out q hq) (by simpa using hen))
      have g3 := g2.below hbel (by omega)
      have bw : Below w.heap.size w wr := b2.trans (hbel.mono (by omega))
      go_wp2_with (first
        | (go_at_call 53; ((with_reducible refine (HK.out _).mono ?_); rintro e w3 ⟨rfl, rfl⟩))
        | (go_at_call 52; ((with_reducible refine HS.out.mono ?_); rintro e w3 ⟨v, ss, rfl, hss, hown, hB3⟩; obtain ⟨A9, c9, rfl⟩ := own_shape hown)))
      have hsl : ss.length = es.length := by have := hss.length_eq; simpa using this
      have hF3 : Fr (fun _ => False) wr w3 := ((Fr.refl (fun _ => False) wr).alloc (.cells #[.map (some (w.heap.size + 1))] 106)).trans (Fr.of_below ((show Below (wr.alloc (.cells #[.map (some (w.heap.size + 1))] 106)).heap.size _ _ by simpa using hB3)))
      have E3 := Lib.hid (HE.out.fr hF3 id (fun _ _ => id))
      have g4 := g3.fr hF3 id
      have b4 : Below w.heap.size w w3 := bw.trans (hF3.below bw.size (fun _ _ => id))
      have hmem : ∀ x, x ∈ ss.mergeSort (fun x y => decide (x ≤ y)) ↔ (0 ≤ x ∧ ∃ p ∈ l, p.2 = x) := fun x => by
        rw [List.mem_mergeSort, hss.mem_iff, ← E3.out.key x]
        simp [enV]
      have hsrt : (ss.mergeSort (fun x y => decide (x ≤ y))).Pairwise (fun a b => a ≤ b) := by
        have := List.pairwise_mergeSort (le := fun x y : Int => decide (x ≤ y)) (fun a b c h1 h2 => by simp only [decide_eq_true_eq] at *; omega) (fun a b => by simp only [Bool.or_eq_true, decide_eq_true_eq]; omega) ss
        exact this.imp (fun h => by simpa using h)
      have hml : (ss.mergeSort (fun x y => decide (x ≤ y))).length = ss.length := by simp
      have rms := Reads.of_own hown
      generalize ss.mergeSort (fun x y => decide (x ≤ y)) = ms at *
      have rms3 := Lib.hid ((rms.old (by omega)).more (B' := fun k => k < w3.heap.size) (fun k hk => hk.2))
      have hpl9 := rms.plain (by omega)
      have HMem := Lib.hid hmem
      have HSrt := Lib.hid hsrt
      have HMl := Lib.hid hml
      have hsl2 : ss.length ≤ 1000 := by omega
      have hgl := g4.lt
      clear hmem hsrt hml rms hown hss HS HK HE hsl
      go_loopw [9, 36] (fun _ vi wr => ∃ (k : Nat), k ≤ ss.length ∧ vi = .int .i64 k ∧ (∀ i, i < k → reachB m.o m.n (vot l (gd ms i)) = false) ∧ Below w3.heap.size w3 wr) (fun _ vi _ => ss.length - (intOf vi).toNat)
      case atStart => exact ⟨0, Nat.zero_le _, rfl, fun i hi => absurd hi (by omega), Below.refl _ _⟩
      case round =>
        obtain ⟨k, hk, rfl, hall, hbel2⟩ := hrel
        have hsr2 := hbel2.size
        have HAll := Lib.hid hall
        clear hall
        have b5 : Below w.heap.size w wr := b4.trans (hbel2.mono b4.size)
        by_cases hlt : k < ss.length
        · have hlt' : (k : Int) < ss.length := by omega
          have hix := fun W => ix22 hpl9 c9 k hlt W
          have hgk : gd ms k ∈ ms := by rw [gd_get (by have := HMl.out; omega)]; exact List.getElem_mem _
          have hcell : wr.cell? ⟨bk A9, ofs A9 + k, none⟩ = some (.int .i64 (gd ms k)) := by
            have := (rms3.out.below hbel2 (fun _ h => h)).cell2 k (by omega) (by omega)
            rw [this, gd_get (by have := HMl.out; omega)]
            have hkm : k < ms.length := by have := HMl.out; omega
            simp [hkm]
          have hx0 := (HMem.out (gd ms k)).1 hgk
          have E5 := E3.out.fr (S := fun _ => False) (Fr.of_below hbel2) id (fun _ _ => id)
          obtain ⟨e0, he0, hee0⟩ := (E5.key (gd ms k)).2 hx0
          obtain ⟨e, hfe⟩ : ∃ e, es.find? (fun e => e.x == gd ms k) = some e := by
            cases hf : es.find? (fun e => e.x == gd ms k) with
            | none => have := List.find?_eq_none.1 hf e0 he0; simp [hee0] at this
            | some e => exact ⟨e, rfl⟩
          have hem := List.mem_of_find?_eq_some hfe
          have hex : e.x = gd ms k := by have := List.find?_some hfe; simpa using this
          have hys := E5.ys e hem
          obtain ⟨kv, hkv⟩ : ∃ kv, es.map enV = kv := ⟨_, rfl⟩
          have m5 := E5.m
          rw [hkv] at m5
          have hlk : ∀ W : World, MapB W (w.heap.size + 1) .i64 kv → (Instr.lookup 106 (.map (some (w.heap.size + 1))) (.int .i64 (gd ms k)) false).run Try.prog W = .ok (.slice (some ⟨e.g, 0, none⟩) e.ys.length e.c) W := fun W h => by
            have := MapB.lookup (P := Try.prog) h Try.underlying106 Try.underlying3 zero63 (gd ms k) false
            rw [← hkv, kget_en, hfe] at this
            simpa [enS] using this
          have hyl : e.ys.length ≤ 100 := by
            rw [hys]
            have := vot_len l e.x
            omega
          have HRe := Lib.hid (reached_any B (fun g => (enS e).ownBlock = some g) m (some ⟨e.g, 0, none⟩) e.c e.ys wr (HH.out.below b5) (Reads.of_own (E5.own e hem)) (by omega))
          rw [hys, hex] at HRe
          rw [hys, hex] at hlk hyl
          have g5 := g4.below hbel2 hgl
          obtain ⟨q0, q1, q2⟩ := g5.facts
          have HX0 := Lib.hid hx0
          clear hys hfe hem hkv E5 he0 hx0 hgk
          cases hq : reachB m.o m.n (vot l (gd ms k)) with
          | true =>
            rw [hq] at HRe
            go_wp2_with fail
            refine HRe.out.mono ?_
            rintro e w6 ⟨rfl, hB6⟩
            go_wp2_with fail
            go_ret
            refine ⟨gd ms k, rfl, .inr ⟨HX0.out.1, HX0.out.2, hq, fun p hp hp0 hpr => ?_⟩, b5.trans (hB6.mono b5.size)⟩
            have hpm := (HMem.out p.2).2 ⟨hp0, p, hp, rfl⟩
            obtain ⟨i, hi, hie⟩ := List.mem_iff_getElem.1 hpm
            have hkm : k < ms.length := by have := HMl.out; omega
            rcases (show i < k ∨ i = k ∨ k < i by omega) with h1 | h1 | h1
            · have := HAll.out i h1
              rw [gd_get hi, hie, hpr] at this; cases this
            · subst h1; rw [gd_get hi, hie]; exact Int.le_refl _
            · have := List.pairwise_iff_getElem.1 HSrt.out k i hkm hi h1
              rw [gd_get hkm, ← hie]; exact this
          | false =>
            rw [hq] at HRe
            go_wp2_with fail
            refine HRe.out.mono ?_
            rintro e w6 ⟨rfl, hB6⟩
            go_wp2_with fail
            refine ⟨⟨k + 1, by omega, by go_num, fun i hi => ?_, hbel2.trans (hB6.mono hsr2)⟩, by simp [intOf]; omega⟩
            rcases (show i < k ∨ i = k by omega) with h1 | rfl
            · exact HAll.out i h1
            · exact hq
        · have hlt' : ¬ (k : Int) < ss.length := by omega
          have he : k = ss.length := by omega
          go_wp2_with fail
          go_ret
          refine ⟨-1, rfl, .inl ⟨rfl, fun p hp hp0 => ?_⟩, b5⟩
          have hpm := (HMem.out p.2).2 ⟨hp0, p, hp, rfl⟩
          obtain ⟨i, hi, hie⟩ := List.mem_iff_getElem.1 hpm
          have := HAll.out i (by have := HMl.out; omega)
          rw [gd_get hi, hie] at this
          exact this
end Go.Proofs.Ytbhbamgnapcbaaa

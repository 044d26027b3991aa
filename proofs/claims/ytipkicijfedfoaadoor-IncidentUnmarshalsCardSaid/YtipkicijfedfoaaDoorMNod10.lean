import Derived.Test.YtipkicijfedfoaaDoorMNod9
import Derived.Test.YtipkicijfedfoaaDoorMGD
namespace Go.Proofs.YtipkicijfedfoaaDoor
set_option linter.unusedVariables false
open Go.RowKit Go.Own Go.Quo Go.Inc Go.Shelf
attribute [local go_sem] Oper.semAt_some
set_option maxHeartbeats 1000000 in
theorem len92n (w : World) : Calls Tryd.prog 92 #[.agg #[.pointer none]] w (fun e w' => ∃ n : Int, 0 ≤ n ∧ n ≤ 8128 ∧ e = .returned (.int .i64 n) ∧ Below w.heap.size w w') := by
  have HB := Lib.hid ((Below.refl w.heap.size w).alloc (Nat.le_refl _) (.cells #[.pointer none] 96))
  go_enter Tryd.func92, Tryd.ntmps92
  go_wp2_with fail
  go_ret
  exact ⟨0, by omega, by omega, rfl, HB.out⟩
theorem info22e : (Tryd.prog.info? 3).map (fun i => (i.zero, i.size, i.bytes)) = some (some (.int .i64 0), 1, 8) := by kernel_rfl
set_option maxRecDepth 100000 in
set_option maxHeartbeats 4000000 in
/-- the list of a set's nodes, whatever the iterator is -/
theorem list77_of (p : Option Addr) (xs : List Int) (hlen : xs.length ≤ 100000) (w : World)
    (H92 : RowKit.Hid (Calls Tryd.prog 92 #[.agg #[.pointer p]] (w.alloc (.cells #[.pointer p] 96)) (fun e w' => ∃ n : Int, 0 ≤ n ∧ n ≤ 8128 ∧ e = .returned (.int .i64 n) ∧ Below (w.alloc (.cells #[.pointer p] 96)).heap.size (w.alloc (.cells #[.pointer p] 96)) w')))
    (HIt : RowKit.Hid (∀ (W : World) (Bn : Nat), Below w.heap.size w W → Bn < W.heap.size → W.cell? ⟨Bn, 0, none⟩ = some (.pointer p) → SeqStopsK Fence.wide 2 Tryd.prog 115 #[.pointer (some ⟨Bn, 0, none⟩)] (fun x : Int => #[Value.int .i64 x]) (Below w.heap.size) (fun ys => ys = xs) (fun pre => pre <+: xs) xs.length W)) :
    CallsIn Fence.wide 3 Tryd.prog 77 #[.agg #[.pointer p]] w (fun e w' => ∃ v, e = .returned v ∧ w'.ownsRow w.heap.size 3 1 v xs.length (xs.map (Value.int .i64)) ∧ Below w.heap.size w w') := by
  obtain ⟨i0, hi, hz0, hz1, hz2⟩ := info_parts info22e
  have HX := Lib.hid (Blk.new w 96 #[.pointer p])
  have HB0 := Lib.hid ((Below.refl w.heap.size w).alloc (Nat.le_refl _) (.cells #[.pointer p] 96))
  refine callsIn_of_wp_marks Tryd.func77 rfl trivial ?_ rfl
  simp only [Tryd.ntmps77, List.size_toArray, List.length_cons, List.length_nil, Nat.reduceAdd, Nat.reduceSub, Array.replicate_succ, Array.replicate_zero, List.push_toArray, List.append_toArray, List.nil_append, List.cons_append]
  gi_wp2_with (first | (refine ⟨trivial, ?_⟩; gi_at_call 93; refine (each93 2 _ _).mono ?_; rintro e w4 ⟨rfl, rfl⟩) | (refine ⟨trivial, ?_⟩; gi_at_call 92; refine (callsIn_wide.2 H92.out).mono ?_; rintro e w2 ⟨n, hn0, hn1, rfl, hb2⟩; obtain ⟨c, rfl⟩ : ∃ c : Nat, n = c := ⟨n.toNat, by omega⟩; have HX2 := Lib.hid (HX.out.below hb2 HX.out.lt); obtain ⟨y0, y1, y2⟩ := HX2.out.facts; have HB2 := Lib.hid (HB0.out.trans (hb2.mono (by simp))); clear hb2; have hmk := run_make0 (P := Tryd.prog) 22 3 (.int .i64 0) 8 Tryd.underlying22 info22e rfl c (by omega) (by omega)))
  have bO := Boxed.new (w2.alloc (.cells (zrow (.int .i64 0) c) 3)) 22 (.slice (some ⟨w2.heap.size, 0, none⟩) 0 c)
  rw [World.size_alloc] at bO
  have bN := Boxed.new ((w2.alloc (.cells (zrow (.int .i64 0) c) 3)).alloc (.cells #[.slice (some ⟨w2.heap.size, 0, none⟩) 0 c] 22)) 96 (.pointer p)
  rw [World.size_alloc, World.size_alloc] at bN
  have hsz := HB2.out.size
  have hB1 : Below w.heap.size w (((w2.alloc (.cells (zrow (.int .i64 0) c) 3)).alloc (.cells #[.slice (some ⟨w2.heap.size, 0, none⟩) 0 c] 22)).alloc (.cells #[.pointer p] 96)) := ((HB2.out.alloc hsz _).alloc (by simp; omega) _).alloc (by simp; omega) _
  have hrow := World.ownsRow_made (base := w.heap.size) (e := 3) (size := 1) w2 (zrow (.int .i64 0) c) c hsz (by simp only [maxLen]; omega) (by simp [zrow])
  have HRow := Lib.hid ((hrow.alloc (.cells #[.slice (some ⟨w2.heap.size, 0, none⟩) 0 c] 22)).alloc (.cells #[.pointer p] 96))
  have HBN := Lib.hid bN
  have HBO := Lib.hid (bO.alloc (.cells #[.pointer p] 96))
  have HB1 := Lib.hid hB1
  have hsq := HIt.out _ (w2.heap.size + 2) hB1 (by simp) bN.cell
  clear hrow bN bO hB1
  refine wpIn_rangeFunc_ownG rfl (by omega) (gf := 115) (lb := #[.pointer (some ⟨w2.heap.size + 2, 0, none⟩)]) rfl trivial (enters_of Tryd.func115 (by kernel_rfl) rfl)
    hsq belowK_t (belowK_b (by simp; omega)) (Below.refl _ _) (fun _ => rfl)
    (fun pre W => (∃ v, Boxed W (w2.heap.size + 1) 22 v ∧ W.ownsRow w.heap.size 3 1 v pre.length (pre.map (Value.int .i64)) ∧ True) ∧ Below w.heap.size w W)
    (fun _ _ _ => False)
    (OwnFrom.and (Own.from (holdsRow_own w.heap.size (w2.heap.size + 1) 22 3 1 (fun pre : List Int => pre.length) (fun pre => pre.map (Value.int .i64)) (fun _ _ => True)) _) (ownFrom_below (Nat.le_refl _) (by simp; omega)))
    (fun _ _ _ _ _ hs _ _ => hs)
    ⟨⟨_, HBO.out, HRow.out, trivial⟩, HB1.out⟩
    (fun x => { tmps := #[.agg #[.pointer p], .pointer (some ⟨w.heap.size, 0, none⟩), .slice none 0 0, .pointer (some ⟨w2.heap.size + 1, 0, none⟩), .int .i64 x, .agg #[.pointer p], .int .i64 (c : Int), .slice (some ⟨w2.heap.size, 0, none⟩) 0 c, .agg #[.pointer p], .func (.func 115) #[] #[.pointer (some ⟨w2.heap.size + 2, 0, none⟩)], .int .i64 x, undef, undef, undef, undef, undef], defers := [] }) ?assign ?body ?done ?stop
  case assign =>
    intro l x W K hK
    gi_wp2
    exact hK
  case body =>
    rintro l pre x W ⟨⟨v, hv, hrow, -⟩, hB⟩ hlt
    have hc := hv.cell
    have hle : w.heap.size ≤ w2.heap.size + 1 := by omega
    have HB1' := HB1
    clear HB1' HRow HBO HBN HB1 hsq
    gi_wp2_with (gi_at_builtin; refine wpListIn_append_own _ rfl _ _ 22 rfl w.heap.size 3 i0 (.int .i64 0) 1 8 Tryd.underlying22 hi hz0 hz1 hz2 rfl (by decide) _ _ _ rfl (hrow.alloc _) ⟨W.heap.size, 0, none⟩ 1 1 [.int .i64 x] rfl rfl (cell_one_new _ _ _) (by simp [Value.oneCell']) (by simp only [maxLen]; omega) (by omega) (by have := hB.size; simp; omega) ?_; intro v' w1 hown' hgrow _; obtain ⟨g', cap', rfl⟩ := ownsRow_succ hown'; obtain ⟨hv1, hv2, hr2, hk2, hb2⟩ := hv.appended (by decide) hrow hB.size hle hown' hgrow; have hc1 := hv1.cell; have hf1 := hv1.frozen)
    exact ⟨hk2.from _, hb2, ⟨_, hv2, by simpa using hr2, trivial⟩, hB.trans hb2⟩
  case done =>
    rintro D ys W hD rfl ⟨⟨v, hv, hrow, -⟩, hB⟩ hK
    have hc := hv.cell
    gi_wp2
    refine ⟨by simp, .inl ⟨_, _, rfl, run_takeDeferred hK, ?_⟩⟩
    exact ⟨_, results_tmp rfl _ _ _, v, rfl, ownsRow_putObj hrow _ hK rfl, hB.trans (belowK_b (w := w) (Nat.le_refl _) W D _ _ (by simp at hD; omega) hK rfl rfl)⟩
  case stop =>
    rintro D c pre W _ _ h _
    exact h.elim
theorem filter_len (l : List Nat) (p : Nat → Bool) : (l.filter p).length ≤ l.length := List.length_filter_le _ _
theorem tailW_len (ws : List Nat) : ∀ k, k ≤ 64 → (tailW ws (64 - k)).length ≤ 64 * k
  | 0, _ => by rw [Nat.sub_zero, tailW_end]; simp
  | k + 1, h => by
    rw [tailW_succ ws (by omega), show 64 - (k + 1) + 1 = 64 - k by omega, List.length_append, List.length_map]
    have h1 := tailW_len ws k (by omega)
    have h2 : (bitsOf (gw ws (64 - (k + 1)))).length ≤ 64 := by
      unfold bitsOf
      have := filter_len (List.range 64) (fun j => (gw ws (64 - (k + 1))).testBit j)
      rw [List.length_range] at this
      exact this
    omega
theorem tailW_zero {ws : List Nat} (h : zeroW ws = true) : ∀ k, k ≤ 64 → tailW ws (64 - k) = []
  | 0, _ => tailW_end ws
  | k + 1, hk => by
    rw [tailW_succ ws (by omega), show 64 - (k + 1) + 1 = 64 - k by omega, tailW_zero h k (by omega)]
    unfold zeroW at h
    rw [List.all_eq_true] at h
    have := h (64 - (k + 1)) (List.mem_range.2 (by omega))
    have h0 : gw ws (64 - (k + 1)) = 0 := by simpa using this
    rw [h0, bitsOf_zero]; rfl
theorem rowB_of {xs : List Int} {w w' : World} {v : Value} (h : w'.ownsRow w.heap.size 3 1 v xs.length (xs.map (Value.int .i64))) (hb : Below w.heap.size w w') : RowPost xs 3 w (.returned v) w' := by
  have h0 := h
  rcases h.2 with ⟨rfl, hx⟩ | ⟨g, cap, cur, rfl, _⟩
  · have hl := h.1
    have hx0 : xs = [] := by simpa using hx
    subst hx0
    exact ⟨none, 0, rfl, h0, hb⟩
  · exact ⟨_, _, rfl, h0, hb⟩
/-- the list of a set's nodes -/
theorem list77 (g : Nat) (ws : List Nat) (w : World) (hz : WB w g ws) (ht : Tab w) (hl : ws.length = 64) (hv : ∀ i, gw ws i < 2 ^ 64) :
    Calls Tryd.prog 77 #[.agg #[.pointer (if zeroW ws = true then none else some ⟨g, 0, none⟩)]] w (RowPost (tailW ws 0) 3 w) := by
  have hlen : (tailW ws 0).length ≤ 100000 := by have := tailW_len ws 64 (Nat.le_refl _); simp at this; omega
  cases hq : zeroW ws with
  | true =>
    have h0 : tailW ws 0 = [] := by have := tailW_zero hq 64 (Nat.le_refl _); simpa using this
    rw [h0]
    refine (callsIn_wide.1 (list77_of none [] (by simp) w (Lib.hid (len92n _)) (Lib.hid (fun W Bn hW hBn hc => ?_)))).mono ?_
    · intro l J Jx W' hW' hJ hJx hY hj
      exact each115n 2 l Bn J Jx W' ((hW'.cell (p := ⟨Bn, 0, none⟩) hBn).trans hc) hj
    · rintro e w' ⟨v, rfl, h1, h2⟩
      exact rowB_of (xs := []) h1 h2
  | false =>
    refine (callsIn_wide.1 (list77_of (some ⟨g, 0, none⟩) (tailW ws 0) hlen w (Lib.hid (len92 g ws _ (Blk.alloc hz _) hl)) (Lib.hid (fun W Bn hW hBn hc => ?_)))).mono ?_
    · intro l J Jx W' hW' hJ hJx hY hj
      have hb : Below w.heap.size w W' := hW.trans (hW'.mono hW.size)
      exact each115 2 (by omega) l Bn w.heap.size g ws hl hv (Blk.lt hz) (Nat.lt_of_le_of_lt (Nat.zero_le _) (Blk.lt hz)) W'.heap.size J Jx hJ hY W' ((hW'.cell (p := ⟨Bn, 0, none⟩) hBn).trans hc) (Blk.below hz hb (Blk.lt hz)) (Tab.below ht hb (Tab.lt ht)) hj
    · rintro e w' ⟨v, rfl, h1, h2⟩
      exact rowB_of h1 h2
end Go.Proofs.YtipkicijfedfoaaDoor

import Derived.Test.YtipkicijfedfoaaDoorMGO
import Derived.Test.YtipkicijfedfoaaDoorMRf6
import Derived.Deep.RegionHeld
namespace Go.Inc
open Go.Wire
theorem encI_pos (n : Int) : 1 ≤ (encI n).length := by
  show 1 ≤ (encU (zig n)).length
  unfold encU
  split <;> simp
theorem flatI_len (l : List Int) : l.length ≤ (l.flatMap encI).length := by
  induction l with
  | nil => simp
  | cons a r ih =>
    have := encI_pos a
    simp only [List.flatMap_cons, List.length_append, List.length_cons]
    omega
theorem encIs_ge (l : List Int) : l.length ≤ (encIs l).length := by
  have := flatI_len l
  have e : encIs l = encI (l.length : Int) ++ l.flatMap encI := rfl
  rw [e, List.length_append]; omega
theorem encS_ge (s : ByteArray) : s.size ≤ (encS s).length := by
  have e : encS s = encI (s.size : Int) ++ strL s := rfl
  rw [e, List.length_append, strL_len]; omega
end Go.Inc
namespace Go.Proofs.YtipkicijfedfoaaDoor
set_option linter.unusedVariables false
set_option linter.unusedSimpArgs false
open Go.RowKit Go.Own Go.Quo Go.Inc Go.Wire
theorem ite_no {c : Prop} [Decidable c] {p q : Prop} (hc : ¬ c) (h : q) : if c then p else q := by rw [if_neg hc]; exact h
theorem ite_yes {c : Prop} [Decidable c] {p q : Prop} (hc : c) (h : p) : if c then p else q := by rw [if_pos hc]; exact h
theorem decX_S {b : List Int} (hB : Bytes b) (hl : b.length ≤ 500) : IcS (decX b).1 := by
  by_cases h : (decX b).2 = 0
  · obtain ⟨he, hi⟩ := decX_can hB h
    generalize (decX b).1 = x at *
    have hq : (encX x).length ≤ 500 := by rw [he]; exact hl
    unfold encX at hq
    simp only [List.length_append] at hq
    have q1 := encS_ge x.code
    have q2 := encIs_ge x.nodes
    have q3 := encIs_ge x.calls
    have q4 := encIs_ge x.units
    exact icS_of hi (by omega) (by omega) (by omega) (by omega)
  · have e : (decX b).1 = zIc := by
      unfold decX at h ⊢
      by_cases hc : endS (decS b).2 = 0 ∧ icB (decS b).1 = true
      · rw [if_pos hc] at h; exact absurd rfl h
      · rw [if_neg hc]
    rw [e]
    have n0 : In64 0 := ⟨by decide, by decide⟩
    have r0 : InR ([] : List Int) := fun x hx => by simp at hx
    exact ⟨n0, n0, by decide, r0, by decide, n0, n0, r0, by decide, r0, by decide, n0⟩
set_option maxRecDepth 10000 in
set_option maxHeartbeats 8000000 in
theorem unmarshals5 (b : List Int) (A : Option Addr) (c : Nat) (w : World) (ht : Tab w) (h : Reads w (· < w.heap.size) 1 A b.length (Wr.bys b)) (hB : Bytes b) :
    Calls Tryd.prog 5 #[.slice A b.length c] w (LawPost w) := by
  have HR := Lib.hid h
  have HBy := Lib.hid hB
  have H9 := Lib.hid (alive9 w ht)
  clear h ht hB
  by_cases hl : b.length ≤ 500
  case neg =>
    have hl' : (500 : Int) < b.length := by omega
    clear hl
    go_enter Tryd.func5, Tryd.ntmps5
    go_wp2_with (go_at_call 9; ((with_reducible refine H9.out.mono ?_); rintro e w2 ⟨rfl, hb⟩; have HB := Lib.hid hb; clear hb))
    go_ret
    exact ⟨rfl, HB.out⟩
  case pos =>
    have hl' : ¬ (500 : Int) < b.length := by omega
    have HS := Lib.hid (decX_S HBy.out hl)
    have HC := Lib.hid (show (decX b).2 = 0 → enc1 (decX b).1 = b from fun h => by obtain ⟨h1, h2⟩ := decX_can HBy.out h; unfold enc1; rw [if_pos h2]; exact h1)
    have HE := Lib.hid (show (decX b).2 = 0 ∨ (decX b).2 ≠ 0 by omega)
    have H21 := Lib.hid fun (W : World) (h : Reads W (fun k => k < w.heap.size) 1 A b.length (Wr.bys b)) => unm21 (fun k => k < w.heap.size) A c b W h HBy.out (by omega)
    have H22 := Lib.hid fun (W : World) (h : Reads W (fun k => k < w.heap.size) 1 A b.length (Wr.bys b)) => read22 (fun k => k < w.heap.size) A c b W h HBy.out (by omega)
    generalize decX b = DX at *
    obtain ⟨x, er⟩ := DX
    simp only at HS HC HE H21 H22
    go_enter Tryd.func5, Tryd.ntmps5
    go_upto_region 5 with (go_at_call 9; ((with_reducible refine H9.out.mono ?_); rintro e w2 ⟨rfl, hb⟩; have HB := Lib.hid hb; clear hb))
    have h21 := Lib.hid (H21.out w2 (HR.out.below HB.out (fun _ h => h)))
    go_upto_region 6 with (go_at_call 21; ((with_reducible refine h21.out.mono ?_); rintro e w3 ⟨An, Ac, Au, cn, cc, cu, rfl, hn, hc, hu, hb⟩; have HN := Lib.hid hn; have HCc := Lib.hid hc; have HU := Lib.hid hu; have HB3 := Lib.hid (HB.out.trans (hb.mono HB.out.size)); clear hn hc hu hb))
    obtain ⟨px, hpx⟩ : ∃ p, p = w3.heap.size := ⟨_, rfl⟩
    have HX4 := Lib.hid (show Blk (w3.alloc (.cells #[.int .i64 x.id, .int .i64 x.urg, .string x.code, .slice An x.nodes.length cn, .int .i64 x.dist, .int .i64 x.since, .slice Ac x.calls.length cc, .slice Au x.units.length cu, .int .i64 x.merged, .bool x.closed] 25)) px 25 #[.int .i64 x.id, .int .i64 x.urg, .string x.code, .slice An x.nodes.length cn, .int .i64 x.dist, .int .i64 x.since, .slice Ac x.calls.length cc, .slice Au x.units.length cu, .int .i64 x.merged, .bool x.closed] by rw [hpx]; exact Blk.new w3 25 _)
    have HN4 := Lib.hid (HN.out.alloc (.cells #[.int .i64 x.id, .int .i64 x.urg, .string x.code, .slice An x.nodes.length cn, .int .i64 x.dist, .int .i64 x.since, .slice Ac x.calls.length cc, .slice Au x.units.length cu, .int .i64 x.merged, .bool x.closed] 25))
    have HC4 := Lib.hid (HCc.out.alloc (.cells #[.int .i64 x.id, .int .i64 x.urg, .string x.code, .slice An x.nodes.length cn, .int .i64 x.dist, .int .i64 x.since, .slice Ac x.calls.length cc, .slice Au x.units.length cu, .int .i64 x.merged, .bool x.closed] 25))
    have HU4 := Lib.hid (HU.out.alloc (.cells #[.int .i64 x.id, .int .i64 x.urg, .string x.code, .slice An x.nodes.length cn, .int .i64 x.dist, .int .i64 x.since, .slice Ac x.calls.length cc, .slice Au x.units.length cu, .int .i64 x.merged, .bool x.closed] 25))
    have HB4 := Lib.hid (HB3.out.alloc HB3.out.size (.cells #[.int .i64 x.id, .int .i64 x.urg, .string x.code, .slice An x.nodes.length cn, .int .i64 x.dist, .int .i64 x.since, .slice Ac x.calls.length cc, .slice Au x.units.length cu, .int .i64 x.merged, .bool x.closed] 25))
    have hz4 : (w3.alloc (.cells #[.int .i64 x.id, .int .i64 x.urg, .string x.code, .slice An x.nodes.length cn, .int .i64 x.dist, .int .i64 x.since, .slice Ac x.calls.length cc, .slice Au x.units.length cu, .int .i64 x.merged, .bool x.closed] 25)).heap.size = px + 1 := by rw [hpx]; simp
    rw [← hpx] at *
    clear HN HCc HU HB3 HB h21 H21 H9
    generalize w3.alloc _ = W4 at *
    have h22 := Lib.hid (H22.out W4 (HR.out.below HB4.out (fun _ h => h)))
    go_upto_region 7 with (go_at_call 22; ((with_reducible refine h22.out.mono ?_); rintro e w5 ⟨An2, Ac2, Au2, cn2, cc2, cu2, rfl, hn, hc, hu, hb⟩; have HN2 := Lib.hid hn; have HC2 := Lib.hid hc; have HU2 := Lib.hid hu; have HX5 := Lib.hid (HX4.out.below hb HX4.out.lt); have HN5 := Lib.hid (HN4.out.below hb (fun k hk => by have h2 : k < px := hk; omega)); have HC5 := Lib.hid (HC4.out.below hb (fun k hk => by have h2 : k < px := hk; omega)); have HU5 := Lib.hid (HU4.out.below hb (fun k hk => by have h2 : k < px := hk; omega)); have HB5 := Lib.hid (HB4.out.trans (hb.mono HB4.out.size)); have hs5 := hb.size; clear hn hc hu hb))
    obtain ⟨py, hpy⟩ : ∃ p, p = w5.heap.size := ⟨_, rfl⟩
    have HY6 := Lib.hid (show Blk (w5.alloc (.cells #[.int .i64 x.id, .int .i64 x.urg, .string x.code, .slice An2 x.nodes.length cn2, .int .i64 x.dist, .int .i64 x.since, .slice Ac2 x.calls.length cc2, .slice Au2 x.units.length cu2, .int .i64 x.merged, .bool x.closed] 25)) py 25 #[.int .i64 x.id, .int .i64 x.urg, .string x.code, .slice An2 x.nodes.length cn2, .int .i64 x.dist, .int .i64 x.since, .slice Ac2 x.calls.length cc2, .slice Au2 x.units.length cu2, .int .i64 x.merged, .bool x.closed] by rw [hpy]; exact Blk.new w5 25 _)
    have HX6 := Lib.hid (HX5.out.alloc (.cells #[.int .i64 x.id, .int .i64 x.urg, .string x.code, .slice An2 x.nodes.length cn2, .int .i64 x.dist, .int .i64 x.since, .slice Ac2 x.calls.length cc2, .slice Au2 x.units.length cu2, .int .i64 x.merged, .bool x.closed] 25))
    have hz6 : (w5.alloc (.cells #[.int .i64 x.id, .int .i64 x.urg, .string x.code, .slice An2 x.nodes.length cn2, .int .i64 x.dist, .int .i64 x.since, .slice Ac2 x.calls.length cc2, .slice Au2 x.units.length cu2, .int .i64 x.merged, .bool x.closed] 25)).heap.size = py + 1 := by rw [hpy]; simp
    have HN6 := Lib.hid ((HN5.out.alloc (.cells #[.int .i64 x.id, .int .i64 x.urg, .string x.code, .slice An2 x.nodes.length cn2, .int .i64 x.dist, .int .i64 x.since, .slice Ac2 x.calls.length cc2, .slice Au2 x.units.length cu2, .int .i64 x.merged, .bool x.closed] 25)).more (B' := fun k => k < (w5.alloc (.cells #[.int .i64 x.id, .int .i64 x.urg, .string x.code, .slice An2 x.nodes.length cn2, .int .i64 x.dist, .int .i64 x.since, .slice Ac2 x.calls.length cc2, .slice Au2 x.units.length cu2, .int .i64 x.merged, .bool x.closed] 25)).heap.size) (fun k hk => by have h2 : k < px := hk; omega))
    have HC6 := Lib.hid ((HC5.out.alloc (.cells #[.int .i64 x.id, .int .i64 x.urg, .string x.code, .slice An2 x.nodes.length cn2, .int .i64 x.dist, .int .i64 x.since, .slice Ac2 x.calls.length cc2, .slice Au2 x.units.length cu2, .int .i64 x.merged, .bool x.closed] 25)).more (B' := fun k => k < (w5.alloc (.cells #[.int .i64 x.id, .int .i64 x.urg, .string x.code, .slice An2 x.nodes.length cn2, .int .i64 x.dist, .int .i64 x.since, .slice Ac2 x.calls.length cc2, .slice Au2 x.units.length cu2, .int .i64 x.merged, .bool x.closed] 25)).heap.size) (fun k hk => by have h2 : k < px := hk; omega))
    have HU6 := Lib.hid ((HU5.out.alloc (.cells #[.int .i64 x.id, .int .i64 x.urg, .string x.code, .slice An2 x.nodes.length cn2, .int .i64 x.dist, .int .i64 x.since, .slice Ac2 x.calls.length cc2, .slice Au2 x.units.length cu2, .int .i64 x.merged, .bool x.closed] 25)).more (B' := fun k => k < (w5.alloc (.cells #[.int .i64 x.id, .int .i64 x.urg, .string x.code, .slice An2 x.nodes.length cn2, .int .i64 x.dist, .int .i64 x.since, .slice Ac2 x.calls.length cc2, .slice Au2 x.units.length cu2, .int .i64 x.merged, .bool x.closed] 25)).heap.size) (fun k hk => by have h2 : k < px := hk; omega))
    have HN7 := Lib.hid ((HN2.out.alloc (.cells #[.int .i64 x.id, .int .i64 x.urg, .string x.code, .slice An2 x.nodes.length cn2, .int .i64 x.dist, .int .i64 x.since, .slice Ac2 x.calls.length cc2, .slice Au2 x.units.length cu2, .int .i64 x.merged, .bool x.closed] 25)).more (B' := fun k => k < (w5.alloc (.cells #[.int .i64 x.id, .int .i64 x.urg, .string x.code, .slice An2 x.nodes.length cn2, .int .i64 x.dist, .int .i64 x.since, .slice Ac2 x.calls.length cc2, .slice Au2 x.units.length cu2, .int .i64 x.merged, .bool x.closed] 25)).heap.size) (fun k hk => by have h2 : k < w5.heap.size := hk; omega))
    have HC7 := Lib.hid ((HC2.out.alloc (.cells #[.int .i64 x.id, .int .i64 x.urg, .string x.code, .slice An2 x.nodes.length cn2, .int .i64 x.dist, .int .i64 x.since, .slice Ac2 x.calls.length cc2, .slice Au2 x.units.length cu2, .int .i64 x.merged, .bool x.closed] 25)).more (B' := fun k => k < (w5.alloc (.cells #[.int .i64 x.id, .int .i64 x.urg, .string x.code, .slice An2 x.nodes.length cn2, .int .i64 x.dist, .int .i64 x.since, .slice Ac2 x.calls.length cc2, .slice Au2 x.units.length cu2, .int .i64 x.merged, .bool x.closed] 25)).heap.size) (fun k hk => by have h2 : k < w5.heap.size := hk; omega))
    have HU7 := Lib.hid ((HU2.out.alloc (.cells #[.int .i64 x.id, .int .i64 x.urg, .string x.code, .slice An2 x.nodes.length cn2, .int .i64 x.dist, .int .i64 x.since, .slice Ac2 x.calls.length cc2, .slice Au2 x.units.length cu2, .int .i64 x.merged, .bool x.closed] 25)).more (B' := fun k => k < (w5.alloc (.cells #[.int .i64 x.id, .int .i64 x.urg, .string x.code, .slice An2 x.nodes.length cn2, .int .i64 x.dist, .int .i64 x.since, .slice Ac2 x.calls.length cc2, .slice Au2 x.units.length cu2, .int .i64 x.merged, .bool x.closed] 25)).heap.size) (fun k hk => by have h2 : k < w5.heap.size := hk; omega))
    have HB7 := Lib.hid (HB5.out.alloc HB5.out.size (.cells #[.int .i64 x.id, .int .i64 x.urg, .string x.code, .slice An2 x.nodes.length cn2, .int .i64 x.dist, .int .i64 x.since, .slice Ac2 x.calls.length cc2, .slice Au2 x.units.length cu2, .int .i64 x.merged, .bool x.closed] 25))
    rw [← hpy] at *
    clear HX4 HN4 HC4 HU4 HB4 HX5 HN5 HC5 HU5 HB5 HN2 HC2 HU2 h22 H22 hz4 hs5
    generalize w5.alloc _ = W7 at *
    clear hz6
    have HR7 := Lib.hid ((HR.out.below HB7.out (fun _ h => h)).more (B' := fun k => k < W7.heap.size) (fun k hk => by have h2 : k < w.heap.size := hk; have := HB7.out.size; omega))
    have HK := Lib.hid fun (W' : World) (hb : Below W7.heap.size W7 W') => (show (W'.cell? ⟨px, 0, none⟩ = some (.int .i64 x.id) ∧ W'.cell? ⟨px, 1, none⟩ = some (.int .i64 x.urg) ∧ W'.cell? ⟨px, 2, none⟩ = some (.string x.code) ∧ W'.cell? ⟨px, 3, none⟩ = some (.slice An x.nodes.length cn) ∧ W'.cell? ⟨px, 4, none⟩ = some (.int .i64 x.dist) ∧ W'.cell? ⟨px, 5, none⟩ = some (.int .i64 x.since) ∧ W'.cell? ⟨px, 6, none⟩ = some (.slice Ac x.calls.length cc) ∧ W'.cell? ⟨px, 7, none⟩ = some (.slice Au x.units.length cu) ∧ W'.cell? ⟨px, 8, none⟩ = some (.int .i64 x.merged) ∧ W'.cell? ⟨px, 9, none⟩ = some (.bool x.closed)) ∧ (W'.cell? ⟨py, 0, none⟩ = some (.int .i64 x.id) ∧ W'.cell? ⟨py, 1, none⟩ = some (.int .i64 x.urg) ∧ W'.cell? ⟨py, 2, none⟩ = some (.string x.code) ∧ W'.cell? ⟨py, 3, none⟩ = some (.slice An2 x.nodes.length cn2) ∧ W'.cell? ⟨py, 4, none⟩ = some (.int .i64 x.dist) ∧ W'.cell? ⟨py, 5, none⟩ = some (.int .i64 x.since) ∧ W'.cell? ⟨py, 6, none⟩ = some (.slice Ac2 x.calls.length cc2) ∧ W'.cell? ⟨py, 7, none⟩ = some (.slice Au2 x.units.length cu2) ∧ W'.cell? ⟨py, 8, none⟩ = some (.int .i64 x.merged) ∧ W'.cell? ⟨py, 9, none⟩ = some (.bool x.closed)) from ⟨cells10 (w := W7) (HX6.out.below hb HX6.out.lt), cells10 (w := W7) (HY6.out.below hb HY6.out.lt)⟩)
    have HCv := Lib.hid fun (W' : World) (hb : Below W7.heap.size W7 W') => run_convert_reads (P := Tryd.prog) Tryd.underlying40 Tryd.underlying5 Tryd.underlying9 (HR7.out.below hb (fun _ h => h)) c
    have H18 := Lib.hid fun (W : World) (hb : Below W7.heap.size W7 W) => (show Calls Tryd.prog 18 #[.agg #[.int .i64 x.id, .int .i64 x.urg, .string x.code, .slice An x.nodes.length cn, .int .i64 x.dist, .int .i64 x.since, .slice Ac x.calls.length cc, .slice Au x.units.length cu, .int .i64 x.merged, .bool x.closed], .agg #[.int .i64 x.id, .int .i64 x.urg, .string x.code, .slice An2 x.nodes.length cn2, .int .i64 x.dist, .int .i64 x.since, .slice Ac2 x.calls.length cc2, .slice Au2 x.units.length cu2, .int .i64 x.merged, .bool x.closed]] W (BoolB true W) from (same18 (fun k => k < W7.heap.size) x.id x.urg x.dist x.since x.merged x.code x.nodes x.calls x.units An Ac Au cn cc cu x.closed x.id x.urg x.dist x.since x.merged x.code x.nodes x.calls x.units An2 Ac2 Au2 cn2 cc2 cu2 x.closed W (HN6.out.below hb (fun _ h => h)) (HC6.out.below hb (fun _ h => h)) (HU6.out.below hb (fun _ h => h)) HS.out (HN7.out.below hb (fun _ h => h)) (HC7.out.below hb (fun _ h => h)) (HU7.out.below hb (fun _ h => h)) HS.out).mono (fun e w' h => by rw [decide_eq_true rfl] at h; exact h))
    have H23 := Lib.hid fun (W : World) (hb : Below W7.heap.size W7 W) => mar23 (fun k => k < W7.heap.size) x An Ac Au cn cc cu W (HN6.out.below hb (fun _ h => h)) (HC6.out.below hb (fun _ h => h)) (HU6.out.below hb (fun _ h => h)) HS.out.code HS.out.nodesL HS.out.callsL HS.out.unitsL
    have dee : (er == er) = true := by simp
    have K0 := HK.out _ (Below.refl _ W7).drew
    have cv0 := HCv.out _ (Below.refl _ W7).drew
    have hbb : ((strOfNums b).toList == (strOfNums b).toList) = true := by simp
    clear HN6 HC6 HU6 HN7 HC7 HU7 HS HBy HR HR7
    rcases HE.out with h0 | h0
    · have e0 : (er != 0) = false := by rw [h0]; rfl
      have hen := HC.out h0
      rw [hen] at H23
      clear h0 hen HC HE
      first | (go_region_held (fun W' => (W'.cell? ⟨px, 0, none⟩ = some (.int .i64 x.id) ∧ W'.cell? ⟨px, 1, none⟩ = some (.int .i64 x.urg) ∧ W'.cell? ⟨px, 2, none⟩ = some (.string x.code) ∧ W'.cell? ⟨px, 3, none⟩ = some (.slice An x.nodes.length cn) ∧ W'.cell? ⟨px, 4, none⟩ = some (.int .i64 x.dist) ∧ W'.cell? ⟨px, 5, none⟩ = some (.int .i64 x.since) ∧ W'.cell? ⟨px, 6, none⟩ = some (.slice Ac x.calls.length cc) ∧ W'.cell? ⟨px, 7, none⟩ = some (.slice Au x.units.length cu) ∧ W'.cell? ⟨px, 8, none⟩ = some (.int .i64 x.merged) ∧ W'.cell? ⟨px, 9, none⟩ = some (.bool x.closed)) ∧ (W'.cell? ⟨py, 0, none⟩ = some (.int .i64 x.id) ∧ W'.cell? ⟨py, 1, none⟩ = some (.int .i64 x.urg) ∧ W'.cell? ⟨py, 2, none⟩ = some (.string x.code) ∧ W'.cell? ⟨py, 3, none⟩ = some (.slice An2 x.nodes.length cn2) ∧ W'.cell? ⟨py, 4, none⟩ = some (.int .i64 x.dist) ∧ W'.cell? ⟨py, 5, none⟩ = some (.int .i64 x.since) ∧ W'.cell? ⟨py, 6, none⟩ = some (.slice Ac2 x.calls.length cc2) ∧ W'.cell? ⟨py, 7, none⟩ = some (.slice Au2 x.units.length cu2) ∧ W'.cell? ⟨py, 8, none⟩ = some (.int .i64 x.merged) ∧ W'.cell? ⟨py, 9, none⟩ = some (.bool x.closed))) (first | assumption | exact K0) (first
          | (go_at_call 18; ((with_reducible refine (H18.out _ (Below.refl _ W7).drew).mono ?_); rintro e v4 ⟨rfl, hb4⟩; have B4 := ((Below.refl W7.heap.size W7).drew).trans hb4; have KB4 := HK.out _ B4; have cv4 := HCv.out _ B4; clear hb4))
          | (go_at_call 23; ((with_reducible refine (H23.out _ B4).mono ?_); rintro e v5 ⟨A5, c5, rfl, hr5, hb5⟩; have B5 := B4.trans (hb5.mono B4.size); have KB5 := HK.out _ B5; have cv5 := HCv.out _ B5; have cve := run_convert_reads (P := Tryd.prog) Tryd.underlying40 Tryd.underlying5 Tryd.underlying9 hr5 c5; clear hb5 hr5)))) | fail
      all_goals
        go_wp2_with fail
        go_ret
        exact ⟨rfl, HB7.out.trans (B5.mono HB7.out.size)⟩
    · have e0 : (er != 0) = true := by simpa [bne] using h0
      clear h0 HC HE H23
      have HKc := HK
      clear K0 cv0 HK
      go_wp2_with fail
      refine wp_region_quiet (C := fun w' => Below W7.heap.size W7 w') (by kernel_rfl) (by kernel_rfl) ((Below.refl _ _).drew) ?_
      repeat ((refine wpQuiet_step (fun K hK => ?_); have HK := Lib.hid hK; clear hK; first | (refine ite_no ?_ ?_; (focus (clear HK K; go_simp; done)); go_simp; refine HK.out _ ?_; clear HK K) | (refine ite_yes ?_ ?_; (focus (clear HK K; go_simp; done)); apply Exists.intro; refine ⟨fun wq hq => ?_, ?_⟩; (focus (((have KQ := HKc.out _ hq; obtain ⟨⟨r0, r1, r2, r3, r4, r5, r6, r7, r8, r9⟩, s0, s1, s2, s3, s4, s5, s6, s7, s8, s9⟩ := KQ)); go_simp; (first | done | rfl | (first | ((with_reducible refine (H18.out _ hq).mono ?_); rintro e w3 ⟨rfl, hh⟩; exact ⟨rfl, hq.trans (hh.mono hq.size)⟩))))); go_simp; refine HK.out _ ?_; clear HK K)))
      refine wpQuiet_nil ?_
      intro w5 hw5
      go_wp2
      go_ret
      exact ⟨rfl, HB7.out.trans (hw5.mono HB7.out.size)⟩
end Go.Proofs.YtipkicijfedfoaaDoor

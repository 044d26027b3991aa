import Derived.Test.YtgjkahndclijgaaRef3
import Derived.Test.YtgjkahndclijgaaBase3
namespace Go.Proofs.Ytgjkahndclijgaa
open Go.RowKit Go.Own

abbrev refC (R : RefS) : Array Value := #[.int .i64 R.n, .slice R.ga R.n R.gc, .slice R.ia R.items.length R.ic, .int .i64 R.next, .int .i64 R.sent, .int .i64 R.came, .int .i64 R.lost, .int .i64 R.dbl]
abbrev refZ : Array Value := #[.int .i64 0, .slice none 0 0, .slice none 0 0, .int .i64 0, .int .i64 0, .int .i64 0, .int .i64 0, .int .i64 0]
set_option maxRecDepth 10000 in
set_option maxHeartbeats 400000 in
theorem is_x (R : RefS) (a : Int) (w : World) :
    Calls Try.prog 32 #[rv R, .int .i64 a] w fun e w' => e = .returned (.bool (epB R.n a)) ∧ w.alloc (.cells (refC R) 40) = w' := by
  by_cases h0 : 0 ≤ a
  · go_enter Try.func32, Try.ntmps32
    go_wp2
    go_ret
    exact ⟨by simp [h0, epB], rfl⟩
  · go_enter Try.func32, Try.ntmps32
    go_wp2
    go_ret
    exact ⟨by simp [epB]; omega, rfl⟩
theorem is_y (R : RefS) (a : Int) (w : World) (h : epB R.n a = true) : Calls Try.prog 32 #[rv R, .int .i64 a] w fun e w' => e = .returned (.bool true) ∧ w.alloc (.cells (refC R) 40) = w' := h ▸ is_x R a w
theorem is_n (R : RefS) (a : Int) (w : World) (h : epB R.n a = false) : Calls Try.prog 32 #[rv R, .int .i64 a] w fun e w' => e = .returned (.bool false) ∧ w.alloc (.cells (refC R) 40) = w' := h ▸ is_x R a w
theorem info40 : (Try.prog.info? 40).map (fun i => (i.zero, i.size, i.bytes)) = some (some (.agg #[.int .i64 0, .slice none 0 0, .slice none 0 0, .int .i64 0, .int .i64 0, .int .i64 0, .int .i64 0, .int .i64 0]), 8, 96) := by kernel_rfl
def rsendOk (R : RefS) (f t : Int) : Bool := epB R.n f && epB R.n t && !(f == t)
theorem rsendOk_parts {R : RefS} {f t : Int} (h : rsendOk R f t = true) : epB R.n f = true ∧ epB R.n t = true ∧ (f == t) = false := by
  simpa [rsendOk, and_assoc] using h
set_option maxRecDepth 10000 in
set_option maxHeartbeats 1000000 in
theorem rsend_bad (R : RefS) (f t : Int) (A : Option Addr) (n c : Nat) (w : World) (hs : rsendOk R f t = false) :
    Calls Try.prog 34 #[rv R, .agg #[.int .i64 f, .int .i64 t, .slice A n c]] w fun e w' => e = .returned (.tuple #[rv R, .int .i64 0, .int .i64 1]) ∧ Below w.heap.size w w' := by
  cases ha : epB R.n f with
  | false =>
    have Ha := Lib.hid fun W => is_n R f W ha
    clear hs ha
    go_enter Try.func34, Try.ntmps34
    go_wp2_with (go_at_call 32; ((with_reducible refine (Ha.out _).mono ?_); rintro e w1 ⟨rfl, rfl⟩))
    refine bodyPost_ret (v := .tuple #[rv R, .int .i64 0, .int .i64 1]) (by simp [results, Try.results34, go_sem]) rfl ⟨rfl, ?_⟩
    exact ((((Below.refl _ _).alloc (Nat.le_refl _) _).alloc (by simp) _).alloc (by simp; omega) _).alloc (by simp; omega) _
  | true =>
    have Ha := Lib.hid fun W => is_y R f W ha
    cases hb : epB R.n t with
    | false =>
      have Hb := Lib.hid fun W => is_n R t W hb
      clear hs ha hb
      go_enter Try.func34, Try.ntmps34
      go_wp2_with (go_at_call 32; first | ((with_reducible refine (Ha.out _).mono ?_); rintro e w1 ⟨rfl, rfl⟩) | ((with_reducible refine (Hb.out _).mono ?_); rintro e w1 ⟨rfl, rfl⟩))
      refine bodyPost_ret (v := .tuple #[rv R, .int .i64 0, .int .i64 1]) (by simp [results, Try.results34, go_sem]) rfl ⟨rfl, ?_⟩
      exact (((((Below.refl _ _).alloc (Nat.le_refl _) _).alloc (by simp) _).alloc (by simp; omega) _).alloc (by simp; omega) _).alloc (by simp; omega) _
    | true =>
      have Hb := Lib.hid fun W => is_y R t W hb
      have hft : (f == t) = true := by simpa [rsendOk, ha, hb] using hs
      clear hs ha hb
      go_enter Try.func34, Try.ntmps34
      go_wp2_with (go_at_call 32; first | ((with_reducible refine (Ha.out _).mono ?_); rintro e w1 ⟨rfl, rfl⟩) | ((with_reducible refine (Hb.out _).mono ?_); rintro e w1 ⟨rfl, rfl⟩))
      refine bodyPost_ret (v := .tuple #[rv R, .int .i64 0, .int .i64 1]) (by simp [results, Try.results34, go_sem]) rfl ⟨rfl, ?_⟩
      exact (((((Below.refl _ _).alloc (Nat.le_refl _) _).alloc (by simp) _).alloc (by simp; omega) _).alloc (by simp; omega) _).alloc (by simp; omega) _
set_option maxRecDepth 10000 in
set_option maxHeartbeats 1000000 in
theorem rsend_long (R : RefS) (f t : Int) (A : Option Addr) (n c : Nat) (w : World) (hs : rsendOk R f t = true) (hn : 8192 < n) :
    Calls Try.prog 34 #[rv R, .agg #[.int .i64 f, .int .i64 t, .slice A n c]] w fun e w' => e = .returned (.tuple #[rv R, .int .i64 0, .int .i64 3]) ∧ Below w.heap.size w w' := by
  obtain ⟨ha, hb, hft⟩ := rsendOk_parts hs
  have Ha := Lib.hid fun W => is_y R f W ha
  have Hb := Lib.hid fun W => is_y R t W hb
  have hn' : (8192 : Int) < n := by omega
  clear hs ha hb
  go_enter Try.func34, Try.ntmps34
  go_wp2_with (go_at_call 32; first | ((with_reducible refine (Ha.out _).mono ?_); rintro e w1 ⟨rfl, rfl⟩) | ((with_reducible refine (Hb.out _).mono ?_); rintro e w1 ⟨rfl, rfl⟩))
  refine bodyPost_ret (v := .tuple #[rv R, .int .i64 0, .int .i64 3]) (by simp [results, Try.results34, go_sem]) rfl ⟨rfl, ?_⟩
  exact (((((Below.refl _ _).alloc (Nat.le_refl _) _).alloc (by simp) _).alloc (by simp; omega) _).alloc (by simp; omega) _).alloc (by simp; omega) _
def rsentR (R : RefS) (A : Option Addr) (c : Nat) (x : It) : RefS := { rputR R A c x with sent := R.sent + 1 }
def RsendPost (R : RefS) (x : It) (w : World) (e : Ending) (w' : World) : Prop := ∃ A c, e = .returned (.tuple #[rv (rsentR R A c x), .int .i64 (R.next + 1), .int .i64 0]) ∧ Reads w' (w.heap.size ≤ ·) 4 A (R.items.length + 1) (itcs (R.items ++ [x])) ∧ Below w.heap.size w w'
set_option maxRecDepth 10000 in
set_option maxHeartbeats 1000000 in
theorem rsend_ok (R : RefS) (B : Nat → Prop) (f t : Int) (A : Option Addr) (n c : Nat) (body : List Int) (w : World) (h : Ref w B R) (hl : R.items.length ≤ 1000) (hn0 : 0 ≤ R.next) (hn1 : R.next ≤ 1000000) (hs : rsendOk R f t = true) (hn : n ≤ 8192) (hs0 : 0 ≤ R.sent) (hs1 : R.sent ≤ 1000000) :
    Calls Try.prog 34 #[rv R, .agg #[.int .i64 f, .int .i64 t, .slice A n c]] w (RsendPost R ⟨R.next + 1, f, t, A, n, c, body⟩ w) := by
  obtain ⟨ha, hb, hft⟩ := rsendOk_parts hs
  have Ha := Lib.hid fun W => is_y R f W ha
  have Hb := Lib.hid fun W => is_y R t W hb
  have hn' : (n : Int) ≤ 8192 := by omega
  clear hs ha hb
  go_enter Try.func34, Try.ntmps34
  go_wp2_with (go_at_call 32; first | ((with_reducible refine (Ha.out _).mono ?_); rintro e w1 ⟨rfl, rfl⟩) | ((with_reducible refine (Hb.out _).mono ?_); rintro e w1 ⟨rfl, rfl⟩))
  generalize hW : (((((w.alloc (.cells (refC R) 40)).alloc (.cells #[.int .i64 f, .int .i64 t, .slice A n c] 31)).alloc (.cells refZ 40)).alloc (.cells (refC R) 40)).alloc (.cells (refC R) 40)) = W
  have hb0 : Blk W w.heap.size 40 (refC R) := by rw [← hW]; exact ((((Blk.new w 40 _).alloc _).alloc _).alloc _).alloc _
  have hb2 : Blk W (w.heap.size + 1 + 1) 40 refZ := by rw [← hW]; simpa using ((Blk.new ((w.alloc _).alloc _) 40 _).alloc _).alloc _
  have hbW : Below w.heap.size w W := by rw [← hW]; exact (((((Below.refl _ _).alloc (Nat.le_refl _) _).alloc (by simp) _).alloc (by simp; omega) _).alloc (by simp; omega) _).alloc (by simp; omega) _
  have hsW : W.heap.size = w.heap.size + 5 := by rw [← hW]; simp
  have hRW : Ref W (fun k => B k ∧ k < w.heap.size) R := Ref.fr (S := (w.heap.size ≤ ·)) ⟨h.grp.old (by omega), h.its.old (by omega), fun x hx => (h.bod x hx).old (by omega)⟩ ⟨hbW.os, hbW.tape, hbW.output, hbW.size, fun k hk hn => hbW.block k (by omega)⟩ (fun k hk => by omega)
  clear hW
  refine (rput_any R _ f t A n c body W hRW hl hn0 hn1).mono ?_
  rintro e w2 ⟨A2, c2, rfl, hR2, hb2'⟩
  have e0 := hb0.below hb2' hb0.lt
  have e2 := hb2.below hb2' hb2.lt
  have hsz2 := hb2'.size
  have hlenA : (R.items ++ [(⟨R.next + 1, f, t, A, n, c, body⟩ : It)]).length = R.items.length + 1 := by simp
  simp only [rputR, rv]
  rw [hlenA]
  have hbel : Below w.heap.size w w2 := hbW.trans (hb2'.mono (by omega))
  have HS := Lib.hid hsW; clear hsW
  clear hb0 hb2 hRW h Ha Hb hlenA hbW hb2'
  go_wp2_with (first
    | (refine wpList_storeBlk rfl (.tmp 2) (.tmp 37) 40 rfl w.heap.size 40 (refC R) _ _ 8 96 info40 rfl rfl rfl e0 rfl (by simp [Value.oneCell']) ?_
       intro w3 d0 hF3 hs3
       have d2 := e2.fr hF3 (by omega)
       obtain ⟨lt0, c0, f0⟩ := d0.facts
       have HS3 := Lib.hid hs3
       clear hs3)
    | (refine wpList_storeBlk rfl (.tmp 4) (.tmp 43) 40 rfl (w.heap.size + 1 + 1) 40 refZ _ _ 8 96 info40 rfl rfl rfl (d2.far (by simp; omega) _) rfl (by simp [Value.oneCell']) ?_
       intro w4 x2 hF4 hs4
       obtain ⟨xlt, xc, xf⟩ := x2.facts))
  refine bodyPost_ret (v := .tuple #[rv (rsentR R A2 c2 ⟨R.next + 1, f, t, A, n, c, body⟩), .int .i64 (R.next + 1), .int .i64 0]) (by simp [results, Try.results34, go_sem, xc, rsentR, rputR]) rfl ⟨A2, c2, rfl, ?_, ?_⟩
  · have hW := HS.out
    have h3 := hR2.fr hF3 (fun k hk => by omega)
    have h4 := (h3.setCell (p := ⟨w.heap.size, 4, none⟩) (by simp; omega) (.int .i64 (R.sent + 1))).fr hF4 (fun k hk => by omega)
    exact h4.more (fun k hk => by omega)
  · have s2 := hbel.size
    have b3 := hbel.trans (hF3.below (B := w.heap.size) s2 (fun k hk => by omega))
    exact (b3.setCell (p := ⟨w.heap.size, 4, none⟩) (by simp) _).trans (hF4.below (by simpa using b3.size) (fun k hk => by omega))

end Go.Proofs.Ytgjkahndclijgaa

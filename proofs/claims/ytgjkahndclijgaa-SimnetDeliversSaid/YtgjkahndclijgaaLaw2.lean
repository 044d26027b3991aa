import Derived.Test.YtgjkahndclijgaaLaw1
import Derived.Test.YtgjkahndclijgaaSim6
namespace Go.Proofs.Ytgjkahndclijgaa
set_option linter.unusedVariables false
open Go.RowKit Go.Own
set_option maxRecDepth 10000 in
set_option maxHeartbeats 1000000 in
theorem stats_nil (A : Option Addr) (c : Nat) (l : List ActS) (w : World) (h : ActsR w A l) (hf : fewB l = false) :
    Calls Try.prog 7 #[.slice A l.length c] w (LawPost w) := by
  have HP := Lib.hid (played_many 4 A c l w h hf)
  have HA := Lib.hid awake_any
  clear h hf
  go_enter Try.func7, Try.ntmps7
  go_wp2_with (first
    | (go_at_call 15; ((with_reducible refine HP.out.mono ?_); rintro e w1 ⟨rfl, hb⟩))
    | (go_at_call 10; ((with_reducible refine (HA.out _).mono ?_); rintro e w2 ⟨rfl, hb2⟩)))
  go_ret
  refine ⟨rfl, ?_⟩
  have hs := hb.size
  exact (hb.alloc hs _).trans (hb2.mono (by simp; omega))
set_option maxRecDepth 10000 in
set_option maxHeartbeats 2000000 in
theorem stats_ok (A : Option Addr) (c : Nat) (l : List ActS) (w : World) (h : ActsR w A l) (hf : fewB l = true) :
    Calls Try.prog 7 #[.slice A l.length c] w (LawPost w) := by
  have HP := Lib.hid (show Calls Try.prog 15 #[.int .i64 4, .slice A l.length c] w (PlayOk 4 w) from played_ok 4 (by omega) (by omega) A c l w h hf)
  have HA := Lib.hid awake_any
  clear h hf
  go_enter Try.func7, Try.ntmps7
  go_wp2_with (
    (go_at_call 15; ((with_reducible refine HP.out.mono ?_); rintro e w1 ⟨p, m, g, N, R, rfl, hag, hwd, hb, hp, hm, hg⟩
                     have H1 := hag.sent; have H2 := hag.came; have H3 := hag.lost; have H4 := hag.dbl
                     have Hst := Lib.hid hag.st; have Hcm := Lib.hid hag.cm; have Hlo := Lib.hid hag.lo; have Hdb := Lib.hid hag.db
                     have Hac := Lib.hid hag.acc
                     have hcnt := hag.cnt
                     have HS := Lib.hid (stats_any p N (w1.alloc (.cells (refC R) 40)) (hwd.below ((Below.refl _ _).alloc (Nat.le_refl _) _)).net))))
  refine HS.out.mono ?_
  rintro e w2 ⟨rfl, n, rfl⟩
  have e1 : R.sent = N.sent := Hst.out
  have e2 : R.came = N.came := Hcm.out
  have e3 : R.lost = N.lost := Hlo.out
  have e4 : R.dbl = N.dbl := Hdb.out
  have HPd := Lib.hid (pending_any p N ((w1.alloc (.cells (refC R) 40)).drewN n) ((hwd.below ((Below.refl _ _).alloc (Nat.le_refl _) _)).net.drewN n) (by omega))
  have hac := Hac.out
  clear hag hwd
  have b1 : N.sent + N.dbl ≤ 120 := by omega
  have b2 : 0 ≤ N.sent + N.dbl := by omega
  have b3 : -60 ≤ N.sent + N.dbl - N.came := by omega
  have b4 : N.sent + N.dbl - N.came ≤ 120 := by omega
  have b5 : N.sent + N.dbl - N.came - N.lost = (N.items.length : Int) := by omega
  clear hac Hac
  go_wp2_with (first
    | (go_at_call 18; ((with_reducible refine HPd.out.mono ?_); rintro e w3 ⟨A3, c3, d3, rfl, -, -, -, hb3⟩))
    | (go_at_call 10; ((with_reducible refine (HA.out _).mono ?_); rintro e w4 ⟨rfl, hb4⟩)))
  go_ret
  have hs1 := hb.size
  have hs3 := hb3.size
  have h0 : Below w.heap.size w ((w1.alloc (.cells (refC R) 40)).drewN n) := below_drewN (hb.alloc hs1 _) n
  exact ⟨rfl, (h0.trans (hb3.mono h0.size)).trans (hb4.mono (Nat.le_trans h0.size hs3))⟩
theorem stats_law (A : Option Addr) (c : Nat) (l : List ActS) (w : World) (h : ActsR w A l) :
    Calls Try.prog 7 #[.slice A l.length c] w (LawPost w) := by
  cases hf : fewB l with
  | false => exact stats_nil A c l w h hf
  | true => exact stats_ok A c l w h hf
end Go.Proofs.Ytgjkahndclijgaa

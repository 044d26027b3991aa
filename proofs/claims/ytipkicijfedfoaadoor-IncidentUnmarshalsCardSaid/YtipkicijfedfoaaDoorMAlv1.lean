import Derived.Test.YtipkicijfedfoaaDoorMAdd
namespace Go.Proofs.YtipkicijfedfoaaDoor
set_option linter.unusedVariables false
open Go.RowKit Go.Own Go.Quo Go.Inc
def fallB : ByteArray := ⟨#[102, 97, 108, 108]⟩
def arrB : ByteArray := ⟨#[97, 114, 114, 101, 115, 116]⟩
def c1 : Cr := ⟨1, 0, 3, fallB, [1, 2, 3, 4], 0, 0, false⟩
def c2 : Cr := ⟨2, 0, 1, arrB, [3, 4, 5, 6], 0, 0, false⟩
def c3 : Cr := ⟨3, 0, 4, fallB, [9], 0, 0, false⟩
def i1 : Ic := ⟨9, 3, fallB, [1, 2, 3, 4], 0, 0, [1], [], 0, false⟩
def i2 : Ic := ⟨9, 1, arrB, [3, 4], 0, 0, [1, 2], [], 0, false⟩
def i3 : Ic := ⟨9, 1, arrB, [3, 4], 0, 0, [1, 2, 3], [], 0, false⟩
theorem c1_ok : crB c1 = true := by decide +kernel
theorem c2_ok : crB c2 = true := by decide +kernel
theorem c3_ok : crB c3 = true := by decide +kernel
theorem i1_ok : icB i1 = true := by decide +kernel
theorem i2_ok : icB i2 = true := by decide +kernel
theorem i3_ok : icB i3 = true := by decide +kernel
theorem from1 : fromI 9 c1 = i1 := rfl
theorem srt12 : srt [1, 2] = [1, 2] := srt_eq (List.Perm.refl _) (by decide)
theorem srt123 : srt [1, 2, 3] = [1, 2, 3] := srt_eq (List.Perm.refl _) (by decide)
theorem add12 : addI i1 c2 = (i2, 0) := by
  rw [addI_ok i1_ok c2_ok (by decide +kernel) (by decide +kernel) (by decide)]
  have e : furP i1 c2 = { i2 with calls := [1] ++ [2] } := by
    have hb : bothL i1.nodes c2.nodes = [3, 4] := by decide +kernel
    unfold furP
    rw [hb]
    rfl
  rw [e]
  show (({ i2 with calls := srt [1, 2] } : Ic), (0 : Int)) = _
  rw [srt12]; rfl
theorem add23 : addI i2 c3 = (i3, 0) := by
  rw [addI_ok i2_ok c3_ok (by decide +kernel) (by decide +kernel) (by decide)]
  have e : furP i2 c3 = { i3 with calls := [1, 2] ++ [3] } := by
    have hb : bothL i2.nodes c3.nodes = [] := by decide +kernel
    unfold furP
    rw [hb]
    rfl
  rw [e]
  show (({ i3 with calls := srt [1, 2, 3] } : Ic), (0 : Int)) = _
  rw [srt123]; rfl
theorem size27 : (Tryd.prog.info? 27).map (·.size) = some 8 := by kernel_rfl
set_option maxHeartbeats 1000000 in
theorem told29 (call urg : Int) (code : ByteArray) (A : Option Addr) (n c : Nat) (w : World) :
    Calls Tryd.prog 29 #[.int .i64 call, .int .i64 urg, .string code, .slice A n c] w (fun e w' => e = .returned (.agg #[.int .i64 call, .int .i64 0, .int .i64 urg, .string code, .slice A n c, .int .i64 0, .int .i64 0, .bool false]) ∧ Below w.heap.size w w') := by
  go_enter Tryd.func29, Tryd.ntmps29
  go_wp2_with fail
  refine bodyPost_ret (results_cell_row (p := 8) (ty := 27) Tryd.results29 _ _ w.heap.size 27 #[.int .i64 call, .int .i64 0, .int .i64 urg, .string code, .slice A n c, .int .i64 0, .int .i64 0, .bool false] (0, 0) _ rfl (Blk.new w 27 _) Tryd.underlying27 rfl size27) rfl ?_
  exact ⟨rfl, (Below.refl _ _).alloc (Nat.le_refl _) _⟩
end Go.Proofs.YtipkicijfedfoaaDoor

import Derived.Test.YtipkicijfedfoaaDoorMGB
import Derived.Test.YtipkicijfedfoaaDoorMGC
import Derived.Test.YtipkicijfedfoaaDoorMGD
import Derived.Test.YtipkicijfedfoaaDoorMGE
import Derived.WideShapes
namespace Go.Proofs.YtipkicijfedfoaaDoor
set_option linter.unusedVariables false
open Go.RowKit Go.Own Go.Quo Go.Inc Go.Wire
section
variable {H : Type} {enc : TypeId × Value → H} {w : World}
theorem c25 : Tryd.prog.cellsOf 25 = 10 := by kernel_rfl
theorem c27 : Tryd.prog.cellsOf 27 = 8 := by kernel_rfl
theorem c22 : Tryd.prog.cellsOf 22 = 1 := by kernel_rfl
theorem c23 : Tryd.prog.cellsOf 23 = 1 := by kernel_rfl
theorem c2v : Tryd.prog.cellsOf 2 = 1 := by kernel_rfl
theorem c3v : Tryd.prog.cellsOf 3 = 1 := by kernel_rfl
theorem c9v : Tryd.prog.cellsOf 9 = 1 := by kernel_rfl
theorem c4v : Tryd.prog.cellsOf 4 = 1 := by kernel_rfl
theorem in64_wf {n : Int} (h : (Lit.int .i64 n).wf = true) : In64 n := by
  simp [Lit.wf, IntKind.min, IntKind.max, IntKind.bits, IntKind.signed] at h
  unfold In64
  omega
theorem open_is {cs : List Value} (h : Rdy enc Tryd.prog w 22 cs) : ∃ A c, ∃ l : List Int, cs = [.slice A l.length c] ∧ RI w (· < w.heap.size) A l ∧ InR l := by
  obtain ⟨A, c, l, h1, -, -, h2, h3⟩ := h.ints Tryd.underlying22 Tryd.underlying3 c3v
  exact ⟨A, c, l, h1, h2, fun n hn => in64_wf (h3 n hn)⟩
theorem open_is2 {cs : List Value} (h : Rdy enc Tryd.prog w 23 cs) : ∃ A c, ∃ l : List Int, cs = [.slice A l.length c] ∧ RI w (· < w.heap.size) A l ∧ InR l := by
  obtain ⟨A, c, l, h1, -, -, h2, h3⟩ := h.ints Tryd.underlying23 Tryd.underlying2 c2v
  exact ⟨A, c, l, h1, h2, fun n hn => in64_wf (h3 n hn)⟩
structure Xa where
  x : Ic
  An : Option Addr
  Ac : Option Addr
  Au : Option Addr
  cn : Nat
  cc : Nat
  cu : Nat
structure XaOk (w : World) (a : Xa) : Prop where
  n : RI w (· < w.heap.size) a.An a.x.nodes
  c : RI w (· < w.heap.size) a.Ac a.x.calls
  u : RI w (· < w.heap.size) a.Au a.x.units
  id : In64 a.x.id
  urg : In64 a.x.urg
  dist : In64 a.x.dist
  since : In64 a.x.since
  merged : In64 a.x.merged
  nr : InR a.x.nodes
  cr : InR a.x.calls
  ur : InR a.x.units
structure Ca where
  c : Cr
  A : Option Addr
  k : Nat
structure CaOk (w : World) (a : Ca) : Prop where
  n : RI w (· < w.heap.size) a.A a.c.nodes
  call : In64 a.c.call
  since : In64 a.c.since
def xaV (a : Xa) : Value := .agg #[.int .i64 a.x.id, .int .i64 a.x.urg, .string a.x.code, .slice a.An a.x.nodes.length a.cn, .int .i64 a.x.dist, .int .i64 a.x.since, .slice a.Ac a.x.calls.length a.cc, .slice a.Au a.x.units.length a.cu, .int .i64 a.x.merged, .bool a.x.closed]
def caL (a : Ca) : List Value := [.int .i64 a.c.call, .int .i64 a.c.inc, .int .i64 a.c.urg, .string a.c.code, .slice a.A a.c.nodes.length a.k, .int .i64 a.c.dist, .int .i64 a.c.since, .bool a.c.closed]
def caV (a : Ca) : Value := .agg #[.int .i64 a.c.call, .int .i64 a.c.inc, .int .i64 a.c.urg, .string a.c.code, .slice a.A a.c.nodes.length a.k, .int .i64 a.c.dist, .int .i64 a.c.since, .bool a.c.closed]
set_option maxRecDepth 100000 in
theorem open_xa {b0 : Nat} {r : Reach} {v : Value} {d : DataW H} {p : List MemPlace} (hv : Value.okWide Tryd.prog w r b0 25 v) (h : DataW.Trod enc Tryd.prog w 0 (fun _ => true) true 25 v d p) : ∃ a : Xa, v = xaV a ∧ XaOk w a := by
  obtain ⟨cs, rfl, hsz⟩ := Go.WideShapes.okWide_struct Tryd.underlying25 hv
  have h1 := Rdy.of_trod h
  obtain ⟨-, hf⟩ := h1.struct Tryd.underlying25
  rw [c25] at hsz
  obtain ⟨l⟩ := cs
  match l, hsz with
  | [e0, e1, e2, e3, e4, e5, e6, e7, e8, e9], _ =>
    have f0 : Rdy enc Tryd.prog w 2 (([e0, e1, e2, e3, e4, e5, e6, e7, e8, e9].drop 0).take (Tryd.prog.cellsOf 2)) := hf 0 _ rfl
    have f1 : Rdy enc Tryd.prog w 3 (([e0, e1, e2, e3, e4, e5, e6, e7, e8, e9].drop 1).take (Tryd.prog.cellsOf 3)) := hf 1 _ rfl
    have f2 : Rdy enc Tryd.prog w 9 (([e0, e1, e2, e3, e4, e5, e6, e7, e8, e9].drop 2).take (Tryd.prog.cellsOf 9)) := hf 2 _ rfl
    have f3 : Rdy enc Tryd.prog w 22 (([e0, e1, e2, e3, e4, e5, e6, e7, e8, e9].drop 3).take (Tryd.prog.cellsOf 22)) := hf 3 _ rfl
    have f4 : Rdy enc Tryd.prog w 3 (([e0, e1, e2, e3, e4, e5, e6, e7, e8, e9].drop 4).take (Tryd.prog.cellsOf 3)) := hf 4 _ rfl
    have f5 : Rdy enc Tryd.prog w 2 (([e0, e1, e2, e3, e4, e5, e6, e7, e8, e9].drop 5).take (Tryd.prog.cellsOf 2)) := hf 5 _ rfl
    have f6 : Rdy enc Tryd.prog w 23 (([e0, e1, e2, e3, e4, e5, e6, e7, e8, e9].drop 6).take (Tryd.prog.cellsOf 23)) := hf 6 _ rfl
    have f7 : Rdy enc Tryd.prog w 22 (([e0, e1, e2, e3, e4, e5, e6, e7, e8, e9].drop 7).take (Tryd.prog.cellsOf 22)) := hf 7 _ rfl
    have f8 : Rdy enc Tryd.prog w 2 (([e0, e1, e2, e3, e4, e5, e6, e7, e8, e9].drop 8).take (Tryd.prog.cellsOf 2)) := hf 8 _ rfl
    have f9 : Rdy enc Tryd.prog w 4 (([e0, e1, e2, e3, e4, e5, e6, e7, e8, e9].drop 9).take (Tryd.prog.cellsOf 4)) := hf 9 _ rfl
    rw [c2v] at f0 f5 f8
    rw [c3v] at f1 f4
    rw [c9v] at f2
    rw [c22] at f3 f7
    rw [c23] at f6
    rw [c4v] at f9
    obtain ⟨n0, k0, w0⟩ := f0.int Tryd.underlying2
    obtain ⟨n1, k1, w1⟩ := f1.int Tryd.underlying3
    obtain ⟨n2, k2, w2⟩ := f2.string Tryd.underlying9
    obtain ⟨A3, c3, l3, k3, r3, q3⟩ := open_is f3
    obtain ⟨n4, k4, w4⟩ := f4.int Tryd.underlying3
    obtain ⟨n5, k5, w5⟩ := f5.int Tryd.underlying2
    obtain ⟨A6, c6, l6, k6, r6, q6⟩ := open_is2 f6
    obtain ⟨A7, c7, l7, k7, r7, q7⟩ := open_is f7
    obtain ⟨n8, k8, w8⟩ := f8.int Tryd.underlying2
    obtain ⟨n9, k9⟩ := f9.bool Tryd.underlying4
    simp at k0 k1 k2 k3 k4 k5 k6 k7 k8 k9
    subst k0 k1 k2 k3 k4 k5 k6 k7 k8 k9
    exact ⟨⟨⟨n0, n1, n2, l3, n4, n5, l6, l7, n8, n9⟩, A3, A6, A7, c3, c6, c7⟩, rfl, ⟨r3, r6, r7, in64_wf w0, in64_wf w1, in64_wf w4, in64_wf w5, in64_wf w8, q3, q6, q7⟩⟩
set_option maxRecDepth 100000 in
theorem open_cl {cs : List Value} (h1 : Rdy enc Tryd.prog w 27 cs) : ∃ a : Ca, cs = caL a ∧ CaOk w a := by
  obtain ⟨hsz, hf⟩ := h1.struct Tryd.underlying27
  rw [c27] at hsz
  match cs, hsz with
  | [e0, e1, e2, e3, e4, e5, e6, e7], _ =>
    have f0 : Rdy enc Tryd.prog w 2 (([e0, e1, e2, e3, e4, e5, e6, e7].drop 0).take (Tryd.prog.cellsOf 2)) := hf 0 _ rfl
    have f1 : Rdy enc Tryd.prog w 2 (([e0, e1, e2, e3, e4, e5, e6, e7].drop 1).take (Tryd.prog.cellsOf 2)) := hf 1 _ rfl
    have f2 : Rdy enc Tryd.prog w 3 (([e0, e1, e2, e3, e4, e5, e6, e7].drop 2).take (Tryd.prog.cellsOf 3)) := hf 2 _ rfl
    have f3 : Rdy enc Tryd.prog w 9 (([e0, e1, e2, e3, e4, e5, e6, e7].drop 3).take (Tryd.prog.cellsOf 9)) := hf 3 _ rfl
    have f4 : Rdy enc Tryd.prog w 22 (([e0, e1, e2, e3, e4, e5, e6, e7].drop 4).take (Tryd.prog.cellsOf 22)) := hf 4 _ rfl
    have f5 : Rdy enc Tryd.prog w 3 (([e0, e1, e2, e3, e4, e5, e6, e7].drop 5).take (Tryd.prog.cellsOf 3)) := hf 5 _ rfl
    have f6 : Rdy enc Tryd.prog w 2 (([e0, e1, e2, e3, e4, e5, e6, e7].drop 6).take (Tryd.prog.cellsOf 2)) := hf 6 _ rfl
    have f7 : Rdy enc Tryd.prog w 4 (([e0, e1, e2, e3, e4, e5, e6, e7].drop 7).take (Tryd.prog.cellsOf 4)) := hf 7 _ rfl
    rw [c2v] at f0 f1 f6
    rw [c3v] at f2 f5
    rw [c9v] at f3
    rw [c22] at f4
    rw [c4v] at f7
    obtain ⟨n0, k0, w0⟩ := f0.int Tryd.underlying2
    obtain ⟨n1, k1, w1⟩ := f1.int Tryd.underlying2
    obtain ⟨n2, k2, w2⟩ := f2.int Tryd.underlying3
    obtain ⟨n3, k3, w3⟩ := f3.string Tryd.underlying9
    obtain ⟨A4, c4, l4, k4, r4, q4⟩ := open_is f4
    obtain ⟨n5, k5, w5⟩ := f5.int Tryd.underlying3
    obtain ⟨n6, k6, w6⟩ := f6.int Tryd.underlying2
    obtain ⟨n7, k7⟩ := f7.bool Tryd.underlying4
    simp at k0 k1 k2 k3 k4 k5 k6 k7
    subst k0 k1 k2 k3 k4 k5 k6 k7
    exact ⟨⟨⟨n0, n1, n2, n3, l4, n5, n6, n7⟩, A4, c4⟩, rfl, ⟨r4, in64_wf w0, in64_wf w6⟩⟩
set_option maxRecDepth 100000 in
theorem open_ca {b0 : Nat} {r : Reach} {v : Value} {d : DataW H} {p : List MemPlace} (hv : Value.okWide Tryd.prog w r b0 27 v) (h : DataW.Trod enc Tryd.prog w 0 (fun _ => true) true 27 v d p) : ∃ a : Ca, v = caV a ∧ CaOk w a := by
  obtain ⟨cs, rfl, hsz⟩ := Go.WideShapes.okWide_struct Tryd.underlying27 hv
  obtain ⟨a, ha, hok⟩ := open_cl (Rdy.of_trod h)
  refine ⟨a, ?_, hok⟩
  unfold caV
  have : cs = (caL a).toArray := by apply Array.ext'; simpa [Value.cells] using ha
  rw [this]; rfl
end
end Go.Proofs.YtipkicijfedfoaaDoor

import Derived.Test.YtgjkahndclijgaaProg
import Derived.Test.YtgjkahndclijgaaBase
namespace Go.Proofs.Ytgjkahndclijgaa
open Go.RowKit Go.Own


theorem info5 : (Try.prog.info? 5).map (fun i => (i.zero, i.size, i.bytes)) = some (some (.int .u8 0), 1, 1) := by kernel_rfl
theorem info3 : (Try.prog.info? 3).map (fun i => (i.zero, i.size, i.bytes)) = some (some (.int .i64 0), 1, 8) := by kernel_rfl
theorem size5 : (Try.prog.info? 5).map (·.size) = some 1 := by kernel_rfl
theorem zero31 (w : World) : (zeroValue 31).run Try.prog w = .ok (.agg #[.int .i64 0, .int .i64 0, .slice none 0 0]) w := by kernel_rfl

structure Pk where
  frm : Int
  to : Int
  body : List Int
  bb : Nat
def bytesV (l : List Int) : List Value := l.map (Value.int .u8)
theorem bytesV_length (l : List Int) : (bytesV l).length = l.length := by simp [bytesV]
theorem bytesV_one (l : List Int) : ∀ v ∈ bytesV l, v.oneCell' = true := ints_oneCell .u8 l
def pv (x : Pk) : Value := .agg #[.int .i64 x.frm, .int .i64 x.to, .slice (some ⟨x.bb, 0, none⟩) x.body.length x.body.length]
structure NetS where
  g : Nat
  m : Nat
  groups : List Int
  items : List (Int × Pk)
  last : Int
  sent : Int
  came : Int
  lost : Int
  dbl : Int
def itemsV (l : List (Int × Pk)) : List (Int × Value) := l.map fun x => (x.1, pv x.2)
structure Net (w : World) (p : Nat) (N : NetS) : Prop where
  blk : Blk w p 65 #[.slice (some ⟨N.g, 0, none⟩) N.groups.length N.groups.length, .map (some N.m), .int .i64 N.last, .int .i64 N.sent, .int .i64 N.came, .int .i64 N.lost, .int .i64 N.dbl]
  grp : Blk w N.g 3 (N.groups.map (Value.int .i64)).toArray
  map : MapB w N.m .i64 (itemsV N.items)
  body : ∀ x ∈ N.items, Blk w x.2.bb 5 (bytesV x.2.body).toArray
  apart : (N.items.map (fun x => x.2.bb)).Nodup

theorem Net.drew {w : World} {p : Nat} {N : NetS} (h : Net w p N) : Net w.drew p N := ⟨h.blk, h.grp, h.map, h.body, h.apart⟩
theorem Net.drewN {w : World} {p : Nat} {N : NetS} (h : Net w p N) (k : Nat) : Net (w.drewN k) p N := ⟨h.blk, h.grp, h.map, h.body, h.apart⟩
theorem Net.alloc {w : World} {p : Nat} {N : NetS} (h : Net w p N) (o : Obj) : Net (w.alloc o) p N := ⟨h.blk.alloc o, h.grp.alloc o, h.map.alloc o, fun x hx => (h.body x hx).alloc o, h.apart⟩
theorem Net.fr {S : Nat → Prop} {w w' : World} {p : Nat} {N : NetS} (h : Net w p N) (hf : Fr S w w') (hp : ¬ S p) (hg : ¬ S N.g) (hm : ¬ S N.m) (hb : ∀ x ∈ N.items, ¬ S x.2.bb) : Net w' p N :=
  ⟨h.blk.fr hf hp, h.grp.fr hf hg, h.map.fr hf hm, fun x hx => (h.body x hx).fr hf (hb x hx), h.apart⟩
def epB (n : Nat) (a : Int) : Bool := decide (0 ≤ a) && decide (a < n)
set_option maxHeartbeats 400000 in
theorem endpoint_any (p : Nat) (a : Int) (A : Option Addr) (n c : Nat) (w : World) (h : w.cell? ⟨p, 0, none⟩ = some (.slice A n c)) :
    Calls Try.prog 28 #[.pointer (some ⟨p, 0, none⟩), .int .i64 a] w fun e w' => e = .returned (.bool (epB n a)) ∧ w = w' := by
  by_cases h0 : 0 ≤ a
  · go_enter Try.func28, Try.ntmps28
    go_wp2
    go_ret
    exact ⟨by simp [h0, epB], rfl⟩
  · go_enter Try.func28, Try.ntmps28
    go_wp2
    go_ret
    exact ⟨by simp [epB]; omega, rfl⟩

set_option maxHeartbeats 400000 in
theorem new_bad (n : Int) (w : World) (h : n < 1 ∨ 512 < n) :
    Calls Try.prog 11 #[.int .i64 n] w fun e w' => e = .returned (.tuple #[.pointer none, .int .i64 1]) ∧ w = w' := by
  rcases h with h | h
  · go_enter Try.func11, Try.ntmps11
    go_wp2
    go_ret2
    exact ⟨rfl, rfl⟩
  · have : ¬ n < 1 := by omega
    go_enter Try.func11, Try.ntmps11
    go_wp2
    go_ret2
    exact ⟨rfl, rfl⟩
def net0 (w : World) (n : Nat) : NetS := ⟨w.heap.size, w.heap.size + 1, List.replicate n 0, [], 0, 0, 0, 0, 0⟩
set_option maxHeartbeats 400000 in
theorem new_good (n : Nat) (w : World) (h1 : 1 ≤ n) (h2 : n ≤ 512) :
    Calls Try.prog 11 #[.int .i64 n] w fun e w' => e = .returned (.tuple #[.pointer (some ⟨w.heap.size + 2, 0, none⟩), .int .i64 0]) ∧ Net w' (w.heap.size + 2) (net0 w n) ∧ Below w.heap.size w w' ∧ w'.heap.size = w.heap.size + 3 := by
  have hmm := @run_makeMap Try.prog
  have hmk := run_make1 (P := Try.prog) 37 3 (.int .i64 0) 8 Try.underlying37 info3 rfl n (by omega) (by omega)
  go_enter Try.func11, Try.ntmps11
  go_wp2
  go_ret2
  refine ⟨rfl, ⟨?_, ?_, ?_, by simp [net0], by simp [net0]⟩, ?_, by simp⟩
  · exact (by simpa [net0] using Blk.new ((w.alloc (.cells (zrow (.int .i64 0) n) 3)).alloc (.map #[] 0)) 65 _)
  · exact (by simpa [net0, zrow] using (((Blk.new w 3 (zrow (.int .i64 0) n)).alloc (.map #[] 0)).alloc _))
  · exact (by simpa [net0, itemsV] using (MapB.new (w.alloc (.cells (zrow (.int .i64 0) n) 3)) .i64).alloc _)
  · exact (((Below.refl _ _).alloc (Nat.le_refl _) _).alloc (by simp) _).alloc (by simp; omega) _

def putN (N : NetS) (x : Pk) : NetS := { N with items := N.items ++ [(N.last + 1, x)], last := N.last + 1 }
theorem kput_new (l : List (Int × Value)) (k : Int) (v : Value) (h : ∀ x ∈ l, x.1 ≠ k) : kput l k v = l ++ [(k, v)] := by
  induction l with
  | nil => rfl
  | cons a r ih =>
    have ha : (a.1 == k) = false := by simpa using h a (by simp)
    simp only [kput, ha, Bool.false_eq_true, if_false, List.cons_append]
    rw [ih (fun x hx => h x (by simp [hx]))]
theorem put_net {p : Nat} {N : NetS} {w : World} (h : Net w p N) (hk : ∀ x ∈ N.items, x.1 ≤ N.last) (f t : Int) (body : List Int) (o1 : Obj) :
    Net (mput (((w.setCell ⟨p, 2, none⟩ (.int .i64 (N.last + 1))).alloc o1).alloc (.cells (bytesV body).toArray 5)) N.m .i64 (N.last + 1) (pv ⟨f, t, body, w.heap.size + 1⟩)) p (putN N ⟨f, t, body, w.heap.size + 1⟩) := by
  have hpg : N.g ≠ p := h.grp.ne_ h.blk (by decide)
  have hmp : N.m ≠ p := h.map.ne_blk h.blk
  refine ⟨?_, ?_, ?_, ?_, ?_⟩
  · exact (by simpa [putN] using ((((h.blk.set_ 2 (.int .i64 (N.last + 1))).alloc o1).alloc (.cells (bytesV body).toArray 5)).mput N.m .i64 (N.last + 1) (pv ⟨f, t, body, w.heap.size + 1⟩)))
  · exact (((h.grp.far (p := ⟨p, 2, none⟩) hpg _).alloc o1).alloc _).mput _ _ _ _
  · have := (((h.map.far (p := ⟨p, 2, none⟩) hmp (.int .i64 (N.last + 1))).alloc o1).alloc (.cells (bytesV body).toArray 5)).put (N.last + 1) (pv ⟨f, t, body, w.heap.size + 1⟩)
    rw [kput_new] at this
    · simpa [putN, itemsV] using this
    · intro x hx
      obtain ⟨y, hy, rfl⟩ := List.mem_map.1 hx
      have := hk y hy
      simp only
      omega
  · intro x hx
    simp only [putN, List.mem_append, List.mem_cons, List.not_mem_nil, or_false] at hx
    rcases hx with hx | rfl
    · have hb := h.body x hx
      exact (((hb.far (p := ⟨p, 2, none⟩) (hb.ne_ h.blk (by decide)) _).alloc o1).alloc _).mput _ _ _ _
    · exact (by simpa using (Blk.new ((w.setCell ⟨p, 2, none⟩ (.int .i64 (N.last + 1))).alloc o1) 5 (bytesV body).toArray).mput N.m .i64 (N.last + 1) _)
  · simp only [putN, List.map_append, List.map_cons, List.map_nil]
    rw [List.nodup_append]
    refine ⟨h.apart, by simp, ?_⟩
    intro a ha b hb e
    obtain ⟨x, hx, rfl⟩ := List.mem_map.1 ha
    have := (h.body x hx).lt
    simp at hb
    omega
set_option maxRecDepth 10000 in
set_option maxHeartbeats 400000 in
theorem put_any (p : Nat) (N : NetS) (B : Nat → Prop) (f t : Int) (A : Option Addr) (n c : Nat) (body : List Int) (w : World) (h : Net w p N) (hr : Reads w B 1 A n (bytesV body)) (hn : n ≤ 8192) (hl : 0 ≤ N.last) (hl2 : N.last < 1000000) (hk : ∀ x ∈ N.items, x.1 ≤ N.last) (hB : ∀ k, w.heap.size ≤ k → ¬ B k) :
    Calls Try.prog 29 #[.pointer (some ⟨p, 0, none⟩), .agg #[.int .i64 f, .int .i64 t, .slice A n c]] w fun e w' => e = .returned (.int .i64 (N.last + 1)) ∧ Net w' p (putN N ⟨f, t, body, w.heap.size + 1⟩) ∧ Fr (fun k => k = p ∨ k = N.m) w w' := by
  have hlen : body.length = n := by simpa [bytesV] using hr.1
  obtain ⟨hlt, hc, hf⟩ := h.blk.facts
  have hmap := h.map
  have hmlt := hmap.lt
  have hmlt1 : N.m < w.heap.size + 1 := by omega
  have hmlt2 : N.m < w.heap.size + 1 + 1 := by omega
  have hne : N.m ≠ p := hmap.ne_blk h.blk
  have hB0 := hB _ (Nat.le_refl _)
  have hB1 := hB (w.heap.size + 1) (by omega)
  have hmk := run_make1 (P := Try.prog) 22 5 (.int .u8 0) 1 Try.underlying22 info5 rfl n (by omega) (by omega)
  have hcp := fun (W : World) (g : Nat) (ty : TypeId) (h : Reads W B 1 A n (bytesV body)) (hg : g = W.heap.size) => run_copy_new (P := Try.prog) 22 22 ty 5 Try.underlying22 size5 (c := c) (d := n) 5 (zrow (.int .u8 0) n) h (bytesV_one body) (size_zrow _ _) g hg
  have hup := fun (W : World) (h : MapB W N.m .i64 (itemsV N.items)) => MapB.update (P := Try.prog) h Try.underlying50 Try.underlying2 (N.last + 1)
  go_enter Try.func29, Try.ntmps29
  go_wp2
  refine wp_tail 14 (by kernel_rfl) (by kernel_rfl) (fun T hT => ?_)
  simp only [List.take_succ_cons, List.take_zero]
  repeat still_step
  refine wpStill_nil (hT _ ?_)
  clear hT T
  simp only [List.drop_succ_cons, List.drop_zero]
  go_wp2
  go_ret
  refine ⟨rfl, ?_, ?_⟩
  · have := put_net h hk f t body (.cells #[.int .i64 f, .int .i64 t, .slice A n c] 31)
    simp only [pv, hlen] at this
    exact this.drew
  · exact (((((Fr.refl _ _).setCell (.inl (.inl rfl)) _).alloc _).alloc _).mput (.inl (.inr rfl)) _ _ _).drew

end Go.Proofs.Ytgjkahndclijgaa

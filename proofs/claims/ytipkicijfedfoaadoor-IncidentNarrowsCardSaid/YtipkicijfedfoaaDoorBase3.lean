import Derived.Test.YtipkicijfedfoaaDoorBase2
import Derived.Maps.RangeRun
namespace Go.Own
open Go.RowKit

/-! ### Ranging over a map keyed by integers, in whatever order -/
def clockOf (w : World) (m : Nat) : Nat := match w.heap[m]? with | some (.map _ c) => c | _ => 0
def rngObj (w : World) (m : Nat) : Obj := .mapIter (some m) (clockOf w m) #[] (clockOf w m)
theorem nodup_of_map {α β : Type} (f : α → β) : ∀ {l : List α}, (l.map f).Nodup → l.Nodup
  | [], _ => List.nodup_nil
  | x :: r, h => by
    rw [List.map_cons, List.nodup_cons] at h
    rw [List.nodup_cons]
    exact ⟨fun hx => h.1 (List.mem_map.2 ⟨x, hx, rfl⟩), nodup_of_map f h.2⟩
theorem inj_of_nodup_map {α β : Type} (f : α → β) : ∀ {l : List α}, (l.map f).Nodup → ∀ {a b : α}, a ∈ l → b ∈ l → f a = f b → a = b
  | [], _, _, _, ha, _, _ => by simp at ha
  | x :: r, h, a, b, ha, hb, e => by
    rw [List.map_cons, List.nodup_cons] at h
    rcases List.mem_cons.1 ha with rfl | ha' <;> rcases List.mem_cons.1 hb with rfl | hb'
    · rfl
    · exact absurd (List.mem_map.2 ⟨b, hb', e.symm⟩) h.1
    · exact absurd (List.mem_map.2 ⟨a, ha', e⟩) h.1
    · exact inj_of_nodup_map f h.2 ha' hb' e
section
variable {α : Type} {P : Program} {q : IntKind} {m r : Nat} {w w' : World} {f : α → Int × Value} {l d : List α}
def encKV (q : IntKind) (p : Int × Value) : Value × Value := (Value.int q p.1, p.2)
/-- Block r is an iterator over the map in block m, which reads as 'l' and is not written meanwhile; 'd' has been met, in this order. -/
def IterA (w : World) (m r : Nat) (q : IntKind) (f : α → Int × Value) (l d : List α) : Prop :=
  ∃ (es : Array MapEntry) (clock : Nat) (seen : Array Nat) (c0 : Nat) (dn : List MapEntry),
    w.heap[m]? = some (.map es clock) ∧ es.toList.map (fun e => (e.key, e.val)) = l.map (fun x => encKV q (f x)) ∧ (es.toList.map (·.born)).Nodup ∧ (∀ e ∈ es.toList, e.born < clock) ∧
    w.heap[r]? = some (.mapIter (some m) clock seen c0) ∧ clock ≤ c0 ∧ seen.toList = dn.map (·.born) ∧ dn.map (fun e => (e.key, e.val)) = d.map (fun x => encKV q (f x)) ∧ (∀ e ∈ dn, e ∈ es.toList) ∧ (dn.map (·.born)).Nodup ∧ (∀ x ∈ d, x ∈ l)
theorem IterA.lt (h : IterA w m r q f l d) : r < w.heap.size := by
  obtain ⟨es, clock, seen, c0, dn, -, -, -, -, h, -⟩ := h
  rcases Nat.lt_or_ge r w.heap.size with hlt | hge
  · exact hlt
  · rw [Array.getElem?_eq_none hge] at h; cases h
theorem IterA.mlt (h : IterA w m r q f l d) : m < w.heap.size := by
  obtain ⟨es, clock, seen, c0, dn, h, -⟩ := h
  rcases Nat.lt_or_ge m w.heap.size with hlt | hge
  · exact hlt
  · rw [Array.getElem?_eq_none hge] at h; cases h
theorem IterA.keep (h : IterA w m r q f l d) (hm : w'.heap[m]? = w.heap[m]?) (hr : w'.heap[r]? = w.heap[r]?) : IterA w' m r q f l d := by
  obtain ⟨es, clock, seen, c0, dn, h1, h2, h3, h4, h5, h6⟩ := h
  exact ⟨es, clock, seen, c0, dn, hm.trans h1, h2, h3, h4, hr.trans h5, h6⟩
theorem IterA.alloc (h : IterA w m r q f l d) (o : Obj) : IterA (w.alloc o) m r q f l d := h.keep (Below.heap_alloc w o m h.mlt) (Below.heap_alloc w o r h.lt)
theorem IterA.drewN (h : IterA w m r q f l d) (k : Nat) : IterA (w.drewN k) m r q f l d := h
theorem IterA.grown {row : Option Nat} (h : IterA w m r q f l d) (hg : w.grownBy w' row) (h1 : some m ≠ row) (h2 : some r ≠ row) : IterA w' m r q f l d := h.keep (hg.block m h.mlt h1) (hg.block r h.lt h2)
theorem IterA.map (h : IterA w m r q f l d) : MapB w m q (l.map f) := by
  obtain ⟨es, clock, seen, c0, dn, h1, h2, h3, h4, -⟩ := h
  exact ⟨es, clock, h1, by rw [h2]; simp [encKV], h3, h4⟩
theorem run_rangeB {T K E : TypeId} {kvs : List (Int × Value)} (h : MapB w m q kvs) (hT : P.underlying T = some (.map K E)) :
    (Instr.range T (.map (some m))).run P w = .ok (.pointer (some ⟨w.heap.size, 0, none⟩)) (w.alloc (rngObj w m)) := by
  obtain ⟨es, clock, hm, -⟩ := h
  have hc : clockOf w m = clock := by simp [clockOf, hm]
  have := run_range_map (P := P) w T K E m es clock hT hm
  rw [this, rngObj, hc]
theorem IterA.start (h : MapB w m q (l.map f)) : IterA (w.alloc (rngObj w m)) m w.heap.size q f l [] := by
  have hlt := h.lt
  obtain ⟨es, clock, hm, he, hn, hb⟩ := h
  have hc : clockOf w m = clock := by simp [clockOf, hm]
  refine ⟨es, clock, #[], clock, [], (Below.heap_alloc w _ m hlt).trans hm, by rw [he]; simp [encKV], hn, hb, ?_, Nat.le_refl _, rfl, rfl, by simp, by simp, by simp⟩
  rw [rngObj, hc]; exact heap_alloc_new w _
theorem IterA.next (h : IterA w m r q f l d) (ty : TypeId) :
    ((d.map fun x => (f x).1).Perm (l.map fun x => (f x).1) ∧ (Instr.next (.pointer (some ⟨r, 0, none⟩)) false ty).run P w = .ok (.tuple #[.bool false]) w) ∨
    ∃ x ∈ l, ∃ w', IterA w' m r q f l (d ++ [x]) ∧ (∀ k, k ≠ r → w'.heap[k]? = w.heap[k]?) ∧ w'.heap.size = w.heap.size ∧ Fr (fun k => k = r) w w' ∧
      (Instr.next (.pointer (some ⟨r, 0, none⟩)) false ty).run P w = .ok (.tuple #[.bool true, .int q (f x).1, (f x).2]) w' ∧ (Instr.entry (.pointer (some ⟨r, 0, none⟩))).run P w' = .ok (.tuple #[.int q (f x).1, (f x).2]) w' := by
  have hrlt := h.lt
  have hne : r ≠ m := by
    rintro rfl
    obtain ⟨es, clock, seen, c0, dn, h1, h2, h3, h4, h5, -⟩ := h
    rw [h1] at h5; cases h5
  obtain ⟨es, clock, seen, c0, dn, h1, h2, h3, h4, h5, h6, h7, h8, h9, h10, h11⟩ := h
  rcases run_next_at (P := P) w ty r m clock c0 seen es clock h5 h1 h4 h6 with ⟨h0, hrun⟩ | ⟨e, he, w1, hw1, hrun⟩
  · left
    refine ⟨?_, hrun⟩
    have hall := all_seen es seen h0
    have hperm : dn.Perm es.toList := by
      have nd1 : dn.Nodup := nodup_of_map _ h10
      have nd2 : es.toList.Nodup := nodup_of_map _ h3
      rw [List.perm_ext_iff_of_nodup nd1 nd2]
      intro a
      refine ⟨h9 a, fun ha => ?_⟩
      have hs := hall a ha
      have hs' : a.born ∈ seen.toList := by simpa using hs
      rw [h7] at hs'
      obtain ⟨b, hb, hbb⟩ := List.mem_map.1 hs'
      have := born_inj h3 (h9 b hb) ha hbb
      exact this ▸ hb
    have hp2 := (hperm.map (fun e => (e.key, e.val))).map (fun p : Value × Value => match p.1 with | .int _ n => n | _ => 0)
    rw [h8, h2] at hp2
    simpa [encKV, Function.comp_def] using hp2
  · right
    obtain ⟨hmem, hns⟩ := mem_left he
    obtain ⟨j, hj⟩ := List.mem_iff_getElem?.1 hmem
    have hjl : j < l.length := by
      have hl := congrArg List.length h2
      simp at hl
      have := (List.getElem?_eq_some_iff.1 hj).1
      simp at this; omega
    have hx : (e.key, e.val) = encKV q (f l[j]) := by
      have := congrArg (fun t => t[j]?) h2
      simp only [List.getElem?_map, hj, List.getElem?_eq_getElem hjl, Option.map_some, Option.some.injEq] at this
      exact this
    have hk : e.key = .int q (f l[j]).1 := congrArg Prod.fst hx
    have hv : e.val = (f l[j]).2 := congrArg Prod.snd hx
    have hfar : ∀ k, k ≠ r → (Go.ChangeMaps.setBlock w1 r (.mapIter (some m) clock (seen.push e.born) clock)).heap[k]? = w.heap[k]? := by
      intro k hk
      have : w1.heap = w.heap := by rcases hw1 with rfl | rfl <;> rfl
      simp only [Go.ChangeMaps.setBlock, this, Array.getElem?_setIfInBounds]
      rw [if_neg (by omega)]
    have hsz : (Go.ChangeMaps.setBlock w1 r (.mapIter (some m) clock (seen.push e.born) clock)).heap.size = w.heap.size := by
      have : w1.heap = w.heap := by rcases hw1 with rfl | rfl <;> rfl
      simp [Go.ChangeMaps.setBlock, this]
    have hat : (Go.ChangeMaps.setBlock w1 r (.mapIter (some m) clock (seen.push e.born) clock)).heap[r]? = some (.mapIter (some m) clock (seen.push e.born) clock) := by
      have : w1.heap = w.heap := by rcases hw1 with rfl | rfl <;> rfl
      simp [Go.ChangeMaps.setBlock, this, hrlt]
    refine ⟨l[j], List.getElem_mem hjl, _, ⟨es, clock, seen.push e.born, clock, dn ++ [e], (hfar m hne.symm).trans h1, h2, h3, h4, hat, Nat.le_refl _, by simp [h7], by simp [h8, hx], ?_, ?_, ?_⟩, hfar, hsz, ⟨?_, ?_, ?_, Nat.le_of_eq hsz.symm, fun k _ hk => hfar k hk⟩, ?_, ?_⟩
    · intro a ha
      rcases List.mem_append.1 ha with ha | ha
      · exact h9 a ha
      · simp at ha; exact ha ▸ hmem
    · rw [List.map_append, List.nodup_append]
      refine ⟨h10, by simp, ?_⟩
      intro a ha b hb hab
      simp at hb
      subst hab hb
      rw [← h7] at ha
      have : seen.contains e.born = true := by simpa using ha
      rw [hns] at this; cases this
    · intro a ha
      rcases List.mem_append.1 ha with ha | ha
      · exact h11 a ha
      · simp at ha; exact ha ▸ List.getElem_mem hjl
    · rcases hw1 with rfl | rfl <;> rfl
    · rcases hw1 with rfl | rfl <;> rfl
    · rcases hw1 with rfl | rfl <;> rfl
    · rw [hrun, hk, hv]
    · rw [← hk, ← hv]
      exact run_entry_at (P := P) _ r m clock seen es clock e hat ((hfar m hne.symm).trans h1) hmem h3
theorem wpList_nextB {ops : Array Oper} {rest : List Oper} {o : Oper} {a : Act} {Q : Exit → Act → World → Prop} (hg : o.guard = none) (it : Operand) (hop : o.op = Op.next it false)
    (m r : Nat) (q : IntKind) (f : α → Int × Value) (l d : List α) (hit : a.eval it = .pointer (some ⟨r, 0, none⟩)) (h : IterA w m r q f l d)
    (hDone : (d.map fun x => (f x).1).Perm (l.map fun x => (f x).1) → wpList P ops Q rest (a.put o.dst (.tuple #[.bool false])) w)
    (hMore : ∀ x w', x ∈ l → IterA w' m r q f l (d ++ [x]) → Fr (fun k => k = r) w w' → w'.heap.size = w.heap.size → (Instr.entry (.pointer (some ⟨r, 0, none⟩))).run P w' = .ok (.tuple #[.int q (f x).1, (f x).2]) w' →
      wpList P ops Q rest (a.put o.dst (.tuple #[.bool true, .int q (f x).1, (f x).2])) w') : wpList P ops Q (o :: rest) a w := by
  refine wpList_plain hg fun K' hK' => ?_
  unfold Oper.wp
  rcases h.next (P := P) o.type with ⟨h0, hrun⟩ | ⟨x, hx, w', hit', -, hsz, hfr, hrun, hen⟩
  · simp [execOp, hop, hit, hrun, Result.andThen]
    exact hK' _ _ (hDone h0)
  · simp [execOp, hop, hit, hrun, Result.andThen]
    exact hK' _ _ (hMore x w' hx hit' hfr hsz hen)
theorem IterA.perm (h : IterA w m r q f l d) (hp : (d.map fun x => (f x).1).Perm (l.map fun x => (f x).1)) (hn : (l.map fun x => (f x).1).Nodup) : d.Perm l := by
  obtain ⟨es, clock, seen, c0, dn, -, -, -, -, -, -, -, -, -, -, h11⟩ := h
  have n1 : l.Nodup := nodup_of_map _ hn
  have n2 : d.Nodup := nodup_of_map _ (hp.symm.nodup hn)
  rw [List.perm_ext_iff_of_nodup n2 n1]
  intro a
  refine ⟨h11 a, fun ha => ?_⟩
  have : (f a).1 ∈ d.map fun x => (f x).1 := hp.symm.mem_iff.1 (List.mem_map.2 ⟨a, ha, rfl⟩)
  obtain ⟨b, hb, hbb⟩ := List.mem_map.1 this
  have hba : b = a := inj_of_nodup_map (fun x => (f x).1) hn (h11 b hb) ha hbb
  exact hba ▸ hb
theorem IterA.le (h : IterA w m r q f l d) : d.length ≤ l.length := by
  obtain ⟨es, clock, seen, c0, dn, h1, h2, h3, h4, h5, h6, h7, h8, h9, h10, h11⟩ := h
  have e1 : dn.length = d.length := by simpa using congrArg List.length h8
  have e2 : es.toList.length = l.length := by simpa using congrArg List.length h2
  have nd1 : dn.Nodup := nodup_of_map _ h10
  have nd2 : es.toList.Nodup := nodup_of_map _ h3
  have hp : dn.Perm (es.toList.filter fun e => (dn.map (·.born)).contains e.born) := by
    rw [List.perm_ext_iff_of_nodup nd1 (nd2.filter _)]
    intro a
    rw [List.mem_filter]
    refine ⟨fun ha => ⟨h9 a ha, by simpa using ⟨a, ha, rfl⟩⟩, fun ⟨ha, hc⟩ => ?_⟩
    have hc' : a.born ∈ dn.map (·.born) := by simpa using hc
    obtain ⟨b, hb, hbb⟩ := List.mem_map.1 hc'
    exact born_inj h3 (h9 b hb) ha hbb ▸ hb
  have := hp.length_eq
  have := List.length_filter_le (fun e : MapEntry => (dn.map (·.born)).contains e.born) es.toList
  omega
/-- How long a slice is. -/
def slen : Value → Nat | .slice _ n _ => n | _ => 0
theorem run_make0 {P : Program} (t e : TypeId) (z : Value) (bytes : Nat) (ht : P.underlying t = some (.slice e)) (hi : (P.info? e).map (fun i => (i.zero, i.size, i.bytes)) = some (some z, 1, bytes)) (hz : z.cells = #[z])
    (c : Nat) (hbytes : bytes * c ≤ 281474976710656) (hc : c ≤ 9223372036854775807) (w : World) :
    (Instr.makeSlice t (.int .i64 0) (.int .i64 (c : Int))).run P w = .ok (.slice (some ⟨w.heap.size, 0, none⟩) 0 c) (w.alloc (.cells (zrow z c) e)) := by
  obtain ⟨i, hi, hz0, hz1, hz2⟩ := info_parts hi
  have := run_make_rowN (P := P) t e i z ht hi hz0 .i64 .i64 0 c (Nat.zero_le _) (by rw [hz2]; exact hbytes) hc w
  rw [hz1, hz, Nat.mul_one, madeCells_one] at this
  exact this
end

/-! ### A struct stored over a whole block -/
theorem run_storeBlk {P : Program} {w : World} {T : TypeId} {i : TypeInfo} {g : Nat} {t : TypeId} {cs cs' : Array Value} (hi : P.info? T = some i) (hsz : i.size = cs'.size) (hb : Blk w g t cs) (hl : cs.size = cs'.size) (h1 : ∀ u ∈ cs'.toList, u.oneCell' = true) :
    (Instr.storeAt T (.pointer (some ⟨g, 0, none⟩)) (.agg cs')).run P w = .ok () (w.setRow g cs') := by
  have hst := run_storeCells_at P g 0 t cs'.toList 0 cs w hb (by simp; omega) h1
  have e : (List.take (0 + 0) cs.toList ++ cs'.toList ++ List.drop (0 + 0 + cs'.toList.length) cs.toList).toArray = cs' := by
    simp [show List.drop cs'.size cs.toList = [] from List.drop_eq_nil_of_le (by simp; omega)]
  rw [e] at hst
  simp [Instr.storeAt, Instr.sureAddr, storeVar, Value.cells, sizeOf, typeInfo, hi, hsz, hst]
theorem wpList_storeBlk {P : Program} {w : World} {ops : Array Oper} {rest : List Oper} {o : Oper} {a : Act} {Q : Exit → Act → World → Prop} (hg : o.guard = none) (ad v : Operand) (T : TypeId) (hop : o.op = .store T ad v)
    (g : Nat) (t : TypeId) (cs cs' : Array Value) (z : Value) (size bytes : Nat) (hi : (P.info? T).map (fun i => (i.zero, i.size, i.bytes)) = some (some z, size, bytes)) (ha : a.eval ad = .pointer (some ⟨g, 0, none⟩)) (hv : a.eval v = .agg cs') (hsz : size = cs'.size) (hb : Blk w g t cs) (hl : cs.size = cs'.size) (h1 : ∀ u ∈ cs'.toList, u.oneCell' = true)
    (hK : ∀ w', Blk w' g t cs' → Fr (fun k => k = g) w w' → w'.heap.size = w.heap.size → wpList P ops Q rest (a.put o.dst undef) w') : wpList P ops Q (o :: rest) a w := by
  obtain ⟨i, hi, -, hi2, -⟩ := info_parts hi
  refine wpList_plain hg fun K' hK' => ?_
  unfold Oper.wp
  have hrun := run_storeBlk (P := P) (T := T) hi (hi2.trans hsz) hb hl h1
  simp [execOp, hop, ha, hv, hrun, Result.andThen]
  exact hK' _ _ (hK _ (hb.setRow cs') ((Fr.refl (fun k => k = g) _).setRow (.inl rfl) _) (by simp))
end Go.Own

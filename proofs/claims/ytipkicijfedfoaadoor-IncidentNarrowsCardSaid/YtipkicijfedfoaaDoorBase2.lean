import Derived.Test.YtipkicijfedfoaaDoorBase
namespace Go.Own
open Go.RowKit

section
variable {P : Program} (w : World)
theorem run_append_of_nil (base : Nat) (t ty e : TypeId) (i : TypeInfo) (size : Nat) (ht : P.underlying t = some (.slice e)) (hi : P.info? e = some i)
    (v : Value) (n : Nat) (xs : List Value) (hown : w.ownsRow base e size v n xs) (c : Nat) : (Builtin.append_ #[t, t] ty #[v, .slice none 0 c]).run P w = .ok v w := by
  rcases hown.2 with ⟨rfl, rfl⟩ | ⟨g, cap, cur, rfl, _, _, hnc, _⟩
  · simp [Builtin.append_, run_underlying ht, sizeOf, typeInfo, hi, Builtin.lenOf, Builtin.firstCells]
  · simp [Builtin.append_, run_underlying ht, sizeOf, typeInfo, hi, Builtin.lenOf, Builtin.firstCells, hnc, storeCells]

theorem run_append_any (base : Nat) (t ty e : TypeId) (z : Value) (size bytes : Nat) (ht : P.underlying t = some (.slice e)) (hi : (P.info? e).map (fun i => (i.zero, i.size, i.bytes)) = some (some z, size, bytes)) (hzs : z.cells.size = size) (hsz : 0 < size)
    (v : Value) (n : Nat) (xs : List Value) (hown : w.ownsRow base e size v n xs)
    (B : Nat → Prop) (A : Option Addr) (m c : Nat) (news : List Value) (hr : Reads w B size A m news) (h1 : ∀ u ∈ news, u.oneCell' = true)
    (h63 : n + m ≤ maxLen) (hbytes : (n + m) * bytes ≤ 140737488355328) (hbase : base ≤ w.heap.size) :
    ∃ v' w', (Builtin.append_ #[t, t] ty #[v, .slice A m c]).run P w = .ok v' w' ∧ w'.ownsRow base e size v' (n + m) (xs ++ news) ∧ w.grownBy w' v.ownBlock ∧
      (v'.ownBlock = v.ownBlock ∨ v'.ownBlock = some w.heap.size) := by
  obtain ⟨i, hi, hz, hsize, hby⟩ := info_parts hi
  rcases A with _ | ad
  · have hm : m = 0 := by
      rcases Nat.eq_zero_or_pos m with h0 | h0
      · exact h0
      · obtain ⟨ad, h, _⟩ := hr.2 h0
        cases h
    subst hm
    have hn : news = [] := List.eq_nil_of_length_eq_zero (by simpa using hr.1)
    subst hn
    exact ⟨v, w, run_append_of_nil w base t ty e i size ht hi v n xs hown c, by simpa using hown, World.grownBy.refl w _, .inl rfl⟩
  · have hcells : ∀ j u, news[j]? = some u → w.cell? (ad.add j) = some u := by
      intro j u hu
      rcases Nat.eq_zero_or_pos m with h0 | h0
      · subst h0
        have hn : news = [] := List.eq_nil_of_length_eq_zero (by simpa using hr.1)
        subst hn
        simp at hu
      · obtain ⟨ad', h, _, hc⟩ := hr.2 h0
        injection h with h
        subst h
        exact hc j u hu
    obtain ⟨v', w', hrun, h2, h3, _, h5⟩ := run_append_own_at (P := P) w base t ty e i z size bytes ht hi hz hsize hby hzs hsz v n xs hown ad m c news hr.1 hcells h1 h63 hbytes hbase
    exact ⟨v', w', hrun, h2, h3, h5⟩

theorem wp_append_any {o : Oper} {a : Act} {K : Act → World → Prop} {Q : Exit → Act → World → Prop} (s x : Operand) (t : TypeId)
    (ho : o.op = .call { callee := .builtin .append, args := #[s, x], argTypes := #[t, t] })
    (base : Nat) (e : TypeId) (z : Value) (size bytes : Nat) (ht : P.underlying t = some (.slice e)) (hi : (P.info? e).map (fun i => (i.zero, i.size, i.bytes)) = some (some z, size, bytes)) (hzs : z.cells.size = size) (hsz : 0 < size)
    (v : Value) (n : Nat) (xs : List Value) (hs : a.eval s = v) (hown : w.ownsRow base e size v n xs)
    (B : Nat → Prop) (A : Option Addr) (m c : Nat) (news : List Value) (hx : a.eval x = .slice A m c) (hr : Reads w B size A m news) (h1 : ∀ u ∈ news, u.oneCell' = true)
    (h63 : n + m ≤ maxLen) (hbytes : (n + m) * bytes ≤ 140737488355328) (hbase : base ≤ w.heap.size)
    (h : ∀ A' c' w', w'.ownsRow base e size (.slice A' (n + m) c') (n + m) (xs ++ news) → w.grownBy w' v.ownBlock → ((Value.slice A' (n + m) c').ownBlock = v.ownBlock ∨ (Value.slice A' (n + m) c').ownBlock = some w.heap.size) → K (a.put o.dst (.slice A' (n + m) c')) w') : o.wp P a w K Q := by
  obtain ⟨v', w', hrun, h2, h3, h4⟩ := run_append_any (P := P) w base t o.type e z size bytes ht hi hzs hsz v n xs hown B A m c news hr h1 h63 hbytes hbase
  unfold Oper.wp execOp
  simp only [ho, resolve, invoke, builtin, Sem.run_bind, Sem.run_pure, Result.andThen_ok, List.map_toArray, List.map_cons, List.map_nil, hs, hx, hrun]
  have hv : ∃ A' c', v' = .slice A' (n + m) c' := by
    rcases h2.2 with ⟨rfl, hx0⟩ | ⟨g, cap, cur, rfl, _⟩
    · rw [hx0]; exact ⟨_, _, rfl⟩
    · exact ⟨_, _, rfl⟩
  obtain ⟨A', c', rfl⟩ := hv
  exact h A' c' w' h2 h3 h4

/-- 'append(v, x...)': v nil or of the call's own; the source nil or not. What comes out is spelt '.slice A' (n + m) c''. -/
theorem wpList_append_any {ops : Array Oper} {rest : List Oper} {o : Oper} {a : Act} {Q : Exit → Act → World → Prop} (hgd : o.guard = none) (s x : Operand) (t : TypeId)
    (ho : o.op = .call { callee := .builtin .append, args := #[s, x], argTypes := #[t, t] })
    (base : Nat) (e : TypeId) (z : Value) (size bytes : Nat) (ht : P.underlying t = some (.slice e)) (hi : (P.info? e).map (fun i => (i.zero, i.size, i.bytes)) = some (some z, size, bytes)) (hzs : z.cells.size = size) (hsz : 0 < size)
    (v : Value) (n : Nat) (xs : List Value) (hs : a.eval s = v) (hown : w.ownsRow base e size v n xs)
    (B : Nat → Prop) (A : Option Addr) (m c : Nat) (news : List Value) (hx : a.eval x = .slice A m c) (hr : Reads w B size A m news) (h1 : ∀ u ∈ news, u.oneCell' = true)
    (h63 : n + m ≤ maxLen) (hbytes : (n + m) * bytes ≤ 140737488355328) (hbase : base ≤ w.heap.size)
    (h : ∀ A' c' w', w'.ownsRow base e size (.slice A' (n + m) c') (n + m) (xs ++ news) → w.grownBy w' v.ownBlock → ((Value.slice A' (n + m) c').ownBlock = v.ownBlock ∨ (Value.slice A' (n + m) c').ownBlock = some w.heap.size) → wpList P ops Q rest (a.put o.dst (.slice A' (n + m) c')) w') : wpList P ops Q (o :: rest) a w :=
  wpList_plain hgd fun _ hK => wp_append_any w s x t ho base e z size bytes ht hi hzs hsz v n xs hs hown B A m c news hx hr h1 h63 hbytes hbase fun A' c' w' h2 h3 h4 => hK _ _ (h A' c' w' h2 h3 h4)
end

/-- What a slice of the call's own is, where it has an element. -/
theorem own_blk {w : World} {base : Nat} {e : TypeId} {size n c : Nat} {A : Option Addr} {xs : List Value} (h : w.ownsRow base e size (.slice A n c) n xs) (hn : 0 < n) :
    ∃ g cur, A = some ⟨g, 0, none⟩ ∧ base ≤ g ∧ Blk w g e cur ∧ n * size ≤ cur.size ∧ cur.toList.take (n * size) = xs := by
  rcases h.2 with ⟨hv, _⟩ | ⟨g, cap, cur, hv, hb, hg, hnc, hcm, hsz, hcell⟩
  · injection hv with _ h2; omega
  · injection hv with h1 h2 h3
    subst h1 h3
    have hle : n * size ≤ cur.size := by rw [hsz]; exact Nat.mul_le_mul_right _ hnc
    exact ⟨g, cur, rfl, hb, hg, hle, hcell⟩

/-! ### Elements of a slice whose address is not looked into -/
def adr (A : Option Addr) : Addr := A.getD ⟨0, 0, none⟩
theorem off_of_add (a : Addr) (n : Nat) : (a.add n).off = a.off + n := by unfold Addr.add; split <;> simp_all
theorem add_inj {a : Addr} {i j : Nat} (h : a.add i = a.add j) : i = j := by
  have := congrArg Addr.off h
  rw [off_of_add, off_of_add] at this
  omega
theorem add_zero_ (a : Addr) : a.add 0 = a := by simp [Addr.add]
theorem run_indexAt {P : Program} {t e : TypeId} {i : TypeInfo} {size : Nat} (ht : P.underlying t = some (.slice e)) (hi : P.info? e = some i) (hs : i.size = size) {A : Option Addr} {n : Nat} (hA : 0 < n → ∃ ad, A = some ad) (c k : Nat) (hk : k < n) (w : World) :
    (Instr.indexAt t (.slice A n c) (.int .i64 (k : Int))).run P w = .ok (.pointer (some ((adr A).add (k * size)))) w := by
  obtain ⟨ad, rfl⟩ := hA (by omega)
  simp [Instr.indexAt, asIntOf, run_underlying ht, sizeOf, typeInfo, hi, hs, adr, hk]
theorem Reads.some_ {w : World} {B : Nat → Prop} {size n : Nat} {A : Option Addr} {xs : List Value} (h : Reads w B size A n xs) : 0 < n → ∃ ad, A = some ad := fun hn => by
  obtain ⟨ad, h, _⟩ := h.2 hn
  exact ⟨ad, h⟩
theorem Reads.cell {w : World} {B : Nat → Prop} {size n : Nat} {A : Option Addr} {xs : List Value} (h : Reads w B size A n xs) (j : Nat) (hj : j < n * size) : w.cell? ((adr A).add j) = xs[j]? := by
  have hn : 0 < n := by
    rcases Nat.eq_zero_or_pos n with h0 | h0
    · subst h0; simp at hj
    · exact h0
  obtain ⟨ad, rfl, _, hc⟩ := h.2 hn
  have hl : j < xs.length := by rw [h.1]; exact hj
  rw [List.getElem?_eq_getElem hl]
  exact hc j _ (List.getElem?_eq_getElem hl)
theorem Reads.block {w : World} {B : Nat → Prop} {size n : Nat} {A : Option Addr} {xs : List Value} (h : Reads w B size A n xs) (hn : 0 < n) : B (adr A).block := by
  obtain ⟨ad, rfl, hb, _⟩ := h.2 hn
  exact hb
/-- n bytes, whatever they are, that may be written. -/
def Byt (w : World) (a : Addr) (n : Nat) : Prop := ∀ i, i < n → (∃ b, w.cell? (a.add i) = some (.int .u8 b)) ∧ w.frozen? (a.add i) = false
theorem Byt.set_ {w : World} {a : Addr} {n : Nat} (h : Byt w a n) (k : Nat) (b : Int) : Byt (w.setCell (a.add k) (.int .u8 b)) a n := by
  intro i hi
  obtain ⟨⟨b', hb'⟩, hf⟩ := h i hi
  refine ⟨?_, by rw [World.frozen?_setCell]; exact hf⟩
  by_cases hk : k = i
  · subst hk
    exact ⟨b, World.cell?_setCell_same _ _ _ hb'⟩
  · rw [World.cell?_setCell_other _ _ _ _ (fun e => hk (add_inj e))]
    exact ⟨b', hb'⟩
theorem Byt.keep {w w' : World} {a : Addr} {n : Nat} (h : Byt w a n) (hb : 0 < n → w'.heap[a.block]? = w.heap[a.block]?) : Byt w' a n := fun i hi => by
  have e : w'.heap[(a.add i).block]? = w.heap[(a.add i).block]? := by rw [block_of_add]; exact hb (by omega)
  rw [World.cell?_of_block e, World.frozen?_of_block e]
  exact h i hi
theorem Byt.of_blk {w : World} {g n : Nat} {t : TypeId} {l : List Int} (h : Blk w g t (l.map (Value.int .u8)).toArray) (hn : n ≤ l.length) : Byt w ⟨g, 0, none⟩ n := fun i hi => by
  rw [Addr.add_lit, h.cell, h.frozen]
  exact ⟨⟨l[i]'(by omega), by simp [List.getElem?_eq_getElem (show i < l.length by omega)]⟩, rfl⟩
theorem Byt.of_own {w : World} {base : Nat} {e : TypeId} {n c : Nat} {A : Option Addr} {l : List Int} (h : w.ownsRow base e 1 (.slice A n c) n (l.map (Value.int .u8))) : Byt w (adr A) n := fun i hi => by
  obtain ⟨g, cur, rfl, hb, hblk, hle, htk⟩ := own_blk h (by omega)
  show (∃ b, w.cell? ((⟨g, 0, none⟩ : Addr).add i) = _) ∧ w.frozen? ((⟨g, 0, none⟩ : Addr).add i) = _
  rw [Addr.add_lit, hblk.cell, hblk.frozen]
  refine ⟨?_, rfl⟩
  have hl : l.length = n := by simpa using h.1
  have h2 := congrArg (fun x => x[i]?) htk
  simp only [List.getElem?_take, Nat.mul_one, if_pos hi, List.getElem?_map, List.getElem?_eq_getElem (show i < l.length by omega), Option.map_some] at h2
  exact ⟨l[i]'(by omega), by simpa using h2⟩
theorem own_some {w : World} {base : Nat} {e : TypeId} {size n c : Nat} {A : Option Addr} {xs : List Value} (h : w.ownsRow base e size (.slice A n c) n xs) : 0 < n → ∃ ad, A = some ad := fun hn => by
  obtain ⟨g, cur, h, _⟩ := own_blk h hn
  exact ⟨_, h⟩
theorem Reads.old {w : World} {B : Nat → Prop} {size n : Nat} {A : Option Addr} {xs : List Value} (h : Reads w B size A n xs) (hs : 0 < size) : Reads w (fun k => B k ∧ k < w.heap.size) size A n xs := by
  refine ⟨h.1, fun hn => ?_⟩
  obtain ⟨ad, rfl, hb, hc⟩ := h.2 hn
  have hl : 0 < xs.length := by rw [h.1]; exact Nat.mul_pos hn hs
  have := block_lt_of_cell (hc 0 _ (List.getElem?_eq_getElem hl))
  rw [block_of_add] at this
  exact ⟨ad, rfl, ⟨hb, this⟩, hc⟩

/-- The block and the place of a slice's first cell. -/
def bk (A : Option Addr) : Nat := (adr A).block
def ofs (A : Option Addr) : Nat := (adr A).off
def Plain (A : Option Addr) (n : Nat) : Prop := 0 < n → ∃ b o, A = some ⟨b, o, none⟩
theorem Reads.plain {w : World} {B : Nat → Prop} {size n : Nat} {A : Option Addr} {xs : List Value} (h : Reads w B size A n xs) (hs : 0 < size) : Plain A n := by
  intro hn
  obtain ⟨⟨b, o, s⟩, rfl, hb, hc⟩ := h.2 hn
  have hl : 0 < xs.length := by rw [h.1]; exact Nat.mul_pos hn hs
  have hcell := hc 0 _ (List.getElem?_eq_getElem hl)
  have hspot : s = none := by simpa [Addr.add] using World.cell?_spot hcell
  subst hspot
  exact ⟨b, o, rfl⟩
theorem run_indexAt2 {P : Program} {t e : TypeId} {i : TypeInfo} {size : Nat} (ht : P.underlying t = some (.slice e)) (hi : P.info? e = some i) (hs : i.size = size) {A : Option Addr} {n : Nat} (hA : Plain A n) (c k : Nat) (hk : k < n) (w : World) :
    (Instr.indexAt t (.slice A n c) (.int .i64 (k : Int))).run P w = .ok (.pointer (some ⟨bk A, ofs A + k * size, none⟩)) w := by
  obtain ⟨b, o, rfl⟩ := hA (by omega)
  simp [Instr.indexAt, asIntOf, run_underlying ht, sizeOf, typeInfo, hi, hs, bk, ofs, adr, hk, Addr.add_lit]
theorem Reads.cell2 {w : World} {B : Nat → Prop} {size n : Nat} {A : Option Addr} {xs : List Value} (h : Reads w B size A n xs) (j : Nat) (hj : j < n * size) (hs : 0 < size) : w.cell? ⟨bk A, ofs A + j, none⟩ = xs[j]? := by
  have hn : 0 < n := by
    rcases Nat.eq_zero_or_pos n with h0 | h0
    · subst h0; simp at hj
    · exact h0
  obtain ⟨b, o, rfl⟩ := h.plain hs hn
  have := h.cell j hj
  simpa [adr, bk, ofs, Addr.add_lit] using this
theorem Reads.bk {w : World} {B : Nat → Prop} {size n : Nat} {A : Option Addr} {xs : List Value} (h : Reads w B size A n xs) (hn : 0 < n) : B (bk A) := h.block hn
theorem Reads.bk_lt {w : World} {B : Nat → Prop} {size n : Nat} {A : Option Addr} {xs : List Value} (h : Reads w B size A n xs) (hn : 0 < n) (hs : 0 < size) : Own.bk A < w.heap.size := ((h.old hs).block hn).2
theorem Reads.newS (w : World) (cs : List Value) (t : TypeId) (fr : Nat × Nat) (n size : Nat) (h : cs.length = n * size) (g : Nat) (hg : g = w.heap.size) : Reads (w.alloc (.cells cs.toArray t fr)) (· = w.heap.size) size (some ⟨g, 0, none⟩) n cs := by
  subst hg
  refine ⟨h, fun _ => ⟨_, rfl, rfl, fun j u hu => ?_⟩⟩
  rw [Addr.add_lit, cell_of_row _ _ _ _ _ _ (heap_alloc_new w _)]
  simpa using hu
theorem Blk.grown {w w' : World} {g : Nat} {t : TypeId} {cs : Array Value} {row : Option Nat} (h : Blk w g t cs) (hb : w.grownBy w' row) (hg : some g ≠ row) : Blk w' g t cs := (hb.block g h.lt hg).trans h
theorem Reads.grown {w w' : World} {B : Nat → Prop} {size n : Nat} {A : Option Addr} {xs : List Value} {row : Option Nat} (h : Reads w B size A n xs) (hg : w.grownBy w' row) (hr : ∀ k, B k → some k ≠ row) : Reads w' B size A n xs :=
  h.keep fun p hp hs => World.cell?_of_block (hg.block p.block (by
    cases hc : w.cell? p with
    | none => rw [hc] at hs; cases hs
    | some v => exact block_lt_of_cell hc) (hr _ hp))
theorem grown_cell {w w' : World} {row : Option Nat} (hg : w.grownBy w' row) {b i : Nat} (hb : b < w.heap.size) (hr : some b ≠ row) : w'.cell? ⟨b, i, none⟩ = w.cell? ⟨b, i, none⟩ := World.cell?_of_block (a := ⟨b, i, none⟩) (hg.block b hb hr)
theorem grown_frozen {w w' : World} {row : Option Nat} (hg : w.grownBy w' row) {b i : Nat} (hb : b < w.heap.size) (hr : some b ≠ row) : w'.frozen? ⟨b, i, none⟩ = w.frozen? ⟨b, i, none⟩ := World.frozen?_of_block (a := ⟨b, i, none⟩) (hg.block b hb hr)
theorem step_append_any {P : Program} (w : World) {ops : Array Oper} {o : Oper} {a : Act} {K : Act → World → Prop} {Q : Exit → Act → World → Prop} {E : Prop} (hgd : o.guard = none) (s x : Operand) (t : TypeId)
    (ho : o.op = .call { callee := .builtin .append, args := #[s, x], argTypes := #[t, t] })
    (base : Nat) (e : TypeId) (z : Value) (size bytes : Nat) (ht : P.underlying t = some (.slice e)) (hi : (P.info? e).map (fun i => (i.zero, i.size, i.bytes)) = some (some z, size, bytes)) (hzs : z.cells.size = size) (hsz : 0 < size)
    (v : Value) (n : Nat) (xs : List Value) (hs : a.eval s = v) (hown : w.ownsRow base e size v n xs)
    (B : Nat → Prop) (A : Option Addr) (m c : Nat) (news : List Value) (hx : a.eval x = .slice A m c) (hr : Reads w B size A m news) (h1 : ∀ u ∈ news, u.oneCell' = true)
    (h63 : n + m ≤ maxLen) (hbytes : (n + m) * bytes ≤ 140737488355328) (hbase : base ≤ w.heap.size)
    (h : ∀ A' c' w', w'.ownsRow base e size (.slice A' (n + m) c') (n + m) (xs ++ news) → w.grownBy w' v.ownBlock → ((Value.slice A' (n + m) c').ownBlock = v.ownBlock ∨ (Value.slice A' (n + m) c').ownBlock = some w.heap.size) → K (a.put o.dst (.slice A' (n + m) c')) w') :
    if Region.wanted o (yielded ops a.tmps) = true then Oper.wp P o a w K Q else E := by
  have hw : Region.wanted o (yielded ops a.tmps) = true := by simp [Region.wanted, hgd]
  rw [if_pos hw]
  exact wp_append_any w s x t ho base e z size bytes ht hi hzs hsz v n xs hs hown B A m c news hx hr h1 h63 hbytes hbase h
end Go.Own

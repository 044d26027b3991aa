import Derived.WalkKit
import Derived.WalkSpells
import Derived.WalkLawsBesides
import Derived.Deep.QuietTactic
import Derived.BigQuiet
import Derived.Lib.Hide
import Derived.StillTailTactics
import Derived.Maps.RangeRun
import Derived.Maps.AppendAt
import Derived.Deep.AppendLies
namespace Go.Own
open Go.RowKit

/-! ### Blocks -/
/-- Block g is just the cells cs of element type t, none frozen. -/
def Blk (w : World) (g : Nat) (t : TypeId) (cs : Array Value) : Prop := w.heap[g]? = some (.cells cs t (0, 0))

section
variable {w w' : World} {g : Nat} {t : TypeId} {cs : Array Value}
theorem Blk.lt (h : Blk w g t cs) : g < w.heap.size := by
  rcases Nat.lt_or_ge g w.heap.size with hlt | hge
  · exact hlt
  · unfold Blk at h; rw [Array.getElem?_eq_none hge] at h; cases h
theorem Blk.cell (h : Blk w g t cs) (i : Nat) : w.cell? ⟨g, i, none⟩ = cs[i]? := cell_of_row w g i cs t (0, 0) h
theorem Blk.frozen (h : Blk w g t cs) (i : Nat) : w.frozen? ⟨g, i, none⟩ = false := by
  unfold Blk at h
  simp [World.frozen?, h]
theorem Blk.facts (h : Blk w g t cs) : g < w.heap.size ∧ (∀ i, w.cell? ⟨g, i, none⟩ = cs[i]?) ∧ (∀ i, w.frozen? ⟨g, i, none⟩ = false) := ⟨h.lt, h.cell, h.frozen⟩
theorem Blk.new (w : World) (t : TypeId) (cs : Array Value) : Blk (w.alloc (.cells cs t)) w.heap.size t cs := heap_alloc_new w _
theorem Blk.drew (h : Blk w g t cs) : Blk w.drew g t cs := h
theorem Blk.drewN (h : Blk w g t cs) (n : Nat) : Blk (w.drewN n) g t cs := h
theorem Blk.alloc (h : Blk w g t cs) (o : Obj) : Blk (w.alloc o) g t cs := (Below.heap_alloc w o g h.lt).trans h
theorem Blk.set_ (h : Blk w g t cs) (i : Nat) (u : Value) : Blk (w.setCell ⟨g, i, none⟩ u) g t (cs.setIfInBounds i u) := by
  unfold Blk at h ⊢
  simp [World.setCell, Array.getElem?_modify, h]
theorem Blk.far (h : Blk w g t cs) {p : Addr} (hp : g ≠ p.block) (u : Value) : Blk (w.setCell p u) g t cs := (Below.heap_setCell w p u g hp).trans h
theorem Blk.below {B : Nat} (h : Blk w g t cs) (hb : Below B w w') (hg : g < B) : Blk w' g t cs := (hb.block g hg).trans h
theorem Blk.ne_ {g' : Nat} {t' : TypeId} {cs' : Array Value} (h : Blk w g t cs) (h' : Blk w g' t' cs') (hne : t ≠ t') : g ≠ g' := by
  rintro rfl
  unfold Blk at h h'
  rw [h] at h'
  injection h' with h'
  injection h' with _ ht
  exact hne ht
end

/-! ### A frame with several blocks: all old blocks outside S are as they were -/
structure Fr (S : Nat → Prop) (w w' : World) : Prop where
  os : w'.os = w.os
  tape : w'.tape = w.tape
  output : w'.output = w.output
  size : w.heap.size ≤ w'.heap.size
  block : ∀ k, k < w.heap.size → ¬ S k → w'.heap[k]? = w.heap[k]?

section
variable {S T : Nat → Prop} {a b c w w' : World}
theorem Fr.refl (S : Nat → Prop) (w : World) : Fr S w w := ⟨rfl, rfl, rfl, Nat.le_refl _, fun _ _ _ => rfl⟩
theorem Fr.trans (h : Fr S a b) (k : Fr S b c) : Fr S a c :=
  ⟨k.os.trans h.os, k.tape.trans h.tape, k.output.trans h.output, Nat.le_trans h.size k.size, fun i hi hn => (k.block i (Nat.lt_of_lt_of_le hi h.size) hn).trans (h.block i hi hn)⟩
theorem Fr.mono (h : Fr S a b) (hs : ∀ k, k < a.heap.size → S k → T k) : Fr T a b := ⟨h.os, h.tape, h.output, h.size, fun k hk hn => h.block k hk (fun hS => hn (hs k hk hS))⟩
theorem Fr.drew (h : Fr S a w) : Fr S a w.drew := ⟨h.os, h.tape, h.output, h.size, h.block⟩
theorem Fr.drewN (h : Fr S a w) (n : Nat) : Fr S a (w.drewN n) := ⟨h.os, h.tape, h.output, h.size, h.block⟩
theorem Fr.alloc (h : Fr S a w) (o : Obj) : Fr S a (w.alloc o) :=
  ⟨h.os, h.tape, h.output, Nat.le_trans h.size (by simp), fun k hk hn => (Below.heap_alloc w o k (Nat.lt_of_lt_of_le hk h.size)).trans (h.block k hk hn)⟩
theorem Fr.setCell (h : Fr S a w) {p : Addr} (hp : S p.block ∨ a.heap.size ≤ p.block) (u : Value) : Fr S a (w.setCell p u) :=
  ⟨h.os, h.tape, h.output, by simpa [World.setCell] using h.size, fun k hk hn => (Below.heap_setCell w p u k (by
    rintro rfl
    rcases hp with hp | hp
    · exact hn hp
    · omega)).trans (h.block k hk hn)⟩
theorem Fr.of_below (h : Below a.heap.size a w) : Fr S a w := ⟨h.os, h.tape, h.output, h.size, fun i hi _ => h.block i hi⟩
theorem Fr.below {B : Nat} (h : Fr S a w) (hB : B ≤ a.heap.size) (hs : ∀ k, k < B → ¬ S k) : Below B a w := ⟨h.os, h.tape, h.output, h.size, fun k hk => h.block k (by omega) (hs k hk)⟩
theorem Fr.grown {row : Option Nat} (h : Fr S a w) (hg : w.grownBy w' row) (hr : ∀ k, row = some k → S k ∨ a.heap.size ≤ k) : Fr S a w' :=
  ⟨hg.os.trans h.os, hg.tape.trans h.tape, hg.output.trans h.output, Nat.le_trans h.size hg.size, fun k hk hn => (hg.block k (Nat.lt_of_lt_of_le hk h.size) (fun e => by
    rcases hr k e.symm with h1 | h1
    · exact hn h1
    · omega)).trans (h.block k hk hn)⟩
theorem Blk.fr {g : Nat} {t : TypeId} {cs : Array Value} (h : Blk w g t cs) (hf : Fr S w w') (hn : ¬ S g) : Blk w' g t cs := (hf.block g h.lt hn).trans h
end

/-! ### Maps keyed by integers, read as the list of their entries in the order in which they were put -/
def MapB (w : World) (m : Nat) (q : IntKind) (kvs : List (Int × Value)) : Prop :=
  ∃ es clock, w.heap[m]? = some (.map es clock) ∧ es.toList.map (fun e => (e.key, e.val)) = kvs.map (fun p => (Value.int q p.1, p.2)) ∧
    (es.toList.map (·.born)).Nodup ∧ ∀ e ∈ es.toList, e.born < clock
def kget (kvs : List (Int × Value)) (k : Int) : Option Value := (kvs.find? (·.1 == k)).map (·.2)
def kdel (kvs : List (Int × Value)) (k : Int) : List (Int × Value) := kvs.eraseP (·.1 == k)
def kput : List (Int × Value) → Int → Value → List (Int × Value)
  | [], k, v => [(k, v)]
  | p :: r, k, v => if p.1 == k then (k, v) :: r else p :: kput r k v

section
variable {w w' : World} {m : Nat} {q : IntKind} {kvs : List (Int × Value)}
theorem MapB.lt (h : MapB w m q kvs) : m < w.heap.size := by
  obtain ⟨es, clock, h, _⟩ := h
  rcases Nat.lt_or_ge m w.heap.size with hlt | hge
  · exact hlt
  · rw [Array.getElem?_eq_none hge] at h; cases h
theorem MapB.of_block (h : MapB w m q kvs) (e : w'.heap[m]? = w.heap[m]?) : MapB w' m q kvs := by
  obtain ⟨es, clock, h, r⟩ := h
  exact ⟨es, clock, e.trans h, r⟩
theorem MapB.new (w : World) (q : IntKind) : MapB (w.alloc (.map #[] 0)) w.heap.size q [] := ⟨#[], 0, heap_alloc_new w _, rfl, by simp, by simp⟩
theorem MapB.drew (h : MapB w m q kvs) : MapB w.drew m q kvs := h
theorem MapB.drewN (h : MapB w m q kvs) (n : Nat) : MapB (w.drewN n) m q kvs := h
theorem MapB.alloc (h : MapB w m q kvs) (o : Obj) : MapB (w.alloc o) m q kvs := h.of_block (Below.heap_alloc w o m h.lt)
theorem MapB.ne_blk {g : Nat} {t : TypeId} {cs : Array Value} (h : MapB w m q kvs) (hb : Blk w g t cs) : m ≠ g := by
  rintro rfl
  obtain ⟨es, clock, h, _⟩ := h
  unfold Blk at hb
  rw [h] at hb
  cases hb
theorem MapB.ne_cell {a : Addr} {v : Value} (h : MapB w m q kvs) (hb : w.cell? a = some v) : m ≠ a.block := by
  rintro rfl
  obtain ⟨es, clock, h, _⟩ := h
  simp [World.cell?, h] at hb
theorem MapB.far (h : MapB w m q kvs) {p : Addr} (hp : m ≠ p.block) (u : Value) : MapB (w.setCell p u) m q kvs := h.of_block (Below.heap_setCell w p u m hp)
theorem MapB.below {B : Nat} (h : MapB w m q kvs) (hb : Below B w w') (hg : m < B) : MapB w' m q kvs := h.of_block (hb.block m hg)
theorem MapB.fr {S : Nat → Prop} (h : MapB w m q kvs) (hf : Fr S w w') (hn : ¬ S m) : MapB w' m q kvs := h.of_block (hf.block m h.lt hn)

theorem findNow_int (k : Int) : ∀ (es : List MapEntry) (kvs : List (Int × Value)) (i : Nat), es.map (fun e => (e.key, e.val)) = kvs.map (fun p => (Value.int q p.1, p.2)) →
    Instr.findNow (.int q) (.int q k) es i = some ((kvs.findIdx? (·.1 == k)).bind fun j => (kvs[j]?).map fun p => (i + j, p.2))
  | [], kvs, i, h => by
    cases kvs with
    | nil => simp [Instr.findNow]
    | cons p r => simp at h
  | e :: es, kvs, i, h => by
    cases kvs with
    | nil => simp at h
    | cons p r =>
      simp only [List.map_cons, List.cons.injEq, Prod.mk.injEq] at h
      obtain ⟨⟨h1, h2⟩, h3⟩ := h
      have ih := findNow_int k es r (i + 1) h3
      simp only [Instr.findNow, h1, Instr.sameNow, if_true, List.findIdx?_cons]
      by_cases hk : p.1 = k
      · simp [hk, h2]
      · have hk' : (k == p.1) = false := by simp; omega
        have hk2 : (p.1 == k) = false := by simp; omega
        simp only [hk', hk2, ih, Bool.false_eq_true, if_false]
        congr 1
        cases List.findIdx? (fun x => x.1 == k) r with
        | none => rfl
        | some j => simp; congr 1; funext x; congr 1; omega

theorem run_checkKey_int {P : Program} {K : TypeId} (b : Bool) (n : Nat) (hK : P.underlying K = some (.int q)) (k : Int) (w : World) :
    (Instr.checkKey b (n + 1) K (.int q k)).run P w = .ok () w := by
  simp [Instr.checkKey, run_underlying hK]

theorem findIdx_kget (k : Int) : ∀ (kvs : List (Int × Value)) (i : Nat), (((kvs.findIdx? (·.1 == k)).bind fun j => (kvs[j]?).map fun p => (i + j, p.2)).map (·.2)) = kget kvs k
  | [], i => by simp [kget]
  | p :: r, i => by
    have ih := findIdx_kget k r (i + 1)
    unfold kget at ih ⊢
    simp only [List.findIdx?_cons, List.find?_cons]
    by_cases hk : p.1 = k
    · simp [hk]
    · have hk2 : (p.1 == k) = false := by simp; omega
      simp only [hk2, Bool.false_eq_true, if_false]
      rw [← ih]
      cases List.findIdx? (fun x => x.1 == k) r with
      | none => rfl
      | some j => simp [Function.comp_def]

theorem MapB.lookup {P : Program} {T K E : TypeId} {z : Value} (h : MapB w m q kvs) (hT : P.underlying T = some (.map K E)) (hK : P.underlying K = some (.int q)) (hz : ∀ w, (zeroValue E).run P w = .ok z w) (k : Int) (c : Bool) :
    (Instr.lookup T (.map (some m)) (.int q k) c).run P w = .ok (if c then .tuple #[(kget kvs k).getD z, .bool (kget kvs k).isSome] else (kget kvs k).getD z) w := by
  obtain ⟨es, clock, hm, he, -, -⟩ := h
  have hf := findNow_int (q := q) k es.toList kvs 0 he
  have hg := findIdx_kget k kvs 0
  simp only [Instr.lookup, Sem.run_bind, run_underlying hT, Result.andThen_ok, getObj, Sem.run, hm, Sem.run_pure, run_checkKey_int _ 9999 hK, Instr.findKey, run_underlying hK, hf]
  rw [← hg]
  cases hj : ((kvs.findIdx? (·.1 == k)).bind fun j => (kvs[j]?).map fun p => (0 + j, p.2)) with
  | none => cases c <;> simp [hz]
  | some r => cases c <;> simp

theorem kput_findIdx (k : Int) (v : Value) : ∀ (kvs : List (Int × Value)), kput kvs k v = match kvs.findIdx? (·.1 == k) with | some j => kvs.set j (k, v) | none => kvs ++ [(k, v)]
  | [] => by simp [kput]
  | p :: r => by
    have ih := kput_findIdx k v r
    simp only [kput, List.findIdx?_cons]
    by_cases hk : p.1 = k
    · simp [hk]
    · have hk2 : (p.1 == k) = false := by simp; omega
      simp only [hk2, Bool.false_eq_true, if_false, ih]
      cases List.findIdx? (fun x => x.1 == k) r with
      | none => simp
      | some j => simp
theorem kdel_findIdx (k : Int) : ∀ (kvs : List (Int × Value)), kdel kvs k = match kvs.findIdx? (·.1 == k) with | some j => kvs.eraseIdx j | none => kvs
  | [] => by simp [kdel]
  | p :: r => by
    have ih := kdel_findIdx k r
    unfold kdel at ih ⊢
    simp only [List.eraseP_cons, List.findIdx?_cons]
    by_cases hk : p.1 = k
    · simp [hk]
    · have hk2 : (p.1 == k) = false := by simp; omega
      simp only [hk2, Bool.false_eq_true, if_false, ih, cond_false]
      cases List.findIdx? (fun x => x.1 == k) r with
      | none => simp
      | some j => simp



def idxOf (_q : IntKind) (k : Int) (es : Array MapEntry) : Option Nat := es.toList.findIdx? (fun e => match e.key with | .int _ n => n == k | _ => false)
def putObM (q : IntKind) (k : Int) (v : Value) : Obj → Obj
  | .map es clock => match idxOf q k es with
    | some i => .map (es.modify i fun e => { e with key := .int q k, val := v }) clock
    | none => .map (es.push { key := .int q k, val := v, born := clock }) (clock + 1)
  | o => o
def delObj (q : IntKind) (k : Int) : Obj → Obj
  | .map es clock => match idxOf q k es with
    | some i => .map (es.eraseIdxIfInBounds i) clock
    | none => .map es clock
  | o => o
/-- The world behind 'm[k] = v' and behind 'delete(m, k)'. -/
def mput (w : World) (m : Nat) (q : IntKind) (k : Int) (v : Value) : World := { w with heap := w.heap.modify m (putObM q k v) }
def mdel (w : World) (m : Nat) (q : IntKind) (k : Int) : World := { w with heap := w.heap.modify m (delObj q k) }

theorem putObM_cells (q : IntKind) (k : Int) (v : Value) (c : Array Value) (t : TypeId) (f : Nat × Nat) : putObM q k v (.cells c t f) = .cells c t f := rfl
theorem delObj_cells (q : IntKind) (k : Int) (c : Array Value) (t : TypeId) (f : Nat × Nat) : delObj q k (.cells c t f) = .cells c t f := rfl
theorem putObM_kind (q : IntKind) (k : Int) (v : Value) (o : Obj) (h : ∀ c t f, o ≠ .cells c t f) : ∀ c t f, putObM q k v o ≠ .cells c t f := by
  intro c t f e
  cases o <;> simp only [putObM] at e
  case cells => exact h _ _ _ rfl
  case map es clock => split at e <;> cases e
  all_goals cases e
theorem delObj_kind (q : IntKind) (k : Int) (o : Obj) (h : ∀ c t f, o ≠ .cells c t f) : ∀ c t f, delObj q k o ≠ .cells c t f := by
  intro c t f e
  cases o <;> simp only [delObj] at e
  case cells => exact h _ _ _ rfl
  case map es clock => split at e <;> cases e
  all_goals cases e
/-- Whatever turns no row of cells turns no cell. -/
theorem cell_modify (w : World) (m : Nat) (f : Obj → Obj) (hc : ∀ c t fr, f (.cells c t fr) = .cells c t fr) (hk : ∀ o, (∀ c t fr, o ≠ .cells c t fr) → ∀ c t fr, f o ≠ .cells c t fr) (a : Addr) :
    ({ w with heap := w.heap.modify m f } : World).cell? a = w.cell? a ∧ ({ w with heap := w.heap.modify m f } : World).frozen? a = w.frozen? a ∧ ({ w with heap := w.heap.modify m f } : World).shape? a.block = w.shape? a.block := by
  simp only [World.cell?, World.frozen?, World.shape?, Array.getElem?_modify]
  by_cases hm : m = a.block
  · subst hm
    simp only [if_true]
    cases ho : w.heap[a.block]? with
    | none => simp
    | some o =>
      simp only [Option.map_some]
      by_cases hcs : ∃ c t fr, o = .cells c t fr
      · obtain ⟨c, t, fr, rfl⟩ := hcs; simp [hc]
      · have h1 : ∀ c t fr, o ≠ .cells c t fr := fun c t fr e => hcs ⟨c, t, fr, e⟩
        have h2 := hk o h1
        generalize hfo : f o = o' at h2 ⊢
        cases o <;> cases o' <;> first | exact ⟨rfl, rfl, rfl⟩ | exact absurd rfl (h1 _ _ _) | exact absurd rfl (h2 _ _ _)
  · simp [hm]
@[simp, go_sem] theorem cell?_mput (w : World) (m : Nat) (q : IntKind) (k : Int) (v : Value) (a : Addr) : (mput w m q k v).cell? a = w.cell? a := (cell_modify w m _ (putObM_cells q k v) (putObM_kind q k v) a).1
@[simp, go_sem] theorem frozen?_mput (w : World) (m : Nat) (q : IntKind) (k : Int) (v : Value) (a : Addr) : (mput w m q k v).frozen? a = w.frozen? a := (cell_modify w m _ (putObM_cells q k v) (putObM_kind q k v) a).2.1
@[simp, go_sem] theorem shape?_mput (w : World) (m : Nat) (q : IntKind) (k : Int) (v : Value) (b : Nat) : (mput w m q k v).shape? b = w.shape? b := (cell_modify w m _ (putObM_cells q k v) (putObM_kind q k v) ⟨b, 0, none⟩).2.2
@[simp, go_sem] theorem size_mput (w : World) (m : Nat) (q : IntKind) (k : Int) (v : Value) : (mput w m q k v).heap.size = w.heap.size := by simp [mput]
@[simp, go_sem] theorem cell?_mdel (w : World) (m : Nat) (q : IntKind) (k : Int) (a : Addr) : (mdel w m q k).cell? a = w.cell? a := (cell_modify w m _ (delObj_cells q k) (delObj_kind q k) a).1
@[simp, go_sem] theorem frozen?_mdel (w : World) (m : Nat) (q : IntKind) (k : Int) (a : Addr) : (mdel w m q k).frozen? a = w.frozen? a := (cell_modify w m _ (delObj_cells q k) (delObj_kind q k) a).2.1
@[simp, go_sem] theorem shape?_mdel (w : World) (m : Nat) (q : IntKind) (k : Int) (b : Nat) : (mdel w m q k).shape? b = w.shape? b := (cell_modify w m _ (delObj_cells q k) (delObj_kind q k) ⟨b, 0, none⟩).2.2
@[simp, go_sem] theorem size_mdel (w : World) (m : Nat) (q : IntKind) (k : Int) : (mdel w m q k).heap.size = w.heap.size := by simp [mdel]
@[go_sem] theorem mput_drew (w : World) (m : Nat) (q : IntKind) (k : Int) (v : Value) : mput w.drew m q k v = (mput w m q k v).drew := rfl
@[go_sem] theorem mdel_drew (w : World) (m : Nat) (q : IntKind) (k : Int) : mdel w.drew m q k = (mdel w m q k).drew := rfl
@[go_sem] theorem mput_drewN (w : World) (m : Nat) (q : IntKind) (k : Int) (v : Value) (j : Nat) : mput (w.drewN j) m q k v = (mput w m q k v).drewN j := rfl
@[go_sem] theorem mdel_drewN (w : World) (m : Nat) (q : IntKind) (k : Int) (j : Nat) : mdel (w.drewN j) m q k = (mdel w m q k).drewN j := rfl
@[go_sem] theorem setCell_drewN (w : World) (a : Addr) (v : Value) (j : Nat) : (w.drewN j).setCell a v = (w.setCell a v).drewN j := rfl
@[go_sem] theorem alloc_drewN (w : World) (o : Obj) (j : Nat) : (w.drewN j).alloc o = (w.alloc o).drewN j := rfl
theorem mput_far (w : World) (m : Nat) (q : IntKind) (k : Int) (v : Value) (b : Nat) (h : b ≠ m) : (mput w m q k v).heap[b]? = w.heap[b]? := by
  simp only [mput, Array.getElem?_modify]; rw [if_neg (by omega)]
theorem mdel_far (w : World) (m : Nat) (q : IntKind) (k : Int) (b : Nat) (h : b ≠ m) : (mdel w m q k).heap[b]? = w.heap[b]? := by
  simp only [mdel, Array.getElem?_modify]; rw [if_neg (by omega)]
theorem Fr.mput {S : Nat → Prop} {a w : World} (h : Fr S a w) {b : Nat} (hb : S b ∨ a.heap.size ≤ b) (q : IntKind) (k : Int) (v : Value) : Fr S a (mput w b q k v) :=
  ⟨h.os, h.tape, h.output, by rw [size_mput]; exact h.size, fun j hj hn => (mput_far w b q k v j (by
    rintro rfl
    rcases hb with hp | hp
    · exact hn hp
    · omega)).trans (h.block j hj hn)⟩
theorem Fr.mdel {S : Nat → Prop} {a w : World} (h : Fr S a w) {b : Nat} (hb : S b ∨ a.heap.size ≤ b) (q : IntKind) (k : Int) : Fr S a (mdel w b q k) :=
  ⟨h.os, h.tape, h.output, by rw [size_mdel]; exact h.size, fun j hj hn => (mdel_far w b q k j (by
    rintro rfl
    rcases hb with hp | hp
    · exact hn hp
    · omega)).trans (h.block j hj hn)⟩
theorem Blk.mput {w : World} {g : Nat} {t : TypeId} {cs : Array Value} (h : Blk w g t cs) (m : Nat) (q : IntKind) (k : Int) (v : Value) : Blk (mput w m q k v) g t cs := by
  unfold Blk at h ⊢
  simp only [Own.mput, Array.getElem?_modify, h]
  split <;> simp [putObM]
theorem Blk.mdel {w : World} {g : Nat} {t : TypeId} {cs : Array Value} (h : Blk w g t cs) (m : Nat) (q : IntKind) (k : Int) : Blk (mdel w m q k) g t cs := by
  unfold Blk at h ⊢
  simp only [Own.mdel, Array.getElem?_modify, h]
  split <;> simp [delObj]

theorem idxOf_corr (k : Int) {kvs : List (Int × Value)} {es : Array MapEntry} (he : es.toList.map (fun e => (e.key, e.val)) = kvs.map (fun p => (Value.int q p.1, p.2))) : idxOf q k es = kvs.findIdx? (·.1 == k) := by
  unfold idxOf
  obtain ⟨es⟩ := es
  simp only at he ⊢
  induction es generalizing kvs with
  | nil => cases kvs with
    | nil => rfl
    | cons p r => simp at he
  | cons e es ih => cases kvs with
    | nil => simp at he
    | cons p r =>
      simp only [List.map_cons, List.cons.injEq, Prod.mk.injEq] at he
      simp only [List.findIdx?_cons, he.1.1, ih he.2]

theorem MapB.put (h : MapB w m q kvs) (k : Int) (v : Value) : MapB (mput w m q k v) m q (kput kvs k v) := by
  obtain ⟨es, clock, hm, he, hn, hb⟩ := h
  have hp := kput_findIdx k v kvs
  have hi := idxOf_corr k he
  have hat : (mput w m q k v).heap[m]? = some (putObM q k v (.map es clock)) := by simp only [mput, Array.getElem?_modify, if_true, hm, Option.map_some]
  cases hj : kvs.findIdx? (·.1 == k) with
  | none =>
    rw [hj] at hp hi
    refine ⟨_, _, by rw [hat]; simp only [putObM, hi]; rfl, ?_, ?_, ?_⟩
    · rw [hp]; simp [he]
    · simp only [Array.toList_push, List.map_append, List.map_cons, List.map_nil]
      rw [List.nodup_append]
      refine ⟨hn, by simp, ?_⟩
      intro a ha b hb' e
      obtain ⟨x, hx, rfl⟩ := List.mem_map.1 ha
      have := hb x hx
      simp at hb'
      omega
    · intro e hee
      simp only [Array.toList_push, List.mem_append, List.mem_cons, List.not_mem_nil, or_false] at hee
      rcases hee with hee | rfl
      · have := hb e hee; omega
      · simp
  | some j =>
    rw [hj] at hp hi
    obtain ⟨hjl, hjk, -⟩ := List.findIdx?_eq_some_iff_getElem.1 hj
    have hlen : es.toList.length = kvs.length := by simpa using congrArg List.length he
    have hmod := Go.ChangeMaps.modify_eq_set (fun e : MapEntry => { e with key := .int q k, val := v }) es.toList j _ (List.getElem?_eq_getElem (show j < es.toList.length by omega))
    refine ⟨_, _, by rw [hat]; simp only [putObM, hi]; rfl, ?_, ?_, ?_⟩
    · rw [hp, Array.toList_modify, hmod, List.map_set, he, List.map_set]
    · have e : (es.modify j fun e => { e with key := .int q k, val := v }).toList.map (·.born) = es.toList.map (·.born) := by
        rw [Array.toList_modify, hmod, List.map_set]
        apply List.ext_getElem?
        intro i
        rw [List.getElem?_set]
        by_cases hij : j = i
        · subst hij; simp [show j < es.size by simpa using (by omega : j < es.toList.length)]
        · simp [hij]
      rw [e]; exact hn
    · intro e hee
      rw [Array.toList_modify, hmod] at hee
      rcases List.mem_or_eq_of_mem_set hee with hee | rfl
      · exact hb e hee
      · exact hb (es.toList[j]'(by omega)) (List.getElem_mem _)
theorem MapB.del (h : MapB w m q kvs) (k : Int) : MapB (mdel w m q k) m q (kdel kvs k) := by
  obtain ⟨es, clock, hm, he, hn, hb⟩ := h
  have hp := kdel_findIdx k kvs
  have hi := idxOf_corr k he
  have hat : (mdel w m q k).heap[m]? = some (delObj q k (.map es clock)) := by simp only [mdel, Array.getElem?_modify, if_true, hm, Option.map_some]
  cases hj : kvs.findIdx? (·.1 == k) with
  | none =>
    rw [hj] at hp hi
    exact ⟨_, _, by rw [hat]; simp only [delObj, hi], by rw [hp]; exact he, hn, hb⟩
  | some j =>
    rw [hj] at hp hi
    obtain ⟨hjl, hjk, -⟩ := List.findIdx?_eq_some_iff_getElem.1 hj
    have hlen : es.toList.length = kvs.length := by simpa using congrArg List.length he
    have ht : (es.eraseIdxIfInBounds j).toList = es.toList.eraseIdx j := by
      have : j < es.size := by simpa using (by omega : j < es.toList.length)
      simp [Array.eraseIdxIfInBounds, this]
    refine ⟨_, _, by rw [hat]; simp only [delObj, hi]; rfl, ?_, ?_, ?_⟩
    · rw [hp, ht, Go.ChangeMaps.map_eraseIdx, he, Go.ChangeMaps.map_eraseIdx]
    · rw [ht, Go.ChangeMaps.map_eraseIdx]; exact hn.sublist (List.eraseIdx_sublist _ _)
    · intro e hee; rw [ht] at hee; exact hb e ((List.eraseIdx_sublist _ _).mem hee)
theorem MapB.mput_far {m' : Nat} {q' : IntKind} (h : MapB w m q kvs) (hne : m ≠ m') (k : Int) (v : Value) : MapB (mput w m' q' k v) m q kvs := h.of_block (Own.mput_far w m' q' k v m hne)
theorem MapB.mdel_far {m' : Nat} {q' : IntKind} (h : MapB w m q kvs) (hne : m ≠ m') (k : Int) : MapB (mdel w m' q' k) m q kvs := h.of_block (Own.mdel_far w m' q' k m hne)

theorem modify_at (w : World) (m : Nat) (f : Obj → Obj) (o : Obj) (h : w.heap[m]? = some o) : ({ w with heap := w.heap.setIfInBounds m (f o) } : World) = { w with heap := w.heap.modify m f } := by
  congr 1
  apply Array.ext_getElem?
  intro i
  rw [Array.getElem?_setIfInBounds, Array.getElem?_modify]
  by_cases hi : m = i
  · subst hi
    obtain ⟨hlt, -⟩ := Array.getElem?_eq_some_iff.1 h
    rw [if_pos rfl, if_pos rfl, h, if_pos hlt]; rfl
  · rw [if_neg hi, if_neg hi]

theorem MapB.update {P : Program} {T K E : TypeId} (h : MapB w m q kvs) (hT : P.underlying T = some (.map K E)) (hK : P.underlying K = some (.int q)) (k : Int) (v : Value) :
    (Instr.mapUpdate T (.map (some m)) (.int q k) v).run P w = .ok () (mput w m q k v) := by
  obtain ⟨es, clock, hm, he, hn, hb⟩ := h
  have hf := findNow_int (q := q) k es.toList kvs 0 he
  have hi := idxOf_corr k he
  simp only [Instr.mapUpdate, Sem.run_bind, run_underlying hT, Result.andThen_ok, getObj, Sem.run, hm, Sem.run_pure, run_checkKey_int _ 9999 hK, Instr.findKey, run_underlying hK, hf]
  unfold mput
  rw [← modify_at w m _ _ hm]
  cases hj : kvs.findIdx? (·.1 == k) with
  | none =>
    rw [hj] at hi
    simp [setObj, Sem.run, hm, putObM, hi]
  | some j =>
    rw [hj] at hi
    obtain ⟨hjl, hjk, -⟩ := List.findIdx?_eq_some_iff_getElem.1 hj
    have hlen : es.toList.length = kvs.length := by simpa using congrArg List.length he
    have hjk' : (kvs[j]).1 = k := by simpa using hjk
    have hkey : (es.toList[j]'(by omega)).key = .int q k := by
      have := congrArg (fun l => l[j]?) he
      simp only [List.getElem?_map, List.getElem?_eq_getElem hjl, List.getElem?_eq_getElem (show j < es.toList.length by omega), Option.map_some, Option.some.injEq, Prod.mk.injEq] at this
      rw [this.1, hjk']
    have hkey2 : (es[j]?).map (·.key) = some (Value.int q k) := by
      rw [← Array.getElem?_toList, List.getElem?_eq_getElem (by omega)]; simp [← hkey]
    simp [List.getElem?_eq_getElem hjl, Instr.keyThatStays, hkey2, Instr.sameBits, setObj, Sem.run, hm, putObM, hi]
theorem MapB.delete {P : Program} {T K E : TypeId} (h : MapB w m q kvs) (hT : P.underlying T = some (.map K E)) (hK : P.underlying K = some (.int q)) (k : Int) (ty K' : TypeId) :
    (Builtin.delete_ #[T, K'] ty #[.map (some m), .int q k]).run P w = .ok (.tuple #[]) (mdel w m q k) := by
  obtain ⟨es, clock, hm, he, hn, hb⟩ := h
  have hf := findNow_int (q := q) k es.toList kvs 0 he
  have hi := idxOf_corr k he
  simp only [Builtin.delete_, List.getElem?_toArray, List.getElem?_cons_zero, List.getElem?_cons_succ, Sem.run_bind, run_underlying hT, Result.andThen_ok, getObj, Sem.run, hm, Sem.run_pure, run_checkKey_int _ 9999 hK, Instr.findKey, run_underlying hK, hf]
  unfold mdel
  rw [← modify_at w m _ _ hm]
  cases hj : kvs.findIdx? (·.1 == k) with
  | none =>
    rw [hj] at hi
    simp [setObj, Sem.run, hm, delObj, hi]
  | some j =>
    rw [hj] at hi
    obtain ⟨hjl, hjk, -⟩ := List.findIdx?_eq_some_iff_getElem.1 hj
    simp [List.getElem?_eq_getElem hjl, setObj, Sem.run, hm, delObj, hi]
theorem MapB.length {P : Program} {T K E : TypeId} (h : MapB w m q kvs) (hT : P.underlying T = some (.map K E)) (ty : TypeId) :
    (Builtin.len_ #[T] ty #[.map (some m)]).run P w = .ok (.int .i64 kvs.length) w := by
  obtain ⟨es, clock, hm, he, hn, hb⟩ := h
  have hlen : es.size = kvs.length := by simpa using congrArg List.length he
  simp [Builtin.len_, run_underlying hT, getObj, Sem.run, hm, goInt, hlen]
end

/-! ### A slice that reads as a list of cells, nil let in; it lies below block B -/
theorem block_of_add (a : Addr) (n : Nat) : (a.add n).block = a.block := by unfold Addr.add; split <;> rfl
theorem add_of_add (a : Addr) (i j : Nat) : (a.add i).add j = a.add (i + j) := by
  unfold Addr.add
  by_cases hi : i = 0 <;> by_cases hj : j = 0 <;> simp [hi, hj, Nat.add_assoc]

def Reads (w : World) (B : Nat → Prop) (size : Nat) (A : Option Addr) (n : Nat) (xs : List Value) : Prop :=
  xs.length = n * size ∧ (0 < n → ∃ ad, A = some ad ∧ B ad.block ∧ ∀ j u, xs[j]? = some u → w.cell? (ad.add j) = some u)

section
variable {w w' : World} {B B' : Nat → Prop} {size n : Nat} {A : Option Addr} {xs : List Value}
theorem Reads.none_ : Reads w B size A 0 [] := ⟨by simp, fun h => absurd h (by omega)⟩
theorem Reads.keep (h : Reads w B size A n xs) (hk : ∀ p : Addr, B p.block → (w.cell? p).isSome → w'.cell? p = w.cell? p) : Reads w' B size A n xs :=
  ⟨h.1, fun hn => by
    obtain ⟨ad, e, hb, hc⟩ := h.2 hn
    exact ⟨ad, e, hb, fun j u hu => (hk _ (by rw [block_of_add]; exact hb) (by rw [hc j u hu]; rfl)).trans (hc j u hu)⟩⟩
theorem Reads.more (h : Reads w B size A n xs) (hB : ∀ k, B k → B' k) : Reads w B' size A n xs :=
  ⟨h.1, fun hn => by
    obtain ⟨ad, e, hb, hc⟩ := h.2 hn
    exact ⟨ad, e, hB _ hb, hc⟩⟩
theorem Reads.below {b : Nat} (h : Reads w B size A n xs) (hb : Below b w w') (hB : ∀ k, B k → k < b) : Reads w' B size A n xs := h.keep fun _ hp _ => hb.cell (hB _ hp)
theorem Reads.drew (h : Reads w B size A n xs) : Reads w.drew B size A n xs := h
theorem Reads.drewN (h : Reads w B size A n xs) (k : Nat) : Reads (w.drewN k) B size A n xs := h
theorem Reads.alloc (h : Reads w B size A n xs) (o : Obj) : Reads (w.alloc o) B size A n xs :=
  h.keep fun p _ hs => by
    cases hc : w.cell? p with
    | none => rw [hc] at hs; cases hs
    | some v => rw [World.cell?_alloc_lt w o p (block_lt_of_cell hc)]; exact hc
theorem Reads.setCell (h : Reads w B size A n xs) {p : Addr} (hB : ¬ B p.block) (u : Value) : Reads (w.setCell p u) B size A n xs :=
  h.keep fun q hq _ => World.cell?_setCell_other w p q u (fun e => by subst e; exact hB hq)
theorem Reads.mput (h : Reads w B size A n xs) (m : Nat) (q : IntKind) (k : Int) (v : Value) : Reads (mput w m q k v) B size A n xs := h.keep fun _ _ _ => cell?_mput ..
theorem Reads.mdel (h : Reads w B size A n xs) (m : Nat) (q : IntKind) (k : Int) : Reads (mdel w m q k) B size A n xs := h.keep fun _ _ _ => cell?_mdel ..
theorem Reads.fr {S : Nat → Prop} (h : Reads w B size A n xs) (hf : Fr S w w') (hS : ∀ k, B k → ¬ S k) : Reads w' B size A n xs :=
  h.keep fun p hp hs => World.cell?_of_block (hf.block p.block (by
    cases hc : w.cell? p with
    | none => rw [hc] at hs; cases hs
    | some v => exact block_lt_of_cell hc) (hS _ hp))
theorem Reads.cut (h : Reads w B size A n xs) {k cap : Nat} (hk : k ≤ n) (hc : n ≤ cap) :
    Reads w B size (if cap = k then A else A.map (·.add (k * size))) (n - k) (xs.drop (k * size)) := by
  refine ⟨by rw [List.length_drop, h.1, Nat.sub_mul], fun hn => ?_⟩
  obtain ⟨ad, rfl, hb, hcell⟩ := h.2 (by omega)
  rw [if_neg (by omega)]
  refine ⟨ad.add (k * size), rfl, by rw [block_of_add]; exact hb, fun j u hu => ?_⟩
  rw [add_of_add]
  exact hcell _ u (by rw [← hu, List.getElem?_drop])
theorem Reads.at_ {k : Nat} (h : Reads w B 1 A n xs) (hk : k < n) : ∃ ad u, A = some ad ∧ B ad.block ∧ xs[k]? = some u ∧ w.cell? (ad.add k) = some u := by
  obtain ⟨ad, e, hb, hc⟩ := h.2 (by omega)
  have hl : k < xs.length := by have := h.1; omega
  exact ⟨ad, xs[k], e, hb, List.getElem?_eq_getElem hl, hc k _ (List.getElem?_eq_getElem hl)⟩
theorem Reads.of_blk {g : Nat} {t : TypeId} {cs : Array Value} (h : Blk w g t cs) (hn : n * size ≤ cs.size) (hg : B g) : Reads w B size (some ⟨g, 0, none⟩) n (cs.toList.take (n * size)) := by
  refine ⟨by simp; omega, fun _ => ⟨_, rfl, hg, fun j u hu => ?_⟩⟩
  have hj : j < n * size := by
    have := (List.getElem?_eq_some_iff.1 hu).1
    simp at this; omega
  rw [Addr.add_lit, h.cell]
  rw [List.getElem?_take, if_pos hj] at hu
  simpa using hu
theorem Reads.of_own {base : Nat} {e : TypeId} {c : Nat} (h : w.ownsRow base e size (.slice A n c) n xs) : Reads w (fun k => (Value.slice A n c).ownBlock = some k) size A n xs := by
  refine ⟨h.1, fun hn => ?_⟩
  obtain ⟨g, cap, hv, _, hlt⟩ := h.form hn
  have hA : A = some ⟨g, 0, none⟩ := by injection hv
  subst hA
  exact ⟨_, rfl, rfl, h.cells (g := g) rfl⟩

theorem madeCells_one (z : Value) (n : Nat) : madeCells #[z] n = (List.replicate n z).toArray := by
  apply Array.ext'
  rw [toList_madeCells_one]
theorem run_make_rowN {P : Program} (t e : TypeId) (i : TypeInfo) (z : Value) (ht : P.underlying t = some (.slice e)) (hi : P.info? e = some i) (hz : i.zero = some z)
    (kl kc : IntKind) (n c : Nat) (hnc : n ≤ c) (hbytes : i.bytes * c ≤ 281474976710656) (h63 : c ≤ 9223372036854775807) (w : World) :
    (Instr.makeSlice t (.int kl (n : Int)) (.int kc (c : Int))).run P w = .ok (.slice (some ⟨w.heap.size, 0, none⟩) n c) (w.alloc (.cells (madeCells z.cells (c * i.size)) e)) := by
  have hb : (i.bytes : Int) * (c : Int) ≤ 281474976710656 := by
    have h : ((i.bytes * c : Nat) : Int) ≤ 281474976710656 := by omega
    rwa [Int.natCast_mul] at h
  have hr := run_make (P := P) w t e i z ht hi hz kl kc n c (by omega) (by omega) hb (by omega)
  simp only [Int.toNat_natCast] at hr
  exact hr
/-- 'make([]T, n)', T of one cell: the zeros behind a name. -/
def zrow (z : Value) (n : Nat) : Array Value := (List.replicate n z).toArray
theorem size_zrow (z : Value) (n : Nat) : (zrow z n).size = n := by simp [zrow]
theorem run_make1 {P : Program} (t e : TypeId) (z : Value) (bytes : Nat) (ht : P.underlying t = some (.slice e)) (hi : (P.info? e).map (fun i => (i.zero, i.size, i.bytes)) = some (some z, 1, bytes)) (hz : z.cells = #[z])
    (n : Nat) (hbytes : bytes * n ≤ 281474976710656) (hn : n ≤ 9223372036854775807) (w : World) :
    (Instr.makeSlice t (.int .i64 (n : Int)) (.int .i64 (n : Int))).run P w = .ok (.slice (some ⟨w.heap.size, 0, none⟩) n n) (w.alloc (.cells (zrow z n) e)) := by
  obtain ⟨i, hi, hz0, hz1, hz2⟩ := info_parts hi
  have := run_make_rowN (P := P) t e i z ht hi hz0 .i64 .i64 n n (Nat.le_refl _) (by rw [hz2]; exact hbytes) hn w
  rw [this, hz1, hz, Nat.mul_one, madeCells_one]; rfl
/-- 'copy' of a slice of the same length into a new block of one-cell elements. -/
theorem run_copy_new {P : Program} (dT sT ty elem : TypeId) (hu : P.underlying dT = some (.slice elem)) (hs : (P.info? elem).map (·.size) = some 1)
    {w : World} {B : Nat → Prop} {A : Option Addr} {n c d : Nat} {xs : List Value} (t : TypeId) (cur : Array Value) (hr : Reads w B 1 A n xs) (h1 : ∀ v ∈ xs, v.oneCell' = true) (hc : cur.size = n) (g : Nat) (hg : g = w.heap.size) :
    (Builtin.copy_ #[dT, sT] ty #[.slice (some ⟨g, 0, none⟩) n d, .slice A n c]).run P (w.alloc (.cells cur t)) = .ok (goInt n) (w.alloc (.cells xs.toArray t)) := by
  subst hg
  have hl : xs.length = n := by simpa using hr.1
  rcases Nat.eq_zero_or_pos n with h0 | h0
  · subst h0
    have hx : xs = [] := List.eq_nil_of_length_eq_zero hl
    have hcur : cur = #[] := Array.eq_empty_of_size_eq_zero hc
    subst hx hcur
    exact run_copy_none (P := P) _ dT sT ty elem _ _ _ _ _ _ hu hs rfl
  · obtain ⟨ad, rfl, hb, hcell⟩ := (hr.alloc (.cells cur t)).2 h0
    have := run_copy_row (P := P) (w.alloc (.cells cur t)) dT sT ty elem w.heap.size 0 n d ad n c cur t xs hu hs (heap_alloc_new w _) (by simp [hl]) hcell (by omega) h1
    rw [this, hl]
    congr 1
    · have e : (List.take 0 cur.toList ++ xs ++ List.drop (0 + n) cur.toList).toArray = xs.toArray := by
        simp [show List.drop n cur.toList = [] from List.drop_eq_nil_of_le (by simp; omega)]
      rw [e]
      simp only [World.setRow, World.alloc]
      congr 1
      apply Array.ext_getElem?
      intro i
      rw [Array.getElem?_modify, Array.getElem?_push, Array.getElem?_push]
      by_cases hi : w.heap.size = i
      · subst hi; simp
      · rw [if_neg hi]
        by_cases h2 : i = w.heap.size
        · exact absurd h2.symm hi
        · rw [if_neg h2, if_neg h2]

/-- A region that draws: all operations but the last ones only read. -/
theorem wp_tail {P : Program} {id : Nat} {Q : Exit → Act → World → Prop} {a : Act} {w : World} {l : List Oper} (n : Nat) (hm : P.follows .mixedOrders = true) (hB : Region.lexTailB .any l.toArray n = true)
    (h : ∀ K : Act → Prop, (∀ a', wpList P l.toArray Q (l.drop n) a' w.drew → K a') → wpStill P l.toArray w.drew K (l.take n) a) : (Code.region id l.toArray true).wp P Q a w :=
  wp_region_still_tail n hm hB (h _ (fun _ h => h))

end

/-! ### The words kept by the walk's own simp: as equivalences, so that nothing is nested -/
section
variable {w : World} {m : Nat} {q : IntKind} {kvs : List (Int × Value)} {B : Nat → Prop} {size n : Nat} {A : Option Addr} {xs : List Value} {g : Nat} {t : TypeId} {cs : Array Value}
@[go_sem] theorem MapB_drew : MapB w.drew m q kvs ↔ MapB w m q kvs := Iff.rfl
@[go_sem] theorem MapB_drewN (k : Nat) : MapB (w.drewN k) m q kvs ↔ MapB w m q kvs := Iff.rfl
@[go_sem] theorem MapB_alloc (o : Obj) (h : m < w.heap.size) : MapB (w.alloc o) m q kvs ↔ MapB w m q kvs :=
  ⟨fun h' => h'.of_block (Below.heap_alloc w o m h).symm, fun h' => h'.alloc o⟩
@[go_sem] theorem MapB_setCell {p : Addr} (u : Value) (h : m ≠ p.block) : MapB (w.setCell p u) m q kvs ↔ MapB w m q kvs :=
  ⟨fun h' => h'.of_block (Below.heap_setCell w p u m h).symm, fun h' => h'.far h u⟩
@[go_sem] theorem MapB_mput {m' : Nat} {q' : IntKind} (k : Int) (v : Value) (h : m ≠ m') : MapB (mput w m' q' k v) m q kvs ↔ MapB w m q kvs :=
  ⟨fun h' => h'.of_block (mput_far w m' q' k v m h).symm, fun h' => h'.mput_far h k v⟩
@[go_sem] theorem MapB_mdel {m' : Nat} {q' : IntKind} (k : Int) (h : m ≠ m') : MapB (mdel w m' q' k) m q kvs ↔ MapB w m q kvs :=
  ⟨fun h' => h'.of_block (mdel_far w m' q' k m h).symm, fun h' => h'.mdel_far h k⟩
@[go_sem] theorem Reads_drew : Reads w.drew B size A n xs ↔ Reads w B size A n xs := Iff.rfl
@[go_sem] theorem Reads_drewN (k : Nat) : Reads (w.drewN k) B size A n xs ↔ Reads w B size A n xs := Iff.rfl
@[go_sem] theorem Reads_alloc (o : Obj) (h : ¬ B w.heap.size) : Reads (w.alloc o) B size A n xs ↔ Reads w B size A n xs :=
  ⟨fun h' => h'.keep fun p hp _ => (World.cell?_alloc_old w o p (fun e => h (e ▸ hp))).symm, fun h' => h'.alloc o⟩
@[go_sem] theorem Reads_setCell {p : Addr} (u : Value) (h : ¬ B p.block) : Reads (w.setCell p u) B size A n xs ↔ Reads w B size A n xs :=
  ⟨fun h' => h'.keep fun q' hq _ => (World.cell?_setCell_other w p q' u (fun e => by subst e; exact h hq)).symm, fun h' => h'.setCell h u⟩
@[go_sem] theorem Reads_mput (m : Nat) (q : IntKind) (k : Int) (v : Value) : Reads (mput w m q k v) B size A n xs ↔ Reads w B size A n xs :=
  ⟨fun h' => h'.keep fun _ _ _ => (cell?_mput ..).symm, fun h' => h'.mput m q k v⟩
@[go_sem] theorem Reads_mdel (m : Nat) (q : IntKind) (k : Int) : Reads (mdel w m q k) B size A n xs ↔ Reads w B size A n xs :=
  ⟨fun h' => h'.keep fun _ _ _ => (cell?_mdel ..).symm, fun h' => h'.mdel m q k⟩
@[go_sem] theorem Blk_drew : Blk w.drew g t cs ↔ Blk w g t cs := Iff.rfl
@[go_sem] theorem Blk_drewN (k : Nat) : Blk (w.drewN k) g t cs ↔ Blk w g t cs := Iff.rfl
@[go_sem] theorem Blk_alloc (o : Obj) (h : g < w.heap.size) : Blk (w.alloc o) g t cs ↔ Blk w g t cs := by
  unfold Blk; rw [Below.heap_alloc w o g h]
@[go_sem] theorem Blk_setCell {p : Addr} (u : Value) (h : g ≠ p.block) : Blk (w.setCell p u) g t cs ↔ Blk w g t cs := by
  unfold Blk; rw [Below.heap_setCell w p u g h]
end

/-! ### A whole row written -/
theorem Blk.setRow {w : World} {g : Nat} {t : TypeId} {cs : Array Value} (h : Blk w g t cs) (xs : Array Value) : Blk (w.setRow g xs) g t xs := setRow_heap w g cs xs t (0, 0) h
theorem Blk.setRow_far {w : World} {g k : Nat} {t : TypeId} {cs : Array Value} (h : Blk w g t cs) (hk : g ≠ k) (xs : Array Value) : Blk (w.setRow k xs) g t cs := (setRow_other w k g xs hk).trans h
theorem MapB.setRow {w : World} {m k : Nat} {q : IntKind} {kvs : List (Int × Value)} (h : MapB w m q kvs) (hk : m ≠ k) (xs : Array Value) : MapB (w.setRow k xs) m q kvs := h.of_block (setRow_other w k m xs hk)
theorem Fr.setRow {S : Nat → Prop} {a w : World} (h : Fr S a w) {b : Nat} (hb : S b ∨ a.heap.size ≤ b) (xs : Array Value) : Fr S a (w.setRow b xs) :=
  ⟨h.os, h.tape, h.output, by simpa using h.size, fun j hj hn => (setRow_other w b j xs (by
    rintro rfl
    rcases hb with hp | hp
    · exact hn hp
    · omega)).trans (h.block j hj hn)⟩
/-- 'copy' of a slice of the same length over a whole block of one-cell elements. -/
theorem run_copy_full {P : Program} (dT sT ty elem : TypeId) (hu : P.underlying dT = some (.slice elem)) (hs : (P.info? elem).map (·.size) = some 1)
    {w : World} {B : Nat → Prop} {A : Option Addr} {n c d g : Nat} {xs : List Value} (t : TypeId) (cur : Array Value) (hg : Blk w g t cur) (hr : Reads w B 1 A n xs) (h1 : ∀ v ∈ xs, v.oneCell' = true) (hc : cur.size = n) :
    (Builtin.copy_ #[dT, sT] ty #[.slice (some ⟨g, 0, none⟩) n d, .slice A n c]).run P w = .ok (goInt n) (w.setRow g xs.toArray) := by
  have hl : xs.length = n := by simpa using hr.1
  rcases Nat.eq_zero_or_pos n with h0 | h0
  · subst h0
    have hx : xs = [] := List.eq_nil_of_length_eq_zero hl
    have hcur : cur = #[] := Array.eq_empty_of_size_eq_zero hc
    subst hx hcur
    rw [setRow_self w g _ t (0, 0) hg]
    exact run_copy_none (P := P) _ dT sT ty elem _ _ _ _ _ _ hu hs rfl
  · obtain ⟨ad, rfl, hb, hcell⟩ := hr.2 h0
    have := run_copy_row (P := P) w dT sT ty elem g 0 n d ad n c cur t xs hu hs hg (by simp [hl]) hcell (by omega) h1
    rw [this, hl]
    have e : (List.take 0 cur.toList ++ xs ++ List.drop (0 + n) cur.toList).toArray = xs.toArray := by
      simp [show List.drop n cur.toList = [] from List.drop_eq_nil_of_le (by simp; omega)]
    rw [e]

/-- 'string(b)': the bytes of a slice, nil or not. -/
theorem run_convert_reads {P : Program} {src dst e : TypeId} (hs : P.underlying src = some (.slice e)) (he : P.underlying e = some (.int .u8)) (hd : P.underlying dst = some .string)
    {w : World} {B : Nat → Prop} {A : Option Addr} {n : Nat} {xs : List Int} (hr : Reads w B 1 A n (xs.map (Value.int .u8))) (c : Nat) :
    (convert src dst (.slice A n c)).run P w = .ok (.string (strOfNums xs)) w := by
  have hl : xs.length = n := by simpa using hr.1
  cases A with
  | none =>
    have hn : n = 0 := by
      rcases Nat.eq_zero_or_pos n with h0 | h0
      · exact h0
      · obtain ⟨ad, h, _⟩ := hr.2 h0
        cases h
    subst hn
    have hx : xs = [] := List.eq_nil_of_length_eq_zero hl
    subst hx
    rw [run_convert_bytes_nil w src e hs he 0 c dst hd]
    rfl
  | some ad =>
    have hload : (loadCells ad n).run P w = .ok (xs.map (Value.int .u8)).toArray w := by
      have := run_loadCells_list (P := P) w ad (xs.map (Value.int .u8)) (fun j u hu => by
        have h0 : 0 < n := by
          have := (List.getElem?_eq_some_iff.1 hu).1
          simp at this; omega
        obtain ⟨ad', h, _, hc⟩ := hr.2 h0
        injection h with h
        subst h
        exact hc j u hu)
      simpa [hl] using this
    rw [run_convert_bytes_string w src dst e _ n c hs he hd, run_bytesToString w _ n c xs hload, foldl_push_bytes]
    simp [strOfNums, ByteArray.empty, ByteArray.emptyWithCapacity]
    rfl

theorem Reads.new (w : World) (cs : List Value) (t : TypeId) (fr : Nat × Nat) : Reads (w.alloc (.cells cs.toArray t fr)) (· = w.heap.size) 1 (some ⟨w.heap.size, 0, none⟩) cs.length cs := by
  refine ⟨by simp, fun _ => ⟨_, rfl, rfl, fun j u hu => ?_⟩⟩
  rw [Addr.add_lit, cell_of_row _ _ _ _ _ _ (heap_alloc_new w _)]
  simpa using hu
end Go.Own

namespace Go.Own
open Go.RowKit

section
variable {P : Program} (w : World)
theorem run_append_of_nil (base : Nat) (t ty e : TypeId) (i : TypeInfo) (size : Nat) (ht : P.underlying t = some (.slice e)) (hi : P.info? e = some i)
    (v : Value) (n : Nat) (xs : List Value) (hown : w.ownsRow base e size v n xs) (c : Nat) : (Builtin.append_ #[t, t] ty #[v, .slice none 0 c]).run P w = .ok v w := by
  rcases hown.2 with ⟨rfl, rfl⟩ | ⟨g, cap, cur, rfl, _, _, hnc, _⟩
  · simp [Builtin.append_, run_underlying ht, sizeOf, typeInfo, hi, Builtin.lenOf, Builtin.firstCells]
  · simp [Builtin.append_, run_underlying ht, sizeOf, typeInfo, hi, Builtin.lenOf, Builtin.firstCells, hnc, storeCells]

theorem run_append_any (base : Nat) (t ty e : TypeId) (z : Value) (size bytes : Nat) (ht : P.underlying t = some (.slice e)) (hi : (P.info? e).map (fun i => (i.zero, i.size, i.bytes)) = some (some z, size, bytes)) (hzs : z.cells.size = size) (hsz : 0 < size)
    (v : Value) (n : Nat) (xs : List Value) (hown : w.ownsRow base e size v n xs)
    (B : Nat → Prop) (A : Option Addr) (m c : Nat) (news : List Value) (hr : Reads w B size A m news) (h1 : ∀ u ∈ news, u.oneCell' = true)
    (h63 : n + m ≤ maxLen) (hbytes : (n + m) * bytes ≤ 140737488355328) (hbase : base ≤ w.heap.size) :
    ∃ v' w', (Builtin.append_ #[t, t] ty #[v, .slice A m c]).run P w = .ok v' w' ∧ w'.ownsRow base e size v' (n + m) (xs ++ news) ∧ w.grownBy w' v.ownBlock ∧
      (v'.ownBlock = v.ownBlock ∨ v'.ownBlock = some w.heap.size) := by
  obtain ⟨i, hi, hz, hsize, hby⟩ := info_parts hi
  rcases A with _ | ad
  · have hm : m = 0 := by
      rcases Nat.eq_zero_or_pos m with h0 | h0
      · exact h0
      · obtain ⟨ad, h, _⟩ := hr.2 h0
        cases h
    subst hm
    have hn : news = [] := List.eq_nil_of_length_eq_zero (by simpa using hr.1)
    subst hn
    exact ⟨v, w, run_append_of_nil w base t ty e i size ht hi v n xs hown c, by simpa using hown, World.grownBy.refl w _, .inl rfl⟩
  · have hcells : ∀ j u, news[j]? = some u → w.cell? (ad.add j) = some u := by
      intro j u hu
      rcases Nat.eq_zero_or_pos m with h0 | h0
      · subst h0
        have hn : news = [] := List.eq_nil_of_length_eq_zero (by simpa using hr.1)
        subst hn
        simp at hu
      · obtain ⟨ad', h, _, hc⟩ := hr.2 h0
        injection h with h
        subst h
        exact hc j u hu
    obtain ⟨v', w', hrun, h2, h3, _, h5⟩ := run_append_own_at (P := P) w base t ty e i z size bytes ht hi hz hsize hby hzs hsz v n xs hown ad m c news hr.1 hcells h1 h63 hbytes hbase
    exact ⟨v', w', hrun, h2, h3, h5⟩

theorem wp_append_any {o : Oper} {a : Act} {K : Act → World → Prop} {Q : Exit → Act → World → Prop} (s x : Operand) (t : TypeId)
    (ho : o.op = .call { callee := .builtin .append, args := #[s, x], argTypes := #[t, t] })
    (base : Nat) (e : TypeId) (z : Value) (size bytes : Nat) (ht : P.underlying t = some (.slice e)) (hi : (P.info? e).map (fun i => (i.zero, i.size, i.bytes)) = some (some z, size, bytes)) (hzs : z.cells.size = size) (hsz : 0 < size)
    (v : Value) (n : Nat) (xs : List Value) (hs : a.eval s = v) (hown : w.ownsRow base e size v n xs)
    (B : Nat → Prop) (A : Option Addr) (m c : Nat) (news : List Value) (hx : a.eval x = .slice A m c) (hr : Reads w B size A m news) (h1 : ∀ u ∈ news, u.oneCell' = true)
    (h63 : n + m ≤ maxLen) (hbytes : (n + m) * bytes ≤ 140737488355328) (hbase : base ≤ w.heap.size)
    (h : ∀ A' c' w', w'.ownsRow base e size (.slice A' (n + m) c') (n + m) (xs ++ news) → w.grownBy w' v.ownBlock → ((Value.slice A' (n + m) c').ownBlock = v.ownBlock ∨ (Value.slice A' (n + m) c').ownBlock = some w.heap.size) → K (a.put o.dst (.slice A' (n + m) c')) w') : o.wp P a w K Q := by
  obtain ⟨v', w', hrun, h2, h3, h4⟩ := run_append_any (P := P) w base t o.type e z size bytes ht hi hzs hsz v n xs hown B A m c news hr h1 h63 hbytes hbase
  unfold Oper.wp execOp
  simp only [ho, resolve, invoke, builtin, Sem.run_bind, Sem.run_pure, Result.andThen_ok, List.map_toArray, List.map_cons, List.map_nil, hs, hx, hrun]
  have hv : ∃ A' c', v' = .slice A' (n + m) c' := by
    rcases h2.2 with ⟨rfl, hx0⟩ | ⟨g, cap, cur, rfl, _⟩
    · rw [hx0]; exact ⟨_, _, rfl⟩
    · exact ⟨_, _, rfl⟩
  obtain ⟨A', c', rfl⟩ := hv
  exact h A' c' w' h2 h3 h4

/-- 'append(v, x...)': v nil or of the call's own; the source nil or not. What comes out is spelt '.slice A' (n + m) c''. -/
theorem wpList_append_any {ops : Array Oper} {rest : List Oper} {o : Oper} {a : Act} {Q : Exit → Act → World → Prop} (hgd : o.guard = none) (s x : Operand) (t : TypeId)
    (ho : o.op = .call { callee := .builtin .append, args := #[s, x], argTypes := #[t, t] })
    (base : Nat) (e : TypeId) (z : Value) (size bytes : Nat) (ht : P.underlying t = some (.slice e)) (hi : (P.info? e).map (fun i => (i.zero, i.size, i.bytes)) = some (some z, size, bytes)) (hzs : z.cells.size = size) (hsz : 0 < size)
    (v : Value) (n : Nat) (xs : List Value) (hs : a.eval s = v) (hown : w.ownsRow base e size v n xs)
    (B : Nat → Prop) (A : Option Addr) (m c : Nat) (news : List Value) (hx : a.eval x = .slice A m c) (hr : Reads w B size A m news) (h1 : ∀ u ∈ news, u.oneCell' = true)
    (h63 : n + m ≤ maxLen) (hbytes : (n + m) * bytes ≤ 140737488355328) (hbase : base ≤ w.heap.size)
    (h : ∀ A' c' w', w'.ownsRow base e size (.slice A' (n + m) c') (n + m) (xs ++ news) → w.grownBy w' v.ownBlock → ((Value.slice A' (n + m) c').ownBlock = v.ownBlock ∨ (Value.slice A' (n + m) c').ownBlock = some w.heap.size) → wpList P ops Q rest (a.put o.dst (.slice A' (n + m) c')) w') : wpList P ops Q (o :: rest) a w :=
  wpList_plain hgd fun _ hK => wp_append_any w s x t ho base e z size bytes ht hi hzs hsz v n xs hs hown B A m c news hx hr h1 h63 hbytes hbase fun A' c' w' h2 h3 h4 => hK _ _ (h A' c' w' h2 h3 h4)
end

/-- What a slice of the call's own is, where it has an element. -/
theorem own_blk {w : World} {base : Nat} {e : TypeId} {size n c : Nat} {A : Option Addr} {xs : List Value} (h : w.ownsRow base e size (.slice A n c) n xs) (hn : 0 < n) :
    ∃ g cur, A = some ⟨g, 0, none⟩ ∧ base ≤ g ∧ Blk w g e cur ∧ n * size ≤ cur.size ∧ cur.toList.take (n * size) = xs := by
  rcases h.2 with ⟨hv, _⟩ | ⟨g, cap, cur, hv, hb, hg, hnc, hcm, hsz, hcell⟩
  · injection hv with _ h2; omega
  · injection hv with h1 h2 h3
    subst h1 h3
    have hle : n * size ≤ cur.size := by rw [hsz]; exact Nat.mul_le_mul_right _ hnc
    exact ⟨g, cur, rfl, hb, hg, hle, hcell⟩

/-! ### Elements of a slice whose address is not looked into -/
def adr (A : Option Addr) : Addr := A.getD ⟨0, 0, none⟩
theorem off_of_add (a : Addr) (n : Nat) : (a.add n).off = a.off + n := by unfold Addr.add; split <;> simp_all
theorem add_inj {a : Addr} {i j : Nat} (h : a.add i = a.add j) : i = j := by
  have := congrArg Addr.off h
  rw [off_of_add, off_of_add] at this
  omega
theorem add_zero_ (a : Addr) : a.add 0 = a := by simp [Addr.add]
theorem run_indexAt {P : Program} {t e : TypeId} {i : TypeInfo} {size : Nat} (ht : P.underlying t = some (.slice e)) (hi : P.info? e = some i) (hs : i.size = size) {A : Option Addr} {n : Nat} (hA : 0 < n → ∃ ad, A = some ad) (c k : Nat) (hk : k < n) (w : World) :
    (Instr.indexAt t (.slice A n c) (.int .i64 (k : Int))).run P w = .ok (.pointer (some ((adr A).add (k * size)))) w := by
  obtain ⟨ad, rfl⟩ := hA (by omega)
  simp [Instr.indexAt, asIntOf, run_underlying ht, sizeOf, typeInfo, hi, hs, adr, hk]
theorem Reads.some_ {w : World} {B : Nat → Prop} {size n : Nat} {A : Option Addr} {xs : List Value} (h : Reads w B size A n xs) : 0 < n → ∃ ad, A = some ad := fun hn => by
  obtain ⟨ad, h, _⟩ := h.2 hn
  exact ⟨ad, h⟩
theorem Reads.cell {w : World} {B : Nat → Prop} {size n : Nat} {A : Option Addr} {xs : List Value} (h : Reads w B size A n xs) (j : Nat) (hj : j < n * size) : w.cell? ((adr A).add j) = xs[j]? := by
  have hn : 0 < n := by
    rcases Nat.eq_zero_or_pos n with h0 | h0
    · subst h0; simp at hj
    · exact h0
  obtain ⟨ad, rfl, _, hc⟩ := h.2 hn
  have hl : j < xs.length := by rw [h.1]; exact hj
  rw [List.getElem?_eq_getElem hl]
  exact hc j _ (List.getElem?_eq_getElem hl)
theorem Reads.block {w : World} {B : Nat → Prop} {size n : Nat} {A : Option Addr} {xs : List Value} (h : Reads w B size A n xs) (hn : 0 < n) : B (adr A).block := by
  obtain ⟨ad, rfl, hb, _⟩ := h.2 hn
  exact hb
/-- n bytes, whatever they are, that may be written. -/
def Byt (w : World) (a : Addr) (n : Nat) : Prop := ∀ i, i < n → (∃ b, w.cell? (a.add i) = some (.int .u8 b)) ∧ w.frozen? (a.add i) = false
theorem Byt.set_ {w : World} {a : Addr} {n : Nat} (h : Byt w a n) (k : Nat) (b : Int) : Byt (w.setCell (a.add k) (.int .u8 b)) a n := by
  intro i hi
  obtain ⟨⟨b', hb'⟩, hf⟩ := h i hi
  refine ⟨?_, by rw [World.frozen?_setCell]; exact hf⟩
  by_cases hk : k = i
  · subst hk
    exact ⟨b, World.cell?_setCell_same _ _ _ hb'⟩
  · rw [World.cell?_setCell_other _ _ _ _ (fun e => hk (add_inj e))]
    exact ⟨b', hb'⟩
theorem Byt.keep {w w' : World} {a : Addr} {n : Nat} (h : Byt w a n) (hb : 0 < n → w'.heap[a.block]? = w.heap[a.block]?) : Byt w' a n := fun i hi => by
  have e : w'.heap[(a.add i).block]? = w.heap[(a.add i).block]? := by rw [block_of_add]; exact hb (by omega)
  rw [World.cell?_of_block e, World.frozen?_of_block e]
  exact h i hi
theorem Byt.of_blk {w : World} {g n : Nat} {t : TypeId} {l : List Int} (h : Blk w g t (l.map (Value.int .u8)).toArray) (hn : n ≤ l.length) : Byt w ⟨g, 0, none⟩ n := fun i hi => by
  rw [Addr.add_lit, h.cell, h.frozen]
  exact ⟨⟨l[i]'(by omega), by simp [List.getElem?_eq_getElem (show i < l.length by omega)]⟩, rfl⟩
theorem Byt.of_own {w : World} {base : Nat} {e : TypeId} {n c : Nat} {A : Option Addr} {l : List Int} (h : w.ownsRow base e 1 (.slice A n c) n (l.map (Value.int .u8))) : Byt w (adr A) n := fun i hi => by
  obtain ⟨g, cur, rfl, hb, hblk, hle, htk⟩ := own_blk h (by omega)
  show (∃ b, w.cell? ((⟨g, 0, none⟩ : Addr).add i) = _) ∧ w.frozen? ((⟨g, 0, none⟩ : Addr).add i) = _
  rw [Addr.add_lit, hblk.cell, hblk.frozen]
  refine ⟨?_, rfl⟩
  have hl : l.length = n := by simpa using h.1
  have h2 := congrArg (fun x => x[i]?) htk
  simp only [List.getElem?_take, Nat.mul_one, if_pos hi, List.getElem?_map, List.getElem?_eq_getElem (show i < l.length by omega), Option.map_some] at h2
  exact ⟨l[i]'(by omega), by simpa using h2⟩
theorem own_some {w : World} {base : Nat} {e : TypeId} {size n c : Nat} {A : Option Addr} {xs : List Value} (h : w.ownsRow base e size (.slice A n c) n xs) : 0 < n → ∃ ad, A = some ad := fun hn => by
  obtain ⟨g, cur, h, _⟩ := own_blk h hn
  exact ⟨_, h⟩
theorem Reads.old {w : World} {B : Nat → Prop} {size n : Nat} {A : Option Addr} {xs : List Value} (h : Reads w B size A n xs) (hs : 0 < size) : Reads w (fun k => B k ∧ k < w.heap.size) size A n xs := by
  refine ⟨h.1, fun hn => ?_⟩
  obtain ⟨ad, rfl, hb, hc⟩ := h.2 hn
  have hl : 0 < xs.length := by rw [h.1]; exact Nat.mul_pos hn hs
  have := block_lt_of_cell (hc 0 _ (List.getElem?_eq_getElem hl))
  rw [block_of_add] at this
  exact ⟨ad, rfl, ⟨hb, this⟩, hc⟩

/-- The block and the place of a slice's first cell. -/
def bk (A : Option Addr) : Nat := (adr A).block
def ofs (A : Option Addr) : Nat := (adr A).off
def Plain (A : Option Addr) (n : Nat) : Prop := 0 < n → ∃ b o, A = some ⟨b, o, none⟩
theorem Reads.plain {w : World} {B : Nat → Prop} {size n : Nat} {A : Option Addr} {xs : List Value} (h : Reads w B size A n xs) (hs : 0 < size) : Plain A n := by
  intro hn
  obtain ⟨⟨b, o, s⟩, rfl, hb, hc⟩ := h.2 hn
  have hl : 0 < xs.length := by rw [h.1]; exact Nat.mul_pos hn hs
  have hcell := hc 0 _ (List.getElem?_eq_getElem hl)
  have hspot : s = none := by simpa [Addr.add] using World.cell?_spot hcell
  subst hspot
  exact ⟨b, o, rfl⟩
theorem run_indexAt2 {P : Program} {t e : TypeId} {i : TypeInfo} {size : Nat} (ht : P.underlying t = some (.slice e)) (hi : P.info? e = some i) (hs : i.size = size) {A : Option Addr} {n : Nat} (hA : Plain A n) (c k : Nat) (hk : k < n) (w : World) :
    (Instr.indexAt t (.slice A n c) (.int .i64 (k : Int))).run P w = .ok (.pointer (some ⟨bk A, ofs A + k * size, none⟩)) w := by
  obtain ⟨b, o, rfl⟩ := hA (by omega)
  simp [Instr.indexAt, asIntOf, run_underlying ht, sizeOf, typeInfo, hi, hs, bk, ofs, adr, hk, Addr.add_lit]
theorem Reads.cell2 {w : World} {B : Nat → Prop} {size n : Nat} {A : Option Addr} {xs : List Value} (h : Reads w B size A n xs) (j : Nat) (hj : j < n * size) (hs : 0 < size) : w.cell? ⟨bk A, ofs A + j, none⟩ = xs[j]? := by
  have hn : 0 < n := by
    rcases Nat.eq_zero_or_pos n with h0 | h0
    · subst h0; simp at hj
    · exact h0
  obtain ⟨b, o, rfl⟩ := h.plain hs hn
  have := h.cell j hj
  simpa [adr, bk, ofs, Addr.add_lit] using this
theorem Reads.bk {w : World} {B : Nat → Prop} {size n : Nat} {A : Option Addr} {xs : List Value} (h : Reads w B size A n xs) (hn : 0 < n) : B (bk A) := h.block hn
theorem Reads.bk_lt {w : World} {B : Nat → Prop} {size n : Nat} {A : Option Addr} {xs : List Value} (h : Reads w B size A n xs) (hn : 0 < n) (hs : 0 < size) : Own.bk A < w.heap.size := ((h.old hs).block hn).2
theorem Reads.newS (w : World) (cs : List Value) (t : TypeId) (fr : Nat × Nat) (n size : Nat) (h : cs.length = n * size) (g : Nat) (hg : g = w.heap.size) : Reads (w.alloc (.cells cs.toArray t fr)) (· = w.heap.size) size (some ⟨g, 0, none⟩) n cs := by
  subst hg
  refine ⟨h, fun _ => ⟨_, rfl, rfl, fun j u hu => ?_⟩⟩
  rw [Addr.add_lit, cell_of_row _ _ _ _ _ _ (heap_alloc_new w _)]
  simpa using hu
theorem Blk.grown {w w' : World} {g : Nat} {t : TypeId} {cs : Array Value} {row : Option Nat} (h : Blk w g t cs) (hb : w.grownBy w' row) (hg : some g ≠ row) : Blk w' g t cs := (hb.block g h.lt hg).trans h
theorem Reads.grown {w w' : World} {B : Nat → Prop} {size n : Nat} {A : Option Addr} {xs : List Value} {row : Option Nat} (h : Reads w B size A n xs) (hg : w.grownBy w' row) (hr : ∀ k, B k → some k ≠ row) : Reads w' B size A n xs :=
  h.keep fun p hp hs => World.cell?_of_block (hg.block p.block (by
    cases hc : w.cell? p with
    | none => rw [hc] at hs; cases hs
    | some v => exact block_lt_of_cell hc) (hr _ hp))
theorem grown_cell {w w' : World} {row : Option Nat} (hg : w.grownBy w' row) {b i : Nat} (hb : b < w.heap.size) (hr : some b ≠ row) : w'.cell? ⟨b, i, none⟩ = w.cell? ⟨b, i, none⟩ := World.cell?_of_block (a := ⟨b, i, none⟩) (hg.block b hb hr)
theorem grown_frozen {w w' : World} {row : Option Nat} (hg : w.grownBy w' row) {b i : Nat} (hb : b < w.heap.size) (hr : some b ≠ row) : w'.frozen? ⟨b, i, none⟩ = w.frozen? ⟨b, i, none⟩ := World.frozen?_of_block (a := ⟨b, i, none⟩) (hg.block b hb hr)
theorem step_append_any {P : Program} (w : World) {ops : Array Oper} {o : Oper} {a : Act} {K : Act → World → Prop} {Q : Exit → Act → World → Prop} {E : Prop} (hgd : o.guard = none) (s x : Operand) (t : TypeId)
    (ho : o.op = .call { callee := .builtin .append, args := #[s, x], argTypes := #[t, t] })
    (base : Nat) (e : TypeId) (z : Value) (size bytes : Nat) (ht : P.underlying t = some (.slice e)) (hi : (P.info? e).map (fun i => (i.zero, i.size, i.bytes)) = some (some z, size, bytes)) (hzs : z.cells.size = size) (hsz : 0 < size)
    (v : Value) (n : Nat) (xs : List Value) (hs : a.eval s = v) (hown : w.ownsRow base e size v n xs)
    (B : Nat → Prop) (A : Option Addr) (m c : Nat) (news : List Value) (hx : a.eval x = .slice A m c) (hr : Reads w B size A m news) (h1 : ∀ u ∈ news, u.oneCell' = true)
    (h63 : n + m ≤ maxLen) (hbytes : (n + m) * bytes ≤ 140737488355328) (hbase : base ≤ w.heap.size)
    (h : ∀ A' c' w', w'.ownsRow base e size (.slice A' (n + m) c') (n + m) (xs ++ news) → w.grownBy w' v.ownBlock → ((Value.slice A' (n + m) c').ownBlock = v.ownBlock ∨ (Value.slice A' (n + m) c').ownBlock = some w.heap.size) → K (a.put o.dst (.slice A' (n + m) c')) w') :
    if Region.wanted o (yielded ops a.tmps) = true then Oper.wp P o a w K Q else E := by
  have hw : Region.wanted o (yielded ops a.tmps) = true := by simp [Region.wanted, hgd]
  rw [if_pos hw]
  exact wp_append_any w s x t ho base e z size bytes ht hi hzs hsz v n xs hs hown B A m c news hx hr h1 h63 hbytes hbase h
end Go.Own

namespace Go.Own
open Go.RowKit

/-! ### Ranging over a map keyed by integers, in whatever order -/
def clockOf (w : World) (m : Nat) : Nat := match w.heap[m]? with | some (.map _ c) => c | _ => 0
def rngObj (w : World) (m : Nat) : Obj := .mapIter (some m) (clockOf w m) #[] (clockOf w m)
theorem nodup_of_map {α β : Type} (f : α → β) : ∀ {l : List α}, (l.map f).Nodup → l.Nodup
  | [], _ => List.nodup_nil
  | x :: r, h => by
    rw [List.map_cons, List.nodup_cons] at h
    rw [List.nodup_cons]
    exact ⟨fun hx => h.1 (List.mem_map.2 ⟨x, hx, rfl⟩), nodup_of_map f h.2⟩
theorem inj_of_nodup_map {α β : Type} (f : α → β) : ∀ {l : List α}, (l.map f).Nodup → ∀ {a b : α}, a ∈ l → b ∈ l → f a = f b → a = b
  | [], _, _, _, ha, _, _ => by simp at ha
  | x :: r, h, a, b, ha, hb, e => by
    rw [List.map_cons, List.nodup_cons] at h
    rcases List.mem_cons.1 ha with rfl | ha' <;> rcases List.mem_cons.1 hb with rfl | hb'
    · rfl
    · exact absurd (List.mem_map.2 ⟨b, hb', e.symm⟩) h.1
    · exact absurd (List.mem_map.2 ⟨a, ha', e⟩) h.1
    · exact inj_of_nodup_map f h.2 ha' hb' e
section
variable {α : Type} {P : Program} {q : IntKind} {m r : Nat} {w w' : World} {f : α → Int × Value} {l d : List α}
def encKV (q : IntKind) (p : Int × Value) : Value × Value := (Value.int q p.1, p.2)
/-- Block r is an iterator over the map in block m, which reads as 'l' and is not written meanwhile; 'd' has been met, in this order. -/
def IterA (w : World) (m r : Nat) (q : IntKind) (f : α → Int × Value) (l d : List α) : Prop :=
  ∃ (es : Array MapEntry) (clock : Nat) (seen : Array Nat) (c0 : Nat) (dn : List MapEntry),
    w.heap[m]? = some (.map es clock) ∧ es.toList.map (fun e => (e.key, e.val)) = l.map (fun x => encKV q (f x)) ∧ (es.toList.map (·.born)).Nodup ∧ (∀ e ∈ es.toList, e.born < clock) ∧
    w.heap[r]? = some (.mapIter (some m) clock seen c0) ∧ clock ≤ c0 ∧ seen.toList = dn.map (·.born) ∧ dn.map (fun e => (e.key, e.val)) = d.map (fun x => encKV q (f x)) ∧ (∀ e ∈ dn, e ∈ es.toList) ∧ (dn.map (·.born)).Nodup ∧ (∀ x ∈ d, x ∈ l)
theorem IterA.lt (h : IterA w m r q f l d) : r < w.heap.size := by
  obtain ⟨es, clock, seen, c0, dn, -, -, -, -, h, -⟩ := h
  rcases Nat.lt_or_ge r w.heap.size with hlt | hge
  · exact hlt
  · rw [Array.getElem?_eq_none hge] at h; cases h
theorem IterA.mlt (h : IterA w m r q f l d) : m < w.heap.size := by
  obtain ⟨es, clock, seen, c0, dn, h, -⟩ := h
  rcases Nat.lt_or_ge m w.heap.size with hlt | hge
  · exact hlt
  · rw [Array.getElem?_eq_none hge] at h; cases h
theorem IterA.keep (h : IterA w m r q f l d) (hm : w'.heap[m]? = w.heap[m]?) (hr : w'.heap[r]? = w.heap[r]?) : IterA w' m r q f l d := by
  obtain ⟨es, clock, seen, c0, dn, h1, h2, h3, h4, h5, h6⟩ := h
  exact ⟨es, clock, seen, c0, dn, hm.trans h1, h2, h3, h4, hr.trans h5, h6⟩
theorem IterA.alloc (h : IterA w m r q f l d) (o : Obj) : IterA (w.alloc o) m r q f l d := h.keep (Below.heap_alloc w o m h.mlt) (Below.heap_alloc w o r h.lt)
theorem IterA.drewN (h : IterA w m r q f l d) (k : Nat) : IterA (w.drewN k) m r q f l d := h
theorem IterA.grown {row : Option Nat} (h : IterA w m r q f l d) (hg : w.grownBy w' row) (h1 : some m ≠ row) (h2 : some r ≠ row) : IterA w' m r q f l d := h.keep (hg.block m h.mlt h1) (hg.block r h.lt h2)
theorem IterA.map (h : IterA w m r q f l d) : MapB w m q (l.map f) := by
  obtain ⟨es, clock, seen, c0, dn, h1, h2, h3, h4, -⟩ := h
  exact ⟨es, clock, h1, by rw [h2]; simp [encKV], h3, h4⟩
theorem run_rangeB {T K E : TypeId} {kvs : List (Int × Value)} (h : MapB w m q kvs) (hT : P.underlying T = some (.map K E)) :
    (Instr.range T (.map (some m))).run P w = .ok (.pointer (some ⟨w.heap.size, 0, none⟩)) (w.alloc (rngObj w m)) := by
  obtain ⟨es, clock, hm, -⟩ := h
  have hc : clockOf w m = clock := by simp [clockOf, hm]
  have := run_range_map (P := P) w T K E m es clock hT hm
  rw [this, rngObj, hc]
theorem IterA.start (h : MapB w m q (l.map f)) : IterA (w.alloc (rngObj w m)) m w.heap.size q f l [] := by
  have hlt := h.lt
  obtain ⟨es, clock, hm, he, hn, hb⟩ := h
  have hc : clockOf w m = clock := by simp [clockOf, hm]
  refine ⟨es, clock, #[], clock, [], (Below.heap_alloc w _ m hlt).trans hm, by rw [he]; simp [encKV], hn, hb, ?_, Nat.le_refl _, rfl, rfl, by simp, by simp, by simp⟩
  rw [rngObj, hc]; exact heap_alloc_new w _
theorem IterA.next (h : IterA w m r q f l d) (ty : TypeId) :
    ((d.map fun x => (f x).1).Perm (l.map fun x => (f x).1) ∧ (Instr.next (.pointer (some ⟨r, 0, none⟩)) false ty).run P w = .ok (.tuple #[.bool false]) w) ∨
    ∃ x ∈ l, ∃ w', IterA w' m r q f l (d ++ [x]) ∧ (∀ k, k ≠ r → w'.heap[k]? = w.heap[k]?) ∧ w'.heap.size = w.heap.size ∧ Fr (fun k => k = r) w w' ∧
      (Instr.next (.pointer (some ⟨r, 0, none⟩)) false ty).run P w = .ok (.tuple #[.bool true, .int q (f x).1, (f x).2]) w' ∧ (Instr.entry (.pointer (some ⟨r, 0, none⟩))).run P w' = .ok (.tuple #[.int q (f x).1, (f x).2]) w' := by
  have hrlt := h.lt
  have hne : r ≠ m := by
    rintro rfl
    obtain ⟨es, clock, seen, c0, dn, h1, h2, h3, h4, h5, -⟩ := h
    rw [h1] at h5; cases h5
  obtain ⟨es, clock, seen, c0, dn, h1, h2, h3, h4, h5, h6, h7, h8, h9, h10, h11⟩ := h
  rcases run_next_at (P := P) w ty r m clock c0 seen es clock h5 h1 h4 h6 with ⟨h0, hrun⟩ | ⟨e, he, w1, hw1, hrun⟩
  · left
    refine ⟨?_, hrun⟩
    have hall := all_seen es seen h0
    have hperm : dn.Perm es.toList := by
      have nd1 : dn.Nodup := nodup_of_map _ h10
      have nd2 : es.toList.Nodup := nodup_of_map _ h3
      rw [List.perm_ext_iff_of_nodup nd1 nd2]
      intro a
      refine ⟨h9 a, fun ha => ?_⟩
      have hs := hall a ha
      have hs' : a.born ∈ seen.toList := by simpa using hs
      rw [h7] at hs'
      obtain ⟨b, hb, hbb⟩ := List.mem_map.1 hs'
      have := born_inj h3 (h9 b hb) ha hbb
      exact this ▸ hb
    have hp2 := (hperm.map (fun e => (e.key, e.val))).map (fun p : Value × Value => match p.1 with | .int _ n => n | _ => 0)
    rw [h8, h2] at hp2
    simpa [encKV, Function.comp_def] using hp2
  · right
    obtain ⟨hmem, hns⟩ := mem_left he
    obtain ⟨j, hj⟩ := List.mem_iff_getElem?.1 hmem
    have hjl : j < l.length := by
      have hl := congrArg List.length h2
      simp at hl
      have := (List.getElem?_eq_some_iff.1 hj).1
      simp at this; omega
    have hx : (e.key, e.val) = encKV q (f l[j]) := by
      have := congrArg (fun t => t[j]?) h2
      simp only [List.getElem?_map, hj, List.getElem?_eq_getElem hjl, Option.map_some, Option.some.injEq] at this
      exact this
    have hk : e.key = .int q (f l[j]).1 := congrArg Prod.fst hx
    have hv : e.val = (f l[j]).2 := congrArg Prod.snd hx
    have hfar : ∀ k, k ≠ r → (Go.ChangeMaps.setBlock w1 r (.mapIter (some m) clock (seen.push e.born) clock)).heap[k]? = w.heap[k]? := by
      intro k hk
      have : w1.heap = w.heap := by rcases hw1 with rfl | rfl <;> rfl
      simp only [Go.ChangeMaps.setBlock, this, Array.getElem?_setIfInBounds]
      rw [if_neg (by omega)]
    have hsz : (Go.ChangeMaps.setBlock w1 r (.mapIter (some m) clock (seen.push e.born) clock)).heap.size = w.heap.size := by
      have : w1.heap = w.heap := by rcases hw1 with rfl | rfl <;> rfl
      simp [Go.ChangeMaps.setBlock, this]
    have hat : (Go.ChangeMaps.setBlock w1 r (.mapIter (some m) clock (seen.push e.born) clock)).heap[r]? = some (.mapIter (some m) clock (seen.push e.born) clock) := by
      have : w1.heap = w.heap := by rcases hw1 with rfl | rfl <;> rfl
      simp [Go.ChangeMaps.setBlock, this, hrlt]
    refine ⟨l[j], List.getElem_mem hjl, _, ⟨es, clock, seen.push e.born, clock, dn ++ [e], (hfar m hne.symm).trans h1, h2, h3, h4, hat, Nat.le_refl _, by simp [h7], by simp [h8, hx], ?_, ?_, ?_⟩, hfar, hsz, ⟨?_, ?_, ?_, Nat.le_of_eq hsz.symm, fun k _ hk => hfar k hk⟩, ?_, ?_⟩
    · intro a ha
      rcases List.mem_append.1 ha with ha | ha
      · exact h9 a ha
      · simp at ha; exact ha ▸ hmem
    · rw [List.map_append, List.nodup_append]
      refine ⟨h10, by simp, ?_⟩
      intro a ha b hb hab
      simp at hb
      subst hab hb
      rw [← h7] at ha
      have : seen.contains e.born = true := by simpa using ha
      rw [hns] at this; cases this
    · intro a ha
      rcases List.mem_append.1 ha with ha | ha
      · exact h11 a ha
      · simp at ha; exact ha ▸ List.getElem_mem hjl
    · rcases hw1 with rfl | rfl <;> rfl
    · rcases hw1 with rfl | rfl <;> rfl
    · rcases hw1 with rfl | rfl <;> rfl
    · rw [hrun, hk, hv]
    · rw [← hk, ← hv]
      exact run_entry_at (P := P) _ r m clock seen es clock e hat ((hfar m hne.symm).trans h1) hmem h3
theorem wpList_nextB {ops : Array Oper} {rest : List Oper} {o : Oper} {a : Act} {Q : Exit → Act → World → Prop} (hg : o.guard = none) (it : Operand) (hop : o.op = Op.next it false)
    (m r : Nat) (q : IntKind) (f : α → Int × Value) (l d : List α) (hit : a.eval it = .pointer (some ⟨r, 0, none⟩)) (h : IterA w m r q f l d)
    (hDone : (d.map fun x => (f x).1).Perm (l.map fun x => (f x).1) → wpList P ops Q rest (a.put o.dst (.tuple #[.bool false])) w)
    (hMore : ∀ x w', x ∈ l → IterA w' m r q f l (d ++ [x]) → Fr (fun k => k = r) w w' → w'.heap.size = w.heap.size → (Instr.entry (.pointer (some ⟨r, 0, none⟩))).run P w' = .ok (.tuple #[.int q (f x).1, (f x).2]) w' →
      wpList P ops Q rest (a.put o.dst (.tuple #[.bool true, .int q (f x).1, (f x).2])) w') : wpList P ops Q (o :: rest) a w := by
  refine wpList_plain hg fun K' hK' => ?_
  unfold Oper.wp
  rcases h.next (P := P) o.type with ⟨h0, hrun⟩ | ⟨x, hx, w', hit', -, hsz, hfr, hrun, hen⟩
  · simp [execOp, hop, hit, hrun, Result.andThen]
    exact hK' _ _ (hDone h0)
  · simp [execOp, hop, hit, hrun, Result.andThen]
    exact hK' _ _ (hMore x w' hx hit' hfr hsz hen)
theorem IterA.perm (h : IterA w m r q f l d) (hp : (d.map fun x => (f x).1).Perm (l.map fun x => (f x).1)) (hn : (l.map fun x => (f x).1).Nodup) : d.Perm l := by
  obtain ⟨es, clock, seen, c0, dn, -, -, -, -, -, -, -, -, -, -, h11⟩ := h
  have n1 : l.Nodup := nodup_of_map _ hn
  have n2 : d.Nodup := nodup_of_map _ (hp.symm.nodup hn)
  rw [List.perm_ext_iff_of_nodup n2 n1]
  intro a
  refine ⟨h11 a, fun ha => ?_⟩
  have : (f a).1 ∈ d.map fun x => (f x).1 := hp.symm.mem_iff.1 (List.mem_map.2 ⟨a, ha, rfl⟩)
  obtain ⟨b, hb, hbb⟩ := List.mem_map.1 this
  have hba : b = a := inj_of_nodup_map (fun x => (f x).1) hn (h11 b hb) ha hbb
  exact hba ▸ hb
theorem IterA.le (h : IterA w m r q f l d) : d.length ≤ l.length := by
  obtain ⟨es, clock, seen, c0, dn, h1, h2, h3, h4, h5, h6, h7, h8, h9, h10, h11⟩ := h
  have e1 : dn.length = d.length := by simpa using congrArg List.length h8
  have e2 : es.toList.length = l.length := by simpa using congrArg List.length h2
  have nd1 : dn.Nodup := nodup_of_map _ h10
  have nd2 : es.toList.Nodup := nodup_of_map _ h3
  have hp : dn.Perm (es.toList.filter fun e => (dn.map (·.born)).contains e.born) := by
    rw [List.perm_ext_iff_of_nodup nd1 (nd2.filter _)]
    intro a
    rw [List.mem_filter]
    refine ⟨fun ha => ⟨h9 a ha, by simpa using ⟨a, ha, rfl⟩⟩, fun ⟨ha, hc⟩ => ?_⟩
    have hc' : a.born ∈ dn.map (·.born) := by simpa using hc
    obtain ⟨b, hb, hbb⟩ := List.mem_map.1 hc'
    exact born_inj h3 (h9 b hb) ha hbb ▸ hb
  have := hp.length_eq
  have := List.length_filter_le (fun e : MapEntry => (dn.map (·.born)).contains e.born) es.toList
  omega
/-- How long a slice is. -/
def slen : Value → Nat | .slice _ n _ => n | _ => 0
theorem run_make0 {P : Program} (t e : TypeId) (z : Value) (bytes : Nat) (ht : P.underlying t = some (.slice e)) (hi : (P.info? e).map (fun i => (i.zero, i.size, i.bytes)) = some (some z, 1, bytes)) (hz : z.cells = #[z])
    (c : Nat) (hbytes : bytes * c ≤ 281474976710656) (hc : c ≤ 9223372036854775807) (w : World) :
    (Instr.makeSlice t (.int .i64 0) (.int .i64 (c : Int))).run P w = .ok (.slice (some ⟨w.heap.size, 0, none⟩) 0 c) (w.alloc (.cells (zrow z c) e)) := by
  obtain ⟨i, hi, hz0, hz1, hz2⟩ := info_parts hi
  have := run_make_rowN (P := P) t e i z ht hi hz0 .i64 .i64 0 c (Nat.zero_le _) (by rw [hz2]; exact hbytes) hc w
  rw [hz1, hz, Nat.mul_one, madeCells_one] at this
  exact this
end

/-! ### A struct stored over a whole block -/
theorem run_storeBlk {P : Program} {w : World} {T : TypeId} {i : TypeInfo} {g : Nat} {t : TypeId} {cs cs' : Array Value} (hi : P.info? T = some i) (hsz : i.size = cs'.size) (hb : Blk w g t cs) (hl : cs.size = cs'.size) (h1 : ∀ u ∈ cs'.toList, u.oneCell' = true) :
    (Instr.storeAt T (.pointer (some ⟨g, 0, none⟩)) (.agg cs')).run P w = .ok () (w.setRow g cs') := by
  have hst := run_storeCells_at P g 0 t cs'.toList 0 cs w hb (by simp; omega) h1
  have e : (List.take (0 + 0) cs.toList ++ cs'.toList ++ List.drop (0 + 0 + cs'.toList.length) cs.toList).toArray = cs' := by
    simp [show List.drop cs'.size cs.toList = [] from List.drop_eq_nil_of_le (by simp; omega)]
  rw [e] at hst
  simp [Instr.storeAt, Instr.sureAddr, storeVar, Value.cells, sizeOf, typeInfo, hi, hsz, hst]
theorem wpList_storeBlk {P : Program} {w : World} {ops : Array Oper} {rest : List Oper} {o : Oper} {a : Act} {Q : Exit → Act → World → Prop} (hg : o.guard = none) (ad v : Operand) (T : TypeId) (hop : o.op = .store T ad v)
    (g : Nat) (t : TypeId) (cs cs' : Array Value) (z : Value) (size bytes : Nat) (hi : (P.info? T).map (fun i => (i.zero, i.size, i.bytes)) = some (some z, size, bytes)) (ha : a.eval ad = .pointer (some ⟨g, 0, none⟩)) (hv : a.eval v = .agg cs') (hsz : size = cs'.size) (hb : Blk w g t cs) (hl : cs.size = cs'.size) (h1 : ∀ u ∈ cs'.toList, u.oneCell' = true)
    (hK : ∀ w', Blk w' g t cs' → Fr (fun k => k = g) w w' → w'.heap.size = w.heap.size → wpList P ops Q rest (a.put o.dst undef) w') : wpList P ops Q (o :: rest) a w := by
  obtain ⟨i, hi, -, hi2, -⟩ := info_parts hi
  refine wpList_plain hg fun K' hK' => ?_
  unfold Oper.wp
  have hrun := run_storeBlk (P := P) (T := T) hi (hi2.trans hsz) hb hl h1
  simp [execOp, hop, ha, hv, hrun, Result.andThen]
  exact hK' _ _ (hK _ (hb.setRow cs') ((Fr.refl (fun k => k = g) _).setRow (.inl rfl) _) (by simp))
end Go.Own

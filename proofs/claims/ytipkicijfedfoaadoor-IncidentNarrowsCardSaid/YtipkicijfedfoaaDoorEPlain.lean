import Derived.Test.YtipkicijfedfoaaDoorRPlain
import Derived.Test.YtipkicijfedfoaaDoorIPlain
import Derived.Lib.AppendStr
namespace Go.Inc
open Go.Wire
/-! ### The encoding of an incident, plain -/
def strL (s : ByteArray) : List Int := s.data.toList.map (fun b => (b.toNat : Int))
theorem strL_len (s : ByteArray) : (strL s).length = s.size := by
  unfold strL
  rw [List.length_map, Array.length_toList]; rfl
theorem strL_inj {s t : ByteArray} (h : strL s = strL t) : s = t := by
  have hi : ∀ a b : UInt8, ((a.toNat : Int)) = b.toNat → a = b := fun a b h => UInt8.toNat_inj.1 (by omega)
  have : ∀ (l k : List UInt8), l.map (fun b => (b.toNat : Int)) = k.map (fun b => (b.toNat : Int)) → l = k := by
    intro l
    induction l with
    | nil => intro k h; cases k with
      | nil => rfl
      | cons b k => simp at h
    | cons a l ih => intro k h; cases k with
      | nil => simp at h
      | cons b k =>
        simp only [List.map_cons, List.cons.injEq] at h
        rw [hi a b h.1, ih k h.2]
  have h2 := this _ _ h
  cases s; cases t
  simp only at h2
  congr 1
  exact Array.ext' h2
theorem strCells_strL (s : ByteArray) : Lib.strCells s = (strL s).map (Value.int .u8) := by
  unfold Lib.strCells strL
  rw [List.map_map]; rfl
theorem strL_bytes (s : ByteArray) : Bytes (strL s) := by
  intro b hb
  unfold strL at hb
  obtain ⟨x, -, rfl⟩ := List.mem_map.1 hb
  have := x.toNat_lt
  omega
theorem strOfNums_strL (s : ByteArray) : strOfNums (strL s) = s := by
  apply strL_inj
  unfold strOfNums strL
  simp only [List.map_map]
  refine List.map_congr_left (fun b _ => ?_)
  simp
theorem strL_strOfNums {l : List Int} (h : Bytes l) : strL (strOfNums l) = l := by
  unfold strOfNums strL
  simp only [List.map_map]
  conv => rhs; rw [← List.map_id l]
  refine List.map_congr_left (fun b hb => ?_)
  have := h b hb
  simp only [Function.comp_apply, id_eq, UInt8.toNat_ofNat']
  omega
def encS (s : ByteArray) : List Int := encI (s.size : Int) ++ strL s
def encB (b : Bool) : List Int := [if b = true then 1 else 0]
def encX (x : Ic) : List Int := encI x.id ++ (encI x.urg ++ (encS x.code ++ (encIs x.nodes ++ (encI x.dist ++ (encI x.since ++ (encIs x.calls ++ (encIs x.units ++ (encI x.merged ++ encB x.closed))))))))
def In64 (n : Int) : Prop := -9223372036854775808 ≤ n ∧ n < 9223372036854775808
theorem encI_pre {a b : Int} {r s : List Int} (ha : In64 a) (hb : In64 b) (h : encI a ++ r = encI b ++ s) : a = b ∧ r = s := by
  have h1 := rdI_enc ha.1 ha.2 r
  have h2 := rdI_enc hb.1 hb.2 s
  rw [h, h2] at h1
  simp at h1
  exact ⟨h1.1.symm, h1.2.symm⟩
theorem encIs_pre {a b : List Int} {r s : List Int} (ha : InR a) (hb : InR b) (hla : a.length < 9223372036854775808) (hlb : b.length < 9223372036854775808) (h : encIs a ++ r = encIs b ++ s) : a = b ∧ r = s := by
  have h1 := rdIs_enc ha hla r
  have h2 := rdIs_enc hb hlb s
  rw [h, h2] at h1
  simp at h1
  exact ⟨h1.1.symm, h1.2.symm⟩
theorem encS_pre {a b : ByteArray} {r s : List Int} (ha : a.size < 9223372036854775808) (hb : b.size < 9223372036854775808) (h : encS a ++ r = encS b ++ s) : a = b ∧ r = s := by
  unfold encS at h
  rw [List.append_assoc, List.append_assoc] at h
  obtain ⟨h1, h2⟩ := encI_pre ⟨by omega, by omega⟩ ⟨by omega, by omega⟩ h
  obtain ⟨h3, h4⟩ := List.append_inj h2 (by rw [strL_len, strL_len]; omega)
  exact ⟨strL_inj h3, h4⟩
/-- all numbers fit into 64 bits, all lists are not too long -/
structure IcW (x : Ic) : Prop where
  id : In64 x.id
  urg : In64 x.urg
  code : x.code.size < 9223372036854775808
  nodes : InR x.nodes
  nodesL : x.nodes.length < 9223372036854775808
  dist : In64 x.dist
  since : In64 x.since
  calls : InR x.calls
  callsL : x.calls.length < 9223372036854775808
  units : InR x.units
  unitsL : x.units.length < 9223372036854775808
  merged : In64 x.merged
theorem encX_inj {x y : Ic} (hx : IcW x) (hy : IcW y) (h : encX x = encX y) : x = y := by
  obtain ⟨h1, h⟩ := encI_pre hx.id hy.id h
  obtain ⟨h2, h⟩ := encI_pre hx.urg hy.urg h
  obtain ⟨h3, h⟩ := encS_pre hx.code hy.code h
  obtain ⟨h4, h⟩ := encIs_pre hx.nodes hy.nodes hx.nodesL hy.nodesL h
  obtain ⟨h5, h⟩ := encI_pre hx.dist hy.dist h
  obtain ⟨h6, h⟩ := encI_pre hx.since hy.since h
  obtain ⟨h7, h⟩ := encIs_pre hx.calls hy.calls hx.callsL hy.callsL h
  obtain ⟨h8, h⟩ := encIs_pre hx.units hy.units hx.unitsL hy.unitsL h
  obtain ⟨h9, h⟩ := encI_pre hx.merged hy.merged h
  have h10 : x.closed = y.closed := by
    unfold encB at h
    cases hc : x.closed <;> cases hd : y.closed <;> rw [hc, hd] at h <;> first | rfl | simp at h
  cases x; cases y
  simp only at h1 h2 h3 h4 h5 h6 h7 h8 h9 h10
  subst h1 h2 h3 h4 h5 h6 h7 h8 h9 h10
  rfl
theorem encB_len (b : Bool) : (encB b).length = 1 := rfl
end Go.Inc

import Derived.Test.YtdhcjhfgibmhfaaGreatDoorJG0
import Derived.OpenShut
import Derived.ProofKit
import Derived.Laws.BitsAllLaws
import Derived.Lib.Zigzag
import Derived.Lib.AppendStr
import Derived.Test.YtdhcjhfgibmhfaaGreatDoorProg
import Derived.Laws.Bits128
import Derived.Laws.Bits64b
import Derived.WideShapes
set_option linter.unusedVariables false
set_option linter.unusedSimpArgs false
set_option maxRecDepth 100000
set_option maxHeartbeats 2000000
namespace Go.Own
open Go.RowKit
theorem flat_get {α:Type}(f:α→List Value)(s:Nat)(hs:∀ x,(f x).length=s):∀ (l:List α) (k j:Nat) (x:α),l[k]?=some x→j<s→(l.flatMap f)[k * s+j]?=(f x)[j]?
 | [],k,j,x,hx,_=>by simp at hx
 | a :: r,0,j,x,hx,hj=>by
  simp at hx;subst hx
  rw[List.flatMap_cons,List.getElem?_append_left (by rw[hs];omega)];simp
 | a :: r,k+1,j,x,hx,hj=>by
  have:=flat_get f s hs r k j x (by simpa using hx) hj
  rw[List.flatMap_cons,List.getElem?_append_right (by rw[hs,Nat.add_mul];omega),hs,←this]
  congr 1
  rw[Nat.add_mul];omega
theorem yH {α:Type}(f:α→List Value)(s:Nat)(hs:∀ x,(f x).length=s):∀ l:List α,(l.flatMap f).length=l.length * s
 | []=>by simp
 | a :: r=>by rw[List.flatMap_cons,List.length_append,hs,yH f s hs r,List.length_cons,Nat.add_mul];omega
theorem xB (k:IntKind):∀ l:List Int,l.flatMap (fun n:Int=>[Value.int k n])=l.map (Value.int k)
 | []=>rfl
 | a :: r=>by rw[List.flatMap_cons,xB k r];rfl
theorem Ju {α:Type}{R:Nat→α→Prop}:∀ n:Nat,(∀ i,i<n→∃ a,R i a)→∃ l:List α,l.length=n∧∀ (i:Nat) (a:α),l[i]?=some a→R i a
 | 0,_=>⟨[],rfl,fun i a h=>by simp at h⟩
 | n+1,h=>by
  obtain ⟨l,hl,hr⟩:=Ju n (fun i hi=>h i (by omega))
  obtain ⟨a,ha⟩:=h n (by omega)
  refine ⟨l ++ [a],by simp[hl],fun i b hb=>?_⟩
  by_cases hi:i<l.length
  ·rw[List.getElem?_append_left hi] at hb;exact hr i b hb
  ·rw[List.getElem?_append_right (by omega)] at hb
   have h0:i - l.length=0:=by
    have:=(List.getElem?_eq_some_iff.1 hb).1
    simp at this;omega
   rw[h0] at hb
   simp at hb;subst hb
   have:i=n:=by omega
   subst this;exact ha
section
variable {H:Type} {enc:TypeId × Value→H} {P:Program} {w:World}
def Qn (enc:TypeId × Value→H)(P:Program)(w:World)(t:TypeId)(cs:List Value):Prop:=∃ fuel x,DataW.trod enc P w 0 (fun _=>true) true fuel t cs=some x
theorem Qn.of_trod {t:TypeId}{v:Value}{d:DataW H}{p:List MemPlace}(h:DataW.Trod enc P w 0 (fun _=>true) true t v d p):Qn enc P w t v.cells.toList:=by
 obtain ⟨fuel,h⟩:=h
 exact ⟨fuel,_,h⟩
theorem Qn.int {t:TypeId}{cs:List Value}(h:Qn enc P w t cs){k:IntKind}(ht:P.underlying t=some (.int k)):∃ n,cs=[.int k n]∧(Lit.int k n).wf=true:=by
 obtain ⟨fuel,x,h⟩:=h
 obtain ⟨n,h1,-,h2⟩:=DataW.trod_int ht h
 exact ⟨n,h1,h2⟩
theorem Qn.string {t:TypeId}{cs:List Value}(h:Qn enc P w t cs)(ht:P.underlying t=some .string):∃ s:ByteArray,cs=[.string s]∧s.size≤maxLen:=by
 obtain ⟨fuel,x,h⟩:=h
 obtain ⟨n,h1,-,h2⟩:=DataW.trod_string ht h
 exact ⟨n,h1,h2⟩
theorem Qn.bool {t:TypeId}{cs:List Value}(h:Qn enc P w t cs)(ht:P.underlying t=some .bool):∃ b,cs=[.bool b]:=by
 obtain ⟨fuel,x,h⟩:=h
 cases fuel with
 | zero=>simp[DataW.trod] at h
 | succ n=>
  unfold DataW.trod at h
  rw[ht] at h
  split at h <;> simp_all
theorem Qn.struct {t:TypeId}{cs:List Value}(h:Qn enc P w t cs){fs:Array Field}(ht:P.underlying t=some (.struct fs)) :
 cs.length=P.cellsOf t∧∀ (i:Nat) (f:Field),fs[i]?=some f→Qn enc P w f.type ((cs.drop f.offset).take (P.cellsOf f.type)):=by
 obtain ⟨fuel,x,h⟩:=h
 obtain ⟨xs,n,rfl,rfl,h1,h2,h3⟩:=DataW.trod_struct ht h
 refine ⟨h1,fun i f hf=>?_⟩
 have hi:i<xs.length:=by
  rw[h2]
  obtain ⟨hi,-⟩:=Array.getElem?_eq_some_iff.1 hf
  exact hi
 exact ⟨n,xs[i],(h3 i f hf).trans (List.getElem?_eq_getElem hi)⟩
theorem Fe {a:Addr}{n:Nat}{es:List Value}(h:w.cells? 0 a n=some es):es.length=n∧∀ i,i<n→w.cell? (a.add i)=es[i]?:=by
 unfold World.cells? at h
 rw[if_pos (Nat.zero_le _)] at h
 exact ⟨by simpa using mapM_some_length h,fun i hi=>mapM_some_get h i i (by simp[hi])⟩
theorem Qn.slice {t:TypeId}{cs:List Value}(h:Qn enc P w t cs){e:TypeId}(ht:P.underlying t=some (.slice e)) :
 ∃ A n c,cs=[.slice A n c]∧n≤c∧c≤maxLen∧(A=none→c=0)∧∀ a,A=some a→∀ i,i<n→∃ es,w.cells? 0 (a.add (i * P.cellsOf e)) (P.cellsOf e)=some es∧Qn enc P w e es:=by
 obtain ⟨fuel,x,h⟩:=h
 rcases DataW.trod_slice ht h with ⟨h1,-⟩ | ⟨a,len,cap,elems,rest,n,rfl,rfl,rfl,hb,hl,hm,hlen,hel,-,-⟩
 ·exact ⟨none,0,0,h1,Nat.le_refl _,Nat.zero_le _,fun _=>rfl,fun a h=>by cases h⟩
 ·refine ⟨some a,len,cap,rfl,hl,hm,(fun h=>by cases h),fun a' ha i hi=>?_⟩
  cases ha
  have h1:=hel i hi
  rw[List.getElem?_eq_getElem (by omega),Option.bind_eq_some_iff] at h1
  obtain ⟨es,h2,h3⟩:=h1
  exact ⟨es,h2,n,_,h3⟩
theorem Qn.rows {α:Type}{t:TypeId}{cs:List Value}(h:Qn enc P w t cs){e:TypeId}(ht:P.underlying t=some (.slice e)){size:Nat}(hsz:P.cellsOf e=size)(hpos:0<size)(f:α→List Value)(hf:∀ x,(f x).length=size)(Q:α→Prop)
 (hel:∀ es,Qn enc P w e es→∃ a,es=f a∧Q a) :
 ∃ A c,∃ l:List α,cs=[.slice A l.length c]∧l.length≤c∧c≤maxLen∧Reads w (· < w.heap.size) size A l.length (l.flatMap f)∧∀ a∈l,Q a:=by
 obtain ⟨A,n,c,rfl,hnc,hcm,hA,hx⟩:=h.slice ht
 rw[hsz] at hx
 cases A with
 | none=>
  have:n=0:=by have:=hA rfl;omega
  subst this
  exact ⟨none,c,[],rfl,by simp,hcm,Reads.none_,by simp⟩
 | some ad=>
  obtain ⟨l,hl,hr⟩:=Ju (R:=fun i a=>w.cells? 0 (ad.add (i * size)) size=some (f a)∧Q a) n (fun i hi=>by
   obtain ⟨es,h1,h2⟩:=hx ad rfl i hi
   obtain ⟨a,rfl,h3⟩:=hel es h2
   exact ⟨a,h1,h3⟩)
  have hcell:∀ j u,(l.flatMap f)[j]?=some u→w.cell? (ad.add j)=some u:=by
   intro j u hu
   have hj:j<l.length * size:=by
    have:=(List.getElem?_eq_some_iff.1 hu).1
    rw[yH f size hf] at this;exact this
   have hk:j / size<l.length:=Nat.div_lt_of_lt_mul (by rw[Nat.mul_comm];exact hj)
   have hm:j % size<size:=Nat.mod_lt _ hpos
   have hjj:j / size * size+j % size=j:=by rw[Nat.mul_comm];exact Nat.div_add_mod j size
   have h1:=hr (j / size) _ (List.getElem?_eq_getElem hk)
   obtain ⟨-,h2⟩:=Fe h1.1
   have h3:=h2 (j % size) hm
   rw[Vs,hjj] at h3
   rw[h3,←flat_get f size hf l (j / size) (j % size) _ (List.getElem?_eq_getElem hk) hm,hjj]
   exact hu
  refine ⟨some ad,c,l,by rw[hl],by omega,hcm,⟨by rw[yH f size hf],fun hn=>⟨ad,rfl,?_,hcell⟩⟩,fun a ha=>?_⟩
  ·have h0:0<(l.flatMap f).length:=by rw[yH f size hf];exact Nat.mul_pos hn hpos
   have:=block_lt_of_cell (hcell 0 _ (List.getElem?_eq_getElem h0))
   rwa [Za] at this
  ·obtain ⟨i,hi⟩:=List.mem_iff_getElem?.1 ha
   exact (hr i a hi).2
theorem Qn.ints {t:TypeId}{cs:List Value}(h:Qn enc P w t cs){e:TypeId}(ht:P.underlying t=some (.slice e)){k:IntKind}(he:P.underlying e=some (.int k))(hc:P.cellsOf e=1) :
 ∃ A c,∃ l:List Int,cs=[.slice A l.length c]∧l.length≤c∧c≤maxLen∧Reads w (· < w.heap.size) 1 A l.length (l.map (Value.int k))∧∀ n∈l,(Lit.int k n).wf=true:=by
 obtain ⟨A,c,l,h1,h2,h3,h4,h5⟩:=h.rows ht hc (by omega) (fun n:Int=>[Value.int k n]) (fun _=>rfl) (fun n=>(Lit.int k n).wf=true) (fun es hes=>by
  obtain ⟨n,rfl,hw⟩:=hes.int he
  exact ⟨n,rfl,hw⟩)
 refine ⟨A,c,l,h1,h2,h3,?_,h5⟩
 rw[xB] at h4;exact h4
end
end Go.Own
namespace Go.Wire
def Rv (u:Nat):List Int:=if h:u<128 then [(u:Int)] else ((u % 128+128:Nat):Int) :: Rv (u / 128)
termination_by u
decreasing_by omega
theorem Rz {u:Nat}(h:u<128):Rv u=[(u:Int)]:=by rw[Rv,dif_pos h]
theorem R_ {u:Nat}(h:¬ u<128):Rv u=((u % 128+128:Nat):Int) :: Rv (u / 128):=by rw[Rv,dif_neg h]
theorem Sm:∀ (k u:Nat),u<128 ^ (k+1)→(Rv u).length≤k+1
 | 0,u,h=>by rw[Rz (by simpa using h)];simp
 | k+1,u,h=>by
  by_cases hu:u<128
  ·rw[Rz hu];simp
  ·rw[R_ hu]
   have:=Sm k (u / 128) (by rw[Nat.pow_succ] at h;omega)
   simp only[List.length_cons];omega
theorem SB {u:Nat}(h:u<18446744073709551616):(Rv u).length≤10:=Sm 9 u (Nat.lt_of_lt_of_le h (by decide))
def zig (n:Int):Nat:=if 0≤n then (2 * n).toNat else (-2 * n - 1).toNat
def z01 (n:Int):List Int:=Rv (zig n)
theorem TG {n:Int}(h0:-9223372036854775808≤n)(h1:n<9223372036854775808):zig n<18446744073709551616:=by unfold zig;split <;> omega
theorem z14 (a:Nat)(ha:a<18446744073709551616):a ^^^ 18446744073709551615=18446744073709551615 - a:=by
 have h:(BitVec.ofNat 64 a ^^^ BitVec.allOnes 64).toNat=(~~~ BitVec.ofNat 64 a).toNat:=by rw[BitVec.xor_allOnes]
 rw[BitVec.toNat_xor,BitVec.toNat_not] at h
 simp only[BitVec.toNat_ofNat,BitVec.toNat_allOnes] at h
 rw[Nat.mod_eq_of_lt (by omega)] at h
 simpa using h
theorem z0S {n:Int}(h0:-9223372036854775808≤n)(h1:n<9223372036854775808) :
 bits .xor .u64 (IntKind.u64.wrap (IntKind.u64.wrap n * 2)) (IntKind.u64.wrap (n / 9223372036854775808))=((zig n:Nat):Int):=by
 rw[IntKind.wrap_u64,IntKind.wrap_u64,IntKind.wrap_u64]
 rw[u64_xor _ _ (by omega) (by omega) (by omega) (by omega)]
 unfold zig
 split
 ·rename_i h
  rw[show n / 9223372036854775808 % 18446744073709551616=0 by omega]
  rw[show (0:Int).toNat=0 from rfl,Nat.xor_zero]
  omega
 ·rename_i h
  rw[show n / 9223372036854775808 % 18446744073709551616=18446744073709551615 by omega]
  rw[show (18446744073709551615:Int).toNat=18446744073709551615 from rfl,z14 _ (by omega)]
  omega
theorem z18 (u:Nat):bits .or .u8 (IntKind.u8.wrap (u:Int)) 128=((u % 128+128:Nat):Int):=by
 rw[IntKind.wrap_u8',u8_or _ _ (by omega) (by omega) (by omega) (by omega)]
 rw[show ((u:Int) % 256).toNat=u % 256 by omega,show (128:Int).toNat=128 from rfl]
 have h:∀ x:Fin 256,x.val ||| 128=x.val % 128+128:=by decide +kernel
 have:=h ⟨u % 256,by omega⟩
 simp only at this
 rw[this]
 omega
theorem Sv {n:Int}(h0:-9223372036854775808≤n)(h1:n<9223372036854775808):(z01 n).length≤10:=SB (TG h0 h1)
def encIs (l:List Int):List Int:=z01 (l.length:Int) ++ l.flatMap z01
def Bytes (l:List Int):Prop:=∀ b∈l,0≤b∧b<256
def mZ (l:List Int):Prop:=∀ x∈l,-9223372036854775808≤x∧x<9223372036854775808
end Go.Wire
namespace Go.Quo
def gd (l:List Int)(k:Nat):Int:=l.getD k 0
theorem qd {l:List Int}{k:Nat}(h:k<l.length):gd l k=l[k]:=by simp[gd,List.getD,List.getElem?_eq_getElem h]
def hasB (l:List Int)(x:Int):Bool:=l.contains x
theorem Ut (yes:List Int)(x:Int):hasB yes x=true↔∃ j,j<yes.length∧gd yes j=x:=by
 unfold hasB
 rw[List.contains_iff_mem,List.mem_iff_getElem]
 constructor
 ·rintro ⟨j,hj,e⟩
  exact ⟨j,hj,by rw[qd hj,e]⟩
 ·rintro ⟨j,hj,e⟩
  exact ⟨j,hj,by rw[qd hj] at e;exact e⟩
theorem Ha {yes:List Int}{x:Int}(h:∀ j,j<yes.length→gd yes j≠x):hasB yes x=false:=by
 cases hc:hasB yes x with
 | false=>rfl
 | true=>
  obtain ⟨j,hj,e⟩:=(Ut yes x).1 hc
  exact absurd e (h j hj)
end Go.Quo
namespace Go.Inc
open Go.Quo (gd qd)
def Qo:Int:=1099511627776
def zQ (n lo:Int):Bool:=decide (lo≤n) && decide (n≤Qo)
def qE (l:List Int)(lo hi:Int)(i:Nat):Bool:=decide (lo≤gd l i) && decide (gd l i≤hi) && (decide (i=0) || decide (gd l (i - 1)<gd l i))
def qf (l:List Int)(lo hi:Int):Bool:=(List.range l.length).all (qE l lo hi)
def xR (b:UInt8):Bool:=decide (33≤b.toNat) && decide (b.toNat≤126)
def qZ (s:ByteArray):Bool:=decide (1≤s.size) && decide (s.size≤40) && (List.range s.size).all (fun i=>xR (s.get! i))
def yK (urg:Int)(code:ByteArray)(nodes:List Int)(dist since:Int):Bool:=
 decide (1≤urg) && decide (urg≤5) && qZ code && decide (0<nodes.length) && qf nodes 0 4095 && decide (0≤dist) && decide (dist<9) && decide (0≤since) && decide (since≤Qo)
structure Cr where
 call:Int
 inc:Int
 urg:Int
 code:ByteArray
 nodes:List Int
 dist:Int
 since:Int
 closed:Bool
structure Ic where
 id:Int
 urg:Int
 code:ByteArray
 nodes:List Int
 dist:Int
 since:Int
 calls:List Int
 units:List Int
 merged:Int
 closed:Bool
def yz (c:Cr):Bool:=zQ c.call 1 && zQ c.inc 0 && yK c.urg c.code c.nodes c.dist c.since
def jC (x:Ic):Bool:=zQ x.id 1 && yK x.urg x.code x.nodes x.dist x.since && decide (x.calls.length≤1000) && qf x.calls 1 Qo && qf x.units 0 255 &&
 (decide (x.merged=0) || (zQ x.merged 1 && decide (x.merged≠x.id) && decide (x.calls.length=0) && decide (x.units.length=0)))
def zx (x:Ic):Bool:=decide (x.merged=0) && !x.closed
theorem Zl {l:List Int}{lo hi:Int}:qf l lo hi=true↔∀ i,i<l.length→qE l lo hi i=true:=by
 unfold qf;rw[List.all_eq_true];simp
theorem Yo {l:List Int}{lo hi:Int}{i:Nat}(hi':i<l.length)(h:qE l lo hi i=false):qf l lo hi=false:=by
 cases hb:qf l lo hi with
 | false=>rfl
 | true=>have:=Zl.1 hb i hi';rw[h] at this;cases this
theorem aR {l:List Int}{lo hi:Int}(h:qf l lo hi=true):∀ i j,i<j→j<l.length→gd l i<gd l j:=by
 intro i j hij hj
 induction j with
 | zero=>omega
 | succ j ih=>
  have h1:=Zl.1 h (j+1) hj
  unfold qE at h1
  simp at h1
  rcases (by omega:i<j∨i=j) with h2 | h2
  ·have:=ih h2 (by omega);omega
  ·subst h2;exact h1.2
theorem kW {l:List Int}{lo hi:Int}(h:qf l lo hi=true){i:Nat}(hi':i<l.length):lo≤gd l i∧gd l i≤hi:=by
 have h1:=Zl.1 h i hi'
 unfold qE at h1
 simp at h1
 omega
end Go.Inc
namespace Go
open Inc in
abbrev χ (c:Cr)(A:Option Addr)(k:Nat):Array Value:=#[ι c.call,ι c.inc,ι c.urg,.string c.code,.slice A c.nodes.length k,ι c.dist,ι c.since,.bool c.closed]
open Inc in
abbrev ξ (c:Ic)(A:Option Addr)(k:Nat)(B:Option Addr)(m:Nat)(C:Option Addr)(n:Nat):Array Value:=#[ι c.id,ι c.urg,.string c.code,.slice A c.nodes.length k,ι c.dist,ι c.since,.slice B c.calls.length m,.slice C c.units.length n,ι c.merged,.bool c.closed]
end Go
namespace Go.Inc
open Go.Wire
def Rh (s:ByteArray):List Int:=s.data.toList.map (fun b=>(b.toNat:Int))
theorem Ro (s:ByteArray):(Rh s).length=s.size:=by
 unfold Rh
 rw[List.length_map,Array.length_toList];rfl
theorem RP (s:ByteArray):Lib.strCells s=(Rh s).map (Value.int .u8):=by
 unfold Lib.strCells Rh
 rw[List.map_map];rfl
theorem SF (s:ByteArray):Bytes (Rh s):=by
 intro b hb
 unfold Rh at hb
 obtain ⟨x,-,rfl⟩:=List.mem_map.1 hb
 have:=x.toNat_lt
 omega
def z0d (s:ByteArray):List Int:=z01 (s.size:Int) ++ Rh s
def encB (b:Bool):List Int:=[if b=true then 1 else 0]
def Rx (x:Ic):List Int:=z01 x.id ++ (z01 x.urg ++ (z0d x.code ++ (encIs x.nodes ++ (z01 x.dist ++ (z01 x.since ++ (encIs x.calls ++ (encIs x.units ++ (z01 x.merged ++ encB x.closed))))))))
def In64 (n:Int):Prop:=-9223372036854775808≤n∧n<9223372036854775808
theorem z0R (b:Bool):(encB b).length=1:=rfl
end Go.Inc
namespace Go.Proofs.YtdhcjhfgibmhfaaGreatDoor
open Go.RowKit Go.Own Go.Quo Go.Inc
theorem info3:(Tryz.prog.info? 3).map (fun i=>(i.zero,i.size,i.bytes))=some (some (ι 0),1,8):=by kernel_rfl
theorem Yd:(Tryz.prog.info? 2).map (fun i=>(i.zero,i.size,i.bytes))=some (some (ι 0),1,8):=by kernel_rfl
theorem Nz:∃ i,Tryz.prog.info? 3=some i∧i.size=1:=by obtain ⟨i,h,_,h2,_⟩:=info_parts info3;exact ⟨i,h,h2⟩
theorem Ov:∃ i,Tryz.prog.info? 2=some i∧i.size=1:=by obtain ⟨i,h,_,h2,_⟩:=info_parts Yd;exact ⟨i,h,h2⟩
abbrev RI (w:World)(B:Nat→Prop)(A:Option Addr)(l:List Int):Prop:=Reads w B 1 A l.length (l.map (Value.int .i64))
theorem JI {A:Option Addr}{n:Nat}(hA:Plain A n)(c k:Nat)(hk:k<n)(w:World):(Instr.indexAt 32 (.slice A n c) (ι (k:Int))).run Tryz.prog w=.ok (.pointer (some ⟨bk A,qP A+k,none⟩)) w:=by
 obtain ⟨i,h1,h2⟩:=Nz
 have:=jk (P:=Tryz.prog) Tryz.underlying32 h1 h2 hA c k hk w
 simpa using this
theorem Ki {A:Option Addr}{n:Nat}(hA:Plain A n)(c k:Nat)(hk:k<n)(w:World):(Instr.indexAt 46 (.slice A n c) (ι (k:Int))).run Tryz.prog w=.ok (.pointer (some ⟨bk A,qP A+k,none⟩)) w:=by
 obtain ⟨i,h1,h2⟩:=Ov
 have:=jk (P:=Tryz.prog) Tryz.underlying46 h1 h2 hA c k hk w
 simpa using this
theorem qJ {w:World}{B:Nat→Prop}{A:Option Addr}{l:List Int}(h:RI w B A l){k:Nat}(hk:k<l.length):w.cell? ⟨bk A,qP A+k,none⟩=some (ι (gd l k)):=by
 rw[h.cell2 k (by omega) (by omega),qd hk];simp[hk]
def jr (b:Bool)(w:World)(e:Ending)(w':World):Prop:=e=.returned (.bool b)∧w'=w
theorem kS (n:Int)(w:World):Calls Tryz.prog 126 #[ι n] w (jr (zQ n 1) w):=by
 unfold zQ Qo
 cases h1:decide (1≤n) <;> cases h2:decide (n≤1099511627776)
 all_goals
  go_enter Tryz.func126,Tryz.ntmps126
  go_wp2_with fail
  go_ret
  exact ⟨by simp,rfl⟩
theorem Ht (B:Nat→Prop)(A:Option Addr)(c:Nat)(l:List Int)(lo hi:Int)(w:World)(h:RI w B A l)(hl:l.length≤100000):Calls Tryz.prog 159 #[.slice A l.length c,ι lo,ι hi] w (jr (qf l lo hi) w):=by
 have hp:=h.plain (by omega)
 have HT:=ħ (fun h0:(∀ i,i<l.length→qE l lo hi i=true)=>Zl.2 h0)
 have HF:=ħ (fun (i:Nat) (h0:i<l.length) (h1:qE l lo hi i=false)=>Yo h0 h1)
 have HR:=ħ h
 clear h
 generalize qf l lo hi=q at *
 go_enter Tryz.func159,Tryz.ntmps159
 go_wp2_with fail
 go_loopw [11] (fun vi wr=>∃ (k:Nat),k≤l.length∧vi=ι k∧(∀ i,i<k→qE l lo hi i=true)∧wr=w) (fun vi _=>l.length - (intOf vi).toNat)
 case atStart=>exact ⟨0,Nat.zero_le _,rfl,fun i hi=>by omega,rfl⟩
 case round=>
  obtain ⟨k,hk,rfl,hall,rfl⟩:=hrel
  have HA:=ħ hall
  clear hall
  by_cases hlt:k<l.length
  ·have hlt':(k:Int)<l.length:=by omega
   have hix:=fun W=>JI hp c k hlt W
   have hc:=qJ HR.out hlt
   by_cases h1:gd l k<lo
   ·have hq:=HF.out k hlt (by unfold qE;simp;omega)
    have d1:decide (gd l k<lo)=true:=by simpa using h1
    clear h1 HF HT
    generalize gd l k=v at *
    go_wp2_with fail
    go_ret
    exact ⟨by first | (rw[hq];rfl) | simp,rfl⟩
   ·have d1:decide (gd l k<lo)=false:=by simpa using h1
    by_cases h2:hi<gd l k
    ·have hq:=HF.out k hlt (by unfold qE;simp;omega)
     have d2:decide (hi<gd l k)=true:=by simpa using h2
     clear h1 h2 HF HT
     generalize gd l k=v at *
     go_wp2_with fail
     go_ret
     exact ⟨by first | (rw[hq];rfl) | simp,rfl⟩
    ·have d2:decide (hi<gd l k)=false:=by simpa using h2
     by_cases h0:k=0
     ·have HN:=ħ (show ∀ i,i<k+1→qE l lo hi i=true from fun i hi'=>by
       have:i=k:=by omega
       subst this;unfold qE;simp[h0];rw[h0] at h1 h2;omega)
      have d3:decide ((0:Int)<(k:Int))=false:=by simp;omega
      have oh:¬ 0<k:=by omega
      clear h1 h2 HF HT h0
      generalize gd l k=v at *
      go_wp2_with fail
      exact ⟨⟨k+1,by omega,by go_num,HN.out,(by first | rfl | trivial)⟩,by simp[intOf];omega⟩
     ·have hk1:k - 1<l.length:=by omega
      have d3:decide ((0:Int)<(k:Int))=true:=by simp;omega
      have oh:0<k:=by omega
      have V5:=fun W=>JI hp c (k - 1) hk1 W
      rw[show ((k - 1:Nat):Int)=(k:Int) - 1 by omega] at V5
      have hc1:=qJ HR.out hk1
      by_cases h3:gd l k≤gd l (k - 1)
      ·have hq:=HF.out k hlt (by unfold qE;simp;omega)
       have d4:decide (gd l k≤gd l (k - 1))=true:=by simpa using h3
       clear h1 h2 h3 HF HT h0
       generalize gd l k=v at *
       generalize gd l (k - 1)=v0 at *
       generalize k - 1=k1 at hc1 V5
       go_wp2_with fail
       go_ret
       exact ⟨by first | (rw[hq];rfl) | simp,rfl⟩
      ·have HN:=ħ (show ∀ i,i<k+1→qE l lo hi i=true from fun i hi'=>by
        rcases (by omega:i<k∨i=k) with e | rfl
        ·exact HA.out i e
        ·unfold qE;simp;omega)
       have d4:decide (gd l k≤gd l (k - 1))=false:=by simpa using h3
       clear h1 h2 h3 HF HT h0
       generalize gd l k=v at *
       generalize gd l (k - 1)=v0 at *
       generalize k - 1=k1 at hc1 V5
       go_wp2_with fail
       exact ⟨⟨k+1,by omega,by go_num,HN.out,(by first | rfl | trivial)⟩,by simp[intOf];omega⟩
  ·have hlt':¬ (k:Int)<l.length:=by omega
   have he:k=l.length:=by omega
   subst he
   have hq:=HT.out HA.out
   go_wp2_with fail
   go_ret
   exact ⟨by first | (rw[hq];rfl) | simp,rfl⟩
theorem Bu (B:Nat→Prop)(A:Option Addr)(c:Nat)(l:List Int)(lo hi:Int)(w:World)(h:RI w B A l)(hl:l.length≤100000):Calls Tryz.prog 152 #[.slice A l.length c,ι lo,ι hi] w (jr (qf l lo hi) w):=by
 have hp:=h.plain (by omega)
 have HT:=ħ (fun h0:(∀ i,i<l.length→qE l lo hi i=true)=>Zl.2 h0)
 have HF:=ħ (fun (i:Nat) (h0:i<l.length) (h1:qE l lo hi i=false)=>Yo h0 h1)
 have HR:=ħ h
 clear h
 generalize qf l lo hi=q at *
 go_enter Tryz.func152,Tryz.ntmps152
 go_wp2_with fail
 go_loopw [11] (fun vi wr=>∃ (k:Nat),k≤l.length∧vi=ι k∧(∀ i,i<k→qE l lo hi i=true)∧wr=w) (fun vi _=>l.length - (intOf vi).toNat)
 case atStart=>exact ⟨0,Nat.zero_le _,rfl,fun i hi=>by omega,rfl⟩
 case round=>
  obtain ⟨k,hk,rfl,hall,rfl⟩:=hrel
  have HA:=ħ hall
  clear hall
  by_cases hlt:k<l.length
  ·have hlt':(k:Int)<l.length:=by omega
   have hix:=fun W=>Ki hp c k hlt W
   have hc:=qJ HR.out hlt
   by_cases h1:gd l k<lo
   ·have hq:=HF.out k hlt (by unfold qE;simp;omega)
    have d1:decide (gd l k<lo)=true:=by simpa using h1
    clear h1 HF HT
    generalize gd l k=v at *
    go_wp2_with fail
    go_ret
    exact ⟨by first | (rw[hq];rfl) | simp,rfl⟩
   ·have d1:decide (gd l k<lo)=false:=by simpa using h1
    by_cases h2:hi<gd l k
    ·have hq:=HF.out k hlt (by unfold qE;simp;omega)
     have d2:decide (hi<gd l k)=true:=by simpa using h2
     clear h1 h2 HF HT
     generalize gd l k=v at *
     go_wp2_with fail
     go_ret
     exact ⟨by first | (rw[hq];rfl) | simp,rfl⟩
    ·have d2:decide (hi<gd l k)=false:=by simpa using h2
     by_cases h0:k=0
     ·have HN:=ħ (show ∀ i,i<k+1→qE l lo hi i=true from fun i hi'=>by
       have:i=k:=by omega
       subst this;unfold qE;simp[h0];rw[h0] at h1 h2;omega)
      have d3:decide ((0:Int)<(k:Int))=false:=by simp;omega
      have oh:¬ 0<k:=by omega
      clear h1 h2 HF HT h0
      generalize gd l k=v at *
      go_wp2_with fail
      exact ⟨⟨k+1,by omega,by go_num,HN.out,(by first | rfl | trivial)⟩,by simp[intOf];omega⟩
     ·have hk1:k - 1<l.length:=by omega
      have d3:decide ((0:Int)<(k:Int))=true:=by simp;omega
      have oh:0<k:=by omega
      have V5:=fun W=>Ki hp c (k - 1) hk1 W
      rw[show ((k - 1:Nat):Int)=(k:Int) - 1 by omega] at V5
      have hc1:=qJ HR.out hk1
      by_cases h3:gd l k≤gd l (k - 1)
      ·have hq:=HF.out k hlt (by unfold qE;simp;omega)
       have d4:decide (gd l k≤gd l (k - 1))=true:=by simpa using h3
       clear h1 h2 h3 HF HT h0
       generalize gd l k=v at *
       generalize gd l (k - 1)=v0 at *
       generalize k - 1=k1 at hc1 V5
       go_wp2_with fail
       go_ret
       exact ⟨by first | (rw[hq];rfl) | simp,rfl⟩
      ·have HN:=ħ (show ∀ i,i<k+1→qE l lo hi i=true from fun i hi'=>by
        rcases (by omega:i<k∨i=k) with e | rfl
        ·exact HA.out i e
        ·unfold qE;simp;omega)
       have d4:decide (gd l k≤gd l (k - 1))=false:=by simpa using h3
       clear h1 h2 h3 HF HT h0
       generalize gd l k=v at *
       generalize gd l (k - 1)=v0 at *
       generalize k - 1=k1 at hc1 V5
       go_wp2_with fail
       exact ⟨⟨k+1,by omega,by go_num,HN.out,(by first | rfl | trivial)⟩,by simp[intOf];omega⟩
  ·have hlt':¬ (k:Int)<l.length:=by omega
   have he:k=l.length:=by omega
   subst he
   have hq:=HT.out HA.out
   go_wp2_with fail
   go_ret
   exact ⟨by first | (rw[hq];rfl) | simp,rfl⟩
end Go.Proofs.YtdhcjhfgibmhfaaGreatDoor
namespace Go.Inc
def bitsOf (w:Nat):List Nat:=(List.range 64).filter (fun j=>w.testBit j)
theorem Yw {w j:Nat}:j∈bitsOf w↔j<64∧w.testBit j=true:=by simp[bitsOf]
theorem G7 {w:Nat}(h:w≠0):∃ k m,w=2 ^ (k+1) * m+2 ^ k:=by
 induction w using Nat.strongRecOn with
 | ind w ih=>
  by_cases hw:w % 2=1
  ·exact ⟨0,w / 2,by simp;omega⟩
  ·obtain ⟨k,m,e⟩:=ih (w / 2) (by omega) (by omega)
   refine ⟨k+1,m,?_⟩
   have:w=2 * (w / 2):=by omega
   rw[this,e,Nat.mul_add,Nat.pow_succ 2 (k+1),Nat.pow_succ 2 k]
   rw[Nat.mul_comm (2 ^ k * 2) 2,Nat.mul_assoc 2,Nat.mul_comm 2 (2 ^ k)]
theorem QT {k m:Nat}(j:Nat):(2 ^ (k+1) * m+2 ^ k).testBit j=if j<k then false else if j=k then true else m.testBit (j - (k+1)):=by
 rw[Nat.testBit_two_pow_mul_add m (Nat.pow_lt_pow_right (by omega) (by omega))]
 by_cases h1:j<k
 ·rw[if_pos (by omega),if_pos h1,Nat.testBit_two_pow];simp;omega
 ·rw[if_neg h1]
  by_cases h2:j=k
  ·subst h2;rw[if_pos (by omega),if_pos rfl,Nat.testBit_two_pow];simp
  ·rw[if_neg (by omega),if_neg h2]
theorem EX {k m:Nat}(j:Nat):(2 ^ (k+1) * m+2 ^ k - 1).testBit j=if j<k then true else if j=k then false else m.testBit (j - (k+1)):=by
 have hp:0<2 ^ k:=Nat.two_pow_pos k
 have e:2 ^ (k+1) * m+2 ^ k - 1=2 ^ (k+1) * m+(2 ^ k - 1):=by omega
 have hlt:2 ^ k - 1<2 ^ (k+1):=by rw[Nat.pow_succ];omega
 rw[e,Nat.testBit_two_pow_mul_add m hlt]
 by_cases h1:j<k
 ·rw[if_pos (by omega),if_pos h1,Nat.testBit_two_pow_sub_one];simp[h1]
 ·rw[if_neg h1]
  by_cases h2:j=k
  ·subst h2;rw[if_pos (by omega),if_pos rfl,Nat.testBit_two_pow_sub_one];simp
  ·rw[if_neg (by omega),if_neg h2]
theorem FX {k m:Nat}:(2 ^ (k+1) * m+2 ^ k) &&& (2 ^ (k+1) * m+2 ^ k - 1)=2 ^ (k+1) * m:=by
 apply Nat.eq_of_testBit_eq
 intro j
 rw[Nat.testBit_and,QT,EX]
 have e:2 ^ (k+1) * m=2 ^ (k+1) * m+0:=by omega
 rw[e,Nat.testBit_two_pow_mul_add m (Nat.two_pow_pos _)]
 by_cases h1:j<k
 ·rw[if_pos h1,if_pos h1,if_pos (by omega)];simp
 ·rw[if_neg h1,if_neg h1]
  by_cases h2:j=k
  ·subst h2;rw[if_pos rfl,if_pos rfl,if_pos (by omega)];simp
  ·rw[if_neg h2,if_neg h2,if_neg (by omega)];simp
theorem dI {k m:Nat}(h:2 ^ (k+1) * m+2 ^ k<2 ^ 64):(2 ^ (k+1) * m+2 ^ k) &&& (2 ^ 64 - (2 ^ (k+1) * m+2 ^ k))=2 ^ k:=by
 have hk:k<64:=by
  rcases Nat.lt_or_ge k 64 with h1 | h1
  ·exact h1
  ·have:=Nat.pow_le_pow_right (n:=2) (by omega) h1;omega
 have hm:m<2 ^ (63 - k):=by
  have e:2 ^ 64=2 ^ (k+1) * 2 ^ (63 - k):=by rw[←Nat.pow_add];congr 1;omega
  rw[e] at h
  exact Nat.lt_of_mul_lt_mul_left (Nat.lt_of_le_of_lt (Nat.le_add_right _ _) h)
 have e64:2 ^ 64=2 ^ (k+1) * 2 ^ (63 - k):=by rw[←Nat.pow_add];congr 1;omega
 have e2:2 ^ 64 - (2 ^ (k+1) * m+2 ^ k)=2 ^ (k+1) * (2 ^ (63 - k) - (m+1))+2 ^ k:=by
  have e3:2 ^ (k+1) * (2 ^ (63 - k) - (m+1))=2 ^ 64 - 2 ^ (k+1) * m - 2 ^ (k+1):=by
   rw[Nat.mul_sub,e64,Nat.mul_add,Nat.mul_one];omega
  have e4:2 ^ (k+1)=2 ^ k+2 ^ k:=by rw[Nat.pow_succ];omega
  have e5:2 ^ (k+1) * m+2 ^ (k+1)≤2 ^ 64:=by
   rw[e64]
   have:2 ^ (k+1) * m+2 ^ (k+1)=2 ^ (k+1) * (m+1):=by rw[Nat.mul_add,Nat.mul_one]
   rw[this]
   exact Nat.mul_le_mul_left _ hm
  rw[e3];omega
 rw[e2]
 apply Nat.eq_of_testBit_eq
 intro j
 rw[Nat.testBit_and,QT,QT,Nat.testBit_two_pow]
 by_cases h1:j<k
 ·rw[if_pos h1];simp;omega
 ·rw[if_neg h1,if_neg h1]
  by_cases h2:j=k
  ·subst h2;simp
  ·rw[if_neg h2,if_neg h2,Nat.testBit_two_pow_sub_succ hm]
   have:¬ k=j:=fun e=>h2 e.symm
   simp[this]
   exact fun h _=>h
theorem Gx {k m:Nat}(h:2 ^ (k+1) * m+2 ^ k<2 ^ 64):bitsOf (2 ^ (k+1) * m+2 ^ k)=k :: bitsOf (2 ^ (k+1) * m):=by
 have hk:k<64:=by
  rcases Nat.lt_or_ge k 64 with h1 | h1
  ·exact h1
  ·have:=Nat.pow_le_pow_right (n:=2) (by omega) h1;omega
 have hb:∀ j,(2 ^ (k+1) * m).testBit j=if j≤k then false else m.testBit (j - (k+1)):=fun j=>by
  have e:2 ^ (k+1) * m=2 ^ (k+1) * m+0:=by omega
  rw[e,Nat.testBit_two_pow_mul_add m (Nat.two_pow_pos _)]
  by_cases h1:j≤k
  ·rw[if_pos (by omega),if_pos h1];simp
  ·rw[if_neg (by omega),if_neg h1]
 have hs:List.range 64=List.range k ++ k :: (List.range' (k+1) (63 - k)):=by
  have e1:List.range 64=List.range' 0 64:=List.range_eq_range'
  have e2:List.range k=List.range' 0 k:=List.range_eq_range'
  rw[e1,e2]
  have e3:k :: List.range' (k+1) (63 - k)=List.range' k (64 - k):=by
   rw[show 64 - k=(63 - k)+1 by omega,List.range'_succ]
  rw[e3]
  have:=List.range'_append (s:=0) (m:=k) (n:=64 - k) (step:=1)
  rw[show 0+1 * k=k by omega,show k+(64 - k)=64 by omega] at this
  exact this.symm
 unfold bitsOf
 rw[hs,List.filter_append,List.filter_append,List.filter_cons,List.filter_cons]
 have f1:(List.range k).filter (fun j=>(2 ^ (k+1) * m+2 ^ k).testBit j)=[]:=by
  rw[List.filter_eq_nil_iff]
  intro j hj
  rw[QT,if_pos (List.mem_range.1 hj)];simp
 have f2:(List.range k).filter (fun j=>(2 ^ (k+1) * m).testBit j)=[]:=by
  rw[List.filter_eq_nil_iff]
  intro j hj
  have:=List.mem_range.1 hj
  rw[hb,if_pos (by omega)];simp
 have g1:(2 ^ (k+1) * m+2 ^ k).testBit k=true:=by rw[QT];simp
 have g2:(2 ^ (k+1) * m).testBit k=false:=by rw[hb];simp
 rw[f1,f2,if_pos g1,if_neg (by rw[g2];simp)]
 simp only[List.nil_append]
 congr 1
 refine List.filter_congr (fun j hj=>?_)
 have:=(List.mem_range'.1 hj)
 obtain ⟨i,hi,e⟩:=this
 rw[QT,hb,if_neg (by omega),if_neg (by omega),if_neg (by omega)]
theorem Jv:bitsOf 0=[]:=by simp[bitsOf]
def gw (ws:List Nat)(i:Nat):Nat:=ws.getD i 0
def J7 (ws:List Nat)(n:Nat):Bool:=(gw ws (n / 64)).testBit (n % 64)
def Yh (ws:List Nat):List Nat:=(List.range ws.length).flatMap (fun i=>(bitsOf (gw ws i)).map (fun j=>i * 64+j))
def Yu (ws:List Nat)(n:Nat):List Nat:=ws.set (n / 64) (gw ws (n / 64) ||| 2 ^ (n % 64))
def Qi (l:List Nat):List Nat:=l.foldl Yu (List.replicate 64 0)
def Zq (a b:List Nat):List Nat:=List.zipWith (fun x y=>x &&& y) a b
theorem AO (ws:List Nat)(i v j:Nat)(hi:i<ws.length):gw (ws.set i v) j=if j=i then v else gw ws j:=by
 unfold gw
 rw[List.getD_eq_getElem?_getD,List.getD_eq_getElem?_getD,List.getElem?_set]
 by_cases h:i=j
 ·subst h;simp[hi]
 ·rw[if_neg h,if_neg (fun e=>h e.symm)]
theorem xe (ws:List Nat)(n:Nat):(Yu ws n).length=ws.length:=by simp[Yu]
theorem Bp {ws:List Nat}{n:Nat}(hn:n / 64<ws.length)(j:Nat):J7 (Yu ws n) j=(J7 ws j || decide (j=n)):=by
 unfold J7 Yu
 rw[AO _ _ _ _ hn]
 by_cases h:j / 64=n / 64
 ·rw[if_pos h,Nat.testBit_or,Nat.testBit_two_pow,h]
  congr 1
  by_cases h2:j=n
  ·subst h2;simp
  ·have:¬ n % 64=j % 64:=by omega
   simp[h2,this]
 ·rw[if_neg h]
  have:¬ j=n:=fun e=>h (by rw[e])
  simp[this]
theorem UQ:∀ (l:List Nat)(ws:List Nat),ws.length=64→(∀ n∈l,n<4096)→(l.foldl Yu ws).length=64∧∀ j,J7 (l.foldl Yu ws) j=(J7 ws j || decide (j∈l))
 | [],ws,h,_=>⟨h,fun j=>by simp⟩
 | a :: r,ws,h,hl=>by
  have ha:=hl a (by simp)
  obtain ⟨h1,h2⟩:=UQ r (Yu ws a) (by rw[xe,h]) (fun n hn=>hl n (by simp[hn]))
  refine ⟨h1,fun j=>?_⟩
  rw[List.foldl_cons,h2,Bp (by rw[h];omega)]
  by_cases h3:j=a <;> by_cases h4:j∈r <;> simp[h3,h4,List.mem_cons]
theorem j5 {l:List Nat}(h:∀ n∈l,n<4096):(Qi l).length=64:=(UQ l _ (by simp) h).1
theorem UY {l:List Nat}(h:∀ n∈l,n<4096)(j:Nat):J7 (Qi l) j=decide (j∈l):=by
 have:=(UQ l (List.replicate 64 0) (by simp) h).2 j
 unfold Qi
 rw[this]
 have:J7 (List.replicate 64 0) j=false:=by
  unfold J7 gw
  rw[List.getD_eq_getElem?_getD,List.getElem?_replicate]
  split <;> simp
 rw[this];simp
theorem vO {a b:List Nat}(h:a.length=b.length)(i:Nat):gw (Zq a b) i=gw a i &&& gw b i:=by
 unfold gw Zq
 rw[List.getD_eq_getElem?_getD,List.getD_eq_getElem?_getD,List.getD_eq_getElem?_getD,List.getElem?_zipWith]
 by_cases hi:i<a.length
 ·rw[List.getElem?_eq_getElem hi,List.getElem?_eq_getElem (by omega)];rfl
 ·rw[List.getElem?_eq_none (by omega),List.getElem?_eq_none (by omega)];simp
theorem ED {a b:List Nat}(h:a.length=b.length)(j:Nat):J7 (Zq a b) j=(J7 a j && J7 b j):=by
 unfold J7;rw[vO h,Nat.testBit_and]
theorem Ua {ws:List Nat}{n:Nat}:n∈Yh ws↔n / 64<ws.length∧J7 ws n=true:=by
 unfold Yh J7
 rw[List.mem_flatMap]
 constructor
 ·rintro ⟨i,hi,hn⟩
  obtain ⟨j,hj,rfl⟩:=List.mem_map.1 hn
  obtain ⟨h1,h2⟩:=Yw.1 hj
  have e1:(i * 64+j) / 64=i:=by omega
  have e2:(i * 64+j) % 64=j:=by omega
  rw[e1,e2]
  exact ⟨List.mem_range.1 hi,h2⟩
 ·rintro ⟨h1,h2⟩
  exact ⟨n / 64,List.mem_range.2 h1,List.mem_map.2 ⟨n % 64,Yw.2 ⟨by omega,h2⟩,by omega⟩⟩
theorem YZ (ws:List Nat):(Yh ws).Pairwise (fun a b=>a<b):=by
 unfold Yh
 rw[List.pairwise_flatMap]
 refine ⟨fun i hi=>?_,?_⟩
 ·rw[List.pairwise_map]
  unfold bitsOf
  exact (List.pairwise_lt_range.filter _).imp (fun h=>by omega)
 ·refine List.pairwise_lt_range.imp (fun {a b} hab=>?_)
  intro x hx y hy
  obtain ⟨j,hj,rfl⟩:=List.mem_map.1 hx
  obtain ⟨j',hj',rfl⟩:=List.mem_map.1 hy
  have h1:=(Yw.1 hj).1
  omega
theorem DV {a b:List Nat}(ha:a.Pairwise (fun x y=>x<y))(h1:∀ n∈a,n<4096)(h2:∀ n∈b,n<4096):Yh (Zq (Qi a) (Qi b))=a.filter (fun n=>decide (n∈b)):=by
 have hl:(Qi a).length=(Qi b).length:=by rw[j5 h1,j5 h2]
 have hl2:(Zq (Qi a) (Qi b)).length=64:=by unfold Zq;rw[List.length_zipWith,j5 h1,j5 h2];rfl
 have hs:(a.filter (fun n=>decide (n∈b))).Pairwise (fun x y=>x<y):=ha.filter _
 refine List.Perm.eq_of_pairwise (le:=fun x y:Nat=>x<y) (fun x y _ _ h1 h2=>by omega) (YZ _) hs ?_
 rw[List.perm_ext_iff_of_nodup ((YZ _).imp (fun h=>by omega)) (hs.imp (fun h=>by omega))]
 intro n
 rw[Ua,hl2,ED hl,UY h1,UY h2,List.mem_filter]
 simp
 intro hn _
 have:=h1 n hn
 omega
end Go.Inc
namespace Go.Proofs.YtdhcjhfgibmhfaaGreatDoor
open Go.RowKit Go.Own Go.Quo Go.Inc
def FB:List Nat:=[0,1,56,2,57,49,28,3,61,58,42,50,38,29,17,4,62,47,59,36,45,43,51,22,53,39,33,30,24,18,12,5,63,55,48,27,60,41,37,16,46,35,44,21,52,32,23,11,54,26,40,15,34,20,31,10,25,14,19,9,13,8,7,6]
def Er:Array Value:=(FB.map (fun n:Nat=>Value.int .u8 (n:Int))).toArray
def jg (w:World):Prop:=0<w.heap.size∧∀ i v,Er[i]?=some v→w.cell? ⟨0,i,none⟩=some v
theorem jg.lt {w:World}(h:jg w):0<w.heap.size:=h.1
theorem jg.keep {w w':World}(h:jg w)(hs:0<w'.heap.size)(hb:w'.heap[0]?=w.heap[0]?):jg w':=⟨hs,fun i v hv=>(World.cell?_of_block (a:=⟨0,i,none⟩) hb).trans (h.2 i v hv)⟩
theorem jg.below {w w':World}{B:Nat}(h:jg w)(hb:Below B w w')(hB:0<B):jg w':=h.keep (Nat.lt_of_lt_of_le h.1 hb.size) (hb.block 0 hB)
theorem jg.fr {S:Nat→Prop}{w w':World}(h:jg w)(hf:Fr S w w')(hS:¬ S 0):jg w':=h.keep (Nat.lt_of_lt_of_le h.1 hf.size) (hf.block 0 h.1 hS)
theorem jg.alloc {w:World}(h:jg w)(o:Obj):jg (w.alloc o):=h.keep (by simp) (Below.heap_alloc w o 0 h.1)
def rA (k:Nat):Nat:=2 ^ k * 285870213051353865 % 18446744073709551616 / 288230376151711744
theorem mr:∀ k:Fin 64,rA k.val<64∧FB[rA k.val]?=some k.val:=by decide +kernel
theorem a_ (x:Nat)(hx:x≠0)(h:x<2 ^ 64):IntKind.u64.wrap (-(x:Int))=((2 ^ 64 - x:Nat):Int):=by
 simp only[IntKind.wrap,IntKind.bits,IntKind.signed]
 simp
 omega
theorem wrap_u64 (n:Nat):IntKind.u64.wrap (n:Int)=((n % 18446744073709551616:Nat):Int):=by
 simp only[IntKind.wrap,IntKind.bits,IntKind.signed]
 rw[Int.natCast_emod]
 rfl
theorem aG (k m:Nat)(h64:2 ^ (k+1) * m+2 ^ k<2 ^ 64)(x:Nat)(hx:x=2 ^ (k+1) * m+2 ^ k):bits .and .u64 (x:Int) (IntKind.u64.wrap (-(x:Int)))=((2 ^ k:Nat):Int):=by
 have hp:0<2 ^ k:=Nat.two_pow_pos k
 have hx0:x≠0:=by rw[hx];omega
 have hlt:x<2 ^ 64:=by rw[hx];exact h64
 rw[a_ x hx0 hlt]
 have h1:x<18446744073709551616:=hlt
 have h2:2 ^ 64 - x<18446744073709551616:=by omega
 rw[bits_and_u64_nat _ _ h1 h2]
 congr 1
 rw[hx]
 exact dI h64
theorem bu (p:Nat):IntKind.u64.wrap ((p:Int) * 285870213051353865) / 288230376151711744=((p * 285870213051353865 % 18446744073709551616 / 288230376151711744:Nat):Int):=by
 have:(p:Int) * 285870213051353865=((p * 285870213051353865:Nat):Int):=by simp
 rw[this,wrap_u64]
 generalize p * 285870213051353865 % 18446744073709551616=y
 omega
theorem FV (x k ti:Nat)(hk:k<64)(hx:x≠0)(w:World)(h1:ti<64)(hc:w.cell? ⟨0,ti,none⟩=some (.int .u8 (k:Int)))(e3:IntKind.u64.wrap (bits .and .u64 (x:Int) (IntKind.u64.wrap (-(x:Int))) * 285870213051353865) / 288230376151711744=(ti:Int)) :
 Calls Tryz.prog 204 #[.int .u64 (x:Int)] w (fun e w'=>e=.returned (ι (k:Int))∧w'=w):=by
 have d0:((x:Int) == 0)=false:=by simpa using hx
 have hw:IntKind.i64.wrap (k:Int)=k:=IntWalk.i64_in _ (by omega)
 go_enter Tryz.func204,Tryz.ntmps204
 go_wp2_with fail
 go_ret
 exact ⟨by first | rfl | simp,rfl⟩
theorem gu {k:Nat}(hk:k<64):rA k<64∧FB[rA k]?=some k:=mr ⟨k,hk⟩
theorem Bl (k m:Nat)(h64:2 ^ (k+1) * m+2 ^ k<2 ^ 64)(x:Nat)(hx:x=2 ^ (k+1) * m+2 ^ k)(hk:k<64)(w:World)(ht:jg w) :
 Calls Tryz.prog 204 #[.int .u64 (x:Int)] w (fun e w'=>e=.returned (ι (k:Int))∧w'=w):=by
 obtain ⟨t1,t2⟩:=gu hk
 have hp:0<2 ^ k:=Nat.two_pow_pos k
 refine FV x k (rA k) hk (by rw[hx];omega) w t1 ?_ ?_
 ·refine ht.2 _ _ ?_
  unfold Er
  simp[t2]
 ·rw[aG k m h64 x hx,bu]
  rfl
theorem ay (x:Nat)(w:World):Calls Tryz.prog 202 #[.int .u64 (x:Int)] w (fun e w'=>∃ k:Int,0≤k∧k≤127∧e=.returned (ι k)∧w'=w):=by
 go_enter Tryz.func202,Tryz.ntmps202
 go_wp2_with fail
 go_ret
 refine ⟨_,?_,?_,rfl,rfl⟩
 ·rw[i64_and127];omega
 ·rw[i64_and127];omega
end Go.Proofs.YtdhcjhfgibmhfaaGreatDoor
namespace Go.Proofs.YtdhcjhfgibmhfaaGreatDoor
open Go.RowKit Go.Own Go.Quo Go.Inc Go.Wire
section
variable {H:Type} {enc:TypeId × Value→H} {w:World}
theorem M9:Tryz.prog.cellsOf 34=8:=by kernel_rfl
theorem Ng:Tryz.prog.cellsOf 32=1:=by kernel_rfl
theorem MX:Tryz.prog.cellsOf 2=1:=by kernel_rfl
theorem Ih:Tryz.prog.cellsOf 3=1:=by kernel_rfl
theorem Nn:Tryz.prog.cellsOf 9=1:=by kernel_rfl
theorem Pb:Tryz.prog.cellsOf 4=1:=by kernel_rfl
theorem Kh {n:Int}(h:(Lit.int .i64 n).wf=true):In64 n:=by
 simp[Lit.wf,IntKind.min,IntKind.max,IntKind.bits,IntKind.signed] at h
 unfold In64
 omega
theorem bJ {cs:List Value}(h:Qn enc Tryz.prog w 32 cs):∃ A c,∃ l:List Int,cs=[.slice A l.length c]∧RI w (· < w.heap.size) A l∧mZ l:=by
 obtain ⟨A,c,l,h1,-,-,h2,h3⟩:=h.ints Tryz.underlying32 Tryz.underlying3 Ih
 exact ⟨A,c,l,h1,h2,fun n hn=>Kh (h3 n hn)⟩
structure Xa where
 x:Ic
 An:Option Addr
 Ac:Option Addr
 Au:Option Addr
 cn:Nat
 cc:Nat
 cu:Nat
structure Ca where
 c:Cr
 A:Option Addr
 k:Nat
structure Cw (w:World) (a:Ca):Prop where
 n:RI w (· < w.heap.size) a.A a.c.nodes
 call:In64 a.c.call
 since:In64 a.c.since
def BJ (a:Xa):Value:=.agg (ξ a.x a.An a.cn a.Ac a.cc a.Au a.cu)
def qC (a:Ca):List Value:=[ι a.c.call,ι a.c.inc,ι a.c.urg,.string a.c.code,.slice a.A a.c.nodes.length a.k,ι a.c.dist,ι a.c.since,.bool a.c.closed]
def uy (a:Ca):Value:=.agg (χ a.c a.A a.k)
theorem bZ {cs:List Value}(h1:Qn enc Tryz.prog w 34 cs):∃ a:Ca,cs=qC a∧Cw w a:=by
 obtain ⟨hsz,hf⟩:=h1.struct Tryz.underlying34
 rw[M9] at hsz
 match cs,hsz with
 | [e0,e1,e2,e3,e4,e5,e6,e7],_=>
  have f0:Qn enc Tryz.prog w 2 (([e0,e1,e2,e3,e4,e5,e6,e7].drop 0).take (Tryz.prog.cellsOf 2)):=hf 0 _ rfl
  have f1:Qn enc Tryz.prog w 2 (([e0,e1,e2,e3,e4,e5,e6,e7].drop 1).take (Tryz.prog.cellsOf 2)):=hf 1 _ rfl
  have f2:Qn enc Tryz.prog w 3 (([e0,e1,e2,e3,e4,e5,e6,e7].drop 2).take (Tryz.prog.cellsOf 3)):=hf 2 _ rfl
  have f3:Qn enc Tryz.prog w 9 (([e0,e1,e2,e3,e4,e5,e6,e7].drop 3).take (Tryz.prog.cellsOf 9)):=hf 3 _ rfl
  have f4:Qn enc Tryz.prog w 32 (([e0,e1,e2,e3,e4,e5,e6,e7].drop 4).take (Tryz.prog.cellsOf 32)):=hf 4 _ rfl
  have f5:Qn enc Tryz.prog w 3 (([e0,e1,e2,e3,e4,e5,e6,e7].drop 5).take (Tryz.prog.cellsOf 3)):=hf 5 _ rfl
  have f6:Qn enc Tryz.prog w 2 (([e0,e1,e2,e3,e4,e5,e6,e7].drop 6).take (Tryz.prog.cellsOf 2)):=hf 6 _ rfl
  have f7:Qn enc Tryz.prog w 4 (([e0,e1,e2,e3,e4,e5,e6,e7].drop 7).take (Tryz.prog.cellsOf 4)):=hf 7 _ rfl
  rw[MX] at f0 f1 f6
  rw[Ih] at f2 f5
  rw[Nn] at f3
  rw[Ng] at f4
  rw[Pb] at f7
  obtain ⟨n0,k0,w0⟩:=f0.int Tryz.underlying2
  obtain ⟨n1,k1,w1⟩:=f1.int Tryz.underlying2
  obtain ⟨n2,k2,w2⟩:=f2.int Tryz.underlying3
  obtain ⟨n3,k3,w3⟩:=f3.string Tryz.underlying9
  obtain ⟨A4,c4,l4,k4,r4,q4⟩:=bJ f4
  obtain ⟨n5,k5,w5⟩:=f5.int Tryz.underlying3
  obtain ⟨n6,k6,w6⟩:=f6.int Tryz.underlying2
  obtain ⟨n7,k7⟩:=f7.bool Tryz.underlying4
  simp at k0 k1 k2 k3 k4 k5 k6 k7
  subst k0 k1 k2 k3 k4 k5 k6 k7
  exact ⟨⟨⟨n0,n1,n2,n3,l4,n5,n6,n7⟩,A4,c4⟩,rfl,⟨r4,Kh w0,Kh w6⟩⟩
end
end Go.Proofs.YtdhcjhfgibmhfaaGreatDoor

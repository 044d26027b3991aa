import Derived.Test.YtdfobfjpkjddpaaGreatUBase
import Derived.Maps.RangeRun
import Derived.OpenShut
import Derived.ProofKit
set_option linter.unusedVariables false
set_option linter.unusedSimpArgs false
namespace Go.Own
open Go.RowKit
section
variable {P:Program} (w:World)
theorem run_append_of_nil (base:Nat)(t ty e:TypeId)(i:TypeInfo)(size:Nat)(ht:P.underlying t=some (.slice e))(hi:P.info? e=some i)
 (v:Value) (n:Nat) (xs:List Value) (hown:w.ownsRow base e size v n xs) (c:Nat):(Builtin.append_ #[t,t] ty #[v,.slice none 0 c]).run P w=.ok v w:=by
 rcases hown.2 with ⟨rfl,rfl⟩ | ⟨g,cap,cur,rfl,_,_,hnc,_⟩
 ·simp[Builtin.append_,run_underlying ht,sizeOf,typeInfo,hi,Builtin.lenOf,Builtin.firstCells]
 ·simp[Builtin.append_,run_underlying ht,sizeOf,typeInfo,hi,Builtin.lenOf,Builtin.firstCells,hnc,storeCells]
theorem run_append_any (base:Nat)(t ty e:TypeId)(z:Value)(size bytes:Nat)(ht:P.underlying t=some (.slice e))(hi:(P.info? e).map (fun i=>(i.zero,i.size,i.bytes))=some (some z,size,bytes))(hzs:z.cells.size=size)(hsz:0<size)
 (v:Value) (n:Nat) (xs:List Value) (hown:w.ownsRow base e size v n xs)
 (B:Nat→Prop) (A:Option Addr) (m c:Nat) (news:List Value) (hr:Reads w B size A m news) (h1:∀ u∈news,u.oneCell'=true)
 (h63:n+m≤maxLen) (hbytes:(n+m) * bytes≤140737488355328) (hbase:base≤w.heap.size) :
 ∃ v' w',(Builtin.append_ #[t,t] ty #[v,.slice A m c]).run P w=.ok v' w'∧w'.ownsRow base e size v' (n+m) (xs ++ news)∧w.grownBy w' v.ownBlock ∧
  (v'.ownBlock=v.ownBlock∨v'.ownBlock=some w.heap.size):=by
 obtain ⟨i,hi,hz,hsize,hby⟩:=info_parts hi
 rcases A with _ | ad
 ·have hm:m=0:=by
   rcases Nat.eq_zero_or_pos m with h0 | h0
   ·exact h0
   ·obtain ⟨ad,h,_⟩:=hr.2 h0
    cases h
  subst hm
  have hn:news=[]:=List.eq_nil_of_length_eq_zero (by simpa using hr.1)
  subst hn
  exact ⟨v,w,run_append_of_nil w base t ty e i size ht hi v n xs hown c,by simpa using hown,World.grownBy.refl w _,.inl rfl⟩
 ·have hcells:∀ j u,news[j]?=some u→w.cell? (ad.add j)=some u:=by
   intro j u hu
   rcases Nat.eq_zero_or_pos m with h0 | h0
   ·subst h0
    have hn:news=[]:=List.eq_nil_of_length_eq_zero (by simpa using hr.1)
    subst hn
    simp at hu
   ·obtain ⟨ad',h,_,hc⟩:=hr.2 h0
    injection h with h
    subst h
    exact hc j u hu
  obtain ⟨v',w',hrun,h2,h3,_,h5⟩:=run_append_own_at (P:=P) w base t ty e i z size bytes ht hi hz hsize hby hzs hsz v n xs hown ad m c news hr.1 hcells h1 h63 hbytes hbase
  exact ⟨v',w',hrun,h2,h3,h5⟩
theorem wp_append_any {o:Oper}{a:Act}{K:Act→World→Prop}{Q:Exit→Act→World→Prop}(s x:Operand)(t:TypeId)
 (ho:o.op=.call { callee:=.builtin .append,args:=#[s,x],argTypes:=#[t,t] })
 (base:Nat) (e:TypeId) (z:Value) (size bytes:Nat) (ht:P.underlying t=some (.slice e)) (hi:(P.info? e).map (fun i=>(i.zero,i.size,i.bytes))=some (some z,size,bytes)) (hzs:z.cells.size=size) (hsz:0<size)
 (v:Value) (n:Nat) (xs:List Value) (hs:a.eval s=v) (hown:w.ownsRow base e size v n xs)
 (B:Nat→Prop) (A:Option Addr) (m c:Nat) (news:List Value) (hx:a.eval x=.slice A m c) (hr:Reads w B size A m news) (h1:∀ u∈news,u.oneCell'=true)
 (h63:n+m≤maxLen) (hbytes:(n+m) * bytes≤140737488355328) (hbase:base≤w.heap.size)
 (h:∀ A' c' w',w'.ownsRow base e size (.slice A' (n+m) c') (n+m) (xs ++ news)→w.grownBy w' v.ownBlock→((Value.slice A' (n+m) c').ownBlock=v.ownBlock∨(Value.slice A' (n+m) c').ownBlock=some w.heap.size)→K (a.put o.dst (.slice A' (n+m) c')) w'):o.wp P a w K Q:=by
 obtain ⟨v',w',hrun,h2,h3,h4⟩:=run_append_any (P:=P) w base t o.type e z size bytes ht hi hzs hsz v n xs hown B A m c news hr h1 h63 hbytes hbase
 unfold Oper.wp execOp
 simp only[ho,resolve,invoke,builtin,Sem.run_bind,Sem.run_pure,Result.andThen_ok,List.map_toArray,List.map_cons,List.map_nil,hs,hx,hrun]
 have hv:∃ A' c',v'=.slice A' (n+m) c':=by
  rcases h2.2 with ⟨rfl,hx0⟩ | ⟨g,cap,cur,rfl,_⟩
  ·rw[hx0];exact ⟨_,_,rfl⟩
  ·exact ⟨_,_,rfl⟩
 obtain ⟨A',c',rfl⟩:=hv
 exact h A' c' w' h2 h3 h4
theorem wpList_append_any {ops:Array Oper}{rest:List Oper}{o:Oper}{a:Act}{Q:Exit→Act→World→Prop}(hgd:o.guard=none)(s x:Operand)(t:TypeId)
 (ho:o.op=.call { callee:=.builtin .append,args:=#[s,x],argTypes:=#[t,t] })
 (base:Nat) (e:TypeId) (z:Value) (size bytes:Nat) (ht:P.underlying t=some (.slice e)) (hi:(P.info? e).map (fun i=>(i.zero,i.size,i.bytes))=some (some z,size,bytes)) (hzs:z.cells.size=size) (hsz:0<size)
 (v:Value) (n:Nat) (xs:List Value) (hs:a.eval s=v) (hown:w.ownsRow base e size v n xs)
 (B:Nat→Prop) (A:Option Addr) (m c:Nat) (news:List Value) (hx:a.eval x=.slice A m c) (hr:Reads w B size A m news) (h1:∀ u∈news,u.oneCell'=true)
 (h63:n+m≤maxLen) (hbytes:(n+m) * bytes≤140737488355328) (hbase:base≤w.heap.size)
 (h:∀ A' c' w',w'.ownsRow base e size (.slice A' (n+m) c') (n+m) (xs ++ news)→w.grownBy w' v.ownBlock→((Value.slice A' (n+m) c').ownBlock=v.ownBlock∨(Value.slice A' (n+m) c').ownBlock=some w.heap.size)→wpList P ops Q rest (a.put o.dst (.slice A' (n+m) c')) w'):wpList P ops Q (o :: rest) a w:=
 wpList_plain hgd fun _ hK=>wp_append_any w s x t ho base e z size bytes ht hi hzs hsz v n xs hs hown B A m c news hx hr h1 h63 hbytes hbase fun A' c' w' h2 h3 h4=>hK _ _ (h A' c' w' h2 h3 h4)
end
theorem own_blk {w:World}{base:Nat}{e:TypeId}{size n c:Nat}{A:Option Addr}{xs:List Value}(h:w.ownsRow base e size (.slice A n c) n xs)(hn:0<n) :
 ∃ g cur,A=some ⟨g,0,none⟩∧base≤g∧Blk w g e cur∧n * size≤cur.size∧cur.toList.take (n * size)=xs:=by
 rcases h.2 with ⟨hv,_⟩ | ⟨g,cap,cur,hv,hb,hg,hnc,hcm,hsz,hcell⟩
 ·injection hv with _ h2;omega
 ·injection hv with h1 h2 h3
  subst h1 h3
  have hle:n * size≤cur.size:=by rw[hsz];exact Nat.mul_le_mul_right _ hnc
  exact ⟨g,cur,rfl,hb,hg,hle,hcell⟩
def adr (A:Option Addr):Addr:=A.getD ⟨0,0,none⟩
theorem add_zero_ (a:Addr):a.add 0=a:=by simp[Addr.add]
theorem run_indexAt {P:Program}{t e:TypeId}{i:TypeInfo}{size:Nat}(ht:P.underlying t=some (.slice e))(hi:P.info? e=some i)(hs:i.size=size){A:Option Addr}{n:Nat}(hA:0<n→∃ ad,A=some ad)(c k:Nat)(hk:k<n)(w:World) :
 (Instr.indexAt t (.slice A n c) (.int .i64 (k:Int))).run P w=.ok (.pointer (some ((adr A).add (k * size)))) w:=by
 obtain ⟨ad,rfl⟩:=hA (by omega)
 simp[Instr.indexAt,asIntOf,run_underlying ht,sizeOf,typeInfo,hi,hs,adr,hk]
theorem Reads.cell {w:World}{B:Nat→Prop}{size n:Nat}{A:Option Addr}{xs:List Value}(h:Reads w B size A n xs)(j:Nat)(hj:j<n * size):w.cell? ((adr A).add j)=xs[j]?:=by
 have hn:0<n:=by
  rcases Nat.eq_zero_or_pos n with h0 | h0
  ·subst h0;simp at hj
  ·exact h0
 obtain ⟨ad,rfl,_,hc⟩:=h.2 hn
 have hl:j<xs.length:=by rw[h.1];exact hj
 rw[List.getElem?_eq_getElem hl]
 exact hc j _ (List.getElem?_eq_getElem hl)
theorem Reads.block {w:World}{B:Nat→Prop}{size n:Nat}{A:Option Addr}{xs:List Value}(h:Reads w B size A n xs)(hn:0<n):B (adr A).block:=by
 obtain ⟨ad,rfl,hb,_⟩:=h.2 hn
 exact hb
theorem Reads.old {w:World}{B:Nat→Prop}{size n:Nat}{A:Option Addr}{xs:List Value}(h:Reads w B size A n xs)(hs:0<size):Reads w (fun k=>B k∧k<w.heap.size) size A n xs:=by
 refine ⟨h.1,fun hn=>?_⟩
 obtain ⟨ad,rfl,hb,hc⟩:=h.2 hn
 have hl:0<xs.length:=by rw[h.1];exact Nat.mul_pos hn hs
 have:=block_lt_of_cell (hc 0 _ (List.getElem?_eq_getElem hl))
 rw[block_of_add] at this
 exact ⟨ad,rfl,⟨hb,this⟩,hc⟩
def bk (A:Option Addr):Nat:=(adr A).block
def ofs (A:Option Addr):Nat:=(adr A).off
def Plain (A:Option Addr)(n:Nat):Prop:=0<n→∃ b o,A=some ⟨b,o,none⟩
theorem Reads.plain {w:World}{B:Nat→Prop}{size n:Nat}{A:Option Addr}{xs:List Value}(h:Reads w B size A n xs)(hs:0<size):Plain A n:=by
 intro hn
 obtain ⟨⟨b,o,s⟩,rfl,hb,hc⟩:=h.2 hn
 have hl:0<xs.length:=by rw[h.1];exact Nat.mul_pos hn hs
 have hcell:=hc 0 _ (List.getElem?_eq_getElem hl)
 have hspot:s=none:=by simpa [Addr.add] using World.cell?_spot hcell
 subst hspot
 exact ⟨b,o,rfl⟩
theorem run_indexAt2 {P:Program}{t e:TypeId}{i:TypeInfo}{size:Nat}(ht:P.underlying t=some (.slice e))(hi:P.info? e=some i)(hs:i.size=size){A:Option Addr}{n:Nat}(hA:Plain A n)(c k:Nat)(hk:k<n)(w:World) :
 (Instr.indexAt t (.slice A n c) (.int .i64 (k:Int))).run P w=.ok (.pointer (some ⟨bk A,ofs A+k * size,none⟩)) w:=by
 obtain ⟨b,o,rfl⟩:=hA (by omega)
 simp[Instr.indexAt,asIntOf,run_underlying ht,sizeOf,typeInfo,hi,hs,bk,ofs,adr,hk,Addr.add_lit]
theorem Reads.cell2 {w:World}{B:Nat→Prop}{size n:Nat}{A:Option Addr}{xs:List Value}(h:Reads w B size A n xs)(j:Nat)(hj:j<n * size)(hs:0<size):w.cell? ⟨bk A,ofs A+j,none⟩=xs[j]?:=by
 have hn:0<n:=by
  rcases Nat.eq_zero_or_pos n with h0 | h0
  ·subst h0;simp at hj
  ·exact h0
 obtain ⟨b,o,rfl⟩:=h.plain hs hn
 have:=h.cell j hj
 simpa [adr,bk,ofs,Addr.add_lit] using this
theorem Reads.bk_lt {w:World}{B:Nat→Prop}{size n:Nat}{A:Option Addr}{xs:List Value}(h:Reads w B size A n xs)(hn:0<n)(hs:0<size):Own.bk A<w.heap.size:=((h.old hs).block hn).2
theorem Reads.newS (w:World)(cs:List Value)(t:TypeId)(fr:Nat × Nat)(n size:Nat)(h:cs.length=n * size)(g:Nat)(hg:g=w.heap.size):Reads (w.alloc (.cells cs.toArray t fr)) (·=w.heap.size) size (some ⟨g,0,none⟩) n cs:=by
 subst hg
 refine ⟨h,fun _=>⟨_,rfl,rfl,fun j u hu=>?_⟩⟩
 rw[Addr.add_lit,cell_of_row _ _ _ _ _ _ (heap_alloc_new w _)]
 simpa using hu
theorem Blk.grown {w w':World}{g:Nat}{t:TypeId}{cs:Array Value}{row:Option Nat}(h:Blk w g t cs)(hb:w.grownBy w' row)(hg:some g≠row):Blk w' g t cs:=(hb.block g h.lt hg).trans h
theorem Reads.grown {w w':World}{B:Nat→Prop}{size n:Nat}{A:Option Addr}{xs:List Value}{row:Option Nat}(h:Reads w B size A n xs)(hg:w.grownBy w' row)(hr:∀ k,B k→some k≠row):Reads w' B size A n xs:=
 h.keep fun p hp hs=>World.cell?_of_block (hg.block p.block (by
  cases hc:w.cell? p with
  | none=>rw[hc] at hs;cases hs
  | some v=>exact block_lt_of_cell hc) (hr _ hp))
theorem grown_cell {w w':World}{row:Option Nat}(hg:w.grownBy w' row){b i:Nat}(hb:b<w.heap.size)(hr:some b≠row):w'.cell? ⟨b,i,none⟩=w.cell? ⟨b,i,none⟩:=World.cell?_of_block (a:=⟨b,i,none⟩) (hg.block b hb hr)
theorem step_append_any {P:Program}(w:World){ops:Array Oper}{o:Oper}{a:Act}{K:Act→World→Prop}{Q:Exit→Act→World→Prop}{E:Prop}(hgd:o.guard=none)(s x:Operand)(t:TypeId)
 (ho:o.op=.call { callee:=.builtin .append,args:=#[s,x],argTypes:=#[t,t] })
 (base:Nat) (e:TypeId) (z:Value) (size bytes:Nat) (ht:P.underlying t=some (.slice e)) (hi:(P.info? e).map (fun i=>(i.zero,i.size,i.bytes))=some (some z,size,bytes)) (hzs:z.cells.size=size) (hsz:0<size)
 (v:Value) (n:Nat) (xs:List Value) (hs:a.eval s=v) (hown:w.ownsRow base e size v n xs)
 (B:Nat→Prop) (A:Option Addr) (m c:Nat) (news:List Value) (hx:a.eval x=.slice A m c) (hr:Reads w B size A m news) (h1:∀ u∈news,u.oneCell'=true)
 (h63:n+m≤maxLen) (hbytes:(n+m) * bytes≤140737488355328) (hbase:base≤w.heap.size)
 (h:∀ A' c' w',w'.ownsRow base e size (.slice A' (n+m) c') (n+m) (xs ++ news)→w.grownBy w' v.ownBlock→((Value.slice A' (n+m) c').ownBlock=v.ownBlock∨(Value.slice A' (n+m) c').ownBlock=some w.heap.size)→K (a.put o.dst (.slice A' (n+m) c')) w') :
 if Region.wanted o (yielded ops a.tmps)=true then Oper.wp P o a w K Q else E:=by
 have hw:Region.wanted o (yielded ops a.tmps)=true:=by simp[Region.wanted,hgd]
 rw[if_pos hw]
 exact wp_append_any w s x t ho base e z size bytes ht hi hzs hsz v n xs hs hown B A m c news hx hr h1 h63 hbytes hbase h
section
variable {α:Type} {P:Program} {q:IntKind} {m r:Nat} {w w':World} {f:α→Int × Value} {l d:List α}
end
theorem flat_get {α:Type}(f:α→List Value)(s:Nat)(hs:∀ x,(f x).length=s):∀ (l:List α) (k j:Nat) (x:α),l[k]?=some x→j<s→(l.flatMap f)[k * s+j]?=(f x)[j]?
 | [],k,j,x,hx,_=>by simp at hx
 | a :: r,0,j,x,hx,hj=>by
  simp at hx;subst hx
  rw[List.flatMap_cons,List.getElem?_append_left (by rw[hs];omega)];simp
 | a :: r,k+1,j,x,hx,hj=>by
  have:=flat_get f s hs r k j x (by simpa using hx) hj
  rw[List.flatMap_cons,List.getElem?_append_right (by rw[hs,Nat.add_mul];omega),hs,←this]
  congr 1
  rw[Nat.add_mul];omega
theorem flat_length {α:Type}(f:α→List Value)(s:Nat)(hs:∀ x,(f x).length=s):∀ l:List α,(l.flatMap f).length=l.length * s
 | []=>by simp
 | a :: r=>by rw[List.flatMap_cons,List.length_append,hs,flat_length f s hs r,List.length_cons,Nat.add_mul];omega
theorem flat_one (k:IntKind):∀ l:List Int,l.flatMap (fun n:Int=>[Value.int k n])=l.map (Value.int k)
 | []=>rfl
 | a :: r=>by rw[List.flatMap_cons,flat_one k r];rfl
theorem list_of_all {α:Type}{R:Nat→α→Prop}:∀ n:Nat,(∀ i,i<n→∃ a,R i a)→∃ l:List α,l.length=n∧∀ (i:Nat) (a:α),l[i]?=some a→R i a
 | 0,_=>⟨[],rfl,fun i a h=>by simp at h⟩
 | n+1,h=>by
  obtain ⟨l,hl,hr⟩:=list_of_all n (fun i hi=>h i (by omega))
  obtain ⟨a,ha⟩:=h n (by omega)
  refine ⟨l ++ [a],by simp[hl],fun i b hb=>?_⟩
  by_cases hi:i<l.length
  ·rw[List.getElem?_append_left hi] at hb;exact hr i b hb
  ·rw[List.getElem?_append_right (by omega)] at hb
   have h0:i - l.length=0:=by
    have:=(List.getElem?_eq_some_iff.1 hb).1
    simp at this;omega
   rw[h0] at hb
   simp at hb;subst hb
   have:i=n:=by omega
   subst this;exact ha
section
variable {H:Type} {enc:TypeId × Value→H} {P:Program} {w:World}
def Rdy (enc:TypeId × Value→H)(P:Program)(w:World)(t:TypeId)(cs:List Value):Prop:=∃ fuel x,DataW.trod enc P w 0 (fun _=>true) true fuel t cs=some x
theorem Rdy.of_trod {t:TypeId}{v:Value}{d:DataW H}{p:List MemPlace}(h:DataW.Trod enc P w 0 (fun _=>true) true t v d p):Rdy enc P w t v.cells.toList:=by
 obtain ⟨fuel,h⟩:=h
 exact ⟨fuel,_,h⟩
theorem Rdy.int {t:TypeId}{cs:List Value}(h:Rdy enc P w t cs){k:IntKind}(ht:P.underlying t=some (.int k)):∃ n,cs=[.int k n]∧(Lit.int k n).wf=true:=by
 obtain ⟨fuel,x,h⟩:=h
 obtain ⟨n,h1,-,h2⟩:=DataW.trod_int ht h
 exact ⟨n,h1,h2⟩
theorem Rdy.struct {t:TypeId}{cs:List Value}(h:Rdy enc P w t cs){fs:Array Field}(ht:P.underlying t=some (.struct fs)) :
 cs.length=P.cellsOf t∧∀ (i:Nat) (f:Field),fs[i]?=some f→Rdy enc P w f.type ((cs.drop f.offset).take (P.cellsOf f.type)):=by
 obtain ⟨fuel,x,h⟩:=h
 obtain ⟨xs,n,rfl,rfl,h1,h2,h3⟩:=DataW.trod_struct ht h
 refine ⟨h1,fun i f hf=>?_⟩
 have hi:i<xs.length:=by
  rw[h2]
  obtain ⟨hi,-⟩:=Array.getElem?_eq_some_iff.1 hf
  exact hi
 exact ⟨n,xs[i],(h3 i f hf).trans (List.getElem?_eq_getElem hi)⟩
theorem Rdy.array {t:TypeId}{cs:List Value}(h:Rdy enc P w t cs){n:Nat}{e:TypeId}(ht:P.underlying t=some (.array n e)) :
 cs.length=P.cellsOf t∧∀ (i:Nat),i<n→Rdy enc P w e ((cs.drop (i * P.cellsOf e)).take (P.cellsOf e)):=by
 obtain ⟨fuel,x,h⟩:=h
 obtain ⟨xs,m,rfl,rfl,h1,h2,h3⟩:=DataW.trod_array ht h
 exact ⟨h1,fun i hi=>⟨m,xs[i]'(by omega),(h3 i hi).trans (List.getElem?_eq_getElem (by omega))⟩⟩
theorem cells_get {a:Addr}{n:Nat}{es:List Value}(h:w.cells? 0 a n=some es):es.length=n∧∀ i,i<n→w.cell? (a.add i)=es[i]?:=by
 unfold World.cells? at h
 rw[if_pos (Nat.zero_le _)] at h
 exact ⟨by simpa using mapM_some_length h,fun i hi=>mapM_some_get h i i (by simp[hi])⟩
theorem Rdy.slice {t:TypeId}{cs:List Value}(h:Rdy enc P w t cs){e:TypeId}(ht:P.underlying t=some (.slice e)) :
 ∃ A n c,cs=[.slice A n c]∧n≤c∧c≤maxLen∧(A=none→c=0)∧∀ a,A=some a→∀ i,i<n→∃ es,w.cells? 0 (a.add (i * P.cellsOf e)) (P.cellsOf e)=some es∧Rdy enc P w e es:=by
 obtain ⟨fuel,x,h⟩:=h
 rcases DataW.trod_slice ht h with ⟨h1,-⟩ | ⟨a,len,cap,elems,rest,n,rfl,rfl,rfl,hb,hl,hm,hlen,hel,-,-⟩
 ·exact ⟨none,0,0,h1,Nat.le_refl _,Nat.zero_le _,fun _=>rfl,fun a h=>by cases h⟩
 ·refine ⟨some a,len,cap,rfl,hl,hm,(fun h=>by cases h),fun a' ha i hi=>?_⟩
  cases ha
  have h1:=hel i hi
  rw[List.getElem?_eq_getElem (by omega),Option.bind_eq_some_iff] at h1
  obtain ⟨es,h2,h3⟩:=h1
  exact ⟨es,h2,n,_,h3⟩
theorem Rdy.rows {α:Type}{t:TypeId}{cs:List Value}(h:Rdy enc P w t cs){e:TypeId}(ht:P.underlying t=some (.slice e)){size:Nat}(hsz:P.cellsOf e=size)(hpos:0<size)(f:α→List Value)(hf:∀ x,(f x).length=size)(Q:α→Prop)
 (hel:∀ es,Rdy enc P w e es→∃ a,es=f a∧Q a) :
 ∃ A c,∃ l:List α,cs=[.slice A l.length c]∧l.length≤c∧c≤maxLen∧Reads w (· < w.heap.size) size A l.length (l.flatMap f)∧∀ a∈l,Q a:=by
 obtain ⟨A,n,c,rfl,hnc,hcm,hA,hx⟩:=h.slice ht
 rw[hsz] at hx
 cases A with
 | none=>
  have:n=0:=by have:=hA rfl;omega
  subst this
  exact ⟨none,c,[],rfl,by simp,hcm,Reads.none_,by simp⟩
 | some ad=>
  obtain ⟨l,hl,hr⟩:=list_of_all (R:=fun i a=>w.cells? 0 (ad.add (i * size)) size=some (f a)∧Q a) n (fun i hi=>by
   obtain ⟨es,h1,h2⟩:=hx ad rfl i hi
   obtain ⟨a,rfl,h3⟩:=hel es h2
   exact ⟨a,h1,h3⟩)
  have hcell:∀ j u,(l.flatMap f)[j]?=some u→w.cell? (ad.add j)=some u:=by
   intro j u hu
   have hj:j<l.length * size:=by
    have:=(List.getElem?_eq_some_iff.1 hu).1
    rw[flat_length f size hf] at this;exact this
   have hk:j / size<l.length:=Nat.div_lt_of_lt_mul (by rw[Nat.mul_comm];exact hj)
   have hm:j % size<size:=Nat.mod_lt _ hpos
   have hjj:j / size * size+j % size=j:=by rw[Nat.mul_comm];exact Nat.div_add_mod j size
   have h1:=hr (j / size) _ (List.getElem?_eq_getElem hk)
   obtain ⟨-,h2⟩:=cells_get h1.1
   have h3:=h2 (j % size) hm
   rw[add_of_add,hjj] at h3
   rw[h3,←flat_get f size hf l (j / size) (j % size) _ (List.getElem?_eq_getElem hk) hm,hjj]
   exact hu
  refine ⟨some ad,c,l,by rw[hl],by omega,hcm,⟨by rw[flat_length f size hf],fun hn=>⟨ad,rfl,?_,hcell⟩⟩,fun a ha=>?_⟩
  ·have h0:0<(l.flatMap f).length:=by rw[flat_length f size hf];exact Nat.mul_pos hn hpos
   have:=block_lt_of_cell (hcell 0 _ (List.getElem?_eq_getElem h0))
   rwa [block_of_add] at this
  ·obtain ⟨i,hi⟩:=List.mem_iff_getElem?.1 ha
   exact (hr i a hi).2
theorem Rdy.ints {t:TypeId}{cs:List Value}(h:Rdy enc P w t cs){e:TypeId}(ht:P.underlying t=some (.slice e)){k:IntKind}(he:P.underlying e=some (.int k))(hc:P.cellsOf e=1) :
 ∃ A c,∃ l:List Int,cs=[.slice A l.length c]∧l.length≤c∧c≤maxLen∧Reads w (· < w.heap.size) 1 A l.length (l.map (Value.int k))∧∀ n∈l,(Lit.int k n).wf=true:=by
 obtain ⟨A,c,l,h1,h2,h3,h4,h5⟩:=h.rows ht hc (by omega) (fun n:Int=>[Value.int k n]) (fun _=>rfl) (fun n=>(Lit.int k n).wf=true) (fun es hes=>by
  obtain ⟨n,rfl,hw⟩:=hes.int he
  exact ⟨n,rfl,hw⟩)
 refine ⟨A,c,l,h1,h2,h3,?_,h5⟩
 rw[flat_one] at h4;exact h4
end
end Go.Own
namespace Go.Quo
def gd (l:List Int)(k:Nat):Int:=l.getD k 0
theorem gd_get {l:List Int}{k:Nat}(h:k<l.length):gd l k=l[k]:=by simp[gd,List.getD,List.getElem?_eq_getElem h]
def okAt (l:List Int)(i:Nat):Bool:=decide (0≤gd l i) && decide (gd l i≤63) && (decide (i=0) || decide (gd l (i - 1)<gd l i))
def ascB (l:List Int):Bool:=(List.range l.length).all (okAt l)
def mlB (l:List Int):Bool:=decide (1≤l.length) && decide (l.length≤9) && ascB l
theorem asc_bad {l:List Int}{k:Nat}(hk:k<l.length)(h:okAt l k=false):ascB l=false:=by
 unfold ascB
 rw[List.all_eq_false]
 exact ⟨k,by simpa using hk,by simp[h]⟩
theorem asc_all {l:List Int}(h:∀ j,j<l.length→okAt l j=true):ascB l=true:=by
 unfold ascB
 rw[List.all_eq_true]
 intro k hk
 exact h k (by simpa using hk)
def hasB (l:List Int)(x:Int):Bool:=l.contains x
def cnt (l yes:List Int):Nat:=(l.filter (hasB yes)).length
theorem cnt_le (l yes:List Int):cnt l yes≤l.length:=List.length_filter_le _ _
theorem cnt_step (l yes:List Int)(k:Nat)(hk:k<l.length):cnt (l.take (k+1)) yes=cnt (l.take k) yes+if hasB yes (gd l k)=true then 1 else 0:=by
 unfold cnt
 rw[List.take_succ_eq_append_getElem hk,List.filter_append,List.length_append]
 rw[gd_get hk]
 cases h:hasB yes l[k] with
 | true=>rw[List.filter_cons_of_pos (by simpa using h)];simp
 | false=>rw[List.filter_cons_of_neg (by simp only[h];exact Bool.false_ne_true)];simp
def conQ (l yes:List Int):Bool:=decide (l.length / 2+1≤cnt l yes)
def vB (o n:List Int):Bool:=mlB o && (decide (n.length=0) || mlB n)
def reachB (o n yes:List Int):Bool:=vB o n && conQ o yes && (decide (n.length=0) || conQ n yes)
theorem has_iff (yes:List Int)(x:Int):hasB yes x=true↔∃ j,j<yes.length∧gd yes j=x:=by
 unfold hasB
 rw[List.contains_iff_mem,List.mem_iff_getElem]
 constructor
 ·rintro ⟨j,hj,e⟩
  exact ⟨j,hj,by rw[gd_get hj,e]⟩
 ·rintro ⟨j,hj,e⟩
  exact ⟨j,hj,by rw[gd_get hj] at e;exact e⟩
theorem has_no {yes:List Int}{x:Int}(h:∀ j,j<yes.length→gd yes j≠x):hasB yes x=false:=by
 cases hc:hasB yes x with
 | false=>rfl
 | true=>
  obtain ⟨j,hj,e⟩:=(has_iff yes x).1 hc
  exact absurd e (h j hj)
end Go.Quo

import Derived.Test.YtdfobfjpkjddpaaGreatUIo
import Derived.WalkKit
import Derived.WalkSpells
import Derived.WalkLawsBesides
import Derived.Deep.QuietTactic
import Derived.BigQuiet
import Derived.Lib.Hide
import Derived.StillTailTactics
import Derived.Maps.RangeRun
import Derived.Maps.AppendAt
import Derived.Deep.AppendLies
set_option linter.unusedVariables false
set_option linter.unusedSimpArgs false
namespace Go.Own
open Go.RowKit
def Blk (w:World)(g:Nat)(t:TypeId)(cs:Array Value):Prop:=w.heap[g]?=some (.cells cs t (0,0))
section
variable {w w':World} {g:Nat} {t:TypeId} {cs:Array Value}
theorem Blk.lt (h:Blk w g t cs):g<w.heap.size:=by
 rcases Nat.lt_or_ge g w.heap.size with hlt | hge
 ·exact hlt
 ·unfold Blk at h;rw[Array.getElem?_eq_none hge] at h;cases h
theorem Blk.cell (h:Blk w g t cs)(i:Nat):w.cell? ⟨g,i,none⟩=cs[i]?:=cell_of_row w g i cs t (0,0) h
theorem Blk.frozen (h:Blk w g t cs)(i:Nat):w.frozen? ⟨g,i,none⟩=false:=by
 unfold Blk at h
 simp[World.frozen?,h]
theorem Blk.facts (h:Blk w g t cs):g<w.heap.size∧(∀ i,w.cell? ⟨g,i,none⟩=cs[i]?)∧(∀ i,w.frozen? ⟨g,i,none⟩=false):=⟨h.lt,h.cell,h.frozen⟩
theorem Blk.new (w:World)(t:TypeId)(cs:Array Value):Blk (w.alloc (.cells cs t)) w.heap.size t cs:=heap_alloc_new w _
theorem Blk.drew (h:Blk w g t cs):Blk w.drew g t cs:=h
theorem Blk.drewN (h:Blk w g t cs)(n:Nat):Blk (w.drewN n) g t cs:=h
theorem Blk.alloc (h:Blk w g t cs)(o:Obj):Blk (w.alloc o) g t cs:=(Below.heap_alloc w o g h.lt).trans h
theorem Blk.set_ (h:Blk w g t cs)(i:Nat)(u:Value):Blk (w.setCell ⟨g,i,none⟩ u) g t (cs.setIfInBounds i u):=by
 unfold Blk at h⊢
 simp[World.setCell,Array.getElem?_modify,h]
theorem Blk.far (h:Blk w g t cs){p:Addr}(hp:g≠p.block)(u:Value):Blk (w.setCell p u) g t cs:=(Below.heap_setCell w p u g hp).trans h
theorem Blk.below {B:Nat}(h:Blk w g t cs)(hb:Below B w w')(hg:g<B):Blk w' g t cs:=(hb.block g hg).trans h
theorem Blk.ne_ {g':Nat}{t':TypeId}{cs':Array Value}(h:Blk w g t cs)(h':Blk w g' t' cs')(hne:t≠t'):g≠g':=by
 rintro rfl
 unfold Blk at h h'
 rw[h] at h'
 injection h' with h'
 injection h' with _ ht
 exact hne ht
end
structure Fr (S:Nat→Prop) (w w':World):Prop where
 os:w'.os=w.os
 tape:w'.tape=w.tape
 output:w'.output=w.output
 size:w.heap.size≤w'.heap.size
 block:∀ k,k<w.heap.size→¬ S k→w'.heap[k]?=w.heap[k]?
section
variable {S T:Nat→Prop} {a b c w w':World}
theorem Fr.refl (S:Nat→Prop)(w:World):Fr S w w:=⟨rfl,rfl,rfl,Nat.le_refl _,fun _ _ _=>rfl⟩
theorem Fr.trans (h:Fr S a b)(k:Fr S b c):Fr S a c:=
 ⟨k.os.trans h.os,k.tape.trans h.tape,k.output.trans h.output,Nat.le_trans h.size k.size,fun i hi hn=>(k.block i (Nat.lt_of_lt_of_le hi h.size) hn).trans (h.block i hi hn)⟩
theorem Fr.mono (h:Fr S a b)(hs:∀ k,k<a.heap.size→S k→T k):Fr T a b:=⟨h.os,h.tape,h.output,h.size,fun k hk hn=>h.block k hk (fun hS=>hn (hs k hk hS))⟩
theorem Fr.drew (h:Fr S a w):Fr S a w.drew:=⟨h.os,h.tape,h.output,h.size,h.block⟩
theorem Fr.drewN (h:Fr S a w)(n:Nat):Fr S a (w.drewN n):=⟨h.os,h.tape,h.output,h.size,h.block⟩
theorem Fr.alloc (h:Fr S a w)(o:Obj):Fr S a (w.alloc o):=
 ⟨h.os,h.tape,h.output,Nat.le_trans h.size (by simp),fun k hk hn=>(Below.heap_alloc w o k (Nat.lt_of_lt_of_le hk h.size)).trans (h.block k hk hn)⟩
theorem Fr.setCell (h:Fr S a w){p:Addr}(hp:S p.block∨a.heap.size≤p.block)(u:Value):Fr S a (w.setCell p u):=
 ⟨h.os,h.tape,h.output,by simpa [World.setCell] using h.size,fun k hk hn=>(Below.heap_setCell w p u k (by
  rintro rfl
  rcases hp with hp | hp
  ·exact hn hp
  ·omega)).trans (h.block k hk hn)⟩
theorem Fr.of_below (h:Below a.heap.size a w):Fr S a w:=⟨h.os,h.tape,h.output,h.size,fun i hi _=>h.block i hi⟩
theorem Fr.below {B:Nat}(h:Fr S a w)(hB:B≤a.heap.size)(hs:∀ k,k<B→¬ S k):Below B a w:=⟨h.os,h.tape,h.output,h.size,fun k hk=>h.block k (by omega) (hs k hk)⟩
theorem Fr.grown {row:Option Nat}(h:Fr S a w)(hg:w.grownBy w' row)(hr:∀ k,row=some k→S k∨a.heap.size≤k):Fr S a w':=
 ⟨hg.os.trans h.os,hg.tape.trans h.tape,hg.output.trans h.output,Nat.le_trans h.size hg.size,fun k hk hn=>(hg.block k (Nat.lt_of_lt_of_le hk h.size) (fun e=>by
  rcases hr k e.symm with h1 | h1
  ·exact hn h1
  ·omega)).trans (h.block k hk hn)⟩
theorem Blk.fr {g:Nat}{t:TypeId}{cs:Array Value}(h:Blk w g t cs)(hf:Fr S w w')(hn:¬ S g):Blk w' g t cs:=(hf.block g h.lt hn).trans h
end
def MapB (w:World)(m:Nat)(q:IntKind)(kvs:List (Int × Value)):Prop:=
 ∃ es clock,w.heap[m]?=some (.map es clock)∧es.toList.map (fun e=>(e.key,e.val))=kvs.map (fun p=>(Value.int q p.1,p.2)) ∧
  (es.toList.map (·.born)).Nodup∧∀ e∈es.toList,e.born<clock
def kget (kvs:List (Int × Value))(k:Int):Option Value:=(kvs.find? (·.1 == k)).map (·.2)
def kput:List (Int × Value)→Int→Value→List (Int × Value)
 | [],k,v=>[(k,v)]
 | p :: r,k,v=>if p.1 == k then (k,v) :: r else p :: kput r k v
section
variable {w w':World} {m:Nat} {q:IntKind} {kvs:List (Int × Value)}
theorem MapB.lt (h:MapB w m q kvs):m<w.heap.size:=by
 obtain ⟨es,clock,h,_⟩:=h
 rcases Nat.lt_or_ge m w.heap.size with hlt | hge
 ·exact hlt
 ·rw[Array.getElem?_eq_none hge] at h;cases h
theorem MapB.of_block (h:MapB w m q kvs)(e:w'.heap[m]?=w.heap[m]?):MapB w' m q kvs:=by
 obtain ⟨es,clock,h,r⟩:=h
 exact ⟨es,clock,e.trans h,r⟩
theorem MapB.new (w:World)(q:IntKind):MapB (w.alloc (.map #[] 0)) w.heap.size q []:=⟨#[],0,heap_alloc_new w _,rfl,by simp,by simp⟩
theorem MapB.alloc (h:MapB w m q kvs)(o:Obj):MapB (w.alloc o) m q kvs:=h.of_block (Below.heap_alloc w o m h.lt)
theorem MapB.fr {S:Nat→Prop}(h:MapB w m q kvs)(hf:Fr S w w')(hn:¬ S m):MapB w' m q kvs:=h.of_block (hf.block m h.lt hn)
theorem findNow_int (k:Int):∀ (es:List MapEntry) (kvs:List (Int × Value)) (i:Nat),es.map (fun e=>(e.key,e.val))=kvs.map (fun p=>(Value.int q p.1,p.2)) →
 Instr.findNow (.int q) (.int q k) es i=some ((kvs.findIdx? (·.1 == k)).bind fun j=>(kvs[j]?).map fun p=>(i+j,p.2))
 | [],kvs,i,h=>by
  cases kvs with
  | nil=>simp[Instr.findNow]
  | cons p r=>simp at h
 | e :: es,kvs,i,h=>by
  cases kvs with
  | nil=>simp at h
  | cons p r=>
   simp only[List.map_cons,List.cons.injEq,Prod.mk.injEq] at h
   obtain ⟨⟨h1,h2⟩,h3⟩:=h
   have ih:=findNow_int k es r (i+1) h3
   simp only[Instr.findNow,h1,Instr.sameNow,if_true,List.findIdx?_cons]
   by_cases hk:p.1=k
   ·simp[hk,h2]
   ·have hk':(k == p.1)=false:=by simp;omega
    have hk2:(p.1 == k)=false:=by simp;omega
    simp only[hk',hk2,ih,Bool.false_eq_true,if_false]
    congr 1
    cases List.findIdx? (fun x=>x.1 == k) r with
    | none=>rfl
    | some j=>simp;congr 1;funext x;congr 1;omega
theorem run_checkKey_int {P:Program}{K:TypeId}(b:Bool)(n:Nat)(hK:P.underlying K=some (.int q))(k:Int)(w:World) :
 (Instr.checkKey b (n+1) K (.int q k)).run P w=.ok () w:=by
 simp[Instr.checkKey,run_underlying hK]
theorem findIdx_kget (k:Int):∀ (kvs:List (Int × Value)) (i:Nat),(((kvs.findIdx? (·.1 == k)).bind fun j=>(kvs[j]?).map fun p=>(i+j,p.2)).map (·.2))=kget kvs k
 | [],i=>by simp[kget]
 | p :: r,i=>by
  have ih:=findIdx_kget k r (i+1)
  unfold kget at ih⊢
  simp only[List.findIdx?_cons,List.find?_cons]
  by_cases hk:p.1=k
  ·simp[hk]
  ·have hk2:(p.1 == k)=false:=by simp;omega
   simp only[hk2,Bool.false_eq_true,if_false]
   rw[←ih]
   cases List.findIdx? (fun x=>x.1 == k) r with
   | none=>rfl
   | some j=>simp[Function.comp_def]
theorem MapB.lookup {P:Program}{T K E:TypeId}{z:Value}(h:MapB w m q kvs)(hT:P.underlying T=some (.map K E))(hK:P.underlying K=some (.int q))(hz:∀ w,(zeroValue E).run P w=.ok z w)(k:Int)(c:Bool) :
 (Instr.lookup T (.map (some m)) (.int q k) c).run P w=.ok (if c then .tuple #[(kget kvs k).getD z,.bool (kget kvs k).isSome] else (kget kvs k).getD z) w:=by
 obtain ⟨es,clock,hm,he,-,-⟩:=h
 have hf:=findNow_int (q:=q) k es.toList kvs 0 he
 have hg:=findIdx_kget k kvs 0
 simp only[Instr.lookup,Sem.run_bind,run_underlying hT,Result.andThen_ok,getObj,Sem.run,hm,Sem.run_pure,run_checkKey_int _ 9999 hK,Instr.findKey,run_underlying hK,hf]
 rw[←hg]
 cases hj:((kvs.findIdx? (·.1 == k)).bind fun j=>(kvs[j]?).map fun p=>(0+j,p.2)) with
 | none=>cases c <;> simp[hz]
 | some r=>cases c <;> simp
theorem kput_findIdx (k:Int)(v:Value):∀ (kvs:List (Int × Value)),kput kvs k v=match kvs.findIdx? (·.1 == k) with | some j=>kvs.set j (k,v) | none=>kvs ++ [(k,v)]
 | []=>by simp[kput]
 | p :: r=>by
  have ih:=kput_findIdx k v r
  simp only[kput,List.findIdx?_cons]
  by_cases hk:p.1=k
  ·simp[hk]
  ·have hk2:(p.1 == k)=false:=by simp;omega
   simp only[hk2,Bool.false_eq_true,if_false,ih]
   cases List.findIdx? (fun x=>x.1 == k) r with
   | none=>simp
   | some j=>simp
def idxOf (_q:IntKind)(k:Int)(es:Array MapEntry):Option Nat:=es.toList.findIdx? (fun e=>match e.key with | .int _ n=>n == k | _=>false)
def putObM (q:IntKind)(k:Int)(v:Value):Obj→Obj
 | .map es clock=>match idxOf q k es with
  | some i=>.map (es.modify i fun e=>{ e with key:=.int q k,val:=v }) clock
  | none=>.map (es.push { key:=.int q k,val:=v,born:=clock }) (clock+1)
 | o=>o
def mput (w:World)(m:Nat)(q:IntKind)(k:Int)(v:Value):World:={ w with heap:=w.heap.modify m (putObM q k v) }
@[simp,go_sem] theorem size_mput (w:World) (m:Nat) (q:IntKind) (k:Int) (v:Value):(mput w m q k v).heap.size=w.heap.size:=by simp[mput]
theorem mput_far (w:World)(m:Nat)(q:IntKind)(k:Int)(v:Value)(b:Nat)(h:b≠m):(mput w m q k v).heap[b]?=w.heap[b]?:=by
 simp only[mput,Array.getElem?_modify];rw[if_neg (by omega)]
theorem Fr.mput {S:Nat→Prop}{a w:World}(h:Fr S a w){b:Nat}(hb:S b∨a.heap.size≤b)(q:IntKind)(k:Int)(v:Value):Fr S a (mput w b q k v):=
 ⟨h.os,h.tape,h.output,by rw[size_mput];exact h.size,fun j hj hn=>(mput_far w b q k v j (by
  rintro rfl
  rcases hb with hp | hp
  ·exact hn hp
  ·omega)).trans (h.block j hj hn)⟩
theorem idxOf_corr (k:Int){kvs:List (Int × Value)}{es:Array MapEntry}(he:es.toList.map (fun e=>(e.key,e.val))=kvs.map (fun p=>(Value.int q p.1,p.2))):idxOf q k es=kvs.findIdx? (·.1 == k):=by
 unfold idxOf
 obtain ⟨es⟩:=es
 simp only at he⊢
 induction es generalizing kvs with
 | nil=>cases kvs with
  | nil=>rfl
  | cons p r=>simp at he
 | cons e es ih=>cases kvs with
  | nil=>simp at he
  | cons p r=>
   simp only[List.map_cons,List.cons.injEq,Prod.mk.injEq] at he
   simp only[List.findIdx?_cons,he.1.1,ih he.2]
theorem MapB.put (h:MapB w m q kvs)(k:Int)(v:Value):MapB (mput w m q k v) m q (kput kvs k v):=by
 obtain ⟨es,clock,hm,he,hn,hb⟩:=h
 have hp:=kput_findIdx k v kvs
 have hi:=idxOf_corr k he
 have hat:(mput w m q k v).heap[m]?=some (putObM q k v (.map es clock)):=by simp only[mput,Array.getElem?_modify,if_true,hm,Option.map_some]
 cases hj:kvs.findIdx? (·.1 == k) with
 | none=>
  rw[hj] at hp hi
  refine ⟨_,_,by rw[hat];simp only[putObM,hi];rfl,?_,?_,?_⟩
  ·rw[hp];simp[he]
  ·simp only[Array.toList_push,List.map_append,List.map_cons,List.map_nil]
   rw[List.nodup_append]
   refine ⟨hn,by simp,?_⟩
   intro a ha b hb' e
   obtain ⟨x,hx,rfl⟩:=List.mem_map.1 ha
   have:=hb x hx
   simp at hb'
   omega
  ·intro e hee
   simp only[Array.toList_push,List.mem_append,List.mem_cons,List.not_mem_nil,or_false] at hee
   rcases hee with hee | rfl
   ·have:=hb e hee;omega
   ·simp
 | some j=>
  rw[hj] at hp hi
  obtain ⟨hjl,hjk,-⟩:=List.findIdx?_eq_some_iff_getElem.1 hj
  have hlen:es.toList.length=kvs.length:=by simpa using congrArg List.length he
  have hmod:=Go.ChangeMaps.modify_eq_set (fun e:MapEntry=>{ e with key:=.int q k,val:=v }) es.toList j _ (List.getElem?_eq_getElem (show j<es.toList.length by omega))
  refine ⟨_,_,by rw[hat];simp only[putObM,hi];rfl,?_,?_,?_⟩
  ·rw[hp,Array.toList_modify,hmod,List.map_set,he,List.map_set]
  ·have e:(es.modify j fun e=>{ e with key:=.int q k,val:=v }).toList.map (·.born)=es.toList.map (·.born):=by
    rw[Array.toList_modify,hmod,List.map_set]
    apply List.ext_getElem?
    intro i
    rw[List.getElem?_set]
    by_cases hij:j=i
    ·subst hij;simp[show j<es.size by simpa using (by omega:j<es.toList.length)]
    ·simp[hij]
   rw[e];exact hn
  ·intro e hee
   rw[Array.toList_modify,hmod] at hee
   rcases List.mem_or_eq_of_mem_set hee with hee | rfl
   ·exact hb e hee
   ·exact hb (es.toList[j]'(by omega)) (List.getElem_mem _)
theorem modify_at (w:World)(m:Nat)(f:Obj→Obj)(o:Obj)(h:w.heap[m]?=some o):({ w with heap:=w.heap.setIfInBounds m (f o) }:World) = { w with heap:=w.heap.modify m f }:=by
 congr 1
 apply Array.ext_getElem?
 intro i
 rw[Array.getElem?_setIfInBounds,Array.getElem?_modify]
 by_cases hi:m=i
 ·subst hi
  obtain ⟨hlt,-⟩:=Array.getElem?_eq_some_iff.1 h
  rw[if_pos rfl,if_pos rfl,h,if_pos hlt];rfl
 ·rw[if_neg hi,if_neg hi]
theorem MapB.update {P:Program}{T K E:TypeId}(h:MapB w m q kvs)(hT:P.underlying T=some (.map K E))(hK:P.underlying K=some (.int q))(k:Int)(v:Value) :
 (Instr.mapUpdate T (.map (some m)) (.int q k) v).run P w=.ok () (mput w m q k v):=by
 obtain ⟨es,clock,hm,he,hn,hb⟩:=h
 have hf:=findNow_int (q:=q) k es.toList kvs 0 he
 have hi:=idxOf_corr k he
 simp only[Instr.mapUpdate,Sem.run_bind,run_underlying hT,Result.andThen_ok,getObj,Sem.run,hm,Sem.run_pure,run_checkKey_int _ 9999 hK,Instr.findKey,run_underlying hK,hf]
 unfold mput
 rw[←modify_at w m _ _ hm]
 cases hj:kvs.findIdx? (·.1 == k) with
 | none=>
  rw[hj] at hi
  simp[setObj,Sem.run,hm,putObM,hi]
 | some j=>
  rw[hj] at hi
  obtain ⟨hjl,hjk,-⟩:=List.findIdx?_eq_some_iff_getElem.1 hj
  have hlen:es.toList.length=kvs.length:=by simpa using congrArg List.length he
  have hjk':(kvs[j]).1=k:=by simpa using hjk
  have hkey:(es.toList[j]'(by omega)).key=.int q k:=by
   have:=congrArg (fun l=>l[j]?) he
   simp only[List.getElem?_map,List.getElem?_eq_getElem hjl,List.getElem?_eq_getElem (show j<es.toList.length by omega),Option.map_some,Option.some.injEq,Prod.mk.injEq] at this
   rw[this.1,hjk']
  have hkey2:(es[j]?).map (·.key)=some (Value.int q k):=by
   rw[←Array.getElem?_toList,List.getElem?_eq_getElem (by omega)];simp[←hkey]
  simp[List.getElem?_eq_getElem hjl,Instr.keyThatStays,hkey2,Instr.sameBits,setObj,Sem.run,hm,putObM,hi]
end
theorem block_of_add (a:Addr)(n:Nat):(a.add n).block=a.block:=by unfold Addr.add;split <;> rfl
theorem add_of_add (a:Addr)(i j:Nat):(a.add i).add j=a.add (i+j):=by
 unfold Addr.add
 by_cases hi:i=0 <;> by_cases hj:j=0 <;> simp[hi,hj,Nat.add_assoc]
def Reads (w:World)(B:Nat→Prop)(size:Nat)(A:Option Addr)(n:Nat)(xs:List Value):Prop:=
 xs.length=n * size∧(0<n→∃ ad,A=some ad∧B ad.block∧∀ j u,xs[j]?=some u→w.cell? (ad.add j)=some u)
section
variable {w w':World} {B B':Nat→Prop} {size n:Nat} {A:Option Addr} {xs:List Value}
theorem Reads.none_:Reads w B size A 0 []:=⟨by simp,fun h=>absurd h (by omega)⟩
theorem Reads.keep (h:Reads w B size A n xs)(hk:∀ p:Addr,B p.block→(w.cell? p).isSome→w'.cell? p=w.cell? p):Reads w' B size A n xs:=
 ⟨h.1,fun hn=>by
  obtain ⟨ad,e,hb,hc⟩:=h.2 hn
  exact ⟨ad,e,hb,fun j u hu=>(hk _ (by rw[block_of_add];exact hb) (by rw[hc j u hu];rfl)).trans (hc j u hu)⟩⟩
theorem Reads.more (h:Reads w B size A n xs)(hB:∀ k,B k→B' k):Reads w B' size A n xs:=
 ⟨h.1,fun hn=>by
  obtain ⟨ad,e,hb,hc⟩:=h.2 hn
  exact ⟨ad,e,hB _ hb,hc⟩⟩
theorem Reads.below {b:Nat}(h:Reads w B size A n xs)(hb:Below b w w')(hB:∀ k,B k→k<b):Reads w' B size A n xs:=h.keep fun _ hp _=>hb.cell (hB _ hp)
theorem Reads.drew (h:Reads w B size A n xs):Reads w.drew B size A n xs:=h
theorem Reads.drewN (h:Reads w B size A n xs)(k:Nat):Reads (w.drewN k) B size A n xs:=h
theorem Reads.alloc (h:Reads w B size A n xs)(o:Obj):Reads (w.alloc o) B size A n xs:=
 h.keep fun p _ hs=>by
  cases hc:w.cell? p with
  | none=>rw[hc] at hs;cases hs
  | some v=>rw[World.cell?_alloc_lt w o p (block_lt_of_cell hc)];exact hc
theorem Reads.setCell (h:Reads w B size A n xs){p:Addr}(hB:¬ B p.block)(u:Value):Reads (w.setCell p u) B size A n xs:=
 h.keep fun q hq _=>World.cell?_setCell_other w p q u (fun e=>by subst e;exact hB hq)
theorem Reads.fr {S:Nat→Prop}(h:Reads w B size A n xs)(hf:Fr S w w')(hS:∀ k,B k→¬ S k):Reads w' B size A n xs:=
 h.keep fun p hp hs=>World.cell?_of_block (hf.block p.block (by
  cases hc:w.cell? p with
  | none=>rw[hc] at hs;cases hs
  | some v=>exact block_lt_of_cell hc) (hS _ hp))
theorem Reads.cut (h:Reads w B size A n xs){k cap:Nat}(hk:k≤n)(hc:n≤cap) :
 Reads w B size (if cap=k then A else A.map (·.add (k * size))) (n - k) (xs.drop (k * size)):=by
 refine ⟨by rw[List.length_drop,h.1,Nat.sub_mul],fun hn=>?_⟩
 obtain ⟨ad,rfl,hb,hcell⟩:=h.2 (by omega)
 rw[if_neg (by omega)]
 refine ⟨ad.add (k * size),rfl,by rw[block_of_add];exact hb,fun j u hu=>?_⟩
 rw[add_of_add]
 exact hcell _ u (by rw[←hu,List.getElem?_drop])
theorem Reads.of_blk {g:Nat}{t:TypeId}{cs:Array Value}(h:Blk w g t cs)(hn:n * size≤cs.size)(hg:B g):Reads w B size (some ⟨g,0,none⟩) n (cs.toList.take (n * size)):=by
 refine ⟨by simp;omega,fun _=>⟨_,rfl,hg,fun j u hu=>?_⟩⟩
 have hj:j<n * size:=by
  have:=(List.getElem?_eq_some_iff.1 hu).1
  simp at this;omega
 rw[Addr.add_lit,h.cell]
 rw[List.getElem?_take,if_pos hj] at hu
 simpa using hu
theorem Reads.of_own {base:Nat}{e:TypeId}{c:Nat}(h:w.ownsRow base e size (.slice A n c) n xs):Reads w (fun k=>(Value.slice A n c).ownBlock=some k) size A n xs:=by
 refine ⟨h.1,fun hn=>?_⟩
 obtain ⟨g,cap,hv,_,hlt⟩:=h.form hn
 have hA:A=some ⟨g,0,none⟩:=by injection hv
 subst hA
 exact ⟨_,rfl,rfl,h.cells (g:=g) rfl⟩
theorem madeCells_one (z:Value)(n:Nat):madeCells #[z] n=(List.replicate n z).toArray:=by
 apply Array.ext'
 rw[toList_madeCells_one]
theorem run_make_rowN {P:Program}(t e:TypeId)(i:TypeInfo)(z:Value)(ht:P.underlying t=some (.slice e))(hi:P.info? e=some i)(hz:i.zero=some z)
 (kl kc:IntKind) (n c:Nat) (hnc:n≤c) (hbytes:i.bytes * c≤281474976710656) (h63:c≤9223372036854775807) (w:World) :
 (Instr.makeSlice t (.int kl (n:Int)) (.int kc (c:Int))).run P w=.ok (.slice (some ⟨w.heap.size,0,none⟩) n c) (w.alloc (.cells (madeCells z.cells (c * i.size)) e)):=by
 have hb:(i.bytes:Int) * (c:Int)≤281474976710656:=by
  have h:((i.bytes * c:Nat):Int)≤281474976710656:=by omega
  rwa [Int.natCast_mul] at h
 have hr:=run_make (P:=P) w t e i z ht hi hz kl kc n c (by omega) (by omega) hb (by omega)
 simp only[Int.toNat_natCast] at hr
 exact hr
def zrow (z:Value)(n:Nat):Array Value:=(List.replicate n z).toArray
theorem size_zrow (z:Value)(n:Nat):(zrow z n).size=n:=by simp[zrow]
theorem run_make1 {P:Program}(t e:TypeId)(z:Value)(bytes:Nat)(ht:P.underlying t=some (.slice e))(hi:(P.info? e).map (fun i=>(i.zero,i.size,i.bytes))=some (some z,1,bytes))(hz:z.cells=#[z])
 (n:Nat) (hbytes:bytes * n≤281474976710656) (hn:n≤9223372036854775807) (w:World) :
 (Instr.makeSlice t (.int .i64 (n:Int)) (.int .i64 (n:Int))).run P w=.ok (.slice (some ⟨w.heap.size,0,none⟩) n n) (w.alloc (.cells (zrow z n) e)):=by
 obtain ⟨i,hi,hz0,hz1,hz2⟩:=info_parts hi
 have:=run_make_rowN (P:=P) t e i z ht hi hz0 .i64 .i64 n n (Nat.le_refl _) (by rw[hz2];exact hbytes) hn w
 rw[this,hz1,hz,Nat.mul_one,madeCells_one];rfl
theorem run_copy_new {P:Program}(dT sT ty elem:TypeId)(hu:P.underlying dT=some (.slice elem))(hs:(P.info? elem).map (·.size)=some 1)
 {w:World} {B:Nat→Prop} {A:Option Addr} {n c d:Nat} {xs:List Value} (t:TypeId) (cur:Array Value) (hr:Reads w B 1 A n xs) (h1:∀ v∈xs,v.oneCell'=true) (hc:cur.size=n) (g:Nat) (hg:g=w.heap.size) :
 (Builtin.copy_ #[dT,sT] ty #[.slice (some ⟨g,0,none⟩) n d,.slice A n c]).run P (w.alloc (.cells cur t))=.ok (goInt n) (w.alloc (.cells xs.toArray t)):=by
 subst hg
 have hl:xs.length=n:=by simpa using hr.1
 rcases Nat.eq_zero_or_pos n with h0 | h0
 ·subst h0
  have hx:xs=[]:=List.eq_nil_of_length_eq_zero hl
  have hcur:cur=#[]:=Array.eq_empty_of_size_eq_zero hc
  subst hx hcur
  exact run_copy_none (P:=P) _ dT sT ty elem _ _ _ _ _ _ hu hs rfl
 ·obtain ⟨ad,rfl,hb,hcell⟩:=(hr.alloc (.cells cur t)).2 h0
  have:=run_copy_row (P:=P) (w.alloc (.cells cur t)) dT sT ty elem w.heap.size 0 n d ad n c cur t xs hu hs (heap_alloc_new w _) (by simp[hl]) hcell (by omega) h1
  rw[this,hl]
  congr 1
  ·have e:(List.take 0 cur.toList ++ xs ++ List.drop (0+n) cur.toList).toArray=xs.toArray:=by
    simp[show List.drop n cur.toList=[] from List.drop_eq_nil_of_le (by simp;omega)]
   rw[e]
   simp only[World.setRow,World.alloc]
   congr 1
   apply Array.ext_getElem?
   intro i
   rw[Array.getElem?_modify,Array.getElem?_push,Array.getElem?_push]
   by_cases hi:w.heap.size=i
   ·subst hi;simp
   ·rw[if_neg hi]
    by_cases h2:i=w.heap.size
    ·exact absurd h2.symm hi
    ·rw[if_neg h2,if_neg h2]
theorem wp_tail {P:Program}{id:Nat}{Q:Exit→Act→World→Prop}{a:Act}{w:World}{l:List Oper}(n:Nat)(hm:P.follows .mixedOrders=true)(hB:Region.lexTailB .any l.toArray n=true)
 (h:∀ K:Act→Prop,(∀ a',wpList P l.toArray Q (l.drop n) a' w.drew→K a')→wpStill P l.toArray w.drew K (l.take n) a):(Code.region id l.toArray true).wp P Q a w:=
 wp_region_still_tail n hm hB (h _ (fun _ h=>h))
end
section
variable {w:World} {m:Nat} {q:IntKind} {kvs:List (Int × Value)} {B:Nat→Prop} {size n:Nat} {A:Option Addr} {xs:List Value} {g:Nat} {t:TypeId} {cs:Array Value}
end
theorem Reads.new (w:World)(cs:List Value)(t:TypeId)(fr:Nat × Nat):Reads (w.alloc (.cells cs.toArray t fr)) (·=w.heap.size) 1 (some ⟨w.heap.size,0,none⟩) cs.length cs:=by
 refine ⟨by simp,fun _=>⟨_,rfl,rfl,fun j u hu=>?_⟩⟩
 rw[Addr.add_lit,cell_of_row _ _ _ _ _ _ (heap_alloc_new w _)]
 simpa using hu
end Go.Own

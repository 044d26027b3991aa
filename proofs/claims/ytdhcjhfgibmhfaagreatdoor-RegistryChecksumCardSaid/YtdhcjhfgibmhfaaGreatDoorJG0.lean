import Derived.Test.YtdhcjhfgibmhfaaGreatDoorJIo
import Derived.WalkKit
import Derived.WalkSpells
import Derived.WalkLawsBesides
import Derived.Deep.QuietTactic
import Derived.BigQuiet
import Derived.Lib.Hide
import Derived.StillTailTactics
import Derived.Maps.RangeRun
import Derived.Maps.AppendAt
import Derived.Deep.AppendLies
set_option linter.unusedVariables false
set_option linter.unusedSimpArgs false
namespace Go.Own
open Go.RowKit
def zb (w:World)(g:Nat)(t:TypeId)(cs:Array Value):Prop:=w.heap[g]?=some (.cells cs t (0,0))
section
variable {w w':World} {g:Nat} {t:TypeId} {cs:Array Value}
theorem zb.lt (h:zb w g t cs):g<w.heap.size:=by
 rcases Nat.lt_or_ge g w.heap.size with hlt | hge
 ·exact hlt
 ·unfold zb at h;rw[Array.getElem?_eq_none hge] at h;cases h
theorem zb.cell (h:zb w g t cs)(i:Nat):w.cell? ⟨g,i,none⟩=cs[i]?:=cell_of_row w g i cs t (0,0) h
theorem zb.frozen (h:zb w g t cs)(i:Nat):w.frozen? ⟨g,i,none⟩=false:=by
 unfold zb at h
 simp[World.frozen?,h]
theorem zb.facts (h:zb w g t cs):g<w.heap.size∧(∀ i,w.cell? ⟨g,i,none⟩=cs[i]?)∧(∀ i,w.frozen? ⟨g,i,none⟩=false):=⟨h.lt,h.cell,h.frozen⟩
theorem zb.new (w:World)(t:TypeId)(cs:Array Value):zb (w.alloc (.cells cs t)) w.heap.size t cs:=heap_alloc_new w _
theorem zb.drew (h:zb w g t cs):zb w.drew g t cs:=h
theorem zb.alloc (h:zb w g t cs)(o:Obj):zb (w.alloc o) g t cs:=(Below.heap_alloc w o g h.lt).trans h
theorem zb.set_ (h:zb w g t cs)(i:Nat)(u:Value):zb (w.setCell ⟨g,i,none⟩ u) g t (cs.setIfInBounds i u):=by
 unfold zb at h⊢
 simp[World.setCell,Array.getElem?_modify,h]
theorem zb.far (h:zb w g t cs){p:Addr}(hp:g≠p.block)(u:Value):zb (w.setCell p u) g t cs:=(Below.heap_setCell w p u g hp).trans h
theorem zb.below {B:Nat}(h:zb w g t cs)(hb:Below B w w')(hg:g<B):zb w' g t cs:=(hb.block g hg).trans h
end
structure Fr (S:Nat→Prop) (w w':World):Prop where
 os:w'.os=w.os
 tape:w'.tape=w.tape
 output:w'.output=w.output
 size:w.heap.size≤w'.heap.size
 block:∀ k,k<w.heap.size→¬ S k→w'.heap[k]?=w.heap[k]?
section
variable {S T:Nat→Prop} {a b c w w':World}
theorem Fr.refl (S:Nat→Prop)(w:World):Fr S w w:=⟨rfl,rfl,rfl,Nat.le_refl _,fun _ _ _=>rfl⟩
theorem Fr.trans (h:Fr S a b)(k:Fr S b c):Fr S a c:=
 ⟨k.os.trans h.os,k.tape.trans h.tape,k.output.trans h.output,Nat.le_trans h.size k.size,fun i hi hn=>(k.block i (Nat.lt_of_lt_of_le hi h.size) hn).trans (h.block i hi hn)⟩
theorem Fr.mono (h:Fr S a b)(hs:∀ k,k<a.heap.size→S k→T k):Fr T a b:=⟨h.os,h.tape,h.output,h.size,fun k hk hn=>h.block k hk (fun hS=>hn (hs k hk hS))⟩
theorem Fr.drew (h:Fr S a w):Fr S a w.drew:=⟨h.os,h.tape,h.output,h.size,h.block⟩
theorem Fr.drewN (h:Fr S a w)(n:Nat):Fr S a (w.drewN n):=⟨h.os,h.tape,h.output,h.size,h.block⟩
theorem Fr.alloc (h:Fr S a w)(o:Obj):Fr S a (w.alloc o):=
 ⟨h.os,h.tape,h.output,Nat.le_trans h.size (by simp),fun k hk hn=>(Below.heap_alloc w o k (Nat.lt_of_lt_of_le hk h.size)).trans (h.block k hk hn)⟩
theorem Fr.setCell (h:Fr S a w){p:Addr}(hp:S p.block∨a.heap.size≤p.block)(u:Value):Fr S a (w.setCell p u):=
 ⟨h.os,h.tape,h.output,by simpa [World.setCell] using h.size,fun k hk hn=>(Below.heap_setCell w p u k (by
  rintro rfl
  rcases hp with hp | hp
  ·exact hn hp
  ·omega)).trans (h.block k hk hn)⟩
theorem Fr.of_below (h:Below a.heap.size a w):Fr S a w:=⟨h.os,h.tape,h.output,h.size,fun i hi _=>h.block i hi⟩
theorem Fr.below {B:Nat}(h:Fr S a w)(hB:B≤a.heap.size)(hs:∀ k,k<B→¬ S k):Below B a w:=⟨h.os,h.tape,h.output,h.size,fun k hk=>h.block k (by omega) (hs k hk)⟩
theorem Fr.grown {row:Option Nat}(h:Fr S a w)(hg:w.grownBy w' row)(hr:∀ k,row=some k→S k∨a.heap.size≤k):Fr S a w':=
 ⟨hg.os.trans h.os,hg.tape.trans h.tape,hg.output.trans h.output,Nat.le_trans h.size hg.size,fun k hk hn=>(hg.block k (Nat.lt_of_lt_of_le hk h.size) (fun e=>by
  rcases hr k e.symm with h1 | h1
  ·exact hn h1
  ·omega)).trans (h.block k hk hn)⟩
theorem zb.fr {g:Nat}{t:TypeId}{cs:Array Value}(h:zb w g t cs)(hf:Fr S w w')(hn:¬ S g):zb w' g t cs:=(hf.block g h.lt hn).trans h
end
def zF (w:World)(m:Nat)(q:IntKind)(qg:List (Int × Value)):Prop:=
 ∃ es clock,w.heap[m]?=some (.map es clock)∧es.toList.map (fun e=>(e.key,e.val))=qg.map (fun p=>(Value.int q p.1,p.2)) ∧
  (es.toList.map (·.born)).Nodup∧∀ e∈es.toList,e.born<clock
def zn (qg:List (Int × Value))(k:Int):Option Value:=(qg.find? (·.1 == k)).map (·.2)
def Yv (qg:List (Int × Value))(k:Int):List (Int × Value):=qg.eraseP (·.1 == k)
def yg:List (Int × Value)→Int→Value→List (Int × Value)
 | [],k,v=>[(k,v)]
 | p :: r,k,v=>if p.1 == k then (k,v) :: r else p :: yg r k v
section
variable {w w':World} {m:Nat} {q:IntKind} {qg:List (Int × Value)}
theorem zF.lt (h:zF w m q qg):m<w.heap.size:=by
 obtain ⟨es,clock,h,_⟩:=h
 rcases Nat.lt_or_ge m w.heap.size with hlt | hge
 ·exact hlt
 ·rw[Array.getElem?_eq_none hge] at h;cases h
theorem zF.of_block (h:zF w m q qg)(e:w'.heap[m]?=w.heap[m]?):zF w' m q qg:=by
 obtain ⟨es,clock,h,r⟩:=h
 exact ⟨es,clock,e.trans h,r⟩
theorem zF.new (w:World)(q:IntKind):zF (w.alloc (.map #[] 0)) w.heap.size q []:=⟨#[],0,heap_alloc_new w _,rfl,by simp,by simp⟩
theorem zF.alloc (h:zF w m q qg)(o:Obj):zF (w.alloc o) m q qg:=h.of_block (Below.heap_alloc w o m h.lt)
theorem zF.ne_cell {a:Addr}{v:Value}(h:zF w m q qg)(hb:w.cell? a=some v):m≠a.block:=by
 rintro rfl
 obtain ⟨es,clock,h,_⟩:=h
 simp[World.cell?,h] at hb
theorem zF.below {B:Nat}(h:zF w m q qg)(hb:Below B w w')(hg:m<B):zF w' m q qg:=h.of_block (hb.block m hg)
theorem zF.fr {S:Nat→Prop}(h:zF w m q qg)(hf:Fr S w w')(hn:¬ S m):zF w' m q qg:=h.of_block (hf.block m h.lt hn)
theorem Zw (k:Int):∀ (es:List MapEntry) (qg:List (Int × Value)) (i:Nat),es.map (fun e=>(e.key,e.val))=qg.map (fun p=>(Value.int q p.1,p.2)) →
 Instr.findNow (.int q) (.int q k) es i=some ((qg.findIdx? (·.1 == k)).bind fun j=>(qg[j]?).map fun p=>(i+j,p.2))
 | [],qg,i,h=>by
  cases qg with
  | nil=>simp[Instr.findNow]
  | cons p r=>simp at h
 | e :: es,qg,i,h=>by
  cases qg with
  | nil=>simp at h
  | cons p r=>
   simp only[List.map_cons,List.cons.injEq,Prod.mk.injEq] at h
   obtain ⟨⟨h1,h2⟩,h3⟩:=h
   have ih:=Zw k es r (i+1) h3
   simp only[Instr.findNow,h1,Instr.sameNow,if_true,List.findIdx?_cons]
   by_cases hk:p.1=k
   ·simp[hk,h2]
   ·have hk':(k == p.1)=false:=by simp;omega
    have hk2:(p.1 == k)=false:=by simp;omega
    simp only[hk',hk2,ih,Bool.false_eq_true,if_false]
    congr 1
    cases List.findIdx? (fun x=>x.1 == k) r with
    | none=>rfl
    | some j=>simp;congr 1;funext x;congr 1;omega
theorem jT {P:Program}{K:TypeId}(b:Bool)(n:Nat)(hK:P.underlying K=some (.int q))(k:Int)(w:World) :
 (Instr.checkKey b (n+1) K (.int q k)).run P w=.ok () w:=by
 simp[Instr.checkKey,run_underlying hK]
theorem YH (k:Int):∀ (qg:List (Int × Value)) (i:Nat),(((qg.findIdx? (·.1 == k)).bind fun j=>(qg[j]?).map fun p=>(i+j,p.2)).map (·.2))=zn qg k
 | [],i=>by simp[zn]
 | p :: r,i=>by
  have ih:=YH k r (i+1)
  unfold zn at ih⊢
  simp only[List.findIdx?_cons,List.find?_cons]
  by_cases hk:p.1=k
  ·simp[hk]
  ·have hk2:(p.1 == k)=false:=by simp;omega
   simp only[hk2,Bool.false_eq_true,if_false]
   rw[←ih]
   cases List.findIdx? (fun x=>x.1 == k) r with
   | none=>rfl
   | some j=>simp[Function.comp_def]
theorem zF.lookup {P:Program}{T K E:TypeId}{z:Value}(h:zF w m q qg)(hT:P.underlying T=some (.map K E))(hK:P.underlying K=some (.int q))(hz:∀ w,(zeroValue E).run P w=.ok z w)(k:Int)(c:Bool) :
 (Instr.lookup T (.map (some m)) (.int q k) c).run P w=.ok (if c then .tuple #[(zn qg k).getD z,.bool (zn qg k).isSome] else (zn qg k).getD z) w:=by
 obtain ⟨es,clock,hm,he,-,-⟩:=h
 have hf:=Zw (q:=q) k es.toList qg 0 he
 have hg:=YH k qg 0
 simp only[Instr.lookup,Sem.run_bind,run_underlying hT,Result.andThen_ok,getObj,Sem.run,hm,Sem.run_pure,jT _ 9999 hK,Instr.findKey,run_underlying hK,hf]
 rw[←hg]
 cases hj:((qg.findIdx? (·.1 == k)).bind fun j=>(qg[j]?).map fun p=>(0+j,p.2)) with
 | none=>cases c <;> simp[hz]
 | some r=>cases c <;> simp
theorem YU (k:Int)(v:Value):∀ (qg:List (Int × Value)),yg qg k v=match qg.findIdx? (·.1 == k) with | some j=>qg.set j (k,v) | none=>qg ++ [(k,v)]
 | []=>by simp[yg]
 | p :: r=>by
  have ih:=YU k v r
  simp only[yg,List.findIdx?_cons]
  by_cases hk:p.1=k
  ·simp[hk]
  ·have hk2:(p.1 == k)=false:=by simp;omega
   simp only[hk2,Bool.false_eq_true,if_false,ih]
   cases List.findIdx? (fun x=>x.1 == k) r with
   | none=>simp
   | some j=>simp
theorem YO (k:Int):∀ (qg:List (Int × Value)),Yv qg k=match qg.findIdx? (·.1 == k) with | some j=>qg.eraseIdx j | none=>qg
 | []=>by simp[Yv]
 | p :: r=>by
  have ih:=YO k r
  unfold Yv at ih⊢
  simp only[List.eraseP_cons,List.findIdx?_cons]
  by_cases hk:p.1=k
  ·simp[hk]
  ·have hk2:(p.1 == k)=false:=by simp;omega
   simp only[hk2,Bool.false_eq_true,if_false,ih,cond_false]
   cases List.findIdx? (fun x=>x.1 == k) r with
   | none=>simp
   | some j=>simp
def idxOf (_q:IntKind)(k:Int)(es:Array MapEntry):Option Nat:=es.toList.findIdx? (fun e=>match e.key with | .int _ n=>n == k | _=>false)
def ZG (q:IntKind)(k:Int)(v:Value):Obj→Obj
 | .map es clock=>match idxOf q k es with
  | some i=>.map (es.modify i fun e=>{ e with key:=.int q k,val:=v }) clock
  | none=>.map (es.push { key:=.int q k,val:=v,born:=clock }) (clock+1)
 | o=>o
def Yt (q:IntKind)(k:Int):Obj→Obj
 | .map es clock=>match idxOf q k es with
  | some i=>.map (es.eraseIdxIfInBounds i) clock
  | none=>.map es clock
 | o=>o
def mput (w:World)(m:Nat)(q:IntKind)(k:Int)(v:Value):World:={ w with heap:=w.heap.modify m (ZG q k v) }
def mdel (w:World)(m:Nat)(q:IntKind)(k:Int):World:={ w with heap:=w.heap.modify m (Yt q k) }
theorem UJ (q:IntKind)(k:Int)(v:Value)(c:Array Value)(t:TypeId)(f:Nat × Nat):ZG q k v (.cells c t f)=.cells c t f:=rfl
theorem Kw (q:IntKind)(k:Int)(v:Value)(o:Obj)(h:∀ c t f,o≠.cells c t f):∀ c t f,ZG q k v o≠.cells c t f:=by
 intro c t f e
 cases o <;> simp only[ZG] at e
 case cells=>exact h _ _ _ rfl
 case map es clock=>split at e <;> cases e
 all_goals cases e
theorem KZ (w:World)(m:Nat)(f:Obj→Obj)(hc:∀ c t fr,f (.cells c t fr)=.cells c t fr)(hk:∀ o,(∀ c t fr,o≠.cells c t fr)→∀ c t fr,f o≠.cells c t fr)(a:Addr) :
 ({ w with heap:=w.heap.modify m f }:World).cell? a=w.cell? a∧({ w with heap:=w.heap.modify m f }:World).frozen? a=w.frozen? a∧({ w with heap:=w.heap.modify m f }:World).shape? a.block=w.shape? a.block:=by
 simp only[World.cell?,World.frozen?,World.shape?,Array.getElem?_modify]
 by_cases hm:m=a.block
 ·subst hm
  simp only[if_true]
  cases ho:w.heap[a.block]? with
  | none=>simp
  | some o=>
   simp only[Option.map_some]
   by_cases hcs:∃ c t fr,o=.cells c t fr
   ·obtain ⟨c,t,fr,rfl⟩:=hcs;simp[hc]
   ·have h1:∀ c t fr,o≠.cells c t fr:=fun c t fr e=>hcs ⟨c,t,fr,e⟩
    have h2:=hk o h1
    generalize hfo:f o=o' at h2⊢
    cases o <;> cases o' <;> first | exact ⟨rfl,rfl,rfl⟩ | exact absurd rfl (h1 _ _ _) | exact absurd rfl (h2 _ _ _)
 ·simp[hm]
@[simp,go_sem] theorem ul (w:World) (m:Nat) (q:IntKind) (k:Int) (v:Value) (a:Addr):(mput w m q k v).cell? a=w.cell? a:=(KZ w m _ (UJ q k v) (Kw q k v) a).1
@[simp,go_sem] theorem FT (w:World) (m:Nat) (q:IntKind) (k:Int) (v:Value):(mput w m q k v).heap.size=w.heap.size:=by simp[mput]
@[simp,go_sem] theorem Gj (w:World) (m:Nat) (q:IntKind) (k:Int):(mdel w m q k).heap.size=w.heap.size:=by simp[mdel]
theorem mput_far (w:World)(m:Nat)(q:IntKind)(k:Int)(v:Value)(b:Nat)(h:b≠m):(mput w m q k v).heap[b]?=w.heap[b]?:=by
 simp only[mput,Array.getElem?_modify];rw[if_neg (by omega)]
theorem mdel_far (w:World)(m:Nat)(q:IntKind)(k:Int)(b:Nat)(h:b≠m):(mdel w m q k).heap[b]?=w.heap[b]?:=by
 simp only[mdel,Array.getElem?_modify];rw[if_neg (by omega)]
theorem Fr.mput {S:Nat→Prop}{a w:World}(h:Fr S a w){b:Nat}(hb:S b∨a.heap.size≤b)(q:IntKind)(k:Int)(v:Value):Fr S a (mput w b q k v):=
 ⟨h.os,h.tape,h.output,by rw[FT];exact h.size,fun j hj hn=>(mput_far w b q k v j (by
  rintro rfl
  rcases hb with hp | hp
  ·exact hn hp
  ·omega)).trans (h.block j hj hn)⟩
theorem Fr.mdel {S:Nat→Prop}{a w:World}(h:Fr S a w){b:Nat}(hb:S b∨a.heap.size≤b)(q:IntKind)(k:Int):Fr S a (mdel w b q k):=
 ⟨h.os,h.tape,h.output,by rw[Gj];exact h.size,fun j hj hn=>(mdel_far w b q k j (by
  rintro rfl
  rcases hb with hp | hp
  ·exact hn hp
  ·omega)).trans (h.block j hj hn)⟩
theorem zb.mput {w:World}{g:Nat}{t:TypeId}{cs:Array Value}(h:zb w g t cs)(m:Nat)(q:IntKind)(k:Int)(v:Value):zb (mput w m q k v) g t cs:=by
 unfold zb at h⊢
 simp only[Own.mput,Array.getElem?_modify,h]
 split <;> simp[ZG]
theorem zb.mdel {w:World}{g:Nat}{t:TypeId}{cs:Array Value}(h:zb w g t cs)(m:Nat)(q:IntKind)(k:Int):zb (mdel w m q k) g t cs:=by
 unfold zb at h⊢
 simp only[Own.mdel,Array.getElem?_modify,h]
 split <;> simp[Yt]
theorem Qh (k:Int){qg:List (Int × Value)}{es:Array MapEntry}(he:es.toList.map (fun e=>(e.key,e.val))=qg.map (fun p=>(Value.int q p.1,p.2))):idxOf q k es=qg.findIdx? (·.1 == k):=by
 unfold idxOf
 obtain ⟨es⟩:=es
 simp only at he⊢
 induction es generalizing qg with
 | nil=>cases qg with
  | nil=>rfl
  | cons p r=>simp at he
 | cons e es ih=>cases qg with
  | nil=>simp at he
  | cons p r=>
   simp only[List.map_cons,List.cons.injEq,Prod.mk.injEq] at he
   simp only[List.findIdx?_cons,he.1.1,ih he.2]
theorem zF.put (h:zF w m q qg)(k:Int)(v:Value):zF (mput w m q k v) m q (yg qg k v):=by
 obtain ⟨es,clock,hm,he,hn,hb⟩:=h
 have hp:=YU k v qg
 have hi:=Qh k he
 have hat:(mput w m q k v).heap[m]?=some (ZG q k v (.map es clock)):=by simp only[mput,Array.getElem?_modify,if_true,hm,Option.map_some]
 cases hj:qg.findIdx? (·.1 == k) with
 | none=>
  rw[hj] at hp hi
  refine ⟨_,_,by rw[hat];simp only[ZG,hi];rfl,?_,?_,?_⟩
  ·rw[hp];simp[he]
  ·simp only[Array.toList_push,List.map_append,List.map_cons,List.map_nil]
   rw[List.nodup_append]
   refine ⟨hn,by simp,?_⟩
   intro a ha b hb' e
   obtain ⟨x,hx,rfl⟩:=List.mem_map.1 ha
   have:=hb x hx
   simp at hb'
   omega
  ·intro e GR
   simp only[Array.toList_push,List.mem_append,List.mem_cons,List.not_mem_nil,or_false] at GR
   rcases GR with GR | rfl
   ·have:=hb e GR;omega
   ·simp
 | some j=>
  rw[hj] at hp hi
  obtain ⟨hjl,hjk,-⟩:=List.findIdx?_eq_some_iff_getElem.1 hj
  have hlen:es.toList.length=qg.length:=by simpa using congrArg List.length he
  have hmod:=Go.ChangeMaps.modify_eq_set (fun e:MapEntry=>{ e with key:=.int q k,val:=v }) es.toList j _ (List.getElem?_eq_getElem (show j<es.toList.length by omega))
  refine ⟨_,_,by rw[hat];simp only[ZG,hi];rfl,?_,?_,?_⟩
  ·rw[hp,Array.toList_modify,hmod,List.map_set,he,List.map_set]
  ·have e:(es.modify j fun e=>{ e with key:=.int q k,val:=v }).toList.map (·.born)=es.toList.map (·.born):=by
    rw[Array.toList_modify,hmod,List.map_set]
    apply List.ext_getElem?
    intro i
    rw[List.getElem?_set]
    by_cases hij:j=i
    ·subst hij;simp[show j<es.size by simpa using (by omega:j<es.toList.length)]
    ·simp[hij]
   rw[e];exact hn
  ·intro e GR
   rw[Array.toList_modify,hmod] at GR
   rcases List.mem_or_eq_of_mem_set GR with GR | rfl
   ·exact hb e GR
   ·exact hb (es.toList[j]'(by omega)) (List.getElem_mem _)
theorem zF.del (h:zF w m q qg)(k:Int):zF (mdel w m q k) m q (Yv qg k):=by
 obtain ⟨es,clock,hm,he,hn,hb⟩:=h
 have hp:=YO k qg
 have hi:=Qh k he
 have hat:(mdel w m q k).heap[m]?=some (Yt q k (.map es clock)):=by simp only[mdel,Array.getElem?_modify,if_true,hm,Option.map_some]
 cases hj:qg.findIdx? (·.1 == k) with
 | none=>
  rw[hj] at hp hi
  exact ⟨_,_,by rw[hat];simp only[Yt,hi],by rw[hp];exact he,hn,hb⟩
 | some j=>
  rw[hj] at hp hi
  obtain ⟨hjl,hjk,-⟩:=List.findIdx?_eq_some_iff_getElem.1 hj
  have hlen:es.toList.length=qg.length:=by simpa using congrArg List.length he
  have ht:(es.eraseIdxIfInBounds j).toList=es.toList.eraseIdx j:=by
   have:j<es.size:=by simpa using (by omega:j<es.toList.length)
   simp[Array.eraseIdxIfInBounds,this]
  refine ⟨_,_,by rw[hat];simp only[Yt,hi];rfl,?_,?_,?_⟩
  ·rw[hp,ht,Go.ChangeMaps.map_eraseIdx,he,Go.ChangeMaps.map_eraseIdx]
  ·rw[ht,Go.ChangeMaps.map_eraseIdx];exact hn.sublist (List.eraseIdx_sublist _ _)
  ·intro e GR;rw[ht] at GR;exact hb e ((List.eraseIdx_sublist _ _).mem GR)
theorem zF.mput_far {m':Nat}{q':IntKind}(h:zF w m q qg)(hne:m≠m')(k:Int)(v:Value):zF (mput w m' q' k v) m q qg:=h.of_block (Own.mput_far w m' q' k v m hne)
theorem zF.mdel_far {m':Nat}{q':IntKind}(h:zF w m q qg)(hne:m≠m')(k:Int):zF (mdel w m' q' k) m q qg:=h.of_block (Own.mdel_far w m' q' k m hne)
theorem Uf (w:World)(m:Nat)(f:Obj→Obj)(o:Obj)(h:w.heap[m]?=some o):({ w with heap:=w.heap.setIfInBounds m (f o) }:World) = { w with heap:=w.heap.modify m f }:=by
 congr 1
 apply Array.ext_getElem?
 intro i
 rw[Array.getElem?_setIfInBounds,Array.getElem?_modify]
 by_cases hi:m=i
 ·subst hi
  obtain ⟨hlt,-⟩:=Array.getElem?_eq_some_iff.1 h
  rw[if_pos rfl,if_pos rfl,h,if_pos hlt];rfl
 ·rw[if_neg hi,if_neg hi]
theorem zF.update {P:Program}{T K E:TypeId}(h:zF w m q qg)(hT:P.underlying T=some (.map K E))(hK:P.underlying K=some (.int q))(k:Int)(v:Value) :
 (Instr.mapUpdate T (.map (some m)) (.int q k) v).run P w=.ok () (mput w m q k v):=by
 obtain ⟨es,clock,hm,he,hn,hb⟩:=h
 have hf:=Zw (q:=q) k es.toList qg 0 he
 have hi:=Qh k he
 simp only[Instr.mapUpdate,Sem.run_bind,run_underlying hT,Result.andThen_ok,getObj,Sem.run,hm,Sem.run_pure,jT _ 9999 hK,Instr.findKey,run_underlying hK,hf]
 unfold mput
 rw[←Uf w m _ _ hm]
 cases hj:qg.findIdx? (·.1 == k) with
 | none=>
  rw[hj] at hi
  simp[setObj,Sem.run,hm,ZG,hi]
 | some j=>
  rw[hj] at hi
  obtain ⟨hjl,hjk,-⟩:=List.findIdx?_eq_some_iff_getElem.1 hj
  have hlen:es.toList.length=qg.length:=by simpa using congrArg List.length he
  have Lh:(qg[j]).1=k:=by simpa using hjk
  have hkey:(es.toList[j]'(by omega)).key=.int q k:=by
   have:=congrArg (fun l=>l[j]?) he
   simp only[List.getElem?_map,List.getElem?_eq_getElem hjl,List.getElem?_eq_getElem (show j<es.toList.length by omega),Option.map_some,Option.some.injEq,Prod.mk.injEq] at this
   rw[this.1,Lh]
  have oJ:(es[j]?).map (·.key)=some (Value.int q k):=by
   rw[←Array.getElem?_toList,List.getElem?_eq_getElem (by omega)];simp[←hkey]
  simp[List.getElem?_eq_getElem hjl,Instr.keyThatStays,oJ,Instr.sameBits,setObj,Sem.run,hm,ZG,hi]
theorem zF.delete {P:Program}{T K E:TypeId}(h:zF w m q qg)(hT:P.underlying T=some (.map K E))(hK:P.underlying K=some (.int q))(k:Int)(ty K':TypeId) :
 (Builtin.delete_ #[T,K'] ty #[.map (some m),.int q k]).run P w=.ok (.tuple #[]) (mdel w m q k):=by
 obtain ⟨es,clock,hm,he,hn,hb⟩:=h
 have hf:=Zw (q:=q) k es.toList qg 0 he
 have hi:=Qh k he
 simp only[Builtin.delete_,List.getElem?_toArray,List.getElem?_cons_zero,List.getElem?_cons_succ,Sem.run_bind,run_underlying hT,Result.andThen_ok,getObj,Sem.run,hm,Sem.run_pure,jT _ 9999 hK,Instr.findKey,run_underlying hK,hf]
 unfold mdel
 rw[←Uf w m _ _ hm]
 cases hj:qg.findIdx? (·.1 == k) with
 | none=>
  rw[hj] at hi
  simp[setObj,Sem.run,hm,Yt,hi]
 | some j=>
  rw[hj] at hi
  obtain ⟨hjl,hjk,-⟩:=List.findIdx?_eq_some_iff_getElem.1 hj
  simp[List.getElem?_eq_getElem hjl,setObj,Sem.run,hm,Yt,hi]
end
theorem Za (a:Addr)(n:Nat):(a.add n).block=a.block:=by unfold Addr.add;split <;> rfl
theorem Vs (a:Addr)(i j:Nat):(a.add i).add j=a.add (i+j):=by
 unfold Addr.add
 by_cases hi:i=0 <;> by_cases hj:j=0 <;> simp[hi,hj,Nat.add_assoc]
def Reads (w:World)(B:Nat→Prop)(size:Nat)(A:Option Addr)(n:Nat)(xs:List Value):Prop:=
 xs.length=n * size∧(0<n→∃ ad,A=some ad∧B ad.block∧∀ j u,xs[j]?=some u→w.cell? (ad.add j)=some u)
section
variable {w w':World} {B B':Nat→Prop} {size n:Nat} {A:Option Addr} {xs:List Value}
theorem Reads.none_:Reads w B size A 0 []:=⟨by simp,fun h=>absurd h (by omega)⟩
theorem Reads.keep (h:Reads w B size A n xs)(hk:∀ p:Addr,B p.block→(w.cell? p).isSome→w'.cell? p=w.cell? p):Reads w' B size A n xs:=
 ⟨h.1,fun hn=>by
  obtain ⟨ad,e,hb,hc⟩:=h.2 hn
  exact ⟨ad,e,hb,fun j u hu=>(hk _ (by rw[Za];exact hb) (by rw[hc j u hu];rfl)).trans (hc j u hu)⟩⟩
theorem Reads.more (h:Reads w B size A n xs)(hB:∀ k,B k→B' k):Reads w B' size A n xs:=
 ⟨h.1,fun hn=>by
  obtain ⟨ad,e,hb,hc⟩:=h.2 hn
  exact ⟨ad,e,hB _ hb,hc⟩⟩
theorem Reads.below {b:Nat}(h:Reads w B size A n xs)(hb:Below b w w')(hB:∀ k,B k→k<b):Reads w' B size A n xs:=h.keep fun _ hp _=>hb.cell (hB _ hp)
theorem Reads.drew (h:Reads w B size A n xs):Reads w.drew B size A n xs:=h
theorem Reads.alloc (h:Reads w B size A n xs)(o:Obj):Reads (w.alloc o) B size A n xs:=
 h.keep fun p _ hs=>by
  cases hc:w.cell? p with
  | none=>rw[hc] at hs;cases hs
  | some v=>rw[World.cell?_alloc_lt w o p (block_lt_of_cell hc)];exact hc
theorem Reads.setCell (h:Reads w B size A n xs){p:Addr}(hB:¬ B p.block)(u:Value):Reads (w.setCell p u) B size A n xs:=
 h.keep fun q hq _=>World.cell?_setCell_other w p q u (fun e=>by subst e;exact hB hq)
theorem Reads.mput (h:Reads w B size A n xs)(m:Nat)(q:IntKind)(k:Int)(v:Value):Reads (mput w m q k v) B size A n xs:=h.keep fun _ _ _=>ul ..
theorem Reads.fr {S:Nat→Prop}(h:Reads w B size A n xs)(hf:Fr S w w')(hS:∀ k,B k→¬ S k):Reads w' B size A n xs:=
 h.keep fun p hp hs=>World.cell?_of_block (hf.block p.block (by
  cases hc:w.cell? p with
  | none=>rw[hc] at hs;cases hs
  | some v=>exact block_lt_of_cell hc) (hS _ hp))
theorem Reads.cut (h:Reads w B size A n xs){k cap:Nat}(hk:k≤n)(hc:n≤cap) :
 Reads w B size (if cap=k then A else A.map (·.add (k * size))) (n - k) (xs.drop (k * size)):=by
 refine ⟨by rw[List.length_drop,h.1,Nat.sub_mul],fun hn=>?_⟩
 obtain ⟨ad,rfl,hb,hcell⟩:=h.2 (by omega)
 rw[if_neg (by omega)]
 refine ⟨ad.add (k * size),rfl,by rw[Za];exact hb,fun j u hu=>?_⟩
 rw[Vs]
 exact hcell _ u (by rw[←hu,List.getElem?_drop])
theorem Reads.of_blk {g:Nat}{t:TypeId}{cs:Array Value}(h:zb w g t cs)(hn:n * size≤cs.size)(hg:B g):Reads w B size (some ⟨g,0,none⟩) n (cs.toList.take (n * size)):=by
 refine ⟨by simp;omega,fun _=>⟨_,rfl,hg,fun j u hu=>?_⟩⟩
 have hj:j<n * size:=by
  have:=(List.getElem?_eq_some_iff.1 hu).1
  simp at this;omega
 rw[Addr.add_lit,h.cell]
 rw[List.getElem?_take,if_pos hj] at hu
 simpa using hu
theorem Reads.of_own {base:Nat}{e:TypeId}{c:Nat}(h:w.ownsRow base e size (.slice A n c) n xs):Reads w (fun k=>(Value.slice A n c).ownBlock=some k) size A n xs:=by
 refine ⟨h.1,fun hn=>?_⟩
 obtain ⟨g,cap,hv,_,hlt⟩:=h.form hn
 have hA:A=some ⟨g,0,none⟩:=by injection hv
 subst hA
 exact ⟨_,rfl,rfl,h.cells (g:=g) rfl⟩
theorem VU (z:Value)(n:Nat):madeCells #[z] n=(List.replicate n z).toArray:=by
 apply Array.ext'
 rw[toList_madeCells_one]
theorem Y9 {P:Program}(t e:TypeId)(i:TypeInfo)(z:Value)(ht:P.underlying t=some (.slice e))(hi:P.info? e=some i)(hz:i.zero=some z)
 (kl kc:IntKind) (n c:Nat) (hnc:n≤c) (hbytes:i.bytes * c≤281474976710656) (h63:c≤9223372036854775807) (w:World) :
 (Instr.makeSlice t (.int kl (n:Int)) (.int kc (c:Int))).run P w=.ok (.slice (some ⟨w.heap.size,0,none⟩) n c) (w.alloc (.cells (madeCells z.cells (c * i.size)) e)):=by
 have hb:(i.bytes:Int) * (c:Int)≤281474976710656:=by
  have h:((i.bytes * c:Nat):Int)≤281474976710656:=by omega
  rwa [Int.natCast_mul] at h
 have hr:=run_make (P:=P) w t e i z ht hi hz kl kc n c (by omega) (by omega) hb (by omega)
 simp only[Int.toNat_natCast] at hr
 exact hr
def Fu (z:Value)(n:Nat):Array Value:=(List.replicate n z).toArray
theorem z13 (z:Value)(n:Nat):(Fu z n).size=n:=by simp[Fu]
theorem z0O {P:Program}(t e:TypeId)(z:Value)(bytes:Nat)(ht:P.underlying t=some (.slice e))(hi:(P.info? e).map (fun i=>(i.zero,i.size,i.bytes))=some (some z,1,bytes))(hz:z.cells=#[z])
 (n:Nat) (hbytes:bytes * n≤281474976710656) (hn:n≤9223372036854775807) (w:World) :
 (Instr.makeSlice t (ι (n:Int)) (ι (n:Int))).run P w=.ok (.slice (some ⟨w.heap.size,0,none⟩) n n) (w.alloc (.cells (Fu z n) e)):=by
 obtain ⟨i,hi,hz0,hz1,hz2⟩:=info_parts hi
 have:=Y9 (P:=P) t e i z ht hi hz0 .i64 .i64 n n (Nat.le_refl _) (by rw[hz2];exact hbytes) hn w
 rw[this,hz1,hz,Nat.mul_one,VU];rfl
theorem z0Q {P:Program}(dT sT ty elem:TypeId)(hu:P.underlying dT=some (.slice elem))(hs:(P.info? elem).map (·.size)=some 1)
 {w:World} {B:Nat→Prop} {A:Option Addr} {n c d:Nat} {xs:List Value} (t:TypeId) (cur:Array Value) (hr:Reads w B 1 A n xs) (h1:∀ v∈xs,v.oneCell'=true) (hc:cur.size=n) (g:Nat) (hg:g=w.heap.size) :
 (Builtin.copy_ #[dT,sT] ty #[.slice (some ⟨g,0,none⟩) n d,.slice A n c]).run P (w.alloc (.cells cur t))=.ok (goInt n) (w.alloc (.cells xs.toArray t)):=by
 subst hg
 have hl:xs.length=n:=by simpa using hr.1
 rcases Nat.eq_zero_or_pos n with h0 | h0
 ·subst h0
  have hx:xs=[]:=List.eq_nil_of_length_eq_zero hl
  have z1_:cur=#[]:=Array.eq_empty_of_size_eq_zero hc
  subst hx z1_
  exact run_copy_none (P:=P) _ dT sT ty elem _ _ _ _ _ _ hu hs rfl
 ·obtain ⟨ad,rfl,hb,hcell⟩:=(hr.alloc (.cells cur t)).2 h0
  have:=run_copy_row (P:=P) (w.alloc (.cells cur t)) dT sT ty elem w.heap.size 0 n d ad n c cur t xs hu hs (heap_alloc_new w _) (by simp[hl]) hcell (by omega) h1
  rw[this,hl]
  congr 1
  ·have e:(List.take 0 cur.toList ++ xs ++ List.drop (0+n) cur.toList).toArray=xs.toArray:=by
    simp[show List.drop n cur.toList=[] from List.drop_eq_nil_of_le (by simp;omega)]
   rw[e]
   simp only[World.setRow,World.alloc]
   congr 1
   apply Array.ext_getElem?
   intro i
   rw[Array.getElem?_modify,Array.getElem?_push,Array.getElem?_push]
   by_cases hi:w.heap.size=i
   ·subst hi;simp
   ·rw[if_neg hi]
    by_cases h2:i=w.heap.size
    ·exact absurd h2.symm hi
    ·rw[if_neg h2,if_neg h2]
theorem yJ {P:Program}{id:Nat}{Q:Exit→Act→World→Prop}{a:Act}{w:World}{l:List Oper}(n:Nat)(hm:P.follows .mixedOrders=true)(hB:Region.lexTailB .any l.toArray n=true)
 (h:∀ K:Act→Prop,(∀ a',wpList P l.toArray Q (l.drop n) a' w.drew→K a')→wpStill P l.toArray w.drew K (l.take n) a):(Code.region id l.toArray true).wp P Q a w:=
 wp_region_still_tail n hm hB (h _ (fun _ h=>h))
end
section
variable {w:World} {m:Nat} {q:IntKind} {qg:List (Int × Value)} {B:Nat→Prop} {size n:Nat} {A:Option Addr} {xs:List Value} {g:Nat} {t:TypeId} {cs:Array Value}
@[go_sem] theorem nu:zF w.drew m q qg↔zF w m q qg:=Iff.rfl
@[go_sem] theorem l9 (o:Obj) (h:m<w.heap.size):zF (w.alloc o) m q qg↔zF w m q qg:=
 ⟨fun h'=>h'.of_block (Below.heap_alloc w o m h).symm,fun h'=>h'.alloc o⟩
end
theorem zb.setRow {w:World}{g:Nat}{t:TypeId}{cs:Array Value}(h:zb w g t cs)(xs:Array Value):zb (w.setRow g xs) g t xs:=setRow_heap w g cs xs t (0,0) h
theorem Fr.setRow {S:Nat→Prop}{a w:World}(h:Fr S a w){b:Nat}(hb:S b∨a.heap.size≤b)(xs:Array Value):Fr S a (w.setRow b xs):=
 ⟨h.os,h.tape,h.output,by simpa using h.size,fun j hj hn=>(setRow_other w b j xs (by
  rintro rfl
  rcases hb with hp | hp
  ·exact hn hp
  ·omega)).trans (h.block j hj hn)⟩
theorem Reads.new (w:World)(cs:List Value)(t:TypeId)(fr:Nat × Nat):Reads (w.alloc (.cells cs.toArray t fr)) (·=w.heap.size) 1 (some ⟨w.heap.size,0,none⟩) cs.length cs:=by
 refine ⟨by simp,fun _=>⟨_,rfl,rfl,fun j u hu=>?_⟩⟩
 rw[Addr.add_lit,cell_of_row _ _ _ _ _ _ (heap_alloc_new w _)]
 simpa using hu
section
variable {P:Program} (w:World)
theorem YN (base:Nat)(t ty e:TypeId)(i:TypeInfo)(size:Nat)(ht:P.underlying t=some (.slice e))(hi:P.info? e=some i)
 (v:Value) (n:Nat) (xs:List Value) (hown:w.ownsRow base e size v n xs) (c:Nat):(Builtin.append_ #[t,t] ty #[v,.slice none 0 c]).run P w=.ok v w:=by
 rcases hown.2 with ⟨rfl,rfl⟩ | ⟨g,cap,cur,rfl,_,_,hnc,_⟩
 ·simp[Builtin.append_,run_underlying ht,sizeOf,typeInfo,hi,Builtin.lenOf,Builtin.firstCells]
 ·simp[Builtin.append_,run_underlying ht,sizeOf,typeInfo,hi,Builtin.lenOf,Builtin.firstCells,hnc,storeCells]
theorem VE (base:Nat)(t ty e:TypeId)(z:Value)(size bytes:Nat)(ht:P.underlying t=some (.slice e))(hi:(P.info? e).map (fun i=>(i.zero,i.size,i.bytes))=some (some z,size,bytes))(hzs:z.cells.size=size)(hsz:0<size)
 (v:Value) (n:Nat) (xs:List Value) (hown:w.ownsRow base e size v n xs)
 (B:Nat→Prop) (A:Option Addr) (m c:Nat) (news:List Value) (hr:Reads w B size A m news) (h1:∀ u∈news,u.oneCell'=true)
 (h63:n+m≤maxLen) (hbytes:(n+m) * bytes≤140737488355328) (hbase:base≤w.heap.size) :
 ∃ v' w',(Builtin.append_ #[t,t] ty #[v,.slice A m c]).run P w=.ok v' w'∧w'.ownsRow base e size v' (n+m) (xs ++ news)∧w.grownBy w' v.ownBlock ∧
  (v'.ownBlock=v.ownBlock∨v'.ownBlock=some w.heap.size):=by
 obtain ⟨i,hi,hz,hsize,hby⟩:=info_parts hi
 rcases A with _ | ad
 ·have hm:m=0:=by
   rcases Nat.eq_zero_or_pos m with h0 | h0
   ·exact h0
   ·obtain ⟨ad,h,_⟩:=hr.2 h0
    cases h
  subst hm
  have hn:news=[]:=List.eq_nil_of_length_eq_zero (by simpa using hr.1)
  subst hn
  exact ⟨v,w,YN w base t ty e i size ht hi v n xs hown c,by simpa using hown,World.grownBy.refl w _,.inl rfl⟩
 ·have hcells:∀ j u,news[j]?=some u→w.cell? (ad.add j)=some u:=by
   intro j u hu
   rcases Nat.eq_zero_or_pos m with h0 | h0
   ·subst h0
    have hn:news=[]:=List.eq_nil_of_length_eq_zero (by simpa using hr.1)
    subst hn
    simp at hu
   ·obtain ⟨Pj,h,_,hc⟩:=hr.2 h0
    injection h with h
    subst h
    exact hc j u hu
  obtain ⟨v',w',hrun,h2,h3,_,h5⟩:=run_append_own_at (P:=P) w base t ty e i z size bytes ht hi hz hsize hby hzs hsz v n xs hown ad m c news hr.1 hcells h1 h63 hbytes hbase
  exact ⟨v',w',hrun,h2,h3,h5⟩
theorem Yc {o:Oper}{a:Act}{K:Act→World→Prop}{Q:Exit→Act→World→Prop}(s x:Operand)(t:TypeId)
 (ho:o.op=.call { callee:=.builtin .append,args:=#[s,x],argTypes:=#[t,t] })
 (base:Nat) (e:TypeId) (z:Value) (size bytes:Nat) (ht:P.underlying t=some (.slice e)) (hi:(P.info? e).map (fun i=>(i.zero,i.size,i.bytes))=some (some z,size,bytes)) (hzs:z.cells.size=size) (hsz:0<size)
 (v:Value) (n:Nat) (xs:List Value) (hs:a.eval s=v) (hown:w.ownsRow base e size v n xs)
 (B:Nat→Prop) (A:Option Addr) (m c:Nat) (news:List Value) (hx:a.eval x=.slice A m c) (hr:Reads w B size A m news) (h1:∀ u∈news,u.oneCell'=true)
 (h63:n+m≤maxLen) (hbytes:(n+m) * bytes≤140737488355328) (hbase:base≤w.heap.size)
 (h:∀ A' c' w',w'.ownsRow base e size (.slice A' (n+m) c') (n+m) (xs ++ news)→w.grownBy w' v.ownBlock→((Value.slice A' (n+m) c').ownBlock=v.ownBlock∨(Value.slice A' (n+m) c').ownBlock=some w.heap.size)→K (a.put o.dst (.slice A' (n+m) c')) w'):o.wp P a w K Q:=by
 obtain ⟨v',w',hrun,h2,h3,h4⟩:=VE (P:=P) w base t o.type e z size bytes ht hi hzs hsz v n xs hown B A m c news hr h1 h63 hbytes hbase
 unfold Oper.wp execOp
 simp only[ho,resolve,invoke,builtin,Sem.run_bind,Sem.run_pure,Result.andThen_ok,List.map_toArray,List.map_cons,List.map_nil,hs,hx,hrun]
 have hv:∃ A' c',v'=.slice A' (n+m) c':=by
  rcases h2.2 with ⟨rfl,hx0⟩ | ⟨g,cap,cur,rfl,_⟩
  ·rw[hx0];exact ⟨_,_,rfl⟩
  ·exact ⟨_,_,rfl⟩
 obtain ⟨A',c',rfl⟩:=hv
 exact h A' c' w' h2 h3 h4
theorem ze {ops:Array Oper}{rest:List Oper}{o:Oper}{a:Act}{Q:Exit→Act→World→Prop}(hgd:o.guard=none)(s x:Operand)(t:TypeId)
 (ho:o.op=.call { callee:=.builtin .append,args:=#[s,x],argTypes:=#[t,t] })
 (base:Nat) (e:TypeId) (z:Value) (size bytes:Nat) (ht:P.underlying t=some (.slice e)) (hi:(P.info? e).map (fun i=>(i.zero,i.size,i.bytes))=some (some z,size,bytes)) (hzs:z.cells.size=size) (hsz:0<size)
 (v:Value) (n:Nat) (xs:List Value) (hs:a.eval s=v) (hown:w.ownsRow base e size v n xs)
 (B:Nat→Prop) (A:Option Addr) (m c:Nat) (news:List Value) (hx:a.eval x=.slice A m c) (hr:Reads w B size A m news) (h1:∀ u∈news,u.oneCell'=true)
 (h63:n+m≤maxLen) (hbytes:(n+m) * bytes≤140737488355328) (hbase:base≤w.heap.size)
 (h:∀ A' c' w',w'.ownsRow base e size (.slice A' (n+m) c') (n+m) (xs ++ news)→w.grownBy w' v.ownBlock→((Value.slice A' (n+m) c').ownBlock=v.ownBlock∨(Value.slice A' (n+m) c').ownBlock=some w.heap.size)→wpList P ops Q rest (a.put o.dst (.slice A' (n+m) c')) w'):wpList P ops Q (o :: rest) a w:=
 wpList_plain hgd fun _ hK=>Yc w s x t ho base e z size bytes ht hi hzs hsz v n xs hs hown B A m c news hx hr h1 h63 hbytes hbase fun A' c' w' h2 h3 h4=>hK _ _ (h A' c' w' h2 h3 h4)
end
theorem Da {w:World}{base:Nat}{e:TypeId}{size n c:Nat}{A:Option Addr}{xs:List Value}(h:w.ownsRow base e size (.slice A n c) n xs)(hn:0<n) :
 ∃ g cur,A=some ⟨g,0,none⟩∧base≤g∧zb w g e cur∧n * size≤cur.size∧cur.toList.take (n * size)=xs:=by
 rcases h.2 with ⟨hv,_⟩ | ⟨g,cap,cur,hv,hb,hg,hnc,hcm,hsz,hcell⟩
 ·injection hv with _ h2;omega
 ·injection hv with h1 h2 h3
  subst h1 h3
  have hle:n * size≤cur.size:=by rw[hsz];exact Nat.mul_le_mul_right _ hnc
  exact ⟨g,cur,rfl,hb,hg,hle,hcell⟩
def aO (A:Option Addr):Addr:=A.getD ⟨0,0,none⟩
theorem FE (a:Addr):a.add 0=a:=by simp[Addr.add]
theorem run_indexAt {P:Program}{t e:TypeId}{i:TypeInfo}{size:Nat}(ht:P.underlying t=some (.slice e))(hi:P.info? e=some i)(hs:i.size=size){A:Option Addr}{n:Nat}(hA:0<n→∃ ad,A=some ad)(c k:Nat)(hk:k<n)(w:World) :
 (Instr.indexAt t (.slice A n c) (ι (k:Int))).run P w=.ok (.pointer (some ((aO A).add (k * size)))) w:=by
 obtain ⟨ad,rfl⟩:=hA (by omega)
 simp[Instr.indexAt,asIntOf,run_underlying ht,sizeOf,typeInfo,hi,hs,aO,hk]
theorem Reads.cell {w:World}{B:Nat→Prop}{size n:Nat}{A:Option Addr}{xs:List Value}(h:Reads w B size A n xs)(j:Nat)(hj:j<n * size):w.cell? ((aO A).add j)=xs[j]?:=by
 have hn:0<n:=by
  rcases Nat.eq_zero_or_pos n with h0 | h0
  ·subst h0;simp at hj
  ·exact h0
 obtain ⟨ad,rfl,_,hc⟩:=h.2 hn
 have hl:j<xs.length:=by rw[h.1];exact hj
 rw[List.getElem?_eq_getElem hl]
 exact hc j _ (List.getElem?_eq_getElem hl)
theorem Reads.block {w:World}{B:Nat→Prop}{size n:Nat}{A:Option Addr}{xs:List Value}(h:Reads w B size A n xs)(hn:0<n):B (aO A).block:=by
 obtain ⟨ad,rfl,hb,_⟩:=h.2 hn
 exact hb
theorem Reads.old {w:World}{B:Nat→Prop}{size n:Nat}{A:Option Addr}{xs:List Value}(h:Reads w B size A n xs)(hs:0<size):Reads w (fun k=>B k∧k<w.heap.size) size A n xs:=by
 refine ⟨h.1,fun hn=>?_⟩
 obtain ⟨ad,rfl,hb,hc⟩:=h.2 hn
 have hl:0<xs.length:=by rw[h.1];exact Nat.mul_pos hn hs
 have:=block_lt_of_cell (hc 0 _ (List.getElem?_eq_getElem hl))
 rw[Za] at this
 exact ⟨ad,rfl,⟨hb,this⟩,hc⟩
def bk (A:Option Addr):Nat:=(aO A).block
def qP (A:Option Addr):Nat:=(aO A).off
def Plain (A:Option Addr)(n:Nat):Prop:=0<n→∃ b o,A=some ⟨b,o,none⟩
theorem Reads.plain {w:World}{B:Nat→Prop}{size n:Nat}{A:Option Addr}{xs:List Value}(h:Reads w B size A n xs)(hs:0<size):Plain A n:=by
 intro hn
 obtain ⟨⟨b,o,s⟩,rfl,hb,hc⟩:=h.2 hn
 have hl:0<xs.length:=by rw[h.1];exact Nat.mul_pos hn hs
 have hcell:=hc 0 _ (List.getElem?_eq_getElem hl)
 have hspot:s=none:=by simpa [Addr.add] using World.cell?_spot hcell
 subst hspot
 exact ⟨b,o,rfl⟩
theorem jk {P:Program}{t e:TypeId}{i:TypeInfo}{size:Nat}(ht:P.underlying t=some (.slice e))(hi:P.info? e=some i)(hs:i.size=size){A:Option Addr}{n:Nat}(hA:Plain A n)(c k:Nat)(hk:k<n)(w:World) :
 (Instr.indexAt t (.slice A n c) (ι (k:Int))).run P w=.ok (.pointer (some ⟨bk A,qP A+k * size,none⟩)) w:=by
 obtain ⟨b,o,rfl⟩:=hA (by omega)
 simp[Instr.indexAt,asIntOf,run_underlying ht,sizeOf,typeInfo,hi,hs,bk,qP,aO,hk,Addr.add_lit]
theorem Reads.cell2 {w:World}{B:Nat→Prop}{size n:Nat}{A:Option Addr}{xs:List Value}(h:Reads w B size A n xs)(j:Nat)(hj:j<n * size)(hs:0<size):w.cell? ⟨bk A,qP A+j,none⟩=xs[j]?:=by
 have hn:0<n:=by
  rcases Nat.eq_zero_or_pos n with h0 | h0
  ·subst h0;simp at hj
  ·exact h0
 obtain ⟨b,o,rfl⟩:=h.plain hs hn
 have:=h.cell j hj
 simpa [aO,bk,qP,Addr.add_lit] using this
theorem Reads.bk_lt {w:World}{B:Nat→Prop}{size n:Nat}{A:Option Addr}{xs:List Value}(h:Reads w B size A n xs)(hn:0<n)(hs:0<size):Own.bk A<w.heap.size:=((h.old hs).block hn).2
theorem Reads.newS (w:World)(cs:List Value)(t:TypeId)(fr:Nat × Nat)(n size:Nat)(h:cs.length=n * size)(g:Nat)(hg:g=w.heap.size):Reads (w.alloc (.cells cs.toArray t fr)) (·=w.heap.size) size (some ⟨g,0,none⟩) n cs:=by
 subst hg
 refine ⟨h,fun _=>⟨_,rfl,rfl,fun j u hu=>?_⟩⟩
 rw[Addr.add_lit,cell_of_row _ _ _ _ _ _ (heap_alloc_new w _)]
 simpa using hu
theorem zb.grown {w w':World}{g:Nat}{t:TypeId}{cs:Array Value}{row:Option Nat}(h:zb w g t cs)(hb:w.grownBy w' row)(hg:some g≠row):zb w' g t cs:=(hb.block g h.lt hg).trans h
theorem Reads.grown {w w':World}{B:Nat→Prop}{size n:Nat}{A:Option Addr}{xs:List Value}{row:Option Nat}(h:Reads w B size A n xs)(hg:w.grownBy w' row)(hr:∀ k,B k→some k≠row):Reads w' B size A n xs:=
 h.keep fun p hp hs=>World.cell?_of_block (hg.block p.block (by
  cases hc:w.cell? p with
  | none=>rw[hc] at hs;cases hs
  | some v=>exact block_lt_of_cell hc) (hr _ hp))
theorem yf {P:Program}(w:World){ops:Array Oper}{o:Oper}{a:Act}{K:Act→World→Prop}{Q:Exit→Act→World→Prop}{E:Prop}(hgd:o.guard=none)(s x:Operand)(t:TypeId)
 (ho:o.op=.call { callee:=.builtin .append,args:=#[s,x],argTypes:=#[t,t] })
 (base:Nat) (e:TypeId) (z:Value) (size bytes:Nat) (ht:P.underlying t=some (.slice e)) (hi:(P.info? e).map (fun i=>(i.zero,i.size,i.bytes))=some (some z,size,bytes)) (hzs:z.cells.size=size) (hsz:0<size)
 (v:Value) (n:Nat) (xs:List Value) (hs:a.eval s=v) (hown:w.ownsRow base e size v n xs)
 (B:Nat→Prop) (A:Option Addr) (m c:Nat) (news:List Value) (hx:a.eval x=.slice A m c) (hr:Reads w B size A m news) (h1:∀ u∈news,u.oneCell'=true)
 (h63:n+m≤maxLen) (hbytes:(n+m) * bytes≤140737488355328) (hbase:base≤w.heap.size)
 (h:∀ A' c' w',w'.ownsRow base e size (.slice A' (n+m) c') (n+m) (xs ++ news)→w.grownBy w' v.ownBlock→((Value.slice A' (n+m) c').ownBlock=v.ownBlock∨(Value.slice A' (n+m) c').ownBlock=some w.heap.size)→K (a.put o.dst (.slice A' (n+m) c')) w') :
 if Region.wanted o (yielded ops a.tmps)=true then Oper.wp P o a w K Q else E:=by
 have hw:Region.wanted o (yielded ops a.tmps)=true:=by simp[Region.wanted,hgd]
 rw[if_pos hw]
 exact Yc w s x t ho base e z size bytes ht hi hzs hsz v n xs hs hown B A m c news hx hr h1 h63 hbytes hbase h
theorem inj_of_nodup_map {α β:Type}(f:α→β):∀ {l:List α},(l.map f).Nodup→∀ {a b:α},a∈l→b∈l→f a=f b→a=b
 | [],_,_,_,ha,_,_=>by simp at ha
 | x :: r,h,a,b,ha,hb,e=>by
  rw[List.map_cons,List.nodup_cons] at h
  rcases List.mem_cons.1 ha with rfl | ha' <;> rcases List.mem_cons.1 hb with rfl | hb'
  ·rfl
  ·exact absurd (List.mem_map.2 ⟨b,hb',e.symm⟩) h.1
  ·exact absurd (List.mem_map.2 ⟨a,ha',e⟩) h.1
  ·exact inj_of_nodup_map f h.2 ha' hb' e
section
variable {α:Type} {P:Program} {q:IntKind} {m r:Nat} {w w':World} {f:α→Int × Value} {l d:List α}
theorem F_ {P:Program}(t e:TypeId)(z:Value)(bytes:Nat)(ht:P.underlying t=some (.slice e))(hi:(P.info? e).map (fun i=>(i.zero,i.size,i.bytes))=some (some z,1,bytes))(hz:z.cells=#[z])
 (c:Nat) (hbytes:bytes * c≤281474976710656) (hc:c≤9223372036854775807) (w:World) :
 (Instr.makeSlice t (ι 0) (ι (c:Int))).run P w=.ok (.slice (some ⟨w.heap.size,0,none⟩) 0 c) (w.alloc (.cells (Fu z c) e)):=by
 obtain ⟨i,hi,hz0,hz1,hz2⟩:=info_parts hi
 have:=Y9 (P:=P) t e i z ht hi hz0 .i64 .i64 0 c (Nat.zero_le _) (by rw[hz2];exact hbytes) hc w
 rw[hz1,hz,Nat.mul_one,VU] at this
 exact this
end
theorem YG {P:Program}{w:World}{T:TypeId}{i:TypeInfo}{g:Nat}{t:TypeId}{cs cs':Array Value}(hi:P.info? T=some i)(hsz:i.size=cs'.size)(hb:zb w g t cs)(hl:cs.size=cs'.size)(h1:∀ u∈cs'.toList,u.oneCell'=true) :
 (Instr.storeAt T (.pointer (some ⟨g,0,none⟩)) (.agg cs')).run P w=.ok () (w.setRow g cs'):=by
 have hst:=run_storeCells_at P g 0 t cs'.toList 0 cs w hb (by simp;omega) h1
 have e:(List.take (0+0) cs.toList ++ cs'.toList ++ List.drop (0+0+cs'.toList.length) cs.toList).toArray=cs':=by
  simp[show List.drop cs'.size cs.toList=[] from List.drop_eq_nil_of_le (by simp;omega)]
 rw[e] at hst
 simp[Instr.storeAt,Instr.sureAddr,storeVar,Value.cells,sizeOf,typeInfo,hi,hsz,hst]
theorem z8 {P:Program}{w:World}{ops:Array Oper}{rest:List Oper}{o:Oper}{a:Act}{Q:Exit→Act→World→Prop}(hg:o.guard=none)(ad v:Operand)(T:TypeId)(hop:o.op=.store T ad v)
 (g:Nat) (t:TypeId) (cs cs':Array Value) (z:Value) (size bytes:Nat) (hi:(P.info? T).map (fun i=>(i.zero,i.size,i.bytes))=some (some z,size,bytes)) (ha:a.eval ad=.pointer (some ⟨g,0,none⟩)) (hv:a.eval v=.agg cs') (hsz:size=cs'.size) (hb:zb w g t cs) (hl:cs.size=cs'.size) (h1:∀ u∈cs'.toList,u.oneCell'=true)
 (hK:∀ w',zb w' g t cs'→Fr (fun k=>k=g) w w'→w'.heap.size=w.heap.size→wpList P ops Q rest (a.put o.dst undef) w'):wpList P ops Q (o :: rest) a w:=by
 obtain ⟨i,hi,-,hi2,-⟩:=info_parts hi
 refine wpList_plain hg fun K' hK'=>?_
 unfold Oper.wp
 have hrun:=YG (P:=P) (T:=T) hi (hi2.trans hsz) hb hl h1
 simp[execOp,hop,ha,hv,hrun,Result.andThen]
 exact hK' _ _ (hK _ (hb.setRow cs') ((Fr.refl (fun k=>k=g) _).setRow (.inl rfl) _) (by simp))
end Go.Own

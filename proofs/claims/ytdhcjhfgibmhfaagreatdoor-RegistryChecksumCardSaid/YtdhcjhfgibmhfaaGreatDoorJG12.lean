import Derived.Test.YtdhcjhfgibmhfaaGreatDoorJG11
set_option linter.unusedVariables false
set_option linter.unusedSimpArgs false
namespace Go.Proofs.YtdhcjhfgibmhfaaGreatDoor
open Go.RowKit Go.Own Go.Quo Go.Inc
structure Bk where
 L:List Ic
 C:List Cr
def zw (L:List Ic)(k:Int):Option Ic:=yw Ic.id L k
def yP (C:List Cr)(k:Int):Option Cr:=yw Cr.call C k
def zz (L:List Ic)(x:Ic):List Ic:=jF Ic.id L x
def zG (C:List Cr)(t:Cr):List Cr:=jF Cr.call C t
def qB (C:List Cr)(id:Int):List Cr:=C.filter (fun t=>t.inc == id)
def qw (b:Bk)(id:Int):Bk:=match zw b.L id with | some x=>⟨zz b.L (qF x (qB b.C id)).1,b.C⟩ | none=>b
theorem zo {C:List Cr}{id:Int}{t:Cr}:t∈qB C id↔t∈C∧t.inc=id:=by
 unfold qB;rw[List.mem_filter,beq_iff_eq]
theorem qi {C:List Cr}(h:Asc Cr.call C)(id:Int):Asc Cr.call (qB C id):=h.sublist List.filter_sublist
theorem uk {C D:List Cr}(hC:Asc Cr.call C)(hD:Asc Cr.call D){id:Int}(h:∀ t,t.inc=id→(t∈C↔t∈D)):qB C id=qB D id:=
 QW Cr.call (qi hC id) (qi hD id) (fun t=>by
  rw[zo,zo]
  exact ⟨fun ⟨a,b⟩=>⟨(h t b).1 a,b⟩,fun ⟨a,b⟩=>⟨(h t b).2 a,b⟩⟩)
theorem UM (C:List Cr)(id:Int):(qB C id).length≤C.length:=List.length_filter_le _ _
inductive j3 (L:List Ic):Int→Nat→Int→Prop
 | here {id:Int} {x:Ic} (h:zw L id=some x) (hm:x.merged=0):j3 L id 0 id
 | up {id:Int} {x:Ic} {n:Nat} {r:Int} (h:zw L id=some x) (hm:x.merged≠0) (hr:j3 L x.merged n r):j3 L id (n+1) r
theorem j3.det {L:List Ic}{id:Int}{n m:Nat}{r s:Int}(h:j3 L id n r)(k:j3 L id m s):n=m∧r=s:=by
 induction h generalizing m with
 | here h hm=>
  cases k with
  | here h2 hm2=>exact ⟨rfl,rfl⟩
  | up h2 hm2 hr2=>rw[h] at h2;injection h2 with e;subst e;exact absurd hm hm2
 | up h hm hr ih=>
  cases k with
  | here h2 hm2=>rw[h] at h2;injection h2 with e;subst e;exact absurd hm2 hm
  | up h2 hm2 hr2=>
   rw[h] at h2;injection h2 with e;subst e
   obtain ⟨a,b⟩:=ih hr2
   exact ⟨by omega,b⟩
theorem Ye {l:List Int}(hn:l.Nodup):∀ {m:List Int},(∀ x∈l,x∈m)→l.length≤m.length:=by
 induction l with
 | nil=>intro m _;simp
 | cons a r ih=>
  intro m h
  obtain ⟨h1,h2⟩:=List.nodup_cons.1 hn
  have ha:=h a (by simp)
  have:=ih h2 (m:=m.erase a) (fun x hx=>by
   have hne:x≠a:=fun e=>h1 (e ▸ hx)
   exact (List.mem_erase_of_ne hne).2 (h x (by simp[hx])))
  rw[List.length_erase_of_mem ha] at this
  have hp:0<m.length:=List.length_pos_of_mem ha
  simp only[List.length_cons]
  omega
theorem j3.path {L:List Ic}{id:Int}{n:Nat}{r:Int}(h:j3 L id n r):∃ P:List Int,P.length=n+1∧P.Nodup∧∀ p∈P,p∈L.map Ic.id∧∃ j,j≤n∧j3 L p j r:=by
 induction h with
 | @here id x h hm=>
  obtain ⟨h1,h2⟩:=qY Ic.id h
  refine ⟨[id],rfl,by simp,fun p hp=>?_⟩
  have:p=id:=by simpa using hp
  subst this
  exact ⟨List.mem_map.2 ⟨x,h1,h2⟩,0,Nat.le_refl _,.here h hm⟩
 | @up id x n r h hm hr ih=>
  obtain ⟨P,h1,h2,h3⟩:=ih
  obtain ⟨g1,g2⟩:=qY Ic.id h
  refine ⟨id :: P,by simp[h1],List.nodup_cons.2 ⟨fun hi=>?_,h2⟩,fun p hp=>?_⟩
  ·obtain ⟨-,j,hj,hq⟩:=h3 _ hi
   have:=(hq.det (.up h hm hr)).1
   omega
  ·rcases List.mem_cons.1 hp with rfl | hp
   ·exact ⟨List.mem_map.2 ⟨x,g1,g2⟩,n+1,Nat.le_refl _,.up h hm hr⟩
   ·obtain ⟨a,j,hj,hq⟩:=h3 _ hp
    exact ⟨a,j,by omega,hq⟩
theorem j3.lt {L:List Ic}{id:Int}{n:Nat}{r:Int}(h:j3 L id n r):n<L.length:=by
 obtain ⟨P,h1,h2,h3⟩:=h.path
 have:=Ye h2 (m:=L.map Ic.id) (fun p hp=>(h3 p hp).1)
 rw[List.length_map] at this
 omega
theorem j3.mono {L M:List Ic}(hm:∀ k x,zw L k=some x→∃ y,zw M k=some y∧y.merged=x.merged){id:Int}{n:Nat}{r:Int}(h:j3 L id n r):j3 M id n r:=by
 induction h with
 | here h h0=>obtain ⟨y,h1,h2⟩:=hm _ _ h;exact .here h1 (by rw[h2];exact h0)
 | up h h0 hr ih=>obtain ⟨y,h1,h2⟩:=hm _ _ h;exact .up h1 (by rw[h2];exact h0) (by rw[h2];exact ih)
def Yg (L:List Ic):Nat→Int→Int
 | 0,_=>0
 | n+1,id=>match zw L id with | none=>0 | some x=>if x.merged=0 then id else Yg L n x.merged
theorem j3.fuel {L:List Ic}{id:Int}{n:Nat}{r:Int}(h:j3 L id n r):∀ {m:Nat},n<m→Yg L m id=r:=by
 induction h with
 | here h hm=>
  intro m hn
  obtain ⟨k,rfl⟩:∃ k,m=k+1:=⟨m - 1,by omega⟩
  unfold Yg
  rw[h];dsimp only;rw[if_pos hm]
 | up h hm hr ih=>
  intro m hn
  obtain ⟨k,rfl⟩:∃ k,m=k+1:=⟨m - 1,by omega⟩
  unfold Yg
  rw[h];dsimp only;rw[if_neg hm]
  exact ih (by omega)
def jd (b:Bk)(id:Int):Int:=Yg b.L (b.L.length+1) id
theorem vX {b:Bk}{id:Int}(h:zw b.L id=none):jd b id=0:=by
 unfold jd Yg;rw[h]
theorem uw {b:Bk}{id:Int}{n:Nat}{r:Int}(h:j3 b.L id n r):jd b id=r:=h.fuel (by have:=h.lt;omega)
structure zg (n:Nat) (b:Bk) (id:Int):Prop where
 sL:Asc Ic.id b.L
 sC:Asc Cr.call b.C
 nL:b.L.length≤n
 nC:b.C.length≤n
 vC:∀ t∈b.C,yz t=true∧t.nodes.length≤60
 vL:∀ x∈b.L,jC x=true∧x.nodes.length≤60
 lk:∀ t∈b.C,∃ x∈b.L,x.id=t.inc∧x.merged=0
 cl:∀ x∈b.L,x.closed=true→x.units=[]∧∀ t∈b.C,t.inc=x.id→t.closed=true
 un:∀ x∈b.L,∀ y∈b.L,∀ u,u∈x.units→u∈y.units→x.id=y.id
 rt:∀ x∈b.L,∃ k r,j3 b.L x.id k r
 cs:∀ x∈b.L,x.id≠id→x.calls=(qB b.C x.id).map Cr.call
 dr:∀ x∈b.L,x.id≠id→zx x=true→qF x (qB b.C x.id)=(x,0)
def Good (n:Nat)(b:Bk):Prop:=zg n b 0
theorem Va {x:Ic}(h:jC x=true):1≤x.id∧x.id≤1099511627776:=(ku h).1
theorem Good.cs {n:Nat}{b:Bk}(h:Good n b):∀ x∈b.L,x.calls=(qB b.C x.id).map Cr.call:=fun x hx=>zg.cs h x hx (by have:=Va (zg.vL h x hx).1;omega)
theorem Good.dr {n:Nat}{b:Bk}(h:Good n b):∀ x∈b.L,zx x=true→qF x (qB b.C x.id)=(x,0):=fun x hx=>zg.dr h x hx (by have:=Va (zg.vL h x hx).1;omega)
theorem zg.mono {n m:Nat}{b:Bk}{id:Int}(h:zg n b id)(hm:n≤m):zg m b id:=
 ⟨h.sL,h.sC,Nat.le_trans h.nL hm,Nat.le_trans h.nC hm,h.vC,h.vL,h.lk,h.cl,h.un,h.rt,h.cs,h.dr⟩
theorem Good.nil (n:Nat):Good n ⟨[],[]⟩:=
 ⟨List.Pairwise.nil,List.Pairwise.nil,Nat.zero_le _,Nat.zero_le _,fun t h=>by simp at h,fun t h=>by simp at h,fun t h=>by simp at h,fun t h=>by simp at h,fun t h=>by simp at h,fun t h=>by simp at h,fun t h=>by simp at h,fun t h=>by simp at h⟩
theorem yQ {x:Ic}(h:zx x=true):x.merged=0∧x.closed=false:=by
 unfold zx at h
 simpa using h
theorem Fy {cs:List Cr}{z:Ic}(h:tV cs z)(ha:Asc Cr.call cs):z.calls=cs.map Cr.call:=by
 refine Y_ h.perm (h.pw.imp (fun h=>by omega)) ?_
 rw[List.pairwise_map]
 exact ha.imp (fun h=>by omega)
theorem jH {n:Nat}{b:Bk}{id:Int}{x:Ic}(h:zg n b id)(hn:n≤1000)(hx:zw b.L id=some x)(ho:zx x=true)(hne:qB b.C id≠[]) :
 ∃ z,tV (qB b.C id) z∧qF x (qB b.C id)=(qD x z,0)∧jC (qD x z)=true∧qw b id=⟨zz b.L (qD x z),b.C⟩∧Good n (qw b id):=by
 obtain ⟨hm,hc⟩:=yQ ho
 obtain ⟨hxl,hxi⟩:=qY Ic.id hx
 have hv:∀ t∈qB b.C id,yz t=true:=fun t ht=>(h.vC t (zo.1 ht).1).1
 have hd:((qB b.C id).map (·.call)).Nodup:=jm Cr.call (qi h.sC id)
 have hl:(qB b.C id).length≤1000:=Nat.le_trans (Nat.le_trans (UM _ _) h.nC) hn
 obtain ⟨z,hz,hf⟩:=z1c id hne hv hd
 have hv1:=(h.vL x hxl).1
 have e1:=hf x hxi hv1 hm
 have hi:=Gp hv1 hm hz hl hv
 have e2:=hf (qD x z) hxi hi hm
 have e3:qw b id=⟨zz b.L (qD x z),b.C⟩:=by unfold qw;rw[hx];dsimp only;rw[e1]
 refine ⟨z,hz,e1,hi,e3,?_⟩
 rw[e3]
 have hk:Ic.id (qD x z)=id:=hxi
 have hmem:∀ y,y∈zz b.L (qD x z)→y=qD x z∨(y∈b.L∧y.id≠id):=fun y hy=>by
  rcases (jl Ic.id).1 hy with h1 | ⟨h1,h2⟩
  ·exact .inl h1
  ·exact .inr ⟨h1,by rw[hk] at h2;exact h2⟩
 have hin:qD x z∈zz b.L (qD x z):=(jl Ic.id).2 (.inl rfl)
 have hin2:∀ y∈b.L,y.id≠id→y∈zz b.L (qD x z):=fun y hy h2=>(jl Ic.id).2 (.inr ⟨hy,by rw[hk];exact h2⟩)
 have hzu:(qD x z).units=x.units:=rfl
 refine ⟨zN Ic.id h.sL _,h.sC,?_,h.nC,h.vC,?_,?_,?_,?_,?_,?_,?_⟩
 ·refine Nat.le_trans (jc Ic.id h.sL ?_) h.nL
  rw[hk];exact fun e=>by rw[show yw Ic.id b.L id=some x from hx] at e;cases e
 ·intro y hy
  rcases hmem y hy with rfl | ⟨h1,_⟩
  ·exact ⟨hi,hz.few 60 (fun t ht=>(h.vC t (zo.1 ht).1).2)⟩
  ·exact h.vL y h1
 ·intro t ht
  obtain ⟨y,hy,h1,h2⟩:=h.lk t ht
  by_cases e:y.id=id
  ·exact ⟨_,hin,by rw[←h1,e];exact hk,hm⟩
  ·exact ⟨y,hin2 y hy e,h1,h2⟩
 ·intro y hy xq
  rcases hmem y hy with rfl | ⟨h1,_⟩
  ·have:x.closed=true:=xq
   rw[hc] at this;cases this
  ·exact h.cl y h1 xq
 ·intro y hy y2 hy2 u hu hu2
  rcases hmem y hy with rfl | ⟨h1,_⟩ <;> rcases hmem y2 hy2 with rfl | ⟨h3,_⟩
  ·rfl
  ·exact h.un x hxl _ h3 u hu hu2
  ·exact h.un _ h1 x hxl u hu hu2
  ·exact h.un _ h1 _ h3 u hu hu2
 ·have hmono:∀ k y,zw b.L k=some y→∃ y',zw (zz b.L (qD x z)) k=some y'∧y'.merged=y.merged:=fun k y hy=>by
   unfold zw zz
   rw[U5 Ic.id h.sL]
   by_cases e:k=Ic.id (qD x z)
   ·rw[if_pos e]
    rw[e,hk,hx] at hy
    injection hy with hy
    exact ⟨_,rfl,by rw[←hy];rfl⟩
   ·rw[if_neg e];exact ⟨y,hy,rfl⟩
  intro y hy
  rcases hmem y hy with rfl | ⟨h1,_⟩
  ·obtain ⟨k,r,hr⟩:=h.rt x hxl
   exact ⟨k,r,hr.mono hmono⟩
  ·obtain ⟨k,r,hr⟩:=h.rt y h1
   exact ⟨k,r,hr.mono hmono⟩
 ·intro y hy _
  rcases hmem y hy with rfl | ⟨h1,h2⟩
  ·show z.calls=(qB b.C x.id).map Cr.call
   rw[hxi];exact Fy hz (qi h.sC id)
  ·exact h.cs y h1 h2
 ·intro y hy _ nk
  rcases hmem y hy with rfl | ⟨h1,h2⟩
  ·show qF (qD x z) (qB b.C x.id)=_
   rw[hxi,e2];rfl
  ·exact h.dr y h1 h2 nk
def z_ (t:Cr):Bool:=yz { t with inc:=0 }
def j6 (t:Cr)(id:Int):Cr:={ t with inc:=id,closed:=false }
def Zv (a:Cr→Int)(c:Cr→Bool)(t:Cr):Cr:={ t with inc:=a t,closed:=c t }
def Jq (a b:List Int):Bool:=a.all (hasB b)
def qp (a b:List Int):List Int:=((List.range 256).map (fun n:Nat=>(n:Int))).filter (fun u=>hasB a u || hasB b u)
def qQ (b:Bk)(t:Cr)(id:Int):Bk × Int:=
 if (z_ t && zQ id 1)=false then (b,1) else
 match yP b.C t.call with
 | some _=>(b,5)
 | none=>match zw b.L id with
  | some _=>(b,5)
  | none=>(⟨zz b.L (zt id (j6 t id)),zG b.C (j6 t id)⟩,0)
def qy (b:Bk)(t:Cr)(id:Int):Bk × Int:=
 if (z_ t && zQ id 1)=false then (b,1) else
 match yP b.C t.call with
 | some _=>(b,5)
 | none=>match zw b.L id with
  | none=>(b,4)
  | some x=>if zx x=false then (b,8) else if 1000≤x.calls.length then (b,3) else (qw ⟨b.L,zG b.C (j6 t id)⟩ id,0)
def qG (y t:Cr):Cr:={ y with urg:=t.urg,code:=t.code,nodes:=t.nodes }
def qR (b:Bk)(t:Cr):Bk × Int:=
 if z_ t=false then (b,1) else
 match yP b.C t.call with
 | none=>(b,4)
 | some y=>if y.closed=true then (b,8) else if Jq t.nodes y.nodes=false∨y.urg<t.urg then (b,9) else (qw ⟨b.L,zG b.C (qG y t)⟩ y.inc,0)
def Z8 (b:Bk)(call:Int):Bk × Int:=
 match yP b.C call with
 | none=>(b,4)
 | some y=>if y.closed=true then (b,8) else (⟨b.L,zG b.C { y with closed:=true }⟩,0)
def qz (x:Ic)(into:Int):Ic:={ x with merged:=into,calls:=[],units:=[] }
def zM (b:Bk)(id into:Int):Bk × Int:=
 if id=into then (b,1) else
 match zw b.L id,zw b.L into with
 | some x,some y=>
  if zx x=false∨zx y=false then (b,8) else if 1000<x.calls.length+y.calls.length then (b,3) else
  (qw ⟨zz (zz b.L (qz x into)) { y with units:=qp x.units y.units },b.C.map (Zv (fun t=>if t.inc=id then into else t.inc) (fun t=>t.closed))⟩ into,0)
 | _,_=>(b,4)
def zS (b:Bk)(call inc id now:Int):Bk × Int:=
 if zQ id 1=false∨now<0∨1099511627776<now then (b,1) else
 match yP b.C call,zw b.L inc with
 | some t,some _=>match zw b.L id with
  | some _=>(b,5)
  | none=>if t.inc≠jd b inc then (b,14) else
   match zw b.L t.inc with
   | none=>(b,8)
   | some x=>if zx x=false∨x.calls.length<2 then (b,8) else
    (qw ⟨zz b.L (zt id { t with inc:=id }),zG b.C { t with inc:=id }⟩ t.inc,0)
 | _,_=>(b,4)
def qN (b:Bk)(id u:Int):Bk × Int:=
 if u<0∨255<u then (b,1) else
 match zw b.L id with
 | none=>(b,4)
 | some x=>if zx x=false then (b,8) else
  match b.L.find? (fun y=>hasB y.units u) with
  | some y=>if y.id=id then (b,5) else (b,10)
  | none=>(⟨zz b.L { x with units:=qp x.units [u] },b.C⟩,0)
def qI (b:Bk)(id u:Int):Bk × Int:=
 match zw b.L id with
 | none=>(b,4)
 | some x=>if hasB x.units u=false then (b,4) else (⟨zz b.L { x with units:=x.units.filter (fun v=>v != u) },b.C⟩,0)
def yI (b:Bk)(id:Int):Bk × Int:=
 match zw b.L id with
 | none=>(b,4)
 | some x=>if zx x=false then (b,8) else (⟨zz b.L { x with closed:=true,units:=[] },b.C.map (Zv (fun t=>t.inc) (fun t=>if t.inc=id then true else t.closed))⟩,0)
theorem ai (a:Cr→Int)(c:Cr→Bool)(l:List Cr)(t:Cr):QZ (l.map (Zv a c)) (Zv a c t)=(QZ l t).map (Zv a c):=by
 have hk:Vr (l.map (Zv a c)) (Zv a c t)=Vr l t:=by
  unfold Vr
  rw[List.takeWhile_map,List.length_map]
  rfl
 unfold QZ
 rw[hk]
 simp[List.map_take,List.map_drop]
theorem AQ (a:Cr→Int)(c:Cr→Bool)(l:List Cr):jQ (l.map (Zv a c))=(jQ l).map (Zv a c):=by
 have:∀ (l s:List Cr),(l.map (Zv a c)).foldl QZ (s.map (Zv a c))=(l.foldl QZ s).map (Zv a c):=by
  intro l
  induction l with
  | nil=>intro s;rfl
  | cons t r ih=>intro s;rw[List.map_cons,List.foldl_cons,List.foldl_cons,ai,ih]
 exact this l []
theorem Dq (a:Cr→Int)(c:Cr→Bool):∀ (l:List Cr) (y:Ic),Zc y (l.map (Zv a c))=Zc y l
 | [],y=>rfl
 | t :: l,y=>by
  show (if Zt y.calls t.call then none else Zc (yV y (Zv a c t)) (l.map (Zv a c)))=(if Zt y.calls t.call then none else Zc (yV y t) l)
  have e:yV y (Zv a c t)=yV y t:=rfl
  rw[e,Dq a c l]
theorem Wu (x:Ic)(a:Cr→Int)(c:Cr→Bool)(cs:List Cr)(h:∀ t∈cs,yz (Zv a c t)=true∧yz t=true):qF x (cs.map (Zv a c))=qF x cs:=by
 have h1:(cs.map (Zv a c)).all yz=cs.all yz:=by
  rw[Bool.eq_iff_iff,List.all_eq_true,List.all_eq_true]
  constructor
  ·intro _ t ht;exact (h t ht).2
  ·intro _ t ht
   obtain ⟨u,hu,rfl⟩:=List.mem_map.1 ht
   exact (h u hu).1
 unfold qF
 rw[h1,AQ]
 have h2:(jC x=false∨cs.map (Zv a c)=[])↔(jC x=false∨cs=[]):=by simp
 by_cases h3:jC x=false∨cs=[]
 ·rw[if_pos h3,if_pos (h2.2 h3)]
 ·rw[if_neg h3,if_neg (fun h=>h3 (h2.1 h))]
  cases hs:jQ cs with
  | nil=>rfl
  | cons t0 r=>
   rw[List.map_cons]
   dsimp only
   rw[Dq]
   rfl
theorem Zx {t:Cr}(h:yz t=true){id:Int}(hid:zQ id 0=true)(c:Bool):yz { t with inc:=id,closed:=c }=true:=by
 unfold yz at h⊢
 simp only[Bool.and_eq_true] at h⊢
 exact ⟨⟨h.1.1,hid⟩,h.2⟩
theorem Zu {n:Int}(h:zQ n 1=true):zQ n 0=true:=by
 unfold zQ at h⊢
 simp only[Bool.and_eq_true,decide_eq_true_eq] at h⊢
 omega
theorem uf {n:Int}(h:1≤n∧n≤1099511627776):zQ n 1=true:=by
 unfold zQ Qo
 simp only[Bool.and_eq_true,decide_eq_true_eq]
 exact h
theorem ZV {t:Cr}(h:z_ t=true){id:Int}(hid:zQ id 1=true)(c:Bool):yz { t with inc:=id,closed:=c }=true:=by
 have:=Zx (t:={ t with inc:=0 }) h (Zu hid) c
 exact this
theorem df {id:Int}{t:Cr}(hid:zQ id 1=true)(h:yz t=true):qF (zt id t) [t]=(zt id t,0):=by
 unfold qF
 rw[if_neg,if_neg]
 ·rfl
 ·simp[h]
 ·rintro (h1 | h1)
  ·rw[KT hid h] at h1;cases h1
  ·cases h1
theorem bX (x:Ic):qF x []=(zO,1):=UZ (.inr (.inl rfl))
theorem Good.some {n:Nat}{b:Bk}(h:Good n b){x:Ic}(hx:x∈b.L)(ho:zx x=true):qB b.C x.id≠[]:=fun e=>by
 have:=Good.dr h x hx ho
 rw[e,bX] at this
 injection this with _ h2
 cases h2
theorem Zf {n:Nat}{b:Bk}(h:Good n b){t:Cr}(hv:yz t=true∧t.nodes.length≤60){x:Ic}(hx:x∈b.L)(hxi:x.id=t.inc)(ho:zx x=true)
 (hk:∀ u∈b.C,u.call=t.call→u.inc=t.inc):zg (n+1) ⟨b.L,zG b.C t⟩ t.inc∧qB (zG b.C t) t.inc≠[]:=by
 have hm:∀ u,u∈zG b.C t↔u=t∨(u∈b.C∧u.call≠t.call):=fun u=>jl Cr.call
 have hof:∀ k,k≠t.inc→qB (zG b.C t) k=qB b.C k:=fun k hkn=>uk (zN Cr.call (zg.sC h) t) (zg.sC h) (fun u hu=>by
  refine Iff.trans (hm u) ?_
  constructor
  ·rintro (rfl | ⟨h1,_⟩)
   ·exact absurd hu.symm hkn
   ·exact h1
  ·intro h1
   refine .inr ⟨h1,fun e=>hkn ?_⟩
   rw[←hu];exact hk u h1 e)
 have q1:=zg.sL h
 have q2:=zN Cr.call (zg.sC h) t
 have q3:=Nat.le_succ_of_le (zg.nL h)
 have q4:=zg.vL h
 have q5:=zg.un h
 have q6:=zg.rt h
 refine ⟨⟨q1,q2,q3,?_,?_,q4,?_,?_,q5,q6,?_,?_⟩,?_⟩
 ·exact Nat.le_trans (ZY Cr.call _ _) (by have:=zg.nC h;omega)
 ·intro u hu
  rcases (hm u).1 hu with rfl | ⟨h1,_⟩
  ·exact hv
  ·exact zg.vC h u h1
 ·intro u hu
  rcases (hm u).1 hu with rfl | ⟨h1,_⟩
  ·exact ⟨x,hx,hxi,(yQ ho).1⟩
  ·exact zg.lk h u h1
 ·intro y hy xq
  obtain ⟨h1,h2⟩:=zg.cl h y hy xq
  refine ⟨h1,fun u hu rM=>?_⟩
  rcases (hm u).1 hu with rfl | ⟨h3,_⟩
  ·have:y=x:=qj Ic.id (zg.sL h) hy hx (by rw[hxi];exact rM.symm)
   rw[this,(yQ ho).2] at xq;cases xq
  ·exact h2 u h3 rM
 ·intro y hy hne
  show y.calls=(qB (zG b.C t) y.id).map Cr.call
  rw[hof y.id hne];exact Good.cs h y hy
 ·intro y hy hne nk
  show qF y (qB (zG b.C t) y.id)=(y,0)
  rw[hof y.id hne];exact Good.dr h y hy nk
 ·intro e
  have:t∈qB (zG b.C t) t.inc:=zo.2 ⟨(hm t).2 (.inl rfl),rfl⟩
  rw[e] at this;simp at this
theorem J4 {C:List Cr}{k:Int}(h:yP C k=none):∀ u∈C,u.call≠k:=(qM Cr.call).1 h
theorem bf {L:List Ic}{k:Int}(h:zw L k=none):∀ u∈L,u.id≠k:=(qM Ic.id).1 h
theorem Um {n:Nat}{b:Bk}(h:Good n b)(hn:n+1≤1000){t:Cr}(ht:t.nodes.length≤60)(id:Int):Good (n+1) (qy b t id).1:=by
 have hm:Good (n+1) b:=zg.mono h (Nat.le_succ _)
 unfold qy
 by_cases h0:(z_ t && zQ id 1)=false
 ·rw[if_pos h0];exact hm
 ·rw[if_neg h0]
  have h1:z_ t=true∧zQ id 1=true:=by simpa using h0
  cases hc:yP b.C t.call with
  | some _=>exact hm
  | none=>
   dsimp only
   cases hi:zw b.L id with
   | none=>exact hm
   | some x=>
    dsimp only
    by_cases ho:zx x=false
    ·rw[if_pos ho];exact hm
    ·rw[if_neg ho]
     by_cases hl:1000≤x.calls.length
     ·rw[if_pos hl];exact hm
     ·rw[if_neg hl]
      obtain ⟨g1,g2⟩:=qY Ic.id hi
      have ho':zx x=true:=by simpa using ho
      obtain ⟨k1,k2⟩:=Zf h (t:=j6 t id) ⟨ZV h1.1 h1.2 false,ht⟩ g1 g2 ho' (fun u hu e=>absurd e (J4 hc u hu))
      obtain ⟨z,-,-,-,-,hz⟩:=jH (id:=id) k1 hn hi ho' k2
      exact hz
theorem DW {n:Nat}{b:Bk}(h:Good n b)(hn:n+1≤1000){t:Cr}(ht:t.nodes.length≤60):Good (n+1) (qR b t).1:=by
 have hm:Good (n+1) b:=zg.mono h (Nat.le_succ _)
 unfold qR
 by_cases h0:z_ t=false
 ·rw[if_pos h0];exact hm
 ·rw[if_neg h0]
  have h1:z_ t=true:=by simpa using h0
  cases hc:yP b.C t.call with
  | none=>exact hm
  | some y=>
   dsimp only
   by_cases hcl:y.closed=true
   ·rw[if_pos hcl];exact hm
   ·rw[if_neg hcl]
    by_cases hs:Jq t.nodes y.nodes=false∨y.urg<t.urg
    ·rw[if_pos hs];exact hm
    ·rw[if_neg hs]
     obtain ⟨g1,g2⟩:=qY Cr.call hc
     obtain ⟨x,hx,hxi,hxm⟩:=zg.lk h y g1
     have ho:zx x=true:=by
      unfold zx
      cases gF:x.closed with
      | false=>simp[hxm]
      | true=>exact absurd ((zg.cl h x hx gF).2 y g1 hxi.symm) hcl
     have hv:yz (qG y t)=true:=by
      have h2:=(zg.vC h y g1).1
      unfold z_ at h1
      unfold yz at h1 h2⊢
      rw[jI] at h1 h2⊢
      unfold qG
      simp only[Bool.and_eq_true,decide_eq_true_eq] at h1 h2⊢
      obtain ⟨⟨a1,a2⟩,⟨⟨⟨⟨⟨⟨⟨b1,b2⟩,b3⟩,b4⟩,b5⟩,b6⟩,b7⟩,b8⟩⟩:=h1
      obtain ⟨⟨c1,c2⟩,⟨⟨⟨⟨⟨⟨⟨d1,d2⟩,d3⟩,d4⟩,d5⟩,d6⟩,d7⟩,d8⟩⟩:=h2
      exact ⟨⟨c1,c2⟩,⟨⟨⟨⟨⟨⟨⟨b1,b2⟩,b3⟩,b4⟩,b5⟩,d6⟩,d7⟩,d8⟩⟩
     obtain ⟨k1,k2⟩:=Zf h (t:=qG y t) ⟨hv,ht⟩ hx hxi ho (fun u hu e=>by
      have:u=y:=qj Cr.call (zg.sC h) hu g1 e
      rw[this];rfl)
     have hg:zw b.L y.inc=some x:=by rw[←hxi];exact yR Ic.id (zg.sL h) hx
     obtain ⟨z,-,-,-,-,hz⟩:=jH (id:=y.inc) k1 hn hg ho k2
     exact hz
theorem qc {C:List Cr}{t u:Cr}:u∈zG C t↔u=t∨(u∈C∧u.call≠t.call):=jl Cr.call
theorem zK {L:List Ic}{x y:Ic}:y∈zz L x↔y=x∨(y∈L∧y.id≠x.id):=jl Ic.id
theorem jb {L:List Ic}(h:Asc Ic.id L)(x:Ic)(k:Int):zw (zz L x) k=if k=x.id then some x else zw L k:=U5 Ic.id h x k
theorem Vl {L:List Ic}(h:Asc Ic.id L){x:Ic}(hx:x∈L):zw L x.id=some x:=yR Ic.id h hx
theorem zi {L:List Ic}{k:Int}{x:Ic}(h:zw L k=some x):x∈L∧x.id=k:=qY Ic.id h
theorem yC {C:List Cr}{k:Int}{t:Cr}(h:yP C k=some t):t∈C∧t.call=k:=qY Cr.call h
theorem VI {n:Nat}{b:Bk}(h:Good n b)(c:Cr→Bool)(hc:∀ t∈b.C,t.closed=true→c t=true):Good n ⟨b.L,b.C.map (Zv (fun t=>t.inc) c)⟩:=by
 have q1:=zg.sL h
 have q2:Asc Cr.call (b.C.map (Zv (fun t=>t.inc) c)):=Qe Cr.call (zg.sC h) _ (fun t _=>rfl)
 have q3:=zg.nL h
 have q4:=zg.vL h
 have q5:=zg.un h
 have q6:=zg.rt h
 have hv:∀ t∈b.C,yz (Zv (fun t=>t.inc) c t)=true:=fun t ht=>by
  have h1:=(zg.vC h t ht).1
  unfold yz at h1⊢
  exact h1
 have hof:∀ k,qB (b.C.map (Zv (fun t=>t.inc) c)) k=(qB b.C k).map (Zv (fun t=>t.inc) c):=fun k=>by
  unfold qB
  rw[List.filter_map]
  rfl
 refine ⟨q1,q2,q3,by show (b.C.map _).length≤n;rw[List.length_map];exact zg.nC h,?_,q4,?_,?_,q5,q6,?_,?_⟩
 ·intro t ht
  obtain ⟨u,hu,rfl⟩:=List.mem_map.1 ht
  exact ⟨hv u hu,(zg.vC h u hu).2⟩
 ·intro t ht
  obtain ⟨u,hu,rfl⟩:=List.mem_map.1 ht
  exact zg.lk h u hu
 ·intro x hx gF
  obtain ⟨h1,h2⟩:=zg.cl h x hx gF
  refine ⟨h1,fun t ht hti=>?_⟩
  obtain ⟨u,hu,rfl⟩:=List.mem_map.1 ht
  exact hc u hu (h2 u hu hti)
 ·intro x hx hne
  show x.calls=(qB (b.C.map _) x.id).map Cr.call
  rw[hof,List.map_map]
  exact Good.cs h x hx
 ·intro x hx hne ho
  show qF x (qB (b.C.map _) x.id)=(x,0)
  rw[hof,Wu x _ c _ (fun t ht=>⟨hv t (zo.1 ht).1,(zg.vC h t (zo.1 ht).1).1⟩)]
  exact Good.dr h x hx ho
theorem V8 {n:Nat}{b:Bk}(h:Good n b){x x':Ic}(hx:x∈b.L)(hid:x'.id=x.id)(hm:x'.merged=x.merged)(hc:x'.calls=x.calls)(hv:jC x'=true∧x'.nodes.length≤60)
 (hcl:x'.closed=true→x'.units=[]∧∀ t∈b.C,t.inc=x.id→t.closed=true) (hun:∀ u∈x'.units,u∈x.units∨∀ y∈b.L,u∉y.units) (hdr:zx x'=true→qF x' (qB b.C x.id)=(x',0)) :
 Good n ⟨zz b.L x',b.C⟩:=by
 have q1:=zN Ic.id (zg.sL h) x'
 have q2:=zg.sC h
 have q3:(zz b.L x').length≤n:=Nat.le_trans (jc Ic.id (zg.sL h) (by
  show zw b.L x'.id≠none
  rw[hid,Vl (zg.sL h) hx];exact fun e=>by cases e)) (zg.nL h)
 have q4:=zg.nC h
 have q5:=zg.vC h
 have hmem:∀ y,y∈zz b.L x'→y=x'∨(y∈b.L∧y.id≠x.id):=fun y hy=>by rw[zK,hid] at hy;exact hy
 have hin:x'∈zz b.L x':=zK.2 (.inl rfl)
 have hin2:∀ y∈b.L,y.id≠x.id→y∈zz b.L x':=fun y hy h2=>zK.2 (.inr ⟨hy,by rw[hid];exact h2⟩)
 refine ⟨q1,q2,q3,q4,q5,?_,?_,?_,?_,?_,?_,?_⟩
 ·intro y hy
  rcases hmem y hy with rfl | ⟨h1,_⟩
  ·exact hv
  ·exact zg.vL h y h1
 ·intro t ht
  obtain ⟨y,hy,h1,h2⟩:=zg.lk h t ht
  by_cases e:y.id=x.id
  ·have:y=x:=qj Ic.id (zg.sL h) hy hx e
   subst this
   exact ⟨x',hin,by rw[hid];exact h1,by rw[hm];exact h2⟩
  ·exact ⟨y,hin2 y hy e,h1,h2⟩
 ·intro y hy xq
  rcases hmem y hy with rfl | ⟨h1,_⟩
  ·obtain ⟨h2,h3⟩:=hcl xq
   exact ⟨h2,fun t ht hti=>h3 t ht (by rw[hti,hid])⟩
  ·exact zg.cl h y h1 xq
 ·have key:∀ y,y∈b.L→y.id≠x.id→∀ u,u∈x'.units→u∈y.units→False:=fun y hy hne u hu hu2=>by
   rcases hun u hu with h1 | h1
   ·exact hne (zg.un h y hy x hx u hu2 h1)
   ·exact h1 y hy hu2
  intro y hy y2 hy2 u hu hu2
  rcases hmem y hy with h0 | ⟨h1,h2⟩
  ·rcases hmem y2 hy2 with h3 | ⟨h3,h4⟩
   ·rw[h0,h3]
   ·rw[h0] at hu;exact absurd (key y2 h3 h4 u hu hu2) id
  ·rcases hmem y2 hy2 with h3 | ⟨h3,h4⟩
   ·rw[h3] at hu2;exact absurd (key y h1 h2 u hu2 hu) id
   ·exact zg.un h y h1 y2 h3 u hu hu2
 ·have hmono:∀ k y,zw b.L k=some y→∃ y',zw (zz b.L x') k=some y'∧y'.merged=y.merged:=fun k y hy=>by
   rw[jb (zg.sL h)]
   by_cases e:k=x'.id
   ·rw[if_pos e]
    rw[e,hid,Vl (zg.sL h) hx] at hy
    injection hy with hy
    exact ⟨_,rfl,by rw[←hy];exact hm⟩
   ·rw[if_neg e];exact ⟨y,hy,rfl⟩
  intro y hy
  rcases hmem y hy with rfl | ⟨h1,_⟩
  ·obtain ⟨k,r,hr⟩:=zg.rt h x hx
   exact ⟨k,r,by rw[hid];exact hr.mono hmono⟩
  ·obtain ⟨k,r,hr⟩:=zg.rt h y h1
   exact ⟨k,r,hr.mono hmono⟩
 ·intro y hy _
  rcases hmem y hy with rfl | ⟨h1,h2⟩
  ·rw[hc,hid];exact Good.cs h x hx
  ·exact Good.cs h y h1
 ·intro y hy _ nk
  rcases hmem y hy with rfl | ⟨h1,h2⟩
  ·show qF y (qB b.C y.id)=(y,0)
   rw[hid];exact hdr nk
  ·exact Good.dr h y h1 nk
theorem U1 {n:Nat}{b:Bk}(h:Good n b){x:Ic}(hx:x∈b.L)(u:List Int)(hv:jC { x with units:=u }=true)(ho:zx { x with units:=u }=true):qF { x with units:=u } (qB b.C x.id)=({ x with units:=u },0):=by
 have hox:zx x=true:=ho
 have hne:=Good.some h hx hox
 obtain ⟨z,hz,hf⟩:=z1c x.id hne (fun t ht=>(zg.vC h t (zo.1 ht).1).1) (jm Cr.call (qi (zg.sC h) x.id))
 have hm:=(yQ hox).1
 have e1:=hf x rfl (zg.vL h x hx).1 hm
 rw[Good.dr h x hx hox] at e1
 injection e1 with e1 _
 have e2:=hf { x with units:=u } rfl hv hm
 rw[e2]
 congr 1
 have e3:x=qD x z:=e1
 show qD { x with units:=u } z = { x with units:=u }
 have a1:=congrArg Ic.urg e3
 have a2:=congrArg Ic.code e3
 have a3:=congrArg Ic.nodes e3
 have a4:=congrArg Ic.since e3
 have a5:=congrArg Ic.calls e3
 simp only[qD] at a1 a2 a3 a4 a5⊢
 rw[←a1,←a2,←a3,←a4,←a5]
theorem U9 {x:Ic}(h:jC x=true){u:List Int}(hu:qf u 0 255=true)(hm:x.merged=0):jC { x with units:=u }=true:=by
 unfold jC at h⊢
 simp only[Bool.and_eq_true] at h⊢
 obtain ⟨⟨⟨⟨⟨a1,a2⟩,a3⟩,a4⟩,a5⟩,a6⟩:=h
 exact ⟨⟨⟨⟨⟨a1,a2⟩,a3⟩,a4⟩,hu⟩,by simp[hm]⟩
theorem Y8 {x:Ic}(h:jC x=true){u:List Int}(hu:u.Sublist x.units):jC { x with units:=u }=true:=by
 unfold jC at h⊢
 simp only[Bool.and_eq_true] at h⊢
 obtain ⟨⟨⟨⟨⟨a1,a2⟩,a3⟩,a4⟩,a5⟩,a6⟩:=h
 refine ⟨⟨⟨⟨⟨a1,a2⟩,a3⟩,a4⟩,XZ a5 hu⟩,?_⟩
 simp only[Bool.or_eq_true,Bool.and_eq_true,decide_eq_true_eq] at a6⊢
 rcases a6 with h0 | ⟨h1,h2⟩
 ·exact .inl h0
 ·exact .inr ⟨h1,by have:=hu.length_le;omega⟩
theorem ZU {a b:List Int}{u:Int}:u∈qp a b↔(0≤u∧u≤255)∧(u∈a∨u∈b):=by
 unfold qp hasB
 rw[List.mem_filter,List.mem_map]
 simp only[Bool.or_eq_true,List.contains_iff_mem,List.mem_range]
 constructor
 ·rintro ⟨⟨n,hn,rfl⟩,h⟩
  exact ⟨by omega,h⟩
 ·rintro ⟨h1,h2⟩
  exact ⟨⟨u.toNat,by omega,by omega⟩,h2⟩
theorem Vn (a b:List Int):qf (qp a b) 0 255=true:=by
 rw[j4]
 refine ⟨?_,fun u hu=>(ZU.1 hu).1⟩
 unfold qp
 refine List.Pairwise.sublist List.filter_sublist ?_
 rw[List.pairwise_map]
 exact List.pairwise_lt_range.imp (fun h=>by omega)
theorem Eo {C:List Cr}(h:Asc Cr.call C){y:Cr}(hy:y∈C):zG C { y with closed:=true }=C.map (Zv (fun t=>t.inc) (fun t=>if t.call=y.call then true else t.closed)):=by
 refine QW Cr.call (zN Cr.call h _) (Qe Cr.call h _ (fun t _=>rfl)) (fun u=>?_)
 refine Iff.trans qc ?_
 rw[List.mem_map]
 constructor
 ·rintro (rfl | ⟨h1,h2⟩)
  ·exact ⟨y,hy,by unfold Zv;dsimp only;rw[if_pos rfl]⟩
  ·refine ⟨u,h1,?_⟩
   unfold Zv
   dsimp only
   rw[if_neg h2]
 ·rintro ⟨v,hv,rfl⟩
  by_cases e:v.call=y.call
  ·have:v=y:=qj Cr.call h hv hy e
   subst this
   left;unfold Zv;dsimp only;rw[if_pos rfl]
  ·right
   refine ⟨?_,e⟩
   unfold Zv
   dsimp only
   rw[if_neg e]
   exact hv
theorem V3 {c:Prop}[Decidable c]{b:Bool}(h:b=true):(if c then true else b)=true:=by split;rfl;exact h
theorem Hg {n:Nat}{b:Bk}(h:Good n b)(call:Int):Good n (Z8 b call).1:=by
 unfold Z8
 cases hc:yP b.C call with
 | none=>exact h
 | some y=>
  dsimp only
  by_cases hcl:y.closed=true
  ·rw[if_pos hcl];exact h
  ·rw[if_neg hcl]
   show Good n ⟨b.L,zG b.C { y with closed:=true }⟩
   rw[Eo (zg.sC h) (yC hc).1]
   exact VI h _ (fun t ht htc=>V3 htc)
theorem Gr {n:Nat}{b:Bk}(h:Good n b)(id:Int):Good n (yI b id).1:=by
 unfold yI
 cases hi:zw b.L id with
 | none=>exact h
 | some x=>
  dsimp only
  by_cases ho:zx x=false
  ·rw[if_pos ho];exact h
  ·rw[if_neg ho]
   obtain ⟨g1,g2⟩:=zi hi
   have k:=VI h (fun t=>if t.inc=id then true else t.closed) (fun t ht htc=>V3 htc)
   have hv:=zg.vL h x g1
   refine V8 k (x:=x) (x':={ x with closed:=true,units:=[] }) g1 rfl rfl rfl ⟨?_,hv.2⟩ (fun _=>⟨rfl,fun t ht hti=>?_⟩) (fun u hu=>by simp at hu) (fun h0=>?_)
   ·have:=Y8 hv.1 (u:=[]) (List.nil_sublist _)
    unfold jC at this⊢
    exact this
   ·obtain ⟨v,hv,rfl⟩:=List.mem_map.1 ht
    show (if v.inc=id then true else v.closed)=true
    rw[if_pos (by rw[←g2];exact hti)]
   ·have:=(yQ h0).2;cases this
theorem FY {n:Nat}{b:Bk}(h:Good n b)(id u:Int):Good n (qN b id u).1:=by
 unfold qN
 by_cases h0:u<0∨255<u
 ·rw[if_pos h0];exact h
 ·rw[if_neg h0]
  cases hi:zw b.L id with
  | none=>exact h
  | some x=>
   dsimp only
   by_cases ho:zx x=false
   ·rw[if_pos ho];exact h
   ·rw[if_neg ho]
    cases hf:b.L.find? (fun y=>hasB y.units u) with
    | some y=>dsimp only;split <;> exact h
    | none=>
     dsimp only
     obtain ⟨g1,g2⟩:=zi hi
     have ho':zx x=true:=by simpa using ho
     have hv:=zg.vL h x g1
     have hm:=(yQ ho').1
     have hi2:=U9 hv.1 (Vn x.units [u]) hm
     refine V8 h (x:=x) (x':={ x with units:=qp x.units [u] }) g1 rfl rfl rfl ⟨hi2,hv.2⟩ (fun hc=>?_) (fun v hv=>?_) (fun _=>U1 h g1 _ hi2 ho')
     ·have:x.closed=true:=hc
      rw[(yQ ho').2] at this;cases this
     ·rcases (ZU.1 hv).2 with h1 | h1
      ·exact .inl h1
      ·have:v=u:=by simpa using h1
       subst this
       right
       intro y hy hu
       have:=List.find?_eq_none.1 hf y hy
       unfold hasB at this
       rw[List.contains_iff_mem] at this
       exact this hu
theorem ug {n:Nat}{b:Bk}(h:Good n b)(id u:Int):Good n (qI b id u).1:=by
 unfold qI
 cases hi:zw b.L id with
 | none=>exact h
 | some x=>
  dsimp only
  by_cases ho:hasB x.units u=false
  ·rw[if_pos ho];exact h
  ·rw[if_neg ho]
   obtain ⟨g1,g2⟩:=zi hi
   have hv:=zg.vL h x g1
   have hs:(x.units.filter (fun v=>v != u)).Sublist x.units:=List.filter_sublist
   have hi2:=Y8 hv.1 hs
   refine V8 h (x:=x) (x':={ x with units:=x.units.filter (fun v=>v != u) }) g1 rfl rfl rfl ⟨hi2,hv.2⟩ (fun hc=>?_) (fun v hv=>.inl (hs.mem hv)) (fun ho2=>U1 h g1 _ hi2 ho2)
   obtain ⟨k1,k2⟩:=zg.cl h x g1 hc
   exact ⟨by show x.units.filter _=[];rw[k1];rfl,k2⟩
theorem J8 {n:Nat}{b:Bk}(h:Good n b){t:Cr}{id:Int}(hid:zQ id 1=true)(hi:zw b.L id=none)(hti:t.inc=id)(hv:yz t=true∧t.nodes.length≤60)(old:Int)
 (hk:∀ u∈b.C,u.call=t.call→u.inc=old∧∀ x∈b.L,x.id=old→zx x=true):zg (n+1) ⟨zz b.L (zt id t),zG b.C t⟩ old:=by
 have hno:=bf hi
 have dz:(zt id t).id=id:=rfl
 have mY:∀ u,u∈zG b.C t↔u=t∨(u∈b.C∧u.call≠t.call):=fun u=>qc
 have dD:∀ y,y∈zz b.L (zt id t)↔y=zt id t∨y∈b.L:=fun y=>by
  rw[zK,dz]
  exact ⟨fun h=>h.imp _root_.id (fun h=>h.1),fun h=>h.imp _root_.id (fun h=>⟨h,hno y h⟩)⟩
 have hof:∀ k,k≠id→k≠old→qB (zG b.C t) k=qB b.C k:=fun k h1 h2=>uk (zN Cr.call (zg.sC h) t) (zg.sC h) (fun u hu=>by
  refine Iff.trans (mY u) ?_
  constructor
  ·rintro (rfl | ⟨h3,_⟩)
   ·exact absurd (hu.symm.trans hti) h1
   ·exact h3
  ·intro h3
   refine .inr ⟨h3,fun e=>h2 ?_⟩
   rw[←hu];exact (hk u h3 e).1)
 have hnew:qB (zG b.C t) id=[t]:=QW Cr.call (qi (zN Cr.call (zg.sC h) t) id) (List.pairwise_singleton _ _) (fun u=>by
  rw[zo,List.mem_singleton]
  constructor
  ·rintro ⟨h1,h2⟩
   rcases (mY u).1 h1 with h3 | ⟨h3,_⟩
   ·exact h3
   ·obtain ⟨x,hx,h4,_⟩:=zg.lk h u h3
    exact absurd (h4.trans h2) (hno x hx)
  ·rintro rfl
   exact ⟨(mY u).2 (.inl rfl),hti⟩)
 refine ⟨zN Ic.id (zg.sL h) _,zN Cr.call (zg.sC h) t,Nat.le_trans (ZY Ic.id _ _) (by have:=zg.nL h;omega),Nat.le_trans (ZY Cr.call _ _) (by have:=zg.nC h;omega),?_,?_,?_,?_,?_,?_,?_,?_⟩
 ·intro u hu
  rcases (mY u).1 hu with rfl | ⟨h1,_⟩
  ·exact hv
  ·exact zg.vC h u h1
 ·intro y hy
  rcases (dD y).1 hy with rfl | h1
  ·exact ⟨KT hid hv.1,hv.2⟩
  ·exact zg.vL h y h1
 ·intro u hu
  rcases (mY u).1 hu with rfl | ⟨h1,_⟩
  ·exact ⟨zt id u,(dD _).2 (.inl rfl),hti.symm,rfl⟩
  ·obtain ⟨x,hx,h2⟩:=zg.lk h u h1
   exact ⟨x,(dD x).2 (.inr hx),h2⟩
 ·intro y hy xq
  rcases (dD y).1 hy with rfl | h1
  ·cases xq
  ·obtain ⟨h2,h3⟩:=zg.cl h y h1 xq
   refine ⟨h2,fun u hu rM=>?_⟩
   rcases (mY u).1 hu with rfl | ⟨h4,_⟩
   ·exact absurd (rM.symm.trans hti) (hno y h1)
   ·exact h3 u h4 rM
 ·intro y hy y2 hy2 u hu hu2
  rcases (dD y).1 hy with rfl | h1
  ·have:u∈([]:List Int):=hu
   simp at this
  ·rcases (dD y2).1 hy2 with rfl | h3
   ·have:u∈([]:List Int):=hu2
    simp at this
   ·exact zg.un h y h1 y2 h3 u hu hu2
 ·have hmono:∀ k y,zw b.L k=some y→∃ y',zw (zz b.L (zt id t)) k=some y'∧y'.merged=y.merged:=fun k y hy=>by
   rw[jb (zg.sL h)]
   by_cases e:k=(zt id t).id
   ·rw[e,dz,hi] at hy;cases hy
   ·rw[if_neg e];exact ⟨y,hy,rfl⟩
  intro y hy
  rcases (dD y).1 hy with rfl | h1
  ·refine ⟨0,id,.here (x:=zt id t) ?_ rfl⟩
   rw[dz,jb (zg.sL h),if_pos dz.symm]
  ·obtain ⟨k,r,hr⟩:=zg.rt h y h1
   exact ⟨k,r,hr.mono hmono⟩
 ·intro y hy hne
  rcases (dD y).1 hy with rfl | h1
  ·show [t.call]=(qB (zG b.C t) id).map Cr.call
   rw[hnew];rfl
  ·show y.calls=(qB (zG b.C t) y.id).map Cr.call
   rw[hof y.id (hno y h1) hne];exact Good.cs h y h1
 ·intro y hy hne ho
  rcases (dD y).1 hy with rfl | h1
  ·show qF (zt id t) (qB (zG b.C t) id)=(zt id t,0)
   rw[hnew];exact df hid hv.1
  ·show qF y (qB (zG b.C t) y.id)=(y,0)
   rw[hof y.id (hno y h1) hne];exact Good.dr h y h1 ho
theorem U2 {n:Nat}{b:Bk}(h:Good n b){t:Cr}(ht:t.nodes.length≤60)(id:Int):Good (n+1) (qQ b t id).1:=by
 have hm:Good (n+1) b:=zg.mono h (Nat.le_succ _)
 unfold qQ
 by_cases h0:(z_ t && zQ id 1)=false
 ·rw[if_pos h0];exact hm
 ·rw[if_neg h0]
  have h1:z_ t=true∧zQ id 1=true:=by simpa using h0
  cases hc:yP b.C t.call with
  | some _=>exact hm
  | none=>
   dsimp only
   cases hi:zw b.L id with
   | some _=>exact hm
   | none=>exact J8 h h1.2 hi (t:=j6 t id) rfl ⟨ZV h1.1 h1.2 false,ht⟩ 0 (fun u hu e=>absurd e (J4 hc u hu))
theorem Ub {n:Nat}{b:Bk}(h:Good n b)(hn:n+1≤1000)(call inc id now:Int):Good (n+1) (zS b call inc id now).1:=by
 have hm:Good (n+1) b:=zg.mono h (Nat.le_succ _)
 unfold zS
 by_cases h0:zQ id 1=false∨now<0∨1099511627776<now
 ·rw[if_pos h0];exact hm
 ·rw[if_neg h0]
  have hid:zQ id 1=true:=by
   cases hq:zQ id 1 with
   | true=>rfl
   | false=>exact absurd (.inl hq) h0
  cases hc:yP b.C call with
  | none=>exact hm
  | some t=>
   cases hx0:zw b.L inc with
   | none=>exact hm
   | some x0=>
    dsimp only
    cases hi:zw b.L id with
    | some _=>exact hm
    | none=>
     dsimp only
     by_cases hr:t.inc≠jd b inc
     ·rw[if_pos hr];exact hm
     ·rw[if_neg hr]
      cases hx:zw b.L t.inc with
      | none=>exact hm
      | some x=>
       dsimp only
       by_cases ho:zx x=false∨x.calls.length<2
       ·rw[if_pos ho];exact hm
       ·rw[if_neg ho]
        obtain ⟨g1,g2⟩:=yC hc
        obtain ⟨g3,g4⟩:=zi hx
        have ho':zx x=true:=by
         cases hq:zx x with
         | true=>rfl
         | false=>exact absurd (.inl hq) ho
        have hl:2≤x.calls.length:=by
         rcases Nat.lt_or_ge x.calls.length 2 with h | h
         ·exact absurd (.inr h) ho
         ·exact h
        have hv:=zg.vC h t g1
        have hne:id≠t.inc:=fun e=>by rw[←e,hi] at hx;cases hx
        have kn:=J8 h hid hi (t:={ t with inc:=id }) rfl ⟨Zx hv.1 (Zu hid) t.closed,hv.2⟩ t.inc (fun u hu e=>by
         have:u=t:=qj Cr.call (zg.sC h) hu g1 e
         subst this
         exact ⟨rfl,fun y hy hyi=>by rw[qj Ic.id (zg.sL h) hy g3 (by rw[hyi,g4])];exact ho'⟩)
        have hgx:zw (zz b.L (zt id { t with inc:=id })) t.inc=some x:=by
         rw[jb (zg.sL h),if_neg (fun e=>hne (by exact e.symm))];exact hx
        have hsome:qB (zG b.C { t with inc:=id }) t.inc≠[]:=by
         have hcs:=Good.cs h x g3
         rw[g4] at hcs
         have hlen:2≤(qB b.C t.inc).length:=by rw[hcs,List.length_map] at hl;exact hl
         have hex:∃ u∈qB b.C t.inc,u.call≠t.call:=by
          match hq:qB b.C t.inc,hlen with
          | u :: v :: r,_=>
           have ha:=qi (zg.sC h) t.inc
           rw[hq] at ha
           have h12:u.call<v.call:=(List.pairwise_cons.1 ha).1 v (by simp)
           by_cases e:u.call=t.call
           ·exact ⟨v,by simp,by omega⟩
           ·exact ⟨u,by simp,e⟩
         obtain ⟨u,hu,hue⟩:=hex
         intro e
         have:u∈qB (zG b.C { t with inc:=id }) t.inc:=zo.2 ⟨qc.2 (.inr ⟨(zo.1 hu).1,hue⟩),(zo.1 hu).2⟩
         rw[e] at this;simp at this
        obtain ⟨z,-,-,-,-,hz⟩:=jH (id:=t.inc) kn hn hgx ho' hsome
        exact hz
end Go.Proofs.YtdhcjhfgibmhfaaGreatDoor

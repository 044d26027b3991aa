import Derived.Test.YtdfobfjpkjddpaaGreatUGB
import Derived.Test.YtdfobfjpkjddpaaGreatUG3
import Derived.Test.YtdfobfjpkjddpaaGreatProg
import Derived.Test.YtdfobfjpkjddpaaGreatUG0
set_option linter.unusedVariables false
set_option linter.unusedSimpArgs false
set_option maxRecDepth 10000
set_option maxHeartbeats 1000000
namespace Go.Raft
open Go.Quo Go.Wire
instance:DecidableEq Ent:=fun a b=>decidable_of_iff (a.term=b.term∧a.kind=b.kind∧a.body=b.body) (by cases a;cases b;simp)
def permB (o n:List Int):Bool:=vB o n && (memF o n).all fun x=>decide (x<9)
def cfE (e:Ent):Option Mb:=if e.kind=3∧(decF e.body).2.2=0∧permB (decF e.body).1 (decF e.body).2.1=true then some ⟨(decF e.body).1,(decF e.body).2.1⟩ else none
def posC (X:List Ent):Nat:=(X.foldl (fun (s:Nat × Nat) e=>(if (cfE e).isSome=true then s.2+1 else s.1,s.2+1)) (0,0)).1
def termAt (L:List Ent)(n:Int):Option Int:=if n<0 then none else if n=0 then some 0 else (L[n.toNat - 1]?).map (·.term)
def pres (L:List Ent):Nat→List Ent→Nat
 | _,[]=>0
 | p,e :: r=>if L[p]?=some e then pres L (p+1) r+1 else 0
def encB (b:List Int):List Int:=za b.length ++ b
def encE (e:Ent):List Int:=za e.term ++ za e.kind ++ encB e.body
def recsOf:Nat→List Ent→List (Int × List Int)
 | _,[]=>[]
 | n,e :: r=>(69,za n ++ encE e) :: recsOf (n+1) r
structure Nd where
 id:Int
 wait:Int
 beat:Int
 c0:Mb
 recs:List (Int × List Int)
 term:Int
 voted:Int
 log:List Ent
 role:Int
 ld:Int
 commit:Int
 since:Int
 hb:Int
 latest:Int
 vs:List Bool
 nx:List Int
 mt:List Int
def MT:Int:=1099511627776
namespace Nd
def mb (s:Nd):Mb:=conf cfE s.c0 s.log
def mem (s:Nd):List Int:=memF s.mb.o s.mb.n
def others (s:Nd):List Int:=s.mem.filter fun x=>!decide (x=s.id)
def msg (s:Nd)(kind to prev pterm commit:Int)(granted:Bool)(es:List Ent):Msg:=⟨kind,s.id,to,s.term,prev,pterm,commit,granted,es⟩
def app (s:Nd)(to:Int):Msg:=s.msg 3 to (gd s.nx to.toNat - 1) ((termAt s.log (gd s.nx to.toNat - 1)).getD 0) s.commit false ((s.log.drop (gd s.nx to.toNat - 1).toNat).take 16)
def apps (s:Nd):List Msg:=s.others.map s.app
def write (s:Nd)(p:Nat)(es:List Ent):Nd:=if pres s.log p es=es.length then s else { s with log:=s.log.take (p+pres s.log p es) ++ es.drop (pres s.log p es),recs:=s.recs ++ recsOf (p+1+pres s.log p es) (es.drop (pres s.log p es)) }
def add (s:Nd)(kind:Int)(body:List Int):Nd:=s.write s.log.length [⟨s.term,kind,body⟩]
def num (s:Nd)(u:Int):Int:=if u=s.id then s.log.length else gd s.mt u.toNat
def cand (s:Nd):Int:=comF s.mb.o s.mb.n s.num
def comm (s:Nd):Nd:=if s.commit<s.cand∧termAt s.log s.cand=some s.term then { s with commit:=s.cand } else s
def adv (s:Nd):Nd:=
 if posC s.log=0∨s.comm.commit<posC s.log then s.comm
 else if s.mb.n≠[] then s.comm.add 3 (encM s.mb.n [])
 else if s.id∈s.mem then s.comm else { s.comm with role:=1,ld:=-1 }
def voters (vs:List Bool):List Int:=((List.range 9).filter fun i=>vs.getD i false).map fun (i:Nat)=>(i:Int)
def elected (s:Nd):Bool:=reachB s.mb.o s.mb.n (voters s.vs)
def lead0 (s:Nd):Nd:={ s with role:=3,ld:=s.id,nx:=List.replicate 9 (s.log.length+1:Int),mt:=List.replicate 9 0 }
def lead (s:Nd)(now:Int):Nd × List Msg:=({ ((s.lead0).add 1 []).adv with hb:=now },((s.lead0).add 1 []).adv.apps)
def start0 (s:Nd)(now:Int):Nd:={ s with recs:=s.recs ++ [(86,za (s.term+1) ++ za s.id)],term:=s.term+1,voted:=s.id,role:=2,ld:=-1,since:=now,vs:=(List.replicate 9 false).set s.id.toNat true }
def start (s:Nd)(now:Int):Nd × List Msg:=
 if MT<s.term+1 then (s,[])
 else if (s.start0 now).elected=true then (s.start0 now).lead now
 else (s.start0 now,(s.start0 now).others.map fun to=>(s.start0 now).msg 1 to s.log.length (lastT s.log) 0 false [])
def tickT (s:Nd)(now:Int):Int:=max s.latest (min (max now 0) MT)
def clock (s:Nd)(now:Int):Nd:={ s with latest:=s.tickT now }
def tick1 (s:Nd)(t:Int):Nd × List Msg:=
 if s.role=3 then (if s.beat≤t - s.hb then ({ s with hb:=t },s.apps) else (s,[]))
 else if s.wait≤t - s.since∧s.id∈s.mem then s.start t else (s,[])
def tick (s:Nd)(now:Int):Nd × List Msg:=(s.clock now).tick1 (s.tickT now)
def enter (s:Nd)(t:Int):Nd:={ s with recs:=s.recs ++ [(84,za t)],term:=t,voted:=-1,role:=1,ld:=-1 }
def utdB (s:Nd)(last term:Int):Bool:=decide (lastT s.log<term) || (decide (term=lastT s.log) && decide ((s.log.length:Int)≤last))
def grant0 (s:Nd)(m:Msg)(t:Int):Nd:={ (if 0≤s.voted then s else { s with recs:=s.recs ++ [(86,za s.term ++ za m.frm)],voted:=m.frm }) with since:=t }
def requested (s:Nd)(m:Msg)(t:Int):Nd × List Msg:=
 if (s.voted<0∨s.voted=m.frm)∧s.utdB m.prev m.pterm=true then (s.grant0 m t,[s.msg 2 m.frm 0 0 0 true []]) else (s,[s.msg 2 m.frm 0 0 0 false []])
def matchesB (s:Nd)(m:Msg):Bool:=decide (termAt s.log m.prev=some m.pterm) && (List.range m.es.length).all fun i=>decide (s.commit<m.prev+1+i) || decide (s.log[m.prev.toNat+i]?=m.es[i]?)
def receive (s:Nd)(m:Msg)(t:Int):Nd × List Msg:=
 if s.matchesB m=true then
  ({ (s.write m.prev.toNat m.es) with role:=1,ld:=m.frm,since:=t,commit:=max s.commit (min m.commit (m.prev+m.es.length)) },[s.msg 4 m.frm (m.prev+m.es.length) 0 0 true []])
 else ({ s with role:=1,ld:=m.frm,since:=t },[s.msg 4 m.frm (max (min s.log.length (m.prev - 1)) 0) 0 0 false []])
def seen (s:Nd)(m:Msg):Nd:={ s with mt:=s.mt.set m.frm.toNat (max (gd s.mt m.frm.toNat) m.prev),nx:=s.nx.set m.frm.toNat (max (gd s.mt m.frm.toNat) m.prev+1) }
def back (s:Nd)(m:Msg):Nd:={ s with nx:=s.nx.set m.frm.toNat (max (min (gd s.nx m.frm.toNat - 1) (m.prev+1)) 1) }
def replied (s:Nd)(m:Msg):Nd × List Msg:=
 if m.granted=false then (s.back m,[(s.back m).app m.frm])
 else if (s.log.length:Int)<m.prev then (s,[])
 else if (s.seen m).adv.role≠3 then ((s.seen m).adv,[])
 else if s.commit<(s.seen m).adv.commit then ((s.seen m).adv,(s.seen m).adv.apps)
 else if gd (s.seen m).adv.nx m.frm.toNat≤(s.seen m).adv.log.length then ((s.seen m).adv,[(s.seen m).adv.app m.frm]) else ((s.seen m).adv,[])
def validE (e:Ent):Bool:=decide (1≤e.term) && decide (e.term≤MT) && decide (1≤e.kind) && decide (e.kind≤3) && decide (e.body.length≤8192)
def validEs (top:Int):Int→List Ent→Bool
 | _,[]=>true
 | last,e :: r=>validE e && decide (last≤e.term) && decide (e.term≤top) && validEs top e.term r
def inR (n low:Int):Bool:=decide (low≤n) && decide (n≤MT)
def validM (m:Msg):Bool:=decide (1≤m.kind) && decide (m.kind≤4) && !decide (m.frm=m.to) && decide (0≤m.frm) && decide (m.frm<9) && decide (0≤m.to) && decide (m.to<9) && inR m.term 1 && inR m.prev 0 && inR m.pterm 0 && inR m.commit 0 && decide (m.es.length≤16) && (decide (m.es.length=0) || decide (m.kind=3)) && validEs m.term m.pterm m.es
def refuse (s:Nd)(m:Msg):List Msg:=if m.kind=1 then [s.msg 2 m.frm 0 0 0 false []] else if m.kind=3 then [s.msg 4 m.frm 0 0 0 false []] else []
def gotVote (s:Nd)(m:Msg):Nd:={ s with vs:=s.vs.set m.frm.toNat true }
def step2 (s:Nd)(m:Msg)(t:Int):Nd × List Msg:=
 if m.kind=1 then s.requested m t
 else if m.kind=2 then (if m.granted=true∧s.role=2 then (if (s.gotVote m).elected=true then (s.gotVote m).lead t else (s.gotVote m,[])) else (s,[]))
 else if m.kind=3 then (if s.role≠3 then s.receive m t else (s,[]))
 else (if s.role=3∧m.frm∈s.others then s.replied m else (s,[]))
def later (s:Nd)(m:Msg):Nd:=if s.term<m.term then s.enter m.term else s
def step1 (s:Nd)(m:Msg)(t:Int):Nd × List Msg:=
 if validM m=false∨m.to≠s.id then (s,[])
 else if m.kind=1∧(s.role=3∨(0≤s.ld∧t - s.since<s.wait)) then (s,[])
 else if m.term<(s.later m).term then (s.later m,(s.later m).refuse m)
 else (s.later m).step2 m t
def step (s:Nd)(m:Msg)(now:Int):Nd × List Msg:=(s.clock now).step1 m (s.tickT now)
def prop (s:Nd)(kind:Int)(body:List Int):Nd × List Msg:=((s.add kind body).adv,(s.add kind body).adv.apps)
def propose (s:Nd)(body:List Int):Nd × List Msg:=if s.role≠3 then (s,[]) else s.prop 2 body
def change (s:Nd)(next:List Int):Nd × List Msg:=
 if s.role≠3 then (s,[]) else if s.mb.n≠[]∨s.commit<posC s.log then (s,[])
 else if mlB next=true∧permB s.mb.o next=true then s.prop 3 (encM s.mb.o next) else (s,[])
def again (s:Nd)(now:Int):Nd:={ s with role:=1,ld:=-1,commit:=0,latest:=min (max now 0) MT,since:=min (max now 0) MT,hb:=0,vs:=List.replicate 9 false,nx:=List.replicate 9 0,mt:=List.replicate 9 0 }
def new (id wait beat now:Int)(c0:Mb):Nd:=⟨id,wait,beat,c0,[],0,-1,[],1,-1,0,min (max now 0) MT,0,min (max now 0) MT,List.replicate 9 false,List.replicate 9 0,List.replicate 9 0⟩
end Nd
structure Cl where
 nd:List Nd
 ms:List Msg
 now:Int
namespace Cl
def last200 (l:List Msg):List Msg:=l.drop (l.length - 200)
def send (c:Cl)(l:List Msg):Cl:={ c with ms:=last200 (c.ms ++ l) }
def put (c:Cl)(i:Nat)(r:Nd × List Msg):Cl:={ c with nd:=c.nd.set i r.1,ms:=last200 (c.ms ++ r.2) }
def cut (c:Cl)(i:Nat):Cl:={ c with ms:=c.ms.eraseIdx i }
def come (c:Cl)(i:Nat):Cl:=match c.ms[i]? with
 | none=>c
 | some m=>if m.to<0 then c.cut i else match c.nd[m.to.toNat]? with
  | none=>c.cut i
  | some s=>(c.cut i).put m.to.toNat (s.step m c.now)
def bits (n N:Nat):List Int:=((List.range n).filter fun k=>N.testBit k).map fun (k:Nat)=>(k:Int)
def step (c:Cl)(kind who N:Nat)(body:List Int):Cl:=
 match c.nd[who % c.nd.length]? with
 | none=>c
 | some s=>
  match kind % 8 with
  | 0=>{ c with now:=c.now+(N % 8:Nat) }.put (who % c.nd.length) (s.tick (c.now+(N % 8:Nat)))
  | 2=>c.cut (N % c.ms.length)
  | 3=>match c.ms[N % c.ms.length]? with | none=>c | some m=>c.send [m]
  | 4=>c.put (who % c.nd.length) (s.propose body)
  | 5=>c.put (who % c.nd.length) (s.change (bits c.nd.length N))
  | 6=>{ c with nd:=c.nd.set (who % c.nd.length) (s.again c.now) }
  | _=>c.come (N % c.ms.length)
end Cl
end Go.Raft
namespace Go.Raft
open Go.Quo Go.Wire
def view (s:Nd):NV:=⟨s.term,s.voted,s.role,s.log,s.commit.toNat,s.ld,fun u=>hasB (Nd.voters s.vs) u,fun u=>if 0≤u then (gd s.mt u.toNat).toNat else 0⟩
def NxR (s:Nd):Prop:=∀ k,k<9→(1≤gd s.nx k∧gd s.nx k≤s.log.length+1)∧0≤gd s.mt k
structure SW (s:Nd):Prop where
 id:0≤s.id∧s.id<9
 com:0≤s.commit
 vs:s.vs.length=9
 mt:s.mt.length=9
 nx:s.nx.length=9
 ran:s.role=3→NxR s
 term:0≤s.term
def All12 (G:Gh):Prop:=∀ u t x:Int,G.vt u t=some x→WL G (G.vl u t)∧KeepsLe G u t (G.vl u t)
structure Good (c0:Mb) (G:Gh) (s:Nd):Prop where
 g:GInv cfE c0 G
 n:NInv G s.id (view s)
 w:SW s
 a:All12 G
 c:s.c0=c0
 p:permB c0.o c0.n=true
structure Nx (c0:Mb) (G:Gh) (i:Int) (s':Nd) (ms:List Msg):Prop where
 ex:∃ G',Good c0 G' s'∧Fm i G G'∧(∀ u t:Int,u≠i→G'.vl u t=G.vl u t)∧s'.id=i∧∀ m∈ms,MInv G' m
section
variable {c0:Mb} {G G':Gh} {s s':Nd} {ms:List Msg} {i:Int}
theorem All12.fm (hG:GInv cfE c0 G)(h:All12 G)(f:Fm i G G')(hv:∀ u t:Int,u≠i→G'.vl u t=G.vl u t){v:NV}(hn:NInv G' i v):All12 G':=by
 intro u t x hx
 by_cases hu:u=i
 ·subst hu;exact hn.nA t x hx
 ·rw[f.f7 u t hu] at hx
  obtain ⟨a,b⟩:=h u t x hx
  rw[hv u t hu]
  refine ⟨a.fm f,fun t0 n hn0 ht hp=>?_⟩
  rw[f.f8' u t0 hu] at hn0
  have hl:=Nat.le_trans hn0 (hG.g11 u t0)
  exact (f.tlAg hl).symm.trans (b t0 n hn0 ht (prem_back f hl hp))
theorem Nx.mk' (h:Good c0 G s)(hG':GInv cfE c0 G')(hn:NInv G' s.id (view s'))(f:Fm s.id G G')(hv:∀ u t:Int,u≠s.id→G'.vl u t=G.vl u t)(hw:SW s')(hc:s'.c0=s.c0)(hi:s'.id=s.id)(hm:∀ m∈ms,MInv G' m):Nx c0 G s.id s' ms:=
 ⟨G',⟨hG',by rw[hi];exact hn,hw,h.a.fm h.g f hv hn,by rw[hc,h.c],h.p⟩,f,hv,hi,hm⟩
theorem Nx.still (h:Good c0 G s)(hn:NInv G s.id (view s'))(hw:SW s')(hc:s'.c0=s.c0)(hi:s'.id=s.id)(hm:∀ m∈ms,MInv G m):Nx c0 G s.id s' ms:=
 Nx.mk' h h.g hn (Fm.refl _ _) (fun _ _ _=>rfl) hw hc hi hm
theorem Nx.go {s1:Nd}(h:Nx c0 G i s1 [])(k:∀ G1,Good c0 G1 s1→Fm i G G1→Nx c0 G1 i s' ms):Nx c0 G i s' ms:=by
 obtain ⟨G1,h1,f,hv,hi,_⟩:=h.ex
 obtain ⟨G2,h2,f2,hv2,hi2,hm⟩:=(k G1 h1 f).ex
 exact ⟨G2,h2,f.trans f2,fun u t hu=>(hv2 u t hu).trans (hv u t hu),hi2,hm⟩
theorem Good.same (h:Good c0 G s)(hv:view s'=view s)(hi:s'.id=s.id)(hc:s'.c0=s.c0)(hw:SW s'):Good c0 G s':=⟨h.g,by rw[hv,hi];exact h.n,hw,h.a,by rw[hc,h.c],h.p⟩
theorem Good.el (h:Good c0 G s)(hr:s.role=3):G.el s.term=some s.id:=(h.n.n5 hr).1
theorem termAt_nat (L:List Ent)(p:Nat):termAt L (p:Int)=if p=0 then some 0 else (L[p - 1]?).map (·.term):=by
 unfold termAt
 rw[if_neg (by omega)]
 by_cases hp:p=0
 ·subst hp;rfl
 ·rw[if_neg (by omega),if_neg hp];simp
theorem app_ok (h:Good c0 G s)(he:G.el s.term=some s.id)(hx:NxR s){to:Int}(h0:0≤to)(h9:to<9):MInv G (s.app to) where
 m1 hk:=absurd (show (3:Int)=1 from hk) (by decide)
 m2 hk _:=absurd (show (3:Int)=2 from hk) (by decide)
 m4 hk _:=absurd (show (3:Int)=4 from hk) (by decide)
 m3 _:=by
  obtain ⟨⟨x1,x2⟩,_⟩:=hx to.toNat (by omega)
  have hL:s.log=G.tl s.term:=(h.n.n6 he).1
  have hcl:s.commit.toNat≤s.log.length:=h.n.n7.1
  obtain ⟨p,hp⟩:∃ p:Nat,gd s.nx to.toNat - 1=p:=⟨(gd s.nx to.toNat - 1).toNat,by omega⟩
  refine ⟨he,p,s.commit.toNat,hp,by show s.commit=_;have:=h.w.com;omega,?_⟩
  show AppOk G s.term p ((termAt s.log (gd s.nx to.toNat - 1)).getD 0) s.commit.toNat ((s.log.drop (gd s.nx to.toNat - 1).toNat).take 16)
  rw[hp]
  simp only[Int.toNat_natCast]
  refine ⟨by rw[←hL];omega,?_,?_,by rw[←hL];exact hcl,?_⟩
  ·intro e hp0 hee
   rw[←hL] at hee
   rw[termAt_nat,if_neg (by omega),hee];rfl
  ·intro k e hk
   have hk2:=(take_len hk).2
   rw[List.getElem?_drop] at hk2
   rw[←hL];exact hk2
  ·intro hc
   obtain ⟨d,d1,d2,d3,d4⟩:=h.n.n7.2 hc
   exact ⟨d,d1,d2,d3,by rw[←hL];exact d4⟩
theorem mem_range (s:Nd):∀ x∈s.others,(0≤x∧x<64)∧x≠s.id:=by
 intro x hx
 unfold Nd.others Nd.mem at hx
 rw[List.mem_filter,mem_memF] at hx
 exact ⟨hx.1.1,by simpa using hx.2⟩
theorem voters_mem (vs:List Bool)(u:Int):hasB (Nd.voters vs) u=true↔0≤u∧u<9∧vs.getD u.toNat false=true:=by
 rw[hasB_mem]
 unfold Nd.voters
 rw[List.mem_map]
 constructor
 ·rintro ⟨k,hk,rfl⟩
  rw[List.mem_filter] at hk
  have:=List.mem_range.1 hk.1
  exact ⟨by omega,by omega,by simpa using hk.2⟩
 ·rintro ⟨h0,h9,hv⟩
  exact ⟨u.toNat,by rw[List.mem_filter];exact ⟨List.mem_range.2 (by omega),hv⟩,by omega⟩
theorem voters_set {vs:List Bool}{f:Int}(h0:0≤f):∀ x:Int,hasB (Nd.voters (vs.set f.toNat true)) x=true→x=f∨hasB (Nd.voters vs) x=true:=by
 intro x hx
 obtain ⟨a,b,c⟩:=(voters_mem _ _).1 hx
 by_cases hxf:x=f
 ·exact .inl hxf
 ·refine .inr ((voters_mem _ _).2 ⟨a,b,?_⟩)
  rw[List.getD_eq_getElem?_getD,List.getElem?_set_ne (by omega)] at c
  rw[List.getD_eq_getElem?_getD];exact c
theorem voters_one {i:Int}(h0:0≤i)(h9:i<9):(fun u=>hasB (Nd.voters ((List.replicate 9 false).set i.toNat true)) u)=fun u=>decide (u=i):=by
 funext u
 rw[Bool.eq_iff_iff,voters_mem]
 simp only[decide_eq_true_eq]
 constructor
 ·rintro ⟨a,b,c⟩
  by_cases hui:u=i
  ·exact hui
  ·rw[List.getD_eq_getElem?_getD,List.getElem?_set_ne (by omega),List.getElem?_replicate] at c
   rw[if_pos (by omega)] at c
   simp at c
 ·rintro rfl
  refine ⟨h0,h9,?_⟩
  rw[List.getD_eq_getElem?_getD,List.getElem?_set_self (by simp;omega)];rfl
theorem con_maj {l:List Int}{yes:List Int}(h:conQ l yes=true):maj l (fun u=>hasB yes u):=by
 unfold conQ cnt at h
 simp only[decide_eq_true_eq] at h
 unfold maj
 show l.length<2 * (l.filter (hasB yes)).length
 omega
theorem reach_rch {o n yes:List Int}(h:reachB o n yes=true):rch ⟨o,n⟩ (fun u=>hasB yes u):=by
 obtain ⟨a,b,c⟩:=reach_parts h
 refine ⟨con_maj b,?_⟩
 rcases c with c | c
 ·exact .inl (List.eq_nil_of_length_eq_zero c)
 ·exact .inr (con_maj c)
theorem med_maj {l:List Int}{num:Int→Int}{n:Int}(hl:0<l.length)(h:n≤medF (l.map num)):maj l (fun u=>decide (n≤num u)):=by
 have h1:=(med_iff (vs:=l.map num) (by simpa using hl) n).2 h
 unfold cntGe at h1
 rw[List.length_map,List.filter_map,List.length_map] at h1
 unfold maj
 show l.length<2 * (l.filter _).length
 have:(l.filter ((fun v=>decide (n≤v)) ∘ num)).length=(l.filter fun u=>decide (n≤num u)).length:=rfl
 omega
theorem com_rch {o n:List Int}{num:Int→Int}{x:Int}(hx:0<x)(h:x≤comF o n num):rch ⟨o,n⟩ (fun u=>decide (x≤num u) && decide (0≤u)):=by
 unfold comF at h
 by_cases hv:vB o n=true
 ·rw[if_pos hv] at h
  obtain ⟨l1,l2,l3⟩:=v_lens hv
  have hr:=v_range hv
  have key:∀ l:List Int,(∀ y∈l,y∈o∨y∈n)→0<l.length→x≤medF (l.map num)→maj l (fun u=>decide (x≤num u) && decide (0≤u)):=by
   intro l hl h0 hm
   have:=med_maj h0 hm
   unfold maj at this⊢
   have e:l.filter (fun u=>decide (x≤num u) && decide (0≤u))=l.filter (fun u=>decide (x≤num u)):=by
    apply List.filter_congr
    intro y hy
    have:=(hr y (hl y hy)).1
    simp[this]
   rw[e];exact this
  by_cases hn:0<n.length
  ·rw[if_pos hn] at h
   exact ⟨key o (fun y hy=>.inl hy) (by omega) (by omega),.inr (key n (fun y hy=>.inr hy) hn (by omega))⟩
  ·rw[if_neg hn] at h
   exact ⟨key o (fun y hy=>.inl hy) (by omega) h,.inl (List.eq_nil_of_length_eq_zero (show n.length=0 by omega))⟩
 ·rw[if_neg hv] at h;omega
theorem posC_aux (X:List Ent):(X.foldl (fun (s:Nat × Nat) e=>(if (cfE e).isSome=true then s.2+1 else s.1,s.2+1)) (0,0)).2=X.length:=by
 suffices ∀ (X:List Ent) (a b:Nat),(X.foldl (fun (s:Nat × Nat) e=>(if (cfE e).isSome=true then s.2+1 else s.1,s.2+1)) (a,b)).2=b+X.length by simpa using this X 0 0
 intro X
 induction X with
 | nil=>intro a b;rfl
 | cons e r ih=>intro a b;rw[List.foldl_cons,ih];simp;omega
theorem posC_snoc (X:List Ent)(e:Ent):posC (X ++ [e])=if (cfE e).isSome=true then X.length+1 else posC X:=by
 unfold posC
 rw[List.foldl_append,List.foldl_cons,List.foldl_nil,posC_aux]
theorem snoc_ind {P:List Ent→Prop}(h0:P [])(h1:∀ X e,P X→P (X ++ [e])):∀ X,P X:=by
 intro X
 induction hn:X.length generalizing X with
 | zero=>rw[List.eq_nil_of_length_eq_zero hn];exact h0
 | succ n ih=>
  have hne:X≠[]:=by intro e;subst e;simp at hn
  rw[←List.dropLast_concat_getLast hne]
  exact h1 _ _ (ih _ (by rw[List.length_dropLast];omega))
theorem posC_at (X:List Ent):∀ k,isC cfE X k→k<posC X:=by
 refine snoc_ind (P:=fun X=>∀ k,isC cfE X k→k<posC X) (fun k h=>by have:=h.lt;simp at this) (fun X e ih k h=>?_) X
 rw[posC_snoc]
 have hl:=h.lt
 rw[List.length_append,List.length_singleton] at hl
 by_cases he:(cfE e).isSome=true
 ·rw[if_pos he];omega
 ·rw[if_neg he]
  rcases h.snoc with h | ⟨_,c,hc⟩
  ·exact ih k h
  ·rw[hc] at he;simp at he
end
end Go.Raft
namespace Go.Proofs.YtdfobfjpkjddpaaGreat
open Go.RowKit Go.Own Go.Quo
theorem info3:(Tryz.prog.info? 3).map (fun i=>(i.zero,i.size,i.bytes))=some (some (.int .i64 0),1,8):=by kernel_rfl
theorem i3x:∃ i,Tryz.prog.info? 3=some i∧i.size=1:=by obtain ⟨i,h,_,h2,_⟩:=info_parts info3;exact ⟨i,h,h2⟩
abbrev RI (w:World)(B:Nat→Prop)(A:Option Addr)(l:List Int):Prop:=Reads w B 1 A l.length (l.map (Value.int .i64))
theorem RI.at_ {w:World}{B:Nat→Prop}{A:Option Addr}{l:List Int}(h:RI w B A l){k:Nat}(hk:k<l.length):w.cell? ⟨bk A,ofs A+k,none⟩=some (.int .i64 (gd l k)):=
 (h.cell2 k (by omega) (by omega)).trans (by rw[gd_get hk];simp[List.getElem?_eq_getElem hk])
theorem ix22 {A:Option Addr}{n:Nat}(hA:Plain A n)(c k:Nat)(hk:k<n)(w:World):(Instr.indexAt 22 (.slice A n c) (.int .i64 (k:Int))).run Tryz.prog w=.ok (.pointer (some ⟨bk A,ofs A+k,none⟩)) w:=by
 obtain ⟨i3,hi3,hi31⟩:=i3x
 have:=run_indexAt2 (P:=Tryz.prog) Tryz.underlying22 hi3 hi31 hA c k hk w
 rwa [Nat.mul_one] at this
theorem has_any (B:Nat→Prop)(A:Option Addr)(c:Nat)(l:List Int)(x:Int)(w:World)(h:RI w B A l)(hm:l.length≤1000) :
 Calls Tryz.prog 83 #[.slice A l.length c,.int .i64 x] w fun e w'=>e=.returned (.bool (hasB l x))∧w=w':=by
 have hp:=h.plain (by omega)
 have H:=ħ h;clear h
 go_enter Tryz.func83,Tryz.ntmps83
 go_wp2
 go_loop [9] (fun i=>∃ k:Nat,k≤l.length∧i=.int .i64 k∧∀ j,j<k→gd l j≠x) (fun i=>l.length - (intOf i).toNat)
 case atStart=>exact ⟨0,Nat.zero_le _,rfl,fun j hj=>by omega⟩
 case round=>
  obtain ⟨k,hk,rfl,hall⟩:=hrel
  have HA:=ħ hall;clear hall
  by_cases hlt:k<l.length
  ·have hlt':(k:Int)<l.length:=by omega
   have hix:=fun W=>ix22 hp c k hlt W
   have c0:=H.out.at_ hlt
   generalize hy:gd l k=y at c0
   have HY:=ħ hy;clear hy
   cases hyx:(y == x) with
   | true=>
    go_wp2
    go_ret
    have:hasB l x=true:=(has_iff l x).2 ⟨k,hlt,by rw[HY.out];simpa using hyx⟩
    exact ⟨by rw[this];rfl,rfl⟩
   | false=>
    go_wp2
    go_round
    case rel=>
     refine ⟨k+1,by omega,by go_num,fun j hj=>?_⟩
     by_cases hjk:j<k
     ·exact HA.out j hjk
     ·have:j=k:=by omega
      subst this
      rw[HY.out];simpa using hyx
    case measure=>simp[intOf];omega
  ·have hge:¬ ((k:Int)<l.length):=by omega
   go_wp2
   go_ret
   have:hasB l x=false:=has_no (fun j hj=>HA.out j (by omega))
   exact ⟨by rw[this];rfl,rfl⟩
def IndexPost (l:List Int)(x:Int)(w:World)(e:Ending)(w':World):Prop:=∃ j:Int,e=.returned (.int .i64 j)∧decide (0≤j)=hasB l x∧w=w'
theorem index_any (B:Nat→Prop)(A:Option Addr)(c:Nat)(l:List Int)(x:Int)(w:World)(h:RI w B A l)(hm:l.length≤1000) :
 Calls Tryz.prog 116 #[.slice A l.length c,.int .i64 x] w (IndexPost l x w):=by
 have hp:=h.plain (by omega)
 have H:=ħ h;clear h
 go_enter Tryz.func116,Tryz.ntmps116
 go_wp2
 go_loop [8] (fun i=>∃ k:Nat,k≤l.length∧i=.int .i64 k∧∀ j,j<k→gd l j≠x) (fun i=>l.length - (intOf i).toNat)
 case atStart=>exact ⟨0,Nat.zero_le _,rfl,fun j hj=>by omega⟩
 case round=>
  obtain ⟨k,hk,rfl,hall⟩:=hrel
  have HA:=ħ hall;clear hall
  by_cases hlt:k<l.length
  ·have hlt':(k:Int)<l.length:=by omega
   have hix:=fun W=>ix22 hp c k hlt W
   have c0:=H.out.at_ hlt
   generalize hy:gd l k=y at c0
   have HY:=ħ hy;clear hy
   cases hyx:(x == y) with
   | true=>
    go_wp2
    go_ret
    have:hasB l x=true:=(has_iff l x).2 ⟨k,hlt,by rw[HY.out];exact (eq_of_beq hyx).symm⟩
    exact ⟨k,rfl,by rw[this];simp,rfl⟩
   | false=>
    go_wp2
    go_round
    case rel=>
     refine ⟨k+1,by omega,by go_num,fun j hj=>?_⟩
     by_cases hjk:j<k
     ·exact HA.out j hjk
     ·have:j=k:=by omega
      subst this
      rw[HY.out];intro e;subst e;simp at hyx
    case measure=>simp[intOf];omega
  ·have hge:¬ ((k:Int)<l.length):=by omega
   go_wp2
   go_ret
   have:hasB l x=false:=has_no (fun j hj=>HA.out j (by omega))
   exact ⟨-1,rfl,by rw[this];rfl,rfl⟩
theorem contains_any (B:Nat→Prop)(A:Option Addr)(c:Nat)(l:List Int)(x:Int)(w:World)(h:RI w B A l)(hm:l.length≤1000) :
 Calls Tryz.prog 77 #[.slice A l.length c,.int .i64 x] w fun e w'=>e=.returned (.bool (hasB l x))∧w=w':=by
 have H:=ħ (index_any B A c l x w h hm);clear h
 go_enter Tryz.func77,Tryz.ntmps77
 go_wp2_with (go_at_call 116;((with_reducible refine H.out.mono ?_);rintro e w1 ⟨j,rfl,hj,rfl⟩;have HJ:=ħ hj;clear hj))
 go_ret
 exact ⟨by rw[←HJ.out];rfl,rfl⟩
theorem contains_b (B:Nat→Prop)(A:Option Addr)(c:Nat)(l:List Int)(x:Int)(w:World)(h:RI w B A l)(hm:l.length≤1000)(q:Bool)(hq:hasB l x=q) :
 Calls Tryz.prog 77 #[.slice A l.length c,.int .i64 x] w fun e w'=>e=.returned (.bool q)∧w=w':=hq ▸ contains_any B A c l x w h hm
theorem has_b (B:Nat→Prop)(A:Option Addr)(c:Nat)(l:List Int)(x:Int)(w:World)(h:RI w B A l)(hm:l.length≤1000)(q:Bool)(hq:hasB l x=q) :
 Calls Tryz.prog 83 #[.slice A l.length c,.int .i64 x] w fun e w'=>e=.returned (.bool q)∧w=w':=hq ▸ has_any B A c l x w h hm
theorem majority_any (A:Option Addr)(n c:Nat)(w:World)(hm:n≤1000) :
 Calls Tryz.prog 158 #[.slice A n c] w fun e w'=>e=.returned (.int .i64 ((n / 2+1:Nat):Int))∧w=w':=by
 go_enter Tryz.func158,Tryz.ntmps158
 go_wp2
 go_ret
 exact ⟨by simp,rfl⟩
theorem ok_lt {l:List Int}{k:Nat}(h:gd l k<0):okAt l k=false:=by simp[okAt];omega
theorem ok_gt {l:List Int}{k:Nat}(h:63<gd l k):okAt l k=false:=by simp[okAt];omega
theorem ok_le {l:List Int}{k:Nat}(h0:0<k)(h:gd l k≤gd l (k - 1)):okAt l k=false:=by simp[okAt];omega
theorem ok_yes {l:List Int}{k:Nat}(h1:0≤gd l k)(h2:gd l k≤63)(h3:k=0∨gd l (k - 1)<gd l k):okAt l k=true:=by
 unfold okAt
 rw[decide_eq_true h1,decide_eq_true h2]
 rcases h3 with h3 | h3 <;> simp[h3]
theorem all_step {l:List Int}{k:Nat}(h:∀ j,j<k→okAt l j=true)(hk:okAt l k=true):∀ j,j<k+1→okAt l j=true:=by
 intro j hj
 by_cases hjk:j<k
 ·exact h j hjk
 ·have:j=k:=by omega
  subst this;exact hk
theorem memberList_any_in (B:Nat→Prop)(A:Option Addr)(c:Nat)(l:List Int)(w:World)(h:RI w B A l)(hm:l.length≤1000)(hl1:1≤l.length)(hl9:l.length≤9) :
 Calls Tryz.prog 85 #[.slice A l.length c] w fun e w'=>e=.returned (.bool (mlB l))∧w=w':=by
 have hp:=h.plain (by omega)
 have H:=ħ h;clear h
 have e1:¬ ((l.length:Int)<1):=by omega
 have e2:decide ((9:Int)<l.length)=false:=by simp;omega
 have e2':decide (9<l.length)=false:=by simp;omega
 go_enter Tryz.func85,Tryz.ntmps85
 go_wp2
 go_loop [15] (fun i=>∃ k:Nat,k≤l.length∧i=.int .i64 k∧∀ j,j<k→okAt l j=true) (fun i=>l.length - (intOf i).toNat)
 case atStart=>exact ⟨0,Nat.zero_le _,rfl,fun j hj=>by omega⟩
 case round=>
  obtain ⟨k,hk,rfl,hall⟩:=hrel
  have HA:=ħ hall;clear hall
  by_cases hlt:k<l.length
  ·have hlt':(k:Int)<l.length:=by omega
   have hix:=fun W=>ix22 hp c k hlt W
   have c0:=H.out.at_ hlt
   have hbad:=ħ fun (h:okAt l k=false)=>asc_bad hlt h
   have hbadm:=ħ fun (h:okAt l k=false)=>(show mlB l=false by unfold mlB;rw[hbad.out h];simp)
   by_cases h1:gd l k<0
   ·have HB:=ħ (hbadm.out (ok_lt h1))
    generalize gd l k=y at *
    have d1:decide (y<0)=true:=by simpa using h1
    go_wp2
    go_ret
    exact ⟨by rw[HB.out];rfl,rfl⟩
   have d1:decide (gd l k<0)=false:=by simpa using h1
   by_cases h2:63<gd l k
   ·have HB:=ħ (hbadm.out (ok_gt h2))
    generalize gd l k=y at *
    have d2:decide (63<y)=true:=by simpa using h2
    go_wp2
    go_ret
    exact ⟨by rw[HB.out];rfl,rfl⟩
   have d2:decide (63<gd l k)=false:=by simpa using h2
   by_cases h0:k=0
   ·have HO:=ħ (all_step HA.out (ok_yes (by omega) (by omega) (.inl h0)))
    generalize gd l k=y at *
    have d0:decide ((0:Int)<k)=false:=by simp;omega
    have d0':decide (0<k)=false:=by simp;omega
    clear h0
    go_wp2
    go_round
    case rel=>exact ⟨k+1,by omega,by go_num,HO.out⟩
    case measure=>simp[intOf];omega
   have h0':0<k:=by omega
   have d0:decide ((0:Int)<k)=true:=by simp;omega
   have d0':decide (0<k)=true:=by simp;omega
   have hix2:∀ W,(Instr.indexAt 22 (.slice A l.length c) (.int .i64 ((k:Int) - 1))).run Tryz.prog W=.ok (.pointer (some ⟨bk A,ofs A+(k - 1),none⟩)) W:=fun W=>by
    have:=ix22 hp c (k - 1) (by omega) W
    rwa [show (((k - 1:Nat)):Int)=(k:Int) - 1 by omega] at this
   have c1:=H.out.at_ (show k - 1<l.length by omega)
   by_cases h3:gd l k≤gd l (k - 1)
   ·have HB:=ħ (hbadm.out (ok_le h0' h3))
    generalize gd l k=y at *
    generalize gd l (k - 1)=z at *
    have d3:decide (y≤z)=true:=by simpa using h3
    go_wp2
    go_ret
    exact ⟨by rw[HB.out];rfl,rfl⟩
   ·have HO:=ħ (all_step HA.out (ok_yes (by omega) (by omega) (.inr (by omega))))
    generalize gd l k=y at *
    generalize gd l (k - 1)=z at *
    have d3:decide (y≤z)=false:=by simpa using h3
    go_wp2
    go_round
    case rel=>exact ⟨k+1,by omega,by go_num,HO.out⟩
    case measure=>simp[intOf];omega
  ·have hge:¬ ((k:Int)<l.length):=by omega
   have HE:=ħ (show mlB l=(decide (1≤l.length) && decide (l.length≤9)) by unfold mlB;rw[asc_all (fun j hj=>HA.out j (by omega))];simp)
   go_wp2
   go_ret
   exact ⟨by rw[HE.out];simp[hl1,hl9],rfl⟩
theorem memberList_any_out (A:Option Addr)(c n:Nat)(w:World)(hm:n<1∨9<n) :
 Calls Tryz.prog 85 #[.slice A n c] w fun e w'=>e=.returned (.bool false)∧w=w':=by
 rcases hm with hm | hm
 ·have e1:(n:Int)<1:=by omega
  go_enter Tryz.func85,Tryz.ntmps85
  go_wp2
  go_ret
  exact ⟨rfl,rfl⟩
 ·have e1:¬ (n:Int)<1:=by omega
  have e2:(9:Int)<n:=by omega
  go_enter Tryz.func85,Tryz.ntmps85
  go_wp2
  go_ret
  exact ⟨rfl,rfl⟩
theorem memberList_any (B:Nat→Prop)(A:Option Addr)(c:Nat)(l:List Int)(w:World)(h:RI w B A l)(hm:l.length≤1000) :
 Calls Tryz.prog 85 #[.slice A l.length c] w fun e w'=>e=.returned (.bool (mlB l))∧w=w':=by
 by_cases hl:l.length<1∨9<l.length
 ·have:mlB l=false:=by unfold mlB;rcases hl with hl | hl <;> simp <;> omega
  rw[this];exact memberList_any_out A c l.length w hl
 ·exact memberList_any_in B A c l w h hm (by omega) (by omega)
theorem rmembers_any (B:Nat→Prop)(A:Option Addr)(c:Nat)(l:List Int)(w:World)(h:RI w B A l)(hm:l.length≤1000) :
 Calls Tryz.prog 84 #[.slice A l.length c] w fun e w'=>e=.returned (.bool (mlB l))∧w=w':=by
 have hp:=h.plain (by omega)
 have H:=ħ h;clear h
 go_enter Tryz.func84,Tryz.ntmps84
 go_wp2
 go_loop [7] (fun i=>∃ k:Nat,k≤l.length∧i=.int .i64 k∧∀ j,j<k→okAt l j=true) (fun i=>l.length - (intOf i).toNat)
 case atStart=>exact ⟨0,Nat.zero_le _,rfl,fun j hj=>by omega⟩
 case round=>
  obtain ⟨k,hk,rfl,hall⟩:=hrel
  have HA:=ħ hall;clear hall
  by_cases hlt:k<l.length
  ·have hlt':(k:Int)<l.length:=by omega
   have hix:=fun W=>ix22 hp c k hlt W
   have c0:=H.out.at_ hlt
   have hbad:=ħ fun (h:okAt l k=false)=>asc_bad hlt h
   have hbadm:=ħ fun (h:okAt l k=false)=>(show mlB l=false by unfold mlB;rw[hbad.out h];simp)
   by_cases h1:gd l k<0
   ·have HB:=ħ (hbadm.out (ok_lt h1))
    generalize gd l k=y at *
    have d1:decide (y<0)=true:=by simpa using h1
    go_wp2
    go_ret
    exact ⟨by rw[HB.out];rfl,rfl⟩
   have d1:decide (gd l k<0)=false:=by simpa using h1
   by_cases h2:63<gd l k
   ·have HB:=ħ (hbadm.out (ok_gt h2))
    generalize gd l k=y at *
    have d2:decide (63<y)=true:=by simpa using h2
    go_wp2
    go_ret
    exact ⟨by rw[HB.out];rfl,rfl⟩
   have d2:decide (63<gd l k)=false:=by simpa using h2
   by_cases h0:k=0
   ·have HO:=ħ (all_step HA.out (ok_yes (by omega) (by omega) (.inl h0)))
    generalize gd l k=y at *
    have d0:decide ((0:Int)<k)=false:=by simp;omega
    have d0':decide (0<k)=false:=by simp;omega
    clear h0
    go_wp2
    go_round
    case rel=>exact ⟨k+1,by omega,by go_num,HO.out⟩
    case measure=>simp[intOf];omega
   have h0':0<k:=by omega
   have d0:decide ((0:Int)<k)=true:=by simp;omega
   have d0':decide (0<k)=true:=by simp;omega
   have hix2:∀ W,(Instr.indexAt 22 (.slice A l.length c) (.int .i64 ((k:Int) - 1))).run Tryz.prog W=.ok (.pointer (some ⟨bk A,ofs A+(k - 1),none⟩)) W:=fun W=>by
    have:=ix22 hp c (k - 1) (by omega) W
    rwa [show (((k - 1:Nat)):Int)=(k:Int) - 1 by omega] at this
   have c1:=H.out.at_ (show k - 1<l.length by omega)
   by_cases h3:gd l k≤gd l (k - 1)
   ·have HB:=ħ (hbadm.out (ok_le h0' h3))
    generalize gd l k=y at *
    generalize gd l (k - 1)=z at *
    have d3:decide (y≤z)=true:=by simpa using h3
    go_wp2
    go_ret
    exact ⟨by rw[HB.out];rfl,rfl⟩
   ·have HO:=ħ (all_step HA.out (ok_yes (by omega) (by omega) (.inr (by omega))))
    generalize gd l k=y at *
    generalize gd l (k - 1)=z at *
    have d3:decide (y≤z)=false:=by simpa using h3
    go_wp2
    go_round
    case rel=>exact ⟨k+1,by omega,by go_num,HO.out⟩
    case measure=>simp[intOf];omega
  ·have hge:¬ ((k:Int)<l.length):=by omega
   have HE:=ħ (show mlB l=(decide (1≤l.length) && decide (l.length≤9)) by unfold mlB;rw[asc_all (fun j hj=>HA.out j (by omega))];simp)
   by_cases hl1:1≤l.length
   ·have e1:(1:Int)≤l.length:=by omega
    go_wp2
    go_ret
    exact ⟨by rw[HE.out];simp[hl1];omega,rfl⟩
   ·have e1:¬ (1:Int)≤l.length:=by omega
    have e1':decide ((1:Int)≤l.length)=false:=by simpa using e1
    go_wp2
    go_ret
    exact ⟨by rw[HE.out];simp[hl1],rfl⟩
theorem conq_any (B B2:Nat→Prop)(A A2:Option Addr)(c c2:Nat)(l yes:List Int)(w:World)(h:RI w B A l)(h2:RI w B2 A2 yes)(hm:l.length≤1000)(hm2:yes.length≤1000) :
 Calls Tryz.prog 140 #[.slice A l.length c,.slice A2 yes.length c2] w fun e w'=>e=.returned (.bool (conQ l yes))∧w=w':=by
 have hp:=h.plain (by omega)
 have H:=ħ h;clear h
 have HH:=ħ fun x q (hq:hasB yes x=q)=>contains_b B2 A2 c2 yes x w h2 hm2 q hq
 have HMj:=ħ (majority_any A l.length c w hm)
 clear h2
 go_enter Tryz.func140,Tryz.ntmps140
 go_wp2
 go_loop [5,10] (fun v i=>∃ k n:Nat,k≤l.length∧i=.int .i64 k∧n=cnt (l.take k) yes∧v=.int .i64 n) (fun _ i=>l.length - (intOf i).toNat)
 case atStart=>exact ⟨0,0,Nat.zero_le _,rfl,rfl,rfl⟩
 case round=>
  obtain ⟨k,n,hk,rfl,hn,rfl⟩:=hrel
  have hnl:n≤1000:=by rw[hn];exact Nat.le_trans (cnt_le _ _) (by simp;omega)
  have HN:=ħ hn;clear hn
  by_cases hlt:k<l.length
  ·have hlt':(k:Int)<l.length:=by omega
   have hix:=fun W=>ix22 hp c k hlt W
   have c0:=H.out.at_ hlt
   have HS:=ħ (cnt_step l yes k hlt)
   generalize gd l k=y at *
   cases hy:hasB yes y with
   | true=>
    have HC:=ħ (HH.out y true hy)
    have HS2:Hid (n+1=cnt (l.take (k+1)) yes):=by show _=_;rw[HS.out,if_pos hy,HN.out]
    clear hy
    go_wp2_with (go_at_call 77;((with_reducible refine HC.out.mono ?_);rintro e w1 ⟨rfl,rfl⟩))
    go_round
    case rel=>exact ⟨k+1,n+1,by omega,by go_num,HS2.out,by go_num⟩
    case measure=>simp[intOf];omega
   | false=>
    have HC:=ħ (HH.out y false hy)
    have HS2:Hid (n=cnt (l.take (k+1)) yes):=by show _=_;rw[HS.out,if_neg (by simp[hy]),HN.out];rfl
    clear hy
    go_wp2_with (go_at_call 77;((with_reducible refine HC.out.mono ?_);rintro e w1 ⟨rfl,rfl⟩))
    go_round
    case rel=>exact ⟨k+1,n,by omega,by go_num,HS2.out,rfl⟩
    case measure=>simp[intOf];omega
  ·have hge:¬ ((k:Int)<l.length):=by omega
   have HE:Hid (n=cnt l yes):=by show _=_;rw[HN.out,List.take_of_length_le (by omega)]
   go_wp2_with (go_at_call 158;((with_reducible refine HMj.out.mono ?_);rintro e w1 ⟨rfl,rfl⟩))
   go_ret
   refine ⟨?_,rfl⟩
   unfold conQ
   rw[←HE.out]
   congr 2
   simp
   omega
end Go.Proofs.YtdfobfjpkjddpaaGreat

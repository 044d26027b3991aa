import Derived.Test.YtdhcjhfgibmhfaaGreatDoorVG27
import Derived.Test.YtdhcjhfgibmhfaaGreatDoorVG29
import Derived.Test.YtdhcjhfgibmhfaaGreatDoorVRr6
import Derived.Test.YtdhcjhfgibmhfaaGreatDoorVG13
set_option linter.unusedVariables false
set_option linter.unusedSimpArgs false
namespace Go.Proofs.YtdhcjhfgibmhfaaGreatDoor
open Go.RowKit Go.Own Go.Quo Go.Inc
theorem P_ {l:List Av}(h:Qm l=true):(∀ a∈l,a.t.c.nodes.length≤60)∧l.length≤40:=by
 unfold Qm at h
 simp only[Bool.and_eq_true,decide_eq_true_eq,List.all_eq_true] at h
 refine ⟨fun a ha=>?_,h.2⟩
 have:=h.1 a ha
 unfold jU at this
 simp only[Bool.and_eq_true,decide_eq_true_eq] at this
 exact this.1
def WX (t:Cr)(f:Bool)(w:World)(e:Ending)(w':World):Prop:=∃ A k,e=.returned (.tuple #[.agg (χ t A k),.bool f])∧RI w' (fun j=>w.heap.size≤j) A t.nodes∧Below w.heap.size w w'
def z0i (x:Ic)(f:Bool)(w:World)(e:Ending)(w':World):Prop:=∃ An Ac Au cn cc cu,e=.returned (.tuple #[.agg (ξ x An cn Ac cc Au cu),.bool f])∧RI w' (fun j=>w.heap.size≤j) An x.nodes∧RI w' (fun j=>w.heap.size≤j) Ac x.calls∧RI w' (fun j=>w.heap.size≤j) Au x.units∧Below w.heap.size w w'
theorem RA {w':World}{g:Nat}{e:TypeId}{A:Option Addr}{c:Nat}{l:List Int}(h:w'.ownsRow g e 1 (.slice A l.length c) l.length (l.map (Value.int .i64))):RI w' (fun j=>g≤j) A l:=(Reads.of_own h).more (fun k hk=>(h.lt k hk).1)
structure LP (w W:World) (p mc mi mh q:Nat) (b:Bk) (v:Bv):Prop where
 pi:PI W p mc mi mh b
 bv:zX W (fun j=>Bq p mc mi mh j∧j≠q) v
 x:zb W q 29 (β v)
 be:Below w.heap.size w W
 go:Good 60 b
 ta:jg W
 lo:w.heap.size≤p∧w.heap.size≤mc∧w.heap.size≤mi∧w.heap.size≤mh∧w.heap.size≤q
 ne:Bq p mc mi mh q
section
variable {w W W':World} {p mc mi mh q:Nat} {b:Bk} {v:Bv}
theorem LP.below (h:LP w W p mc mi mh q b v)(hb:Below W.heap.size W W'):LP w W' p mc mi mh q b v:=
 ⟨h.pi.below hb,h.bv.below hb,h.x.below hb h.x.lt,h.be.trans (hb.mono h.be.size),h.go,h.ta.below hb h.ta.lt,h.lo,h.ne⟩
theorem LP.fr (h:LP w W p mc mi mh q b v){b':Bk}(hp:PI W' p mc mi mh b')(hg:Good 60 b')(hf:Fr (Sq p mc mi mh) W W'):LP w W' p mc mi mh q b' v:=
 ⟨hp,h.bv.fr hf (fun k hk=>qh hk.1),h.x.fr hf (qh h.ne),uQ h.be hf ⟨h.lo.1,h.lo.2.1,h.lo.2.2.1,h.lo.2.2.2.1⟩,hg,h.pi.tab h.ta hf,h.lo,h.ne⟩
theorem LP.new {w2:World}(hbk:v.bk=b)(hpi:PI w2 p mc mi mh b)(hbv:zX w2 (Bq p mc mi mh) v)(hpl:w.heap.size≤p∧w.heap.size≤mc∧w.heap.size≤mi∧w.heap.size≤mh)(hb:Below w.heap.size w w2)(hg:Good 40 b)(ht:jg w) :
 LP w (w2.alloc (.cells (β v) 29)) p mc mi mh w2.heap.size b v:=
 ⟨hpi.alloc _,(hbv.old.more (fun j hj=>⟨hj.1,by have:=hj.2;omega⟩)).alloc _,zb.new w2 29 (β v),hb.alloc hb.size _,zg.mono hg (by omega),(ht.below hb ht.lt).below ((Below.refl _ w2).alloc (Nat.le_refl _) _) (ht.below hb ht.lt).lt,⟨hpl.1,hpl.2.1,hpl.2.2.1,hpl.2.2.2,hb.size⟩,by have:=hpi.lt;unfold Bq;omega⟩
theorem LP.incs (h:LP w W p mc mi mh q b v):Calls Tryz.prog 31 #[.pointer (some ⟨p,0,none⟩)] W (SL b.L W):=Wh p mc mi mh b W h.pi (zg.sL h.go) (Nat.le_trans (zg.nL h.go) (by omega)) (zg.vL h.go)
theorem LP.waits (h:LP w W p mc mi mh q b v):Calls Tryz.prog 28 #[.pointer (some ⟨p,0,none⟩)] W (SL (R9 b) W):=Tu p mc mi mh b W h.pi (zg.sL h.go) (Nat.le_trans (zg.nL h.go) (by omega)) (zg.vL h.go)
theorem LP.calls (h:LP w W p mc mi mh q b v):Calls Tryz.prog 23 #[.pointer (some ⟨p,0,none⟩)] W (Ty b.C W):=Tn p mc mi mh b W h.pi (zg.sC h.go) (Nat.le_trans (zg.nC h.go) (by omega)) (zg.vC h.go)
theorem LP.inc (h:LP w W p mc mi mh q b v)(id:Int):Calls Tryz.prog 19 #[.pointer (some ⟨p,0,none⟩),ι id] W (fB (QF b id).1 (QF b id).2 W):=o_ p mc mi mh b id W h.pi (zg.vL h.go)
theorem LP.call (h:LP w W p mc mi mh q b v)(id:Int):Calls Tryz.prog 15 #[.pointer (some ⟨p,0,none⟩),ι id] W (uG (Jz b id).1 (Jz b id).2 W):=iT p mc mi mh b id W h.pi (fun x hx=>(zg.vC h.go x hx).2)
theorem LP.callq (h:LP w W p mc mi mh q b v)(id:Int){t:Cr}{f:Bool}(e:Jz b id=(t,f)):Calls Tryz.prog 15 #[.pointer (some ⟨p,0,none⟩),ι id] W (WX t f W):=by
 have:=h.call id
 rw[e] at this
 exact this.mono (fun e w' ⟨A,k,h1,h2,h3⟩=>⟨A,k,h1,RA h2,h3⟩)
theorem LP.incq (h:LP w W p mc mi mh q b v)(id:Int){x:Ic}{f:Bool}(e:QF b id=(x,f)):Calls Tryz.prog 19 #[.pointer (some ⟨p,0,none⟩),ι id] W (z0i x f W):=by
 have:=h.inc id
 rw[e] at this
 exact this.mono (fun e w' ⟨An,Ac,Au,cn,cc,cu,h1,h2,h3,h4,h5⟩=>⟨An,Ac,Au,cn,cc,cu,h1,RA h2,RA h3,RA h4,h5⟩)
theorem LP.root (h:LP w W p mc mi mh q b v)(id:Int):Calls Tryz.prog 18 #[.pointer (some ⟨p,0,none⟩),ι id] W (fun e w'=>e=.returned (ι (jd b id))∧Below W.heap.size W w'):=DT p mc mi mh b id W h.pi (zg.rt h.go)
theorem LP.awake (h:LP w W p mc mi mh q b v):Calls Tryz.prog 12 #[] W (qX true W):=UX W h.ta
theorem LP.cells (h:LP w W p mc mi mh q b v):W.cell? ⟨q,0,none⟩=some (.slice v.AL v.la.length v.cL)∧W.cell? ⟨q,1,none⟩=some (.slice v.AC v.lc.length v.cC):=⟨h.x.cell 0,h.x.cell 1⟩
theorem Ru {n:Nat}(hn:n≤1000)(h:Good n b){x:Ic}(hx:x∈b.L):SS x:=by
 have h1:=zg.vL h x hx
 have h2:=yO h1.1
 have h3:x.calls.length≤1000:=by
  rw[Good.cs h x hx,List.length_map]
  have:(qB b.C x.id).length≤b.C.length:=List.length_filter_le _ _
  have:=zg.nC h;omega
 have hc:=(KL h1.1).2.2.2.2.1
 obtain ⟨⟨a1,a2⟩,⟨a3,a4⟩,r8,b9,-,b2,b6,r4,r7⟩:=KL h1.1
 exact ⟨⟨by omega,by omega⟩,b2,hc,r4,by omega,⟨by omega,by omega⟩,b6,r7,h3,r8,by omega,b9⟩
theorem Wt {t:Cr}(h:yz t=true)(hl:t.nodes.length≤1000):TA t:=by
 obtain ⟨a,b,c,d,e⟩:=DI h
 unfold yz zQ yK Qo at h
 simp at h
 obtain ⟨⟨⟨a3,a4⟩,a5,a6⟩,⟨⟨⟨⟨⟨⟨⟨⟨b1,b2⟩,b3⟩,b4⟩,b5⟩,b6⟩,b7⟩,b8⟩,b9⟩⟩:=h
 exact ⟨⟨by omega,by omega⟩,⟨by omega,by omega⟩,⟨by omega,by omega⟩,by omega,hl,d,⟨by omega,by omega⟩,⟨by omega,by omega⟩⟩
theorem SE {n:Nat}(h:Good n b){t:Cr}(ht:t∈b.C):TA t:=by
 obtain ⟨h1,h2⟩:=zg.vC h t ht
 exact Wt h1 (by omega)
theorem LP.all (h:LP w W p mc mi mh q b v)(hv:v.bk=b){w1:World}{A:Option Addr}{c:Nat}{xs:List Xa}(hm:xs.map (fun a=>a.x)=b.L)(hx:XL Yz PR 48 10 w1 W A c xs []) :
 Calls Tryz.prog 27 #[.slice A xs.length c,.slice v.AL v.la.length v.cL] W (qX true W):=by
 have he:xs.map (·.x)=v.la.map (·.x):=by rw[show xs.map (·.x)=b.L from hm,←hv];rfl
 have hl:xs.length≤60:=by have:=congrArg List.length hm;rw[List.length_map] at this;rw[this];exact zg.nL h.go
 exact Wn _ (OB w1 W A) _ _ A v.AL c v.cL xs v.la W (Reads.of_own hx.ow) (fun t ht=>⟨hx.rw t ht (t.An,t.x.nodes) (by simp[PR]),hx.rw t ht (t.Ac,t.x.calls) (by simp[PR]),hx.rw t ht (t.Au,t.x.units) (by simp[PR])⟩) h.bv.rl h.bv.xl he (fun t ht=>Ru (by omega) h.go (by rw[←hm];exact List.mem_map_of_mem ht)) (by omega)
theorem LP.told (h:LP w W p mc mi mh q b v)(hv:v.bk.C=b.C){w1:World}{A:Option Addr}{c:Nat}{xs:List Ca}(hm:xs.map (fun a=>a.c)=b.C)(hx:XL qC Rb 34 8 w1 W A c xs []) :
 Calls Tryz.prog 22 #[.slice A xs.length c,.slice v.AC v.lc.length v.cC] W (qX true W):=by
 have he:xs.map (·.c)=v.lc.map (·.c):=by rw[show xs.map (·.c)=b.C from hm,←hv];rfl
 have hl:xs.length≤60:=by have:=congrArg List.length hm;rw[List.length_map] at this;rw[this];exact zg.nC h.go
 exact WL _ (OB w1 W A) _ _ A v.AC c v.cC xs v.lc W (Reads.of_own hx.ow) (fun t ht=>hx.rw t ht (t.A,t.c.nodes) (by simp[Rb])) h.bv.rc h.bv.xc he (fun t ht=>SE h.go (by rw[←hm];exact List.mem_map_of_mem ht)) (by omega)
end
theorem TD {v:Bv}{b:Bk}(hv:v.bk=b)(k:Int):(∃ i:Nat,∃ h:i<v.la.length,GI (fun a:Xa=>a.x.id) v.la k=(i:Int)∧zw b.L k=some v.la[i].x)∨(GI (fun a:Xa=>a.x.id) v.la k = -1∧zw b.L k=none):=by
 have e:zw b.L k=(yw (fun a:Xa=>a.x.id) v.la k).map (·.x):=by rw[←hv];exact QH Ic.id (fun a:Xa=>a.x) v.la k
 rcases qH (fun a:Xa=>a.x.id) v.la k with ⟨i,h1,h2,h3⟩ | ⟨h1,h2⟩
 ·exact .inl ⟨i,h2,h1,by rw[e,h3];rfl⟩
 ·exact .inr ⟨h1,by rw[e,h2];rfl⟩
theorem Wo {v:Bv}{b:Bk}(hv:v.bk=b)(k:Int):(∃ i:Nat,∃ h:i<v.lc.length,GI (fun a:Ca=>a.c.call) v.lc k=(i:Int)∧yP b.C k=some v.lc[i].c)∨(GI (fun a:Ca=>a.c.call) v.lc k = -1∧yP b.C k=none):=by
 have e:yP b.C k=(yw (fun a:Ca=>a.c.call) v.lc k).map (·.c):=by rw[←hv];exact QH Cr.call (fun a:Ca=>a.c) v.lc k
 rcases qH (fun a:Ca=>a.c.call) v.lc k with ⟨i,h1,h2,h3⟩ | ⟨h1,h2⟩
 ·exact .inl ⟨i,h2,h1,by rw[e,h3];rfl⟩
 ·exact .inr ⟨h1,by rw[e,h2];rfl⟩
theorem Rc {v:Bv}{b:Bk}{n:Nat}(hv:v.bk=b)(h:Good n b):v.la.length≤n∧v.lc.length≤n:=by
 have h1:=zg.nL h
 have h2:=zg.nC h
 rw[←hv] at h1 h2
 exact ⟨by rwa [show v.bk.L.length=v.la.length from List.length_map ..] at h1,by rwa [show v.bk.C.length=v.lc.length from List.length_map ..] at h2⟩
abbrev Cg (w:World)(g:Nat)(y:Xa):Prop:=w.cell? ⟨g,0,none⟩=some (ι y.x.id)∧w.cell? ⟨g,1,none⟩=some (ι y.x.urg)∧w.cell? ⟨g,2,none⟩=some (.string y.x.code)∧w.cell? ⟨g,3,none⟩=some (.slice y.An y.x.nodes.length y.cn)∧w.cell? ⟨g,4,none⟩=some (ι y.x.dist)∧w.cell? ⟨g,5,none⟩=some (ι y.x.since)∧w.cell? ⟨g,6,none⟩=some (.slice y.Ac y.x.calls.length y.cc)∧w.cell? ⟨g,7,none⟩=some (.slice y.Au y.x.units.length y.cu)∧w.cell? ⟨g,8,none⟩=some (ι y.x.merged)∧w.cell? ⟨g,9,none⟩=some (.bool y.x.closed)
theorem Sk {w:World}{g:Nat}{t:TypeId}{y:Xa}(h:zb w g t (ξ y.x y.An y.cn y.Ac y.cc y.Au y.cu)):Cg w g y:=⟨h.cell 0,h.cell 1,h.cell 2,h.cell 3,h.cell 4,h.cell 5,h.cell 6,h.cell 7,h.cell 8,h.cell 9⟩
def z0y (x:Ic)(f:Bool)(w:World)(e:Ending)(w':World):Prop:=∃ y:Xa,y.x=x∧e=.returned (.tuple #[.agg (ξ y.x y.An y.cn y.Ac y.cc y.Au y.cu),.bool f])∧XR w' (fun j=>w.heap.size≤j) y∧Below w.heap.size w w'
def WR (t:Cr)(f:Bool)(w:World)(e:Ending)(w':World):Prop:=∃ y:Ca,y.c=t∧e=.returned (.tuple #[.agg (χ y.c y.A y.k),.bool f])∧RI w' (fun j=>w.heap.size≤j) y.A y.c.nodes∧Below w.heap.size w w'
theorem WP {α:Type}{f:α→List Value}{rows:α→List (Option Addr × List Int)}{ty size:Nat}{w wr:World}{A:Option Addr}{c:Nat}{xs:List α}{E:List (Option Addr × List Int)}(h:XL f rows ty size w wr A c xs E):Reads wr (fun k=>(Value.slice A xs.length c).ownBlock=some k) size A xs.length (xs.flatMap f):=Reads.of_own h.ow
theorem TP {w wr:World}{A:Option Addr}{c:Nat}{xs:List Xa}(h:XL Yz PR 48 10 w wr A c xs []){y:Xa}(hy:y∈xs):XR wr (· < wr.heap.size) y:=
 ⟨(h.rw y hy (y.An,y.x.nodes) (by simp[PR])).more (fun k hk=>hk.2.1),(h.rw y hy (y.Ac,y.x.calls) (by simp[PR])).more (fun k hk=>hk.2.1),(h.rw y hy (y.Au,y.x.units) (by simp[PR])).more (fun k hk=>hk.2.1)⟩
theorem Ti {α:Type}{f:α→List Value}{rows:α→List (Option Addr × List Int)}{ty size:Nat}{w wr w2:World}{A B:Option Addr}{c:Nat}{xs:List α}{E:List (Option Addr × List Int)}{l:List Int}(hx:XL f rows ty size w wr A c xs E)(h:RI w2 (fun k=>wr.heap.size≤k) B l):RI w2 (OB w w2 A) B l:=
 (h.old (by omega)).more (fun k hk=>⟨Nat.le_trans hx.be.size hk.1,hk.2,fun e=>by
  have:=(hx.ow.lt k (by rw[R7];exact e)).2
  have:=hk.1
  omega⟩)
section
variable {w W W':World} {p mc mi mh q:Nat} {b:Bk} {v:Bv}
theorem LP.incx (h:LP w W p mc mi mh q b v)(id:Int){x:Ic}{f:Bool}(e:QF b id=(x,f)):Calls Tryz.prog 19 #[.pointer (some ⟨p,0,none⟩),ι id] W (z0y x f W):=
 (h.incq id e).mono (fun e w' ⟨An,Ac,Au,cn,cc,cu,h1,h2,h3,h4,h5⟩=>⟨⟨x,An,Ac,Au,cn,cc,cu⟩,rfl,h1,⟨h2,h3,h4⟩,h5⟩)
theorem LP.callx (h:LP w W p mc mi mh q b v)(id:Int){t:Cr}{f:Bool}(e:Jz b id=(t,f)):Calls Tryz.prog 15 #[.pointer (some ⟨p,0,none⟩),ι id] W (WR t f W):=
 (h.callq id e).mono (fun e w' ⟨A,k,h1,h2,h3⟩=>⟨⟨t,A,k⟩,rfl,h1,h2,h3⟩)
theorem LP.find (h:LP w W p mc mi mh q b v)(hv:v.la.length≤1000)(id:Int):Calls Tryz.prog 20 #[.agg (β v),ι id] W (fun e w'=>e=.returned (ι (GI (fun a:Xa=>a.x.id) v.la id))∧Below W.heap.size W w'):=Z4 v _ id W h.bv (by omega)
end
theorem TB {u:List Int}(h:qf u 0 255=true):qp [] u=u:=by
 have h1:=j4.1 h
 have h2:=j4.1 (Vn [] u)
 refine QW (fun x:Int=>x) h2.1 h1.1 (fun x=>?_)
 rw[ZU]
 exact ⟨fun ⟨_,e⟩=>e.elim (fun e=>by simp at e) id,fun e=>⟨h1.2 x e,.inr e⟩⟩
theorem Ta {x y:Ic}{cs:List Cr}(hx:jC x=true)(hy:jC y=true)(h1:y.id=x.id)(h2:y.dist=x.dist)(h3:y.units=x.units)(h4:y.merged=x.merged)(h5:y.closed=x.closed):qF y cs=qF x cs:=by
 unfold qF
 rw[hx,hy,h1,h2,h3,h4,h5]
theorem Tg {n:Nat}{b:Bk}(h:Good n b)(hn:n≤100){call id:Int}{t:Cr}(hc:yP b.C call=some t)(hp:(zS b call t.inc id 0).2=0) :
 (zM (zS b call t.inc id 0).1 id t.inc).2=0∧jd (zM (zS b call t.inc id 0).1 id t.inc).1 id=t.inc∧(∃ x,zw b.L t.inc=some x∧zw (zM (zS b call t.inc id 0).1 id t.inc).1.L t.inc=some x)∧(zM (zS b call t.inc id 0).1 id t.inc).1.C=b.C:=by
 have hg2:=Ub h (by omega) call t.inc id 0
 generalize hb2:zS b call t.inc id 0=pb at *
 unfold zS at hb2
 by_cases h0:zQ id 1=false∨(0:Int)<0∨(1099511627776:Int)<0
 ·rw[if_pos h0] at hb2;subst hb2;simp at hp
 rw[if_neg h0,hc] at hb2
 have hid:zQ id 1=true:=by
  cases hq:zQ id 1 with
  | true=>rfl
  | false=>exact absurd (.inl hq) h0
 cases hx:zw b.L t.inc with
 | none=>rw[hx] at hb2;subst hb2;simp at hp
 | some x=>
  rw[hx] at hb2
  dsimp only at hb2
  cases hi:zw b.L id with
  | some _=>rw[hi] at hb2;subst hb2;simp at hp
  | none=>
   rw[hi] at hb2
   dsimp only at hb2
   by_cases hr:t.inc≠jd b t.inc
   ·rw[if_pos hr] at hb2;subst hb2;simp at hp
   rw[if_neg hr,hx] at hb2
   dsimp only at hb2
   by_cases ho:zx x=false∨x.calls.length<2
   ·rw[if_pos ho] at hb2;subst hb2;simp at hp
   rw[if_neg ho] at hb2
   subst hb2
   obtain ⟨g1,g2⟩:=yC hc
   obtain ⟨g3,g4⟩:=zi hx
   have ho':zx x=true:=by
    cases hq:zx x with
    | true=>rfl
    | false=>exact absurd (.inl hq) ho
   have hl:2≤x.calls.length:=by
    rcases Nat.lt_or_ge x.calls.length 2 with h | h
    ·exact absurd (.inr h) ho
    ·exact h
   have hm:Good (n+1) b:=zg.mono h (Nat.le_succ _)
   have hv:=zg.vC h t g1
   have hne:id≠t.inc:=fun e=>by rw[←e,hi] at hx;cases hx
   have kn:=J8 h hid hi (t:={ t with inc:=id }) rfl ⟨Zx hv.1 (Zu hid) t.closed,hv.2⟩ t.inc (fun u hu e=>by
    have:u=t:=qj Cr.call (zg.sC h) hu g1 e
    subst this
    exact ⟨rfl,fun y hy hyi=>by rw[qj Ic.id (zg.sL h) hy g3 (by rw[hyi,g4])];exact ho'⟩)
   have hgx:zw (zz b.L (zt id { t with inc:=id })) t.inc=some x:=by
    rw[jb (zg.sL h),if_neg (fun e=>hne (by exact e.symm))];exact hx
   have hsome:qB (zG b.C { t with inc:=id }) t.inc≠[]:=by
    have hcs:=Good.cs h x g3
    rw[g4] at hcs
    have hlen:2≤(qB b.C t.inc).length:=by rw[hcs,List.length_map] at hl;exact hl
    have hex:∃ u∈qB b.C t.inc,u.call≠t.call:=by
     match hq:qB b.C t.inc,hlen with
     | u :: v :: r,_=>
      have ha:=qi (zg.sC h) t.inc
      rw[hq] at ha
      have h12:u.call<v.call:=(List.pairwise_cons.1 ha).1 v (by simp)
      by_cases e:u.call=t.call
      ·exact ⟨v,by simp,by omega⟩
      ·exact ⟨u,by simp,e⟩
    obtain ⟨u,hu,hue⟩:=hex
    intro e
    have:u∈qB (zG b.C { t with inc:=id }) t.inc:=zo.2 ⟨qc.2 (.inr ⟨(zo.1 hu).1,hue⟩),(zo.1 hu).2⟩
    rw[e] at this;simp at this
   obtain ⟨z,hz1,hz2,hz3,Mc,pR⟩:=jH kn (by omega) hgx ho' hsome
   rw[Mc] at pR⊢
   generalize hL1:zz b.L (zt id { t with inc:=id })=L1 at *
   dsimp only at pR⊢
   have sL1:Asc Ic.id L1:=by rw[←hL1];exact zN Ic.id (zg.sL h) _
   have sL2:Asc Ic.id (zz L1 (qD x z)):=zN Ic.id sL1 _
   have hxi:(qD x z).id=t.inc:=g4
   have q1:zw (zz L1 (qD x z)) id=some (zt id { t with inc:=id }):=by
    rw[jb sL1,if_neg (by rw[hxi];exact hne),←hL1,jb (zg.sL h)]
    exact if_pos rfl
   have q2:zw (zz L1 (qD x z)) t.inc=some (qD x z):=by
    rw[jb sL1,if_pos hxi.symm]
   have q3:(qD x z).calls.length≤n+1:=by
    rw[Good.cs pR _ (zi q2).1,List.length_map]
    exact Nat.le_trans (UM _ _) (zg.nC pR)
   have q4:qp [] x.units=x.units:=by
    have h1:=(zg.vL h x g3).1
    unfold jC at h1
    simp only[Bool.and_eq_true] at h1
    exact TB h1.1.2
   have hC3:(zG b.C { t with inc:=id }).map (Zv (fun u=>if u.inc=id then t.inc else u.inc) (fun u=>u.closed))=b.C:=by
    refine QW Cr.call (Qe Cr.call (zN Cr.call (zg.sC h) _) _ (fun _ _=>rfl)) (zg.sC h) (fun u=>?_)
    have hno:∀ s∈b.C,s.inc≠id:=fun s hs e=>by
     obtain ⟨y,hy,hyi,-⟩:=zg.lk h s hs
     exact (qM Ic.id).1 hi y hy (by rw[hyi,e])
    have hself:∀ s∈b.C,Zv (fun u=>if u.inc=id then t.inc else u.inc) (fun u=>u.closed) s=s:=fun s hs=>by
     show ({ s with inc:=if s.inc=id then t.inc else s.inc,closed:=s.closed }:Cr)=s
     rw[if_neg (hno s hs)]
    have ht':Zv (fun u=>if u.inc=id then t.inc else u.inc) (fun u=>u.closed) { t with inc:=id }=t:=by
     show ({ t with inc:=if id=id then t.inc else id,closed:=t.closed }:Cr)=t
     rw[if_pos rfl]
    rw[List.mem_map]
    constructor
    ·rintro ⟨s,hs,rfl⟩
     rcases qc.1 hs with rfl | ⟨h1,-⟩
     ·rw[ht'];exact g1
     ·rw[hself s h1];exact h1
    ·intro hu
     by_cases e:u.call=t.call
     ·exact ⟨_,qc.2 (.inl rfl),by rw[ht',qj Cr.call (zg.sC h) hu g1 e]⟩
     ·exact ⟨u,qc.2 (.inr ⟨hu,e⟩),hself u hu⟩
   have hof:zx (zt id { t with inc:=id })=true:=rfl
   have hoz:zx (qD x z)=true:=ho'
   have hM:zM ⟨zz L1 (qD x z),zG b.C { t with inc:=id }⟩ id t.inc=(qw ⟨zz (zz (zz L1 (qD x z)) (qz (zt id { t with inc:=id }) t.inc)) (qD x z),b.C⟩ t.inc,0):=by
    unfold zM
    rw[if_neg hne,q1,q2]
    dsimp only
    rw[hof,hoz,if_neg (by simp),if_neg (by show ¬ 1000<1+(qD x z).calls.length;omega),hC3]
    show (qw ⟨zz (zz (zz L1 (qD x z)) (qz (zt id { t with inc:=id }) t.inc)) { qD x z with units:=qp [] x.units },b.C⟩ t.inc,0)=_
    rw[q4]
    rfl
   have sL3:Asc Ic.id (zz (zz L1 (qD x z)) (qz (zt id { t with inc:=id }) t.inc)):=zN Ic.id sL2 _
   have sL4:Asc Ic.id (zz (zz (zz L1 (qD x z)) (qz (zt id { t with inc:=id }) t.inc)) (qD x z)):=zN Ic.id sL3 _
   have q5:zw (zz (zz (zz L1 (qD x z)) (qz (zt id { t with inc:=id }) t.inc)) (qD x z)) t.inc=some (qD x z):=by
    rw[jb sL3,if_pos hxi.symm]
   have q6:(qF (qD x z) (qB b.C t.inc)).1=x:=by
    have h1:=Good.dr h x g3 ho'
    rw[g4] at h1
    rw[Ta (zg.vL h x g3).1 hz3 rfl rfl rfl rfl rfl,h1]
   have hA:qw ⟨zz (zz (zz L1 (qD x z)) (qz (zt id { t with inc:=id }) t.inc)) (qD x z),b.C⟩ t.inc=⟨zz (zz (zz (zz L1 (qD x z)) (qz (zt id { t with inc:=id }) t.inc)) (qD x z)) x,b.C⟩:=by
    unfold qw
    rw[q5]
    dsimp only
    rw[q6]
   rw[hM,hA]
   dsimp only
   have q7:zw (zz (zz (zz (zz L1 (qD x z)) (qz (zt id { t with inc:=id }) t.inc)) (qD x z)) x) t.inc=some x:=by
    rw[jb sL4,if_pos g4.symm]
   refine ⟨rfl,?_,⟨x,rfl,q7⟩,rfl⟩
   have q8:zw (zz (zz (zz (zz L1 (qD x z)) (qz (zt id { t with inc:=id }) t.inc)) (qD x z)) x) id=some (qz (zt id { t with inc:=id }) t.inc):=by
    rw[jb sL4,if_neg (by rw[g4];exact hne),jb sL3,if_neg (by rw[hxi];exact hne),jb sL2]
    exact if_pos rfl
   have hin:t.inc≠0:=by have:=(Va (zg.vL h x g3).1).1;rw[g4] at this;omega
   exact uw (b:=⟨_,b.C⟩) (j3.up q8 hin (j3.here q7 (yQ ho').1))
end Go.Proofs.YtdhcjhfgibmhfaaGreatDoor

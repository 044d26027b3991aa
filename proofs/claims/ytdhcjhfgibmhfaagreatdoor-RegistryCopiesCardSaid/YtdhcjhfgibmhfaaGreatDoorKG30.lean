import Derived.Test.YtdhcjhfgibmhfaaGreatDoorKG27
import Derived.Test.YtdhcjhfgibmhfaaGreatDoorKG29
import Derived.Test.YtdhcjhfgibmhfaaGreatDoorKRr6
set_option linter.unusedVariables false
set_option linter.unusedSimpArgs false
namespace Go.Proofs.YtdhcjhfgibmhfaaGreatDoor
open Go.RowKit Go.Own Go.Quo Go.Inc
theorem P_ {l:List Av}(h:Qm l=true):(∀ a∈l,a.t.c.nodes.length≤60)∧l.length≤40:=by
 unfold Qm at h
 simp only[Bool.and_eq_true,decide_eq_true_eq,List.all_eq_true] at h
 refine ⟨fun a ha=>?_,h.2⟩
 have:=h.1 a ha
 unfold jU at this
 simp only[Bool.and_eq_true,decide_eq_true_eq] at this
 exact this.1
def Fq (w w':World)(j:Nat):Prop:=w.heap.size≤j∧∀ i,w'.frozen? ⟨j,i,none⟩=false
def WX (t:Cr)(f:Bool)(w:World)(e:Ending)(w':World):Prop:=∃ A k,e=.returned (.tuple #[.agg (χ t A k),.bool f])∧RI w' (Fq w w') A t.nodes∧Below w.heap.size w w'
def z0i (x:Ic)(f:Bool)(w:World)(e:Ending)(w':World):Prop:=∃ An Ac Au cn cc cu,e=.returned (.tuple #[.agg (ξ x An cn Ac cc Au cu),.bool f])∧RI w' (Fq w w') An x.nodes∧RI w' (Fq w w') Ac x.calls∧RI w' (Fq w w') Au x.units∧Below w.heap.size w w'
theorem RA {w w':World}{e:TypeId}{A:Option Addr}{c:Nat}{l:List Int}(h:w'.ownsRow w.heap.size e 1 (.slice A l.length c) l.length (l.map (Value.int .i64))):RI w' (Fq w w') A l:=z0H h
structure LP (w W:World) (p mc mi mh q:Nat) (b:Bk) (v:Bv):Prop where
 pi:PI W p mc mi mh b
 bv:zX W (fun j=>Bq p mc mi mh j∧j≠q) v
 x:zb W q 29 (β v)
 be:Below w.heap.size w W
 go:Good 60 b
 ta:jg W
 lo:w.heap.size≤p∧w.heap.size≤mc∧w.heap.size≤mi∧w.heap.size≤mh∧w.heap.size≤q
 ne:Bq p mc mi mh q
section
variable {w W W':World} {p mc mi mh q:Nat} {b:Bk} {v:Bv}
theorem LP.below (h:LP w W p mc mi mh q b v)(hb:Below W.heap.size W W'):LP w W' p mc mi mh q b v:=
 ⟨h.pi.below hb,h.bv.below hb,h.x.below hb h.x.lt,h.be.trans (hb.mono h.be.size),h.go,h.ta.below hb h.ta.lt,h.lo,h.ne⟩
theorem LP.new {w2:World}(hbk:v.bk=b)(hpi:PI w2 p mc mi mh b)(hbv:zX w2 (Bq p mc mi mh) v)(hpl:w.heap.size≤p∧w.heap.size≤mc∧w.heap.size≤mi∧w.heap.size≤mh)(hb:Below w.heap.size w w2)(hg:Good 40 b)(ht:jg w) :
 LP w (w2.alloc (.cells (β v) 29)) p mc mi mh w2.heap.size b v:=
 ⟨hpi.alloc _,(hbv.old.more (fun j hj=>⟨hj.1,by have:=hj.2;omega⟩)).alloc _,zb.new w2 29 (β v),hb.alloc hb.size _,zg.mono hg (by omega),(ht.below hb ht.lt).below ((Below.refl _ w2).alloc (Nat.le_refl _) _) (ht.below hb ht.lt).lt,⟨hpl.1,hpl.2.1,hpl.2.2.1,hpl.2.2.2,hb.size⟩,by have:=hpi.lt;unfold Bq;omega⟩
theorem LP.incs (h:LP w W p mc mi mh q b v):Calls Tryz.prog 31 #[.pointer (some ⟨p,0,none⟩)] W (SL b.L W):=Wh p mc mi mh b W h.pi (zg.sL h.go) (Nat.le_trans (zg.nL h.go) (by omega)) (zg.vL h.go)
theorem LP.waits (h:LP w W p mc mi mh q b v):Calls Tryz.prog 28 #[.pointer (some ⟨p,0,none⟩)] W (SL (R9 b) W):=Tu p mc mi mh b W h.pi (zg.sL h.go) (Nat.le_trans (zg.nL h.go) (by omega)) (zg.vL h.go)
theorem LP.calls (h:LP w W p mc mi mh q b v):Calls Tryz.prog 23 #[.pointer (some ⟨p,0,none⟩)] W (Ty b.C W):=Tn p mc mi mh b W h.pi (zg.sC h.go) (Nat.le_trans (zg.nC h.go) (by omega)) (zg.vC h.go)
theorem LP.inc (h:LP w W p mc mi mh q b v)(id:Int):Calls Tryz.prog 19 #[.pointer (some ⟨p,0,none⟩),ι id] W (fB (QF b id).1 (QF b id).2 W):=o_ p mc mi mh b id W h.pi (zg.vL h.go)
theorem LP.call (h:LP w W p mc mi mh q b v)(id:Int):Calls Tryz.prog 15 #[.pointer (some ⟨p,0,none⟩),ι id] W (uG (Jz b id).1 (Jz b id).2 W):=iT p mc mi mh b id W h.pi (fun x hx=>(zg.vC h.go x hx).2)
theorem LP.callq (h:LP w W p mc mi mh q b v)(id:Int){t:Cr}{f:Bool}(e:Jz b id=(t,f)):Calls Tryz.prog 15 #[.pointer (some ⟨p,0,none⟩),ι id] W (WX t f W):=by
 have:=h.call id
 rw[e] at this
 exact this.mono (fun e w' ⟨A,k,h1,h2,h3⟩=>⟨A,k,h1,RA h2,h3⟩)
theorem LP.incq (h:LP w W p mc mi mh q b v)(id:Int){x:Ic}{f:Bool}(e:QF b id=(x,f)):Calls Tryz.prog 19 #[.pointer (some ⟨p,0,none⟩),ι id] W (z0i x f W):=by
 have:=h.inc id
 rw[e] at this
 exact this.mono (fun e w' ⟨An,Ac,Au,cn,cc,cu,h1,h2,h3,h4,h5⟩=>⟨An,Ac,Au,cn,cc,cu,h1,RA h2,RA h3,RA h4,h5⟩)
theorem LP.root (h:LP w W p mc mi mh q b v)(id:Int):Calls Tryz.prog 18 #[.pointer (some ⟨p,0,none⟩),ι id] W (fun e w'=>e=.returned (ι (jd b id))∧Below W.heap.size W w'):=DT p mc mi mh b id W h.pi (zg.rt h.go)
theorem LP.awake (h:LP w W p mc mi mh q b v):Calls Tryz.prog 12 #[] W (qX true W):=UX W h.ta
theorem LP.cells (h:LP w W p mc mi mh q b v):W.cell? ⟨q,0,none⟩=some (.slice v.AL v.la.length v.cL)∧W.cell? ⟨q,1,none⟩=some (.slice v.AC v.lc.length v.cC):=⟨h.x.cell 0,h.x.cell 1⟩
theorem Ru {n:Nat}(hn:n≤1000)(h:Good n b){x:Ic}(hx:x∈b.L):SS x:=by
 have h1:=zg.vL h x hx
 have h2:=yO h1.1
 have h3:x.calls.length≤1000:=by
  rw[Good.cs h x hx,List.length_map]
  have:(qB b.C x.id).length≤b.C.length:=List.length_filter_le _ _
  have:=zg.nC h;omega
 have hc:=(KL h1.1).2.2.2.2.1
 obtain ⟨⟨a1,a2⟩,⟨a3,a4⟩,r8,b9,-,b2,b6,r4,r7⟩:=KL h1.1
 exact ⟨⟨by omega,by omega⟩,b2,hc,r4,by omega,⟨by omega,by omega⟩,b6,r7,h3,r8,by omega,b9⟩
theorem Wt {t:Cr}(h:yz t=true)(hl:t.nodes.length≤1000):TA t:=by
 obtain ⟨a,b,c,d,e⟩:=DI h
 unfold yz zQ yK Qo at h
 simp at h
 obtain ⟨⟨⟨a3,a4⟩,a5,a6⟩,⟨⟨⟨⟨⟨⟨⟨⟨b1,b2⟩,b3⟩,b4⟩,b5⟩,b6⟩,b7⟩,b8⟩,b9⟩⟩:=h
 exact ⟨⟨by omega,by omega⟩,⟨by omega,by omega⟩,⟨by omega,by omega⟩,by omega,hl,d,⟨by omega,by omega⟩,⟨by omega,by omega⟩⟩
theorem SE {n:Nat}(h:Good n b){t:Cr}(ht:t∈b.C):TA t:=by
 obtain ⟨h1,h2⟩:=zg.vC h t ht
 exact Wt h1 (by omega)
theorem LP.all (h:LP w W p mc mi mh q b v)(hv:v.bk=b){w1:World}{A:Option Addr}{c:Nat}{xs:List Xa}(hm:xs.map (fun a=>a.x)=b.L)(hx:XL Yz PR 48 10 w1 W A c xs []) :
 Calls Tryz.prog 27 #[.slice A xs.length c,.slice v.AL v.la.length v.cL] W (qX true W):=by
 have he:xs.map (·.x)=v.la.map (·.x):=by rw[show xs.map (·.x)=b.L from hm,←hv];rfl
 have hl:xs.length≤60:=by have:=congrArg List.length hm;rw[List.length_map] at this;rw[this];exact zg.nL h.go
 exact Wn _ (OB w1 W A) _ _ A v.AL c v.cL xs v.la W (Reads.of_own hx.ow) (fun t ht=>⟨hx.rw t ht (t.An,t.x.nodes) (by simp[PR]),hx.rw t ht (t.Ac,t.x.calls) (by simp[PR]),hx.rw t ht (t.Au,t.x.units) (by simp[PR])⟩) h.bv.rl h.bv.xl he (fun t ht=>Ru (by omega) h.go (by rw[←hm];exact List.mem_map_of_mem ht)) (by omega)
theorem LP.told (h:LP w W p mc mi mh q b v)(hv:v.bk.C=b.C){w1:World}{A:Option Addr}{c:Nat}{xs:List Ca}(hm:xs.map (fun a=>a.c)=b.C)(hx:XL qC Rb 34 8 w1 W A c xs []) :
 Calls Tryz.prog 22 #[.slice A xs.length c,.slice v.AC v.lc.length v.cC] W (qX true W):=by
 have he:xs.map (·.c)=v.lc.map (·.c):=by rw[show xs.map (·.c)=b.C from hm,←hv];rfl
 have hl:xs.length≤60:=by have:=congrArg List.length hm;rw[List.length_map] at this;rw[this];exact zg.nC h.go
 exact WL _ (OB w1 W A) _ _ A v.AC c v.cC xs v.lc W (Reads.of_own hx.ow) (fun t ht=>hx.rw t ht (t.A,t.c.nodes) (by simp[Rb])) h.bv.rc h.bv.xc he (fun t ht=>SE h.go (by rw[←hm];exact List.mem_map_of_mem ht)) (by omega)
end
theorem TD {v:Bv}{b:Bk}(hv:v.bk=b)(k:Int):(∃ i:Nat,∃ h:i<v.la.length,GI (fun a:Xa=>a.x.id) v.la k=(i:Int)∧zw b.L k=some v.la[i].x)∨(GI (fun a:Xa=>a.x.id) v.la k = -1∧zw b.L k=none):=by
 have e:zw b.L k=(yw (fun a:Xa=>a.x.id) v.la k).map (·.x):=by rw[←hv];exact QH Ic.id (fun a:Xa=>a.x) v.la k
 rcases qH (fun a:Xa=>a.x.id) v.la k with ⟨i,h1,h2,h3⟩ | ⟨h1,h2⟩
 ·exact .inl ⟨i,h2,h1,by rw[e,h3];rfl⟩
 ·exact .inr ⟨h1,by rw[e,h2];rfl⟩
theorem Wo {v:Bv}{b:Bk}(hv:v.bk=b)(k:Int):(∃ i:Nat,∃ h:i<v.lc.length,GI (fun a:Ca=>a.c.call) v.lc k=(i:Int)∧yP b.C k=some v.lc[i].c)∨(GI (fun a:Ca=>a.c.call) v.lc k = -1∧yP b.C k=none):=by
 have e:yP b.C k=(yw (fun a:Ca=>a.c.call) v.lc k).map (·.c):=by rw[←hv];exact QH Cr.call (fun a:Ca=>a.c) v.lc k
 rcases qH (fun a:Ca=>a.c.call) v.lc k with ⟨i,h1,h2,h3⟩ | ⟨h1,h2⟩
 ·exact .inl ⟨i,h2,h1,by rw[e,h3];rfl⟩
 ·exact .inr ⟨h1,by rw[e,h2];rfl⟩
theorem Rc {v:Bv}{b:Bk}{n:Nat}(hv:v.bk=b)(h:Good n b):v.la.length≤n∧v.lc.length≤n:=by
 have h1:=zg.nL h
 have h2:=zg.nC h
 rw[←hv] at h1 h2
 exact ⟨by rwa [show v.bk.L.length=v.la.length from List.length_map ..] at h1,by rwa [show v.bk.C.length=v.lc.length from List.length_map ..] at h2⟩
abbrev Cg (w:World)(g:Nat)(y:Xa):Prop:=w.cell? ⟨g,0,none⟩=some (ι y.x.id)∧w.cell? ⟨g,1,none⟩=some (ι y.x.urg)∧w.cell? ⟨g,2,none⟩=some (.string y.x.code)∧w.cell? ⟨g,3,none⟩=some (.slice y.An y.x.nodes.length y.cn)∧w.cell? ⟨g,4,none⟩=some (ι y.x.dist)∧w.cell? ⟨g,5,none⟩=some (ι y.x.since)∧w.cell? ⟨g,6,none⟩=some (.slice y.Ac y.x.calls.length y.cc)∧w.cell? ⟨g,7,none⟩=some (.slice y.Au y.x.units.length y.cu)∧w.cell? ⟨g,8,none⟩=some (ι y.x.merged)∧w.cell? ⟨g,9,none⟩=some (.bool y.x.closed)
theorem Sk {w:World}{g:Nat}{t:TypeId}{y:Xa}(h:zb w g t (ξ y.x y.An y.cn y.Ac y.cc y.Au y.cu)):Cg w g y:=⟨h.cell 0,h.cell 1,h.cell 2,h.cell 3,h.cell 4,h.cell 5,h.cell 6,h.cell 7,h.cell 8,h.cell 9⟩
def z0y (x:Ic)(f:Bool)(w:World)(e:Ending)(w':World):Prop:=∃ y:Xa,y.x=x∧e=.returned (.tuple #[.agg (ξ y.x y.An y.cn y.Ac y.cc y.Au y.cu),.bool f])∧XR w' (Fq w w') y∧Below w.heap.size w w'
def WR (t:Cr)(f:Bool)(w:World)(e:Ending)(w':World):Prop:=∃ y:Ca,y.c=t∧e=.returned (.tuple #[.agg (χ y.c y.A y.k),.bool f])∧RI w' (Fq w w') y.A y.c.nodes∧Below w.heap.size w w'
theorem WP {α:Type}{f:α→List Value}{rows:α→List (Option Addr × List Int)}{ty size:Nat}{w wr:World}{A:Option Addr}{c:Nat}{xs:List α}{E:List (Option Addr × List Int)}(h:XL f rows ty size w wr A c xs E):Reads wr (fun k=>(Value.slice A xs.length c).ownBlock=some k) size A xs.length (xs.flatMap f):=Reads.of_own h.ow
section
variable {w W W':World} {p mc mi mh q:Nat} {b:Bk} {v:Bv}
theorem LP.incx (h:LP w W p mc mi mh q b v)(id:Int){x:Ic}{f:Bool}(e:QF b id=(x,f)):Calls Tryz.prog 19 #[.pointer (some ⟨p,0,none⟩),ι id] W (z0y x f W):=
 (h.incq id e).mono (fun e w' ⟨An,Ac,Au,cn,cc,cu,h1,h2,h3,h4,h5⟩=>⟨⟨x,An,Ac,Au,cn,cc,cu⟩,rfl,h1,⟨h2,h3,h4⟩,h5⟩)
theorem LP.callx (h:LP w W p mc mi mh q b v)(id:Int){t:Cr}{f:Bool}(e:Jz b id=(t,f)):Calls Tryz.prog 15 #[.pointer (some ⟨p,0,none⟩),ι id] W (WR t f W):=
 (h.callq id e).mono (fun e w' ⟨A,k,h1,h2,h3⟩=>⟨⟨t,A,k⟩,rfl,h1,h2,h3⟩)
theorem LP.find (h:LP w W p mc mi mh q b v)(hv:v.la.length≤1000)(id:Int):Calls Tryz.prog 20 #[.agg (β v),ι id] W (fun e w'=>e=.returned (ι (GI (fun a:Xa=>a.x.id) v.la id))∧Below W.heap.size W w'):=Z4 v _ id W h.bv (by omega)
end
end Go.Proofs.YtdhcjhfgibmhfaaGreatDoor

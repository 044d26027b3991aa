import Derived.Test.YtdhcjhfgibmhfaaGreatDoorJG25
set_option linter.unusedVariables false
set_option linter.unusedSimpArgs false
set_option maxRecDepth 10000
set_option maxHeartbeats 8000000
namespace Go.Proofs.YtdhcjhfgibmhfaaGreatDoor
open Go.RowKit Go.Own Go.Quo Go.Inc
structure Av where
 kind:Int
 t:Ca
 id:Int
 a:Int
 b:Int
 unit:Int
def Bd (a:Av):List Value:=[ι a.kind,ι a.t.c.call,ι a.t.c.inc,ι a.t.c.urg,.string a.t.c.code,.slice a.t.A a.t.c.nodes.length a.t.k,ι a.t.c.dist,ι a.t.c.since,.bool a.t.c.closed,ι a.id,ι a.a,ι a.b,ι a.unit]
def jY (b:Bk)(a:Av):Bk:=
 if a.kind=0 then (qQ b a.t.c a.id).1 else
 if a.kind=1 then (qy b a.t.c a.a).1 else
 if a.kind=2 then (qR b a.t.c).1 else
 if a.kind=3 then (Z8 b a.t.c.call).1 else
 if a.kind=4 then (zM b a.a a.b).1 else
 if a.kind=5 then (zS b a.t.c.call a.a a.id a.b).1 else
 if a.kind=6 then (qN b a.a a.unit).1 else
 if a.kind=7 then (qI b a.a a.unit).1 else
 if a.kind=8 then (yI b a.a).1 else
 b
def Ff (D:Nat→Prop)(r:Bk)(p mc mi mh:Nat)(w:World)(e:Ending)(w':World):Prop:=∃ v2:Bv,e=.returned (.tuple #[YW v2,.bool true])∧v2.bk=r∧zX w' D v2∧PI w' p mc mi mh r∧Fr (Sq p mc mi mh) w w'
theorem QN {w:World}{B:Nat→Prop}{A:Option Addr}{l:List Int}{g:Nat}{t:TypeId}{A1 A2:Option Addr}{n1 n2 c1 c2:Nat}(h:RI w B A l)(hb:zb w g t #[.slice A1 n1 c1,.slice A2 n2 c2]):RI w (fun k=>B k∧k≠g) A l:=by
 refine ⟨h.1,fun hn=>?_⟩
 have hp:=h.plain (by omega) hn
 obtain ⟨ad,e,hB,hc⟩:=h.2 hn
 refine ⟨ad,e,⟨hB,fun eg=>?_⟩,hc⟩
 obtain ⟨bb,o,e2⟩:=hp
 rw[e] at e2
 have e3:ad=⟨bb,o,none⟩:=Option.some.inj e2
 subst e3
 have h0:=hc 0 (ι (l[0]'hn)) (by rw[List.getElem?_map,List.getElem?_eq_getElem hn];rfl)
 rw[FE] at h0
 have Oq:bb=g:=eg
 subst Oq
 rw[hb.cell] at h0
 match o,h0 with
 | 0,h0=>cases h0
 | 1,h0=>cases h0
 | o+2,h0=>simp at h0
theorem CM.box {w w':World}{p mc mi mh g:Nat}{t:TypeId}{A1 A2:Option Addr}{n1 n2 c1 c2:Nat}{kc:List (Int × Value)}{C:List Cr}(h:CM w (Bq p mc mi mh) kc C)(hb:zb w g t #[.slice A1 n1 c1,.slice A2 n2 c2])(hf:Fr (fun k=>k=g) w w'):CM w' (Bq p mc mi mh) kc C:=
 ⟨h.nd,fun t ht=>by obtain ⟨A,k,h1,h2⟩:=h.at_ t ht;exact ⟨A,k,h1,((QN h2 hb).fr hf (fun k hk e=>hk.2 e)).more (fun k hk=>hk.1)⟩,h.no⟩
theorem IM.box {w w':World}{p mc mi mh g:Nat}{t:TypeId}{A1 A2:Option Addr}{n1 n2 c1 c2:Nat}{ki:List (Int × Value)}{L:List Ic}(h:IM w (Bq p mc mi mh) ki L)(hb:zb w g t #[.slice A1 n1 c1,.slice A2 n2 c2])(hf:Fr (fun k=>k=g) w w'):IM w' (Bq p mc mi mh) ki L:=
 ⟨h.nd,fun t ht=>by
  obtain ⟨a,h0,h1,h2⟩:=h.at_ t ht
  exact ⟨a,h0,h1,⟨((QN h2.n hb).fr hf (fun k hk e=>hk.2 e)).more (fun k hk=>hk.1),((QN h2.c hb).fr hf (fun k hk e=>hk.2 e)).more (fun k hk=>hk.1),((QN h2.u hb).fr hf (fun k hk e=>hk.2 e)).more (fun k hk=>hk.1)⟩⟩,h.no⟩
theorem PI.box {w w':World}{p mc mi mh g:Nat}{t:TypeId}{A1 A2:Option Addr}{n1 n2 c1 c2:Nat}{b:Bk}(h:PI w p mc mi mh b)(hb:zb w g t #[.slice A1 n1 c1,.slice A2 n2 c2])(hg:Bq p mc mi mh g)(hf:Fr (fun k=>k=g) w w'):PI w' p mc mi mh b:=by
 obtain ⟨kc,ki,kh,h1,h2,h3,h4⟩:=h
 exact ⟨kc,ki,kh,⟨h1.P.fr hf (fun e=>hg.1 e.symm),h1.bc.fr hf (fun e=>hg.2.1 e.symm),h1.bi.fr hf (fun e=>hg.2.2.1 e.symm),h1.bh.fr hf (fun e=>hg.2.2.2 e.symm),h1.ne⟩,h2.box hb hf,h3.box hb hf,h4⟩
theorem PI.lt {w:World}{p mc mi mh:Nat}{b:Bk}(h:PI w p mc mi mh b):p<w.heap.size∧mc<w.heap.size∧mi<w.heap.size∧mh<w.heap.size:=by
 obtain ⟨kc,ki,kh,h1,-⟩:=h
 exact h1.lt
theorem PI.tab {w w':World}{p mc mi mh:Nat}{b:Bk}(h:PI w p mc mi mh b)(ht:jg w)(hf:Fr (Sq p mc mi mh) w w'):jg w':=by
 obtain ⟨kc,ki,kh,h1,-⟩:=h
 exact ht.fr hf (EU ht h1)
structure D3 (p mc mi mh:Nat) (w wr:World) (c4 c5:Array Value):Prop where
 b4:zb wr w.heap.size 29 c4
 b5:zb wr (w.heap.size+1) 36 c5
 b6:zb wr (w.heap.size+2) 29 #[.slice none 0 0,.slice none 0 0]
 fr:Fr (Sq p mc mi mh) w wr
 sz:w.heap.size+3≤wr.heap.size
theorem D3.fr_ {p mc mi mh:Nat}{w wr w2:World}{c4 c5:Array Value}(h:D3 p mc mi mh w wr c4 c5)(hl:p<w.heap.size∧mc<w.heap.size∧mi<w.heap.size∧mh<w.heap.size)(hf:Fr (Sq p mc mi mh) wr w2):D3 p mc mi mh w w2 c4 c5:=
 ⟨h.b4.fr hf (by unfold Sq;omega),h.b5.fr hf (by unfold Sq;omega),h.b6.fr hf (by unfold Sq;omega),h.fr.trans hf,Nat.le_trans h.sz hf.size⟩
theorem D3.below {p mc mi mh:Nat}{w wr w2:World}{c4 c5:Array Value}(h:D3 p mc mi mh w wr c4 c5)(hb:Below wr.heap.size wr w2):D3 p mc mi mh w w2 c4 c5:=
 ⟨h.b4.below hb h.b4.lt,h.b5.below hb h.b5.lt,h.b6.below hb h.b6.lt,h.fr.trans (Fr.of_below hb),Nat.le_trans h.sz hb.size⟩
theorem D3.new {p mc mi mh:Nat}(w:World)(c4 c5:Array Value):D3 p mc mi mh w (((w.alloc (.cells c4 29)).alloc (.cells c5 36)).alloc (.cells #[.slice none 0 0,.slice none 0 0] 29)) c4 c5:=by
 refine ⟨((zb.new w 29 c4).alloc _).alloc _,?_,?_,(((Fr.refl _ w).alloc _).alloc _).alloc _,by simp⟩
 ·have:=(zb.new (w.alloc (.cells c4 29)) 36 c5).alloc (.cells #[.slice none 0 0,.slice none 0 0] 29)
  simpa using this
 ·have:=zb.new ((w.alloc (.cells c4 29)).alloc (.cells c5 36)) 29 #[.slice none 0 0,.slice none 0 0]
  simpa using this
theorem yN {p mc mi mh g:Nat}{a b c:World}(h:Fr (Sq p mc mi mh) a b)(hf:Fr (fun k=>k=g) b c)(hg:a.heap.size≤g):Fr (Sq p mc mi mh) a c:=
 ⟨hf.os.trans h.os,hf.tape.trans h.tape,hf.output.trans h.output,Nat.le_trans h.size hf.size,fun k hk hn=>(hf.block k (Nat.lt_of_lt_of_le hk h.size) (fun e=>by have e2:k=g:=e;omega)).trans (h.block k hk hn)⟩
theorem Cb (p mc mi mh:Nat)(b:Bk)(v:Bv)(a:Av)(n:Nat)(w:World)(hk:a.kind=0)(hp0:PI w p mc mi mh b)(hvb:v.bk=b)(D:Nat→Prop)(hD:∀ j,D j→Bq p mc mi mh j)(YR:∀ j,w.heap.size≤j→D j)(hv:zX w D v)(hG:Good n b)(hn:n+1≤1000)(htb:jg w)(ht0:RI w D a.t.A a.t.c.nodes)(hs:a.t.c.code.size≤100000)(hl:a.t.c.nodes.length≤60) :
 Calls Tryz.prog 14 #[.pointer (some ⟨p,0,none⟩),.agg (β v),.agg #[ι a.kind,ι a.t.c.call,ι a.t.c.inc,ι a.t.c.urg,.string a.t.c.code,.slice a.t.A a.t.c.nodes.length a.t.k,ι a.t.c.dist,ι a.t.c.since,.bool a.t.c.closed,ι a.id,ι a.a,ι a.b,ι a.unit]] w (Ff D (jY b a) p mc mi mh w):=by
 have hl2:=hp0.lt
 have hbk:=hvb
 subst hbk
 have HL2:=ħ hl2
 have HG:=ħ hG
 have YL:=ħ (fun (W:World) (hb:Below w.heap.size w W)=>hp0.below hb)
 have HT:=ħ fun (W:World) (hf:Fr (fun _=>False) w W)=>(ht0.old (by omega)).fr hf (fun k hk e=>e)
 have HB:=ħ fun (W:World) (hf:Fr (Sq p mc mi mh) w W)=>(show zX W (fun j=>D j∧j≠w.heap.size∧j≠w.heap.size+2) v from (hv.old.fr hf (fun k hk=>qh (hD k hk.1))).more (fun j hj=>⟨hj.1,by have:=hj.2;omega,by have:=hj.2;omega⟩))
 have KD:=ħ fun (W:World) (hf:Fr (Sq p mc mi mh) w W)=>(show RI W (fun j=>D j∧j≠w.heap.size∧j≠w.heap.size+2) a.t.A a.t.c.nodes from ((ht0.old (by omega)).fr hf (fun k hk=>qh (hD k hk.1))).more (fun j hj=>⟨hj.1,by have:=hj.2;omega,by have:=hj.2;omega⟩))
 have HD:=ħ (D3.new (p:=p) (mc:=mc) (mi:=mi) (mh:=mh) w (β v) #[ι a.kind,ι a.t.c.call,ι a.t.c.inc,ι a.t.c.urg,.string a.t.c.code,.slice a.t.A a.t.c.nodes.length a.t.k,ι a.t.c.dist,ι a.t.c.since,.bool a.t.c.closed,ι a.id,ι a.a,ι a.b,ι a.unit])
 have HP:=ħ fun (W:World) (hf:Fr (fun _=>False) w W) (hp:PI W p mc mi mh v.bk)=>(show Calls Tryz.prog 37 #[.pointer (some ⟨p,0,none⟩),.agg (χ a.t.c a.t.A a.t.k),ι a.id] W (Ji (qQ v.bk a.t.c a.id) p mc mi mh W) from by
  have hG:=HG.out
  have ht:jg W:=hp0.tab htb (hf.mono (fun _ _ e=>e.elim))
  exact kU p mc mi mh v.bk a.t a.id _ W hp (zg.sC hG) (zg.sL hG) (HT.out W hf) hs (by omega))
 have HQ:=ħ fun (W:World) (hf:Fr (Sq p mc mi mh) w W) (hz:w.heap.size+3≤W.heap.size)=>(show Calls Tryz.prog 40 #[.agg (β v),.agg (χ a.t.c a.t.A a.t.k),ι a.id] W (Je (qQ v.bk a.t.c a.id) (fun j=>D j∧j≠w.heap.size∧j≠w.heap.size+2) W) from by
  have hg:OkG W (fun j=>D j∧j≠w.heap.size∧j≠w.heap.size+2) v n:=⟨HB.out W hf,fun k hk=>⟨YR k (by omega),by omega,by omega⟩,HG.out,hn⟩
  have hr:=KD.out W hf
  exact gH v a.t a.id (fun j=>D j∧j≠w.heap.size∧j≠w.heap.size+2) W hg.toOk hr hs (by omega))
 have JE:=ħ hk
 rw[hk] at HD⊢
 clear hp0 hv hG htb ht0 hk
 have hk:=JE.out
 clear JE
 have UE:=ħ hk
 clear hk
 go_enter Tryz.func14,Tryz.ntmps14
 go_upto_region 1 with fail
 have HB3:=ħ (show Below w.heap.size w (((w.alloc (.cells (β v) 29)).alloc (.cells #[ι 0,ι a.t.c.call,ι a.t.c.inc,ι a.t.c.urg,.string a.t.c.code,.slice a.t.A a.t.c.nodes.length a.t.k,ι a.t.c.dist,ι a.t.c.since,.bool a.t.c.closed,ι a.id,ι a.a,ι a.b,ι a.unit] 36)).alloc (.cells #[.slice none 0 0,.slice none 0 0] 29)) from (((Below.refl _ w).alloc (Nat.le_refl _) _).alloc (by simp) _).alloc (by simp;omega) _)
 have Uu:=ħ ((((Fr.refl (fun _=>False) w).alloc (.cells (β v) 29)).alloc (.cells #[ι 0,ι a.t.c.call,ι a.t.c.inc,ι a.t.c.urg,.string a.t.c.code,.slice a.t.A a.t.c.nodes.length a.t.k,ι a.t.c.dist,ι a.t.c.since,.bool a.t.c.closed,ι a.id,ι a.a,ι a.b,ι a.unit] 36)).alloc (.cells #[.slice none 0 0,.slice none 0 0] 29))
 have HD3:=HD
 generalize ((w.alloc _).alloc _).alloc _=W3 at *
 have Qt:=ħ (HP.out W3 Uu.out (YL.out _ HB3.out))
 obtain ⟨r,hr⟩:∃ r,r=qQ v.bk a.t.c a.id:=⟨_,rfl⟩
 rw[←hr] at Qt HQ
 have JL:=ħ hr
 clear hr
 obtain ⟨b1,e1⟩:=r
 have x0:=HD3.out.b4.facts
 have y0:=HD3.out.b5.facts
 have z0:=HD3.out.b6.facts
 go_wp2_with (first
  | (go_at_call 37;((with_reducible refine Qt.out.mono ?_);rintro e w4 ⟨rfl,hpi,hf⟩;have ZL:=ħ hpi;have HD4:=ħ (HD3.out.fr_ HL2.out hf);have Kt:=ħ (HQ.out _ HD4.out.fr HD4.out.sz);clear hpi hf x0 y0 z0;have x0:=HD4.out.b4.facts;have y0:=HD4.out.b5.facts;have z0:=HD4.out.b6.facts))
  | (go_at_call 40;((with_reducible refine Kt.out.mono ?_);rintro e w5 ⟨⟨la,AL,cL,lc,AC,cC⟩,rfl,hv5,hb5,hb⟩;have HV5:=ħ hv5;have Q0:=ħ hb5;have HD5:=ħ (HD4.out.below hb);have ZJ:=ħ (ZL.out.below hb);clear hv5 hb5 hb x0 y0 z0;have x0:=HD5.out.b4.facts;have y0:=HD5.out.b5.facts;have z0:=HD5.out.b6.facts)))
 have jK:=((Fr.refl (fun j=>j=w.heap.size) w5).setCell (p:=⟨w.heap.size,0,none⟩) (.inl rfl) (.slice AL la.length cL)).setCell (p:=⟨w.heap.size,1,none⟩) (.inl rfl) (.slice AC lc.length cC)
 obtain ⟨w6,Y3⟩:∃ W,W=(w5.setCell ⟨w.heap.size,0,none⟩ (.slice AL la.length cL)).setCell ⟨w.heap.size,1,none⟩ (.slice AC lc.length cC):=⟨_,rfl⟩
 rw[←Y3] at jK⊢
 clear Y3 x0 y0 z0
 have X8:=ħ (HV5.out.fr jK (fun j hj e=>hj.2.1 e))
 have QG:=ħ (ZJ.out.box HD5.out.b4 (by have:=HL2.out;unfold Bq;omega) jK)
 have Zm:=ħ (HD5.out.b6.fr jK (by show ¬ (w.heap.size+2=w.heap.size);omega))
 have ZR:=ħ (yN HD5.out.fr jK (Nat.le_refl _))
 have Zz:=((Fr.refl (fun j=>j=w.heap.size+2) w6).setCell (p:=⟨w.heap.size+2,0,none⟩) (.inl rfl) (.slice AL la.length cL)).setCell (p:=⟨w.heap.size+2,1,none⟩) (.inl rfl) (.slice AC lc.length cC)
 have ZO:zb ((w6.setCell ⟨w.heap.size+2,0,none⟩ (.slice AL la.length cL)).setCell ⟨w.heap.size+2,1,none⟩ (.slice AC lc.length cC)) (w.heap.size+2) 29 #[.slice AL la.length cL,.slice AC lc.length cC]:=by
  have:=(Zm.out.set_ 0 (.slice AL la.length cL)).set_ 1 (.slice AC lc.length cC)
  simpa using this
 refine bodyPost_ret (za (p:=6) (u:=7) (ty:=29) Tryz.results14 _ _ (w.heap.size+2) 29 #[.slice AL la.length cL,.slice AC lc.length cC] (0,0) _ rfl ZO Tryz.underlying29 rfl zm) rfl ?_
 have hdo:jY v.bk a=b1:=by
  rw[show b1=(qQ v.bk a.t.c a.id).1 by rw[←JL.out]]
  unfold jY
  simp[UE.out]
 rw[hdo]
 exact ⟨⟨la,AL,cL,lc,AC,cC⟩,rfl,Q0.out,(X8.out.fr Zz (fun j hj e=>hj.2.2 e)).more (fun j hj=>hj.1),QG.out.box Zm.out (by have:=HL2.out;unfold Bq;omega) Zz,yN ZR.out Zz (by omega)⟩
theorem IK (p mc mi mh:Nat)(b:Bk)(v:Bv)(a:Av)(n:Nat)(w:World)(hk:a.kind=1)(hp0:PI w p mc mi mh b)(hvb:v.bk=b)(D:Nat→Prop)(hD:∀ j,D j→Bq p mc mi mh j)(YR:∀ j,w.heap.size≤j→D j)(hv:zX w D v)(hG:Good n b)(hn:n+1≤1000)(htb:jg w)(ht0:RI w D a.t.A a.t.c.nodes)(hs:a.t.c.code.size≤100000)(hl:a.t.c.nodes.length≤60) :
 Calls Tryz.prog 14 #[.pointer (some ⟨p,0,none⟩),.agg (β v),.agg #[ι a.kind,ι a.t.c.call,ι a.t.c.inc,ι a.t.c.urg,.string a.t.c.code,.slice a.t.A a.t.c.nodes.length a.t.k,ι a.t.c.dist,ι a.t.c.since,.bool a.t.c.closed,ι a.id,ι a.a,ι a.b,ι a.unit]] w (Ff D (jY b a) p mc mi mh w):=by
 have hl2:=hp0.lt
 have hbk:=hvb
 subst hbk
 have HL2:=ħ hl2
 have HG:=ħ hG
 have YL:=ħ (fun (W:World) (hb:Below w.heap.size w W)=>hp0.below hb)
 have HT:=ħ fun (W:World) (hf:Fr (fun _=>False) w W)=>(ht0.old (by omega)).fr hf (fun k hk e=>e)
 have HB:=ħ fun (W:World) (hf:Fr (Sq p mc mi mh) w W)=>(show zX W (fun j=>D j∧j≠w.heap.size∧j≠w.heap.size+2) v from (hv.old.fr hf (fun k hk=>qh (hD k hk.1))).more (fun j hj=>⟨hj.1,by have:=hj.2;omega,by have:=hj.2;omega⟩))
 have KD:=ħ fun (W:World) (hf:Fr (Sq p mc mi mh) w W)=>(show RI W (fun j=>D j∧j≠w.heap.size∧j≠w.heap.size+2) a.t.A a.t.c.nodes from ((ht0.old (by omega)).fr hf (fun k hk=>qh (hD k hk.1))).more (fun j hj=>⟨hj.1,by have:=hj.2;omega,by have:=hj.2;omega⟩))
 have HD:=ħ (D3.new (p:=p) (mc:=mc) (mi:=mi) (mh:=mh) w (β v) #[ι a.kind,ι a.t.c.call,ι a.t.c.inc,ι a.t.c.urg,.string a.t.c.code,.slice a.t.A a.t.c.nodes.length a.t.k,ι a.t.c.dist,ι a.t.c.since,.bool a.t.c.closed,ι a.id,ι a.a,ι a.b,ι a.unit])
 have HP:=ħ fun (W:World) (hf:Fr (fun _=>False) w W) (hp:PI W p mc mi mh v.bk)=>(show Calls Tryz.prog 39 #[.pointer (some ⟨p,0,none⟩),.agg (χ a.t.c a.t.A a.t.k),ι a.a] W (Ji (qy v.bk a.t.c a.a) p mc mi mh W) from by
  have hG:=HG.out
  have ht:jg W:=hp0.tab htb (hf.mono (fun _ _ e=>e.elim))
  exact uX p mc mi mh v.bk a.t a.a n _ W hp hG hn ht (HT.out W hf) hs hl)
 have HQ:=ħ fun (W:World) (hf:Fr (Sq p mc mi mh) w W) (hz:w.heap.size+3≤W.heap.size)=>(show Calls Tryz.prog 41 #[.agg (β v),.agg (χ a.t.c a.t.A a.t.k),ι a.a] W (Je (qy v.bk a.t.c a.a) (fun j=>D j∧j≠w.heap.size∧j≠w.heap.size+2) W) from by
  have hg:OkG W (fun j=>D j∧j≠w.heap.size∧j≠w.heap.size+2) v n:=⟨HB.out W hf,fun k hk=>⟨YR k (by omega),by omega,by omega⟩,HG.out,hn⟩
  have hr:=KD.out W hf
  exact gV v a.t a.a n (fun j=>D j∧j≠w.heap.size∧j≠w.heap.size+2) W hg hr hs hl)
 have JE:=ħ hk
 rw[hk] at HD⊢
 clear hp0 hv hG htb ht0 hk
 have hk:=JE.out
 clear JE
 have UE:=ħ hk
 clear hk
 go_enter Tryz.func14,Tryz.ntmps14
 go_upto_region 1 with fail
 have HB3:=ħ (show Below w.heap.size w (((w.alloc (.cells (β v) 29)).alloc (.cells #[ι 1,ι a.t.c.call,ι a.t.c.inc,ι a.t.c.urg,.string a.t.c.code,.slice a.t.A a.t.c.nodes.length a.t.k,ι a.t.c.dist,ι a.t.c.since,.bool a.t.c.closed,ι a.id,ι a.a,ι a.b,ι a.unit] 36)).alloc (.cells #[.slice none 0 0,.slice none 0 0] 29)) from (((Below.refl _ w).alloc (Nat.le_refl _) _).alloc (by simp) _).alloc (by simp;omega) _)
 have Uu:=ħ ((((Fr.refl (fun _=>False) w).alloc (.cells (β v) 29)).alloc (.cells #[ι 1,ι a.t.c.call,ι a.t.c.inc,ι a.t.c.urg,.string a.t.c.code,.slice a.t.A a.t.c.nodes.length a.t.k,ι a.t.c.dist,ι a.t.c.since,.bool a.t.c.closed,ι a.id,ι a.a,ι a.b,ι a.unit] 36)).alloc (.cells #[.slice none 0 0,.slice none 0 0] 29))
 have HD3:=HD
 generalize ((w.alloc _).alloc _).alloc _=W3 at *
 have Qt:=ħ (HP.out W3 Uu.out (YL.out _ HB3.out))
 obtain ⟨r,hr⟩:∃ r,r=qy v.bk a.t.c a.a:=⟨_,rfl⟩
 rw[←hr] at Qt HQ
 have JL:=ħ hr
 clear hr
 obtain ⟨b1,e1⟩:=r
 have x0:=HD3.out.b4.facts
 have y0:=HD3.out.b5.facts
 have z0:=HD3.out.b6.facts
 go_wp2_with (first
  | (go_at_call 39;((with_reducible refine Qt.out.mono ?_);rintro e w4 ⟨rfl,hpi,hf⟩;have ZL:=ħ hpi;have HD4:=ħ (HD3.out.fr_ HL2.out hf);have Kt:=ħ (HQ.out _ HD4.out.fr HD4.out.sz);clear hpi hf x0 y0 z0;have x0:=HD4.out.b4.facts;have y0:=HD4.out.b5.facts;have z0:=HD4.out.b6.facts))
  | (go_at_call 41;((with_reducible refine Kt.out.mono ?_);rintro e w5 ⟨⟨la,AL,cL,lc,AC,cC⟩,rfl,hv5,hb5,hb⟩;have HV5:=ħ hv5;have Q0:=ħ hb5;have HD5:=ħ (HD4.out.below hb);have ZJ:=ħ (ZL.out.below hb);clear hv5 hb5 hb x0 y0 z0;have x0:=HD5.out.b4.facts;have y0:=HD5.out.b5.facts;have z0:=HD5.out.b6.facts)))
 have jK:=((Fr.refl (fun j=>j=w.heap.size) w5).setCell (p:=⟨w.heap.size,0,none⟩) (.inl rfl) (.slice AL la.length cL)).setCell (p:=⟨w.heap.size,1,none⟩) (.inl rfl) (.slice AC lc.length cC)
 obtain ⟨w6,Y3⟩:∃ W,W=(w5.setCell ⟨w.heap.size,0,none⟩ (.slice AL la.length cL)).setCell ⟨w.heap.size,1,none⟩ (.slice AC lc.length cC):=⟨_,rfl⟩
 rw[←Y3] at jK⊢
 clear Y3 x0 y0 z0
 have X8:=ħ (HV5.out.fr jK (fun j hj e=>hj.2.1 e))
 have QG:=ħ (ZJ.out.box HD5.out.b4 (by have:=HL2.out;unfold Bq;omega) jK)
 have Zm:=ħ (HD5.out.b6.fr jK (by show ¬ (w.heap.size+2=w.heap.size);omega))
 have ZR:=ħ (yN HD5.out.fr jK (Nat.le_refl _))
 have Zz:=((Fr.refl (fun j=>j=w.heap.size+2) w6).setCell (p:=⟨w.heap.size+2,0,none⟩) (.inl rfl) (.slice AL la.length cL)).setCell (p:=⟨w.heap.size+2,1,none⟩) (.inl rfl) (.slice AC lc.length cC)
 have ZO:zb ((w6.setCell ⟨w.heap.size+2,0,none⟩ (.slice AL la.length cL)).setCell ⟨w.heap.size+2,1,none⟩ (.slice AC lc.length cC)) (w.heap.size+2) 29 #[.slice AL la.length cL,.slice AC lc.length cC]:=by
  have:=(Zm.out.set_ 0 (.slice AL la.length cL)).set_ 1 (.slice AC lc.length cC)
  simpa using this
 refine bodyPost_ret (za (p:=6) (u:=7) (ty:=29) Tryz.results14 _ _ (w.heap.size+2) 29 #[.slice AL la.length cL,.slice AC lc.length cC] (0,0) _ rfl ZO Tryz.underlying29 rfl zm) rfl ?_
 have hdo:jY v.bk a=b1:=by
  rw[show b1=(qy v.bk a.t.c a.a).1 by rw[←JL.out]]
  unfold jY
  simp[UE.out]
 rw[hdo]
 exact ⟨⟨la,AL,cL,lc,AC,cC⟩,rfl,Q0.out,(X8.out.fr Zz (fun j hj e=>hj.2.2 e)).more (fun j hj=>hj.1),QG.out.box Zm.out (by have:=HL2.out;unfold Bq;omega) Zz,yN ZR.out Zz (by omega)⟩
theorem IX (p mc mi mh:Nat)(b:Bk)(v:Bv)(a:Av)(n:Nat)(w:World)(hk:a.kind=2)(hp0:PI w p mc mi mh b)(hvb:v.bk=b)(D:Nat→Prop)(hD:∀ j,D j→Bq p mc mi mh j)(YR:∀ j,w.heap.size≤j→D j)(hv:zX w D v)(hG:Good n b)(hn:n+1≤1000)(htb:jg w)(ht0:RI w D a.t.A a.t.c.nodes)(hs:a.t.c.code.size≤100000)(hl:a.t.c.nodes.length≤60) :
 Calls Tryz.prog 14 #[.pointer (some ⟨p,0,none⟩),.agg (β v),.agg #[ι a.kind,ι a.t.c.call,ι a.t.c.inc,ι a.t.c.urg,.string a.t.c.code,.slice a.t.A a.t.c.nodes.length a.t.k,ι a.t.c.dist,ι a.t.c.since,.bool a.t.c.closed,ι a.id,ι a.a,ι a.b,ι a.unit]] w (Ff D (jY b a) p mc mi mh w):=by
 have hl2:=hp0.lt
 have hbk:=hvb
 subst hbk
 have HL2:=ħ hl2
 have HG:=ħ hG
 have YL:=ħ (fun (W:World) (hb:Below w.heap.size w W)=>hp0.below hb)
 have HT:=ħ fun (W:World) (hf:Fr (fun _=>False) w W)=>(ht0.old (by omega)).fr hf (fun k hk e=>e)
 have HB:=ħ fun (W:World) (hf:Fr (Sq p mc mi mh) w W)=>(show zX W (fun j=>D j∧j≠w.heap.size∧j≠w.heap.size+2) v from (hv.old.fr hf (fun k hk=>qh (hD k hk.1))).more (fun j hj=>⟨hj.1,by have:=hj.2;omega,by have:=hj.2;omega⟩))
 have KD:=ħ fun (W:World) (hf:Fr (Sq p mc mi mh) w W)=>(show RI W (fun j=>D j∧j≠w.heap.size∧j≠w.heap.size+2) a.t.A a.t.c.nodes from ((ht0.old (by omega)).fr hf (fun k hk=>qh (hD k hk.1))).more (fun j hj=>⟨hj.1,by have:=hj.2;omega,by have:=hj.2;omega⟩))
 have HD:=ħ (D3.new (p:=p) (mc:=mc) (mi:=mi) (mh:=mh) w (β v) #[ι a.kind,ι a.t.c.call,ι a.t.c.inc,ι a.t.c.urg,.string a.t.c.code,.slice a.t.A a.t.c.nodes.length a.t.k,ι a.t.c.dist,ι a.t.c.since,.bool a.t.c.closed,ι a.id,ι a.a,ι a.b,ι a.unit])
 have HP:=ħ fun (W:World) (hf:Fr (fun _=>False) w W) (hp:PI W p mc mi mh v.bk)=>(show Calls Tryz.prog 42 #[.pointer (some ⟨p,0,none⟩),.agg (χ a.t.c a.t.A a.t.k)] W (Ji (qR v.bk a.t.c) p mc mi mh W) from by
  have hG:=HG.out
  have ht:jg W:=hp0.tab htb (hf.mono (fun _ _ e=>e.elim))
  exact bC p mc mi mh v.bk a.t n _ W hp hG hn ht (HT.out W hf) hs hl)
 have HQ:=ħ fun (W:World) (hf:Fr (Sq p mc mi mh) w W) (hz:w.heap.size+3≤W.heap.size)=>(show Calls Tryz.prog 43 #[.agg (β v),.agg (χ a.t.c a.t.A a.t.k)] W (Je (qR v.bk a.t.c) (fun j=>D j∧j≠w.heap.size∧j≠w.heap.size+2) W) from by
  have hg:OkG W (fun j=>D j∧j≠w.heap.size∧j≠w.heap.size+2) v n:=⟨HB.out W hf,fun k hk=>⟨YR k (by omega),by omega,by omega⟩,HG.out,hn⟩
  have hr:=KD.out W hf
  exact lZ v a.t n (fun j=>D j∧j≠w.heap.size∧j≠w.heap.size+2) W hg hr hs hl)
 have JE:=ħ hk
 rw[hk] at HD⊢
 clear hp0 hv hG htb ht0 hk
 have hk:=JE.out
 clear JE
 have UE:=ħ hk
 clear hk
 go_enter Tryz.func14,Tryz.ntmps14
 go_upto_region 1 with fail
 have HB3:=ħ (show Below w.heap.size w (((w.alloc (.cells (β v) 29)).alloc (.cells #[ι 2,ι a.t.c.call,ι a.t.c.inc,ι a.t.c.urg,.string a.t.c.code,.slice a.t.A a.t.c.nodes.length a.t.k,ι a.t.c.dist,ι a.t.c.since,.bool a.t.c.closed,ι a.id,ι a.a,ι a.b,ι a.unit] 36)).alloc (.cells #[.slice none 0 0,.slice none 0 0] 29)) from (((Below.refl _ w).alloc (Nat.le_refl _) _).alloc (by simp) _).alloc (by simp;omega) _)
 have Uu:=ħ ((((Fr.refl (fun _=>False) w).alloc (.cells (β v) 29)).alloc (.cells #[ι 2,ι a.t.c.call,ι a.t.c.inc,ι a.t.c.urg,.string a.t.c.code,.slice a.t.A a.t.c.nodes.length a.t.k,ι a.t.c.dist,ι a.t.c.since,.bool a.t.c.closed,ι a.id,ι a.a,ι a.b,ι a.unit] 36)).alloc (.cells #[.slice none 0 0,.slice none 0 0] 29))
 have HD3:=HD
 generalize ((w.alloc _).alloc _).alloc _=W3 at *
 have Qt:=ħ (HP.out W3 Uu.out (YL.out _ HB3.out))
 obtain ⟨r,hr⟩:∃ r,r=qR v.bk a.t.c:=⟨_,rfl⟩
 rw[←hr] at Qt HQ
 have JL:=ħ hr
 clear hr
 obtain ⟨b1,e1⟩:=r
 have x0:=HD3.out.b4.facts
 have y0:=HD3.out.b5.facts
 have z0:=HD3.out.b6.facts
 go_wp2_with (first
  | (go_at_call 42;((with_reducible refine Qt.out.mono ?_);rintro e w4 ⟨rfl,hpi,hf⟩;have ZL:=ħ hpi;have HD4:=ħ (HD3.out.fr_ HL2.out hf);have Kt:=ħ (HQ.out _ HD4.out.fr HD4.out.sz);clear hpi hf x0 y0 z0;have x0:=HD4.out.b4.facts;have y0:=HD4.out.b5.facts;have z0:=HD4.out.b6.facts))
  | (go_at_call 43;((with_reducible refine Kt.out.mono ?_);rintro e w5 ⟨⟨la,AL,cL,lc,AC,cC⟩,rfl,hv5,hb5,hb⟩;have HV5:=ħ hv5;have Q0:=ħ hb5;have HD5:=ħ (HD4.out.below hb);have ZJ:=ħ (ZL.out.below hb);clear hv5 hb5 hb x0 y0 z0;have x0:=HD5.out.b4.facts;have y0:=HD5.out.b5.facts;have z0:=HD5.out.b6.facts)))
 have jK:=((Fr.refl (fun j=>j=w.heap.size) w5).setCell (p:=⟨w.heap.size,0,none⟩) (.inl rfl) (.slice AL la.length cL)).setCell (p:=⟨w.heap.size,1,none⟩) (.inl rfl) (.slice AC lc.length cC)
 obtain ⟨w6,Y3⟩:∃ W,W=(w5.setCell ⟨w.heap.size,0,none⟩ (.slice AL la.length cL)).setCell ⟨w.heap.size,1,none⟩ (.slice AC lc.length cC):=⟨_,rfl⟩
 rw[←Y3] at jK⊢
 clear Y3 x0 y0 z0
 have X8:=ħ (HV5.out.fr jK (fun j hj e=>hj.2.1 e))
 have QG:=ħ (ZJ.out.box HD5.out.b4 (by have:=HL2.out;unfold Bq;omega) jK)
 have Zm:=ħ (HD5.out.b6.fr jK (by show ¬ (w.heap.size+2=w.heap.size);omega))
 have ZR:=ħ (yN HD5.out.fr jK (Nat.le_refl _))
 have Zz:=((Fr.refl (fun j=>j=w.heap.size+2) w6).setCell (p:=⟨w.heap.size+2,0,none⟩) (.inl rfl) (.slice AL la.length cL)).setCell (p:=⟨w.heap.size+2,1,none⟩) (.inl rfl) (.slice AC lc.length cC)
 have ZO:zb ((w6.setCell ⟨w.heap.size+2,0,none⟩ (.slice AL la.length cL)).setCell ⟨w.heap.size+2,1,none⟩ (.slice AC lc.length cC)) (w.heap.size+2) 29 #[.slice AL la.length cL,.slice AC lc.length cC]:=by
  have:=(Zm.out.set_ 0 (.slice AL la.length cL)).set_ 1 (.slice AC lc.length cC)
  simpa using this
 refine bodyPost_ret (za (p:=6) (u:=7) (ty:=29) Tryz.results14 _ _ (w.heap.size+2) 29 #[.slice AL la.length cL,.slice AC lc.length cC] (0,0) _ rfl ZO Tryz.underlying29 rfl zm) rfl ?_
 have hdo:jY v.bk a=b1:=by
  rw[show b1=(qR v.bk a.t.c).1 by rw[←JL.out]]
  unfold jY
  simp[UE.out]
 rw[hdo]
 exact ⟨⟨la,AL,cL,lc,AC,cC⟩,rfl,Q0.out,(X8.out.fr Zz (fun j hj e=>hj.2.2 e)).more (fun j hj=>hj.1),QG.out.box Zm.out (by have:=HL2.out;unfold Bq;omega) Zz,yN ZR.out Zz (by omega)⟩
theorem wN (p mc mi mh:Nat)(b:Bk)(v:Bv)(a:Av)(n:Nat)(w:World)(hk:a.kind=3)(hp0:PI w p mc mi mh b)(hvb:v.bk=b)(D:Nat→Prop)(hD:∀ j,D j→Bq p mc mi mh j)(YR:∀ j,w.heap.size≤j→D j)(hv:zX w D v)(hG:Good n b)(hn:n+1≤1000)(htb:jg w)(ht0:RI w D a.t.A a.t.c.nodes)(hs:a.t.c.code.size≤100000)(hl:a.t.c.nodes.length≤60) :
 Calls Tryz.prog 14 #[.pointer (some ⟨p,0,none⟩),.agg (β v),.agg #[ι a.kind,ι a.t.c.call,ι a.t.c.inc,ι a.t.c.urg,.string a.t.c.code,.slice a.t.A a.t.c.nodes.length a.t.k,ι a.t.c.dist,ι a.t.c.since,.bool a.t.c.closed,ι a.id,ι a.a,ι a.b,ι a.unit]] w (Ff D (jY b a) p mc mi mh w):=by
 have hl2:=hp0.lt
 have hbk:=hvb
 subst hbk
 have HL2:=ħ hl2
 have HG:=ħ hG
 have YL:=ħ (fun (W:World) (hb:Below w.heap.size w W)=>hp0.below hb)
 have HT:=ħ fun (W:World) (hf:Fr (fun _=>False) w W)=>(ht0.old (by omega)).fr hf (fun k hk e=>e)
 have HB:=ħ fun (W:World) (hf:Fr (Sq p mc mi mh) w W)=>(show zX W (fun j=>D j∧j≠w.heap.size∧j≠w.heap.size+2) v from (hv.old.fr hf (fun k hk=>qh (hD k hk.1))).more (fun j hj=>⟨hj.1,by have:=hj.2;omega,by have:=hj.2;omega⟩))
 have KD:=ħ fun (W:World) (hf:Fr (Sq p mc mi mh) w W)=>(show RI W (fun j=>D j∧j≠w.heap.size∧j≠w.heap.size+2) a.t.A a.t.c.nodes from ((ht0.old (by omega)).fr hf (fun k hk=>qh (hD k hk.1))).more (fun j hj=>⟨hj.1,by have:=hj.2;omega,by have:=hj.2;omega⟩))
 have HD:=ħ (D3.new (p:=p) (mc:=mc) (mi:=mi) (mh:=mh) w (β v) #[ι a.kind,ι a.t.c.call,ι a.t.c.inc,ι a.t.c.urg,.string a.t.c.code,.slice a.t.A a.t.c.nodes.length a.t.k,ι a.t.c.dist,ι a.t.c.since,.bool a.t.c.closed,ι a.id,ι a.a,ι a.b,ι a.unit])
 have HP:=ħ fun (W:World) (hf:Fr (fun _=>False) w W) (hp:PI W p mc mi mh v.bk)=>(show Calls Tryz.prog 44 #[.pointer (some ⟨p,0,none⟩),ι a.t.c.call] W (Ji (Z8 v.bk a.t.c.call) p mc mi mh W) from by
  have hG:=HG.out
  have ht:jg W:=hp0.tab htb (hf.mono (fun _ _ e=>e.elim))
  exact lY p mc mi mh v.bk a.t.c.call W hp (zg.sC hG))
 have HQ:=ħ fun (W:World) (hf:Fr (Sq p mc mi mh) w W) (hz:w.heap.size+3≤W.heap.size)=>(show Calls Tryz.prog 45 #[.agg (β v),ι a.t.c.call] W (Je (Z8 v.bk a.t.c.call) (fun j=>D j∧j≠w.heap.size∧j≠w.heap.size+2) W) from by
  have hg:OkG W (fun j=>D j∧j≠w.heap.size∧j≠w.heap.size+2) v n:=⟨HB.out W hf,fun k hk=>⟨YR k (by omega),by omega,by omega⟩,HG.out,hn⟩
  have hr:=KD.out W hf
  exact oZ v a.t.c.call n (fun j=>D j∧j≠w.heap.size∧j≠w.heap.size+2) W hg)
 have JE:=ħ hk
 rw[hk] at HD⊢
 clear hp0 hv hG htb ht0 hk
 have hk:=JE.out
 clear JE
 have UE:=ħ hk
 clear hk
 go_enter Tryz.func14,Tryz.ntmps14
 go_upto_region 1 with fail
 have HB3:=ħ (show Below w.heap.size w (((w.alloc (.cells (β v) 29)).alloc (.cells #[ι 3,ι a.t.c.call,ι a.t.c.inc,ι a.t.c.urg,.string a.t.c.code,.slice a.t.A a.t.c.nodes.length a.t.k,ι a.t.c.dist,ι a.t.c.since,.bool a.t.c.closed,ι a.id,ι a.a,ι a.b,ι a.unit] 36)).alloc (.cells #[.slice none 0 0,.slice none 0 0] 29)) from (((Below.refl _ w).alloc (Nat.le_refl _) _).alloc (by simp) _).alloc (by simp;omega) _)
 have Uu:=ħ ((((Fr.refl (fun _=>False) w).alloc (.cells (β v) 29)).alloc (.cells #[ι 3,ι a.t.c.call,ι a.t.c.inc,ι a.t.c.urg,.string a.t.c.code,.slice a.t.A a.t.c.nodes.length a.t.k,ι a.t.c.dist,ι a.t.c.since,.bool a.t.c.closed,ι a.id,ι a.a,ι a.b,ι a.unit] 36)).alloc (.cells #[.slice none 0 0,.slice none 0 0] 29))
 have HD3:=HD
 generalize ((w.alloc _).alloc _).alloc _=W3 at *
 have Qt:=ħ (HP.out W3 Uu.out (YL.out _ HB3.out))
 obtain ⟨r,hr⟩:∃ r,r=Z8 v.bk a.t.c.call:=⟨_,rfl⟩
 rw[←hr] at Qt HQ
 have JL:=ħ hr
 clear hr
 obtain ⟨b1,e1⟩:=r
 have x0:=HD3.out.b4.facts
 have y0:=HD3.out.b5.facts
 have z0:=HD3.out.b6.facts
 go_wp2_with (first
  | (go_at_call 44;((with_reducible refine Qt.out.mono ?_);rintro e w4 ⟨rfl,hpi,hf⟩;have ZL:=ħ hpi;have HD4:=ħ (HD3.out.fr_ HL2.out hf);have Kt:=ħ (HQ.out _ HD4.out.fr HD4.out.sz);clear hpi hf x0 y0 z0;have x0:=HD4.out.b4.facts;have y0:=HD4.out.b5.facts;have z0:=HD4.out.b6.facts))
  | (go_at_call 45;((with_reducible refine Kt.out.mono ?_);rintro e w5 ⟨⟨la,AL,cL,lc,AC,cC⟩,rfl,hv5,hb5,hb⟩;have HV5:=ħ hv5;have Q0:=ħ hb5;have HD5:=ħ (HD4.out.below hb);have ZJ:=ħ (ZL.out.below hb);clear hv5 hb5 hb x0 y0 z0;have x0:=HD5.out.b4.facts;have y0:=HD5.out.b5.facts;have z0:=HD5.out.b6.facts)))
 have jK:=((Fr.refl (fun j=>j=w.heap.size) w5).setCell (p:=⟨w.heap.size,0,none⟩) (.inl rfl) (.slice AL la.length cL)).setCell (p:=⟨w.heap.size,1,none⟩) (.inl rfl) (.slice AC lc.length cC)
 obtain ⟨w6,Y3⟩:∃ W,W=(w5.setCell ⟨w.heap.size,0,none⟩ (.slice AL la.length cL)).setCell ⟨w.heap.size,1,none⟩ (.slice AC lc.length cC):=⟨_,rfl⟩
 rw[←Y3] at jK⊢
 clear Y3 x0 y0 z0
 have X8:=ħ (HV5.out.fr jK (fun j hj e=>hj.2.1 e))
 have QG:=ħ (ZJ.out.box HD5.out.b4 (by have:=HL2.out;unfold Bq;omega) jK)
 have Zm:=ħ (HD5.out.b6.fr jK (by show ¬ (w.heap.size+2=w.heap.size);omega))
 have ZR:=ħ (yN HD5.out.fr jK (Nat.le_refl _))
 have Zz:=((Fr.refl (fun j=>j=w.heap.size+2) w6).setCell (p:=⟨w.heap.size+2,0,none⟩) (.inl rfl) (.slice AL la.length cL)).setCell (p:=⟨w.heap.size+2,1,none⟩) (.inl rfl) (.slice AC lc.length cC)
 have ZO:zb ((w6.setCell ⟨w.heap.size+2,0,none⟩ (.slice AL la.length cL)).setCell ⟨w.heap.size+2,1,none⟩ (.slice AC lc.length cC)) (w.heap.size+2) 29 #[.slice AL la.length cL,.slice AC lc.length cC]:=by
  have:=(Zm.out.set_ 0 (.slice AL la.length cL)).set_ 1 (.slice AC lc.length cC)
  simpa using this
 refine bodyPost_ret (za (p:=6) (u:=7) (ty:=29) Tryz.results14 _ _ (w.heap.size+2) 29 #[.slice AL la.length cL,.slice AC lc.length cC] (0,0) _ rfl ZO Tryz.underlying29 rfl zm) rfl ?_
 have hdo:jY v.bk a=b1:=by
  rw[show b1=(Z8 v.bk a.t.c.call).1 by rw[←JL.out]]
  unfold jY
  simp[UE.out]
 rw[hdo]
 exact ⟨⟨la,AL,cL,lc,AC,cC⟩,rfl,Q0.out,(X8.out.fr Zz (fun j hj e=>hj.2.2 e)).more (fun j hj=>hj.1),QG.out.box Zm.out (by have:=HL2.out;unfold Bq;omega) Zz,yN ZR.out Zz (by omega)⟩
theorem Ie (p mc mi mh:Nat)(b:Bk)(v:Bv)(a:Av)(n:Nat)(w:World)(hk:a.kind=4)(hp0:PI w p mc mi mh b)(hvb:v.bk=b)(D:Nat→Prop)(hD:∀ j,D j→Bq p mc mi mh j)(YR:∀ j,w.heap.size≤j→D j)(hv:zX w D v)(hG:Good n b)(hn:n+1≤1000)(htb:jg w)(ht0:RI w D a.t.A a.t.c.nodes)(hs:a.t.c.code.size≤100000)(hl:a.t.c.nodes.length≤60) :
 Calls Tryz.prog 14 #[.pointer (some ⟨p,0,none⟩),.agg (β v),.agg #[ι a.kind,ι a.t.c.call,ι a.t.c.inc,ι a.t.c.urg,.string a.t.c.code,.slice a.t.A a.t.c.nodes.length a.t.k,ι a.t.c.dist,ι a.t.c.since,.bool a.t.c.closed,ι a.id,ι a.a,ι a.b,ι a.unit]] w (Ff D (jY b a) p mc mi mh w):=by
 have hl2:=hp0.lt
 have hbk:=hvb
 subst hbk
 have HL2:=ħ hl2
 have HG:=ħ hG
 have YL:=ħ (fun (W:World) (hb:Below w.heap.size w W)=>hp0.below hb)
 have HT:=ħ fun (W:World) (hf:Fr (fun _=>False) w W)=>(ht0.old (by omega)).fr hf (fun k hk e=>e)
 have HB:=ħ fun (W:World) (hf:Fr (Sq p mc mi mh) w W)=>(show zX W (fun j=>D j∧j≠w.heap.size∧j≠w.heap.size+2) v from (hv.old.fr hf (fun k hk=>qh (hD k hk.1))).more (fun j hj=>⟨hj.1,by have:=hj.2;omega,by have:=hj.2;omega⟩))
 have KD:=ħ fun (W:World) (hf:Fr (Sq p mc mi mh) w W)=>(show RI W (fun j=>D j∧j≠w.heap.size∧j≠w.heap.size+2) a.t.A a.t.c.nodes from ((ht0.old (by omega)).fr hf (fun k hk=>qh (hD k hk.1))).more (fun j hj=>⟨hj.1,by have:=hj.2;omega,by have:=hj.2;omega⟩))
 have HD:=ħ (D3.new (p:=p) (mc:=mc) (mi:=mi) (mh:=mh) w (β v) #[ι a.kind,ι a.t.c.call,ι a.t.c.inc,ι a.t.c.urg,.string a.t.c.code,.slice a.t.A a.t.c.nodes.length a.t.k,ι a.t.c.dist,ι a.t.c.since,.bool a.t.c.closed,ι a.id,ι a.a,ι a.b,ι a.unit])
 have HP:=ħ fun (W:World) (hf:Fr (fun _=>False) w W) (hp:PI W p mc mi mh v.bk)=>(show Calls Tryz.prog 17 #[.pointer (some ⟨p,0,none⟩),ι a.a,ι a.b] W (Ji (zM v.bk a.a a.b) p mc mi mh W) from by
  have hG:=HG.out
  have ht:jg W:=hp0.tab htb (hf.mono (fun _ _ e=>e.elim))
  exact xE p mc mi mh v.bk a.a a.b n W hp hG (by omega) ht)
 have HQ:=ħ fun (W:World) (hf:Fr (Sq p mc mi mh) w W) (hz:w.heap.size+3≤W.heap.size)=>(show Calls Tryz.prog 46 #[.agg (β v),ι a.a,ι a.b] W (Je (zM v.bk a.a a.b) (fun j=>D j∧j≠w.heap.size∧j≠w.heap.size+2) W) from by
  have hg:OkG W (fun j=>D j∧j≠w.heap.size∧j≠w.heap.size+2) v n:=⟨HB.out W hf,fun k hk=>⟨YR k (by omega),by omega,by omega⟩,HG.out,hn⟩
  have hr:=KD.out W hf
  exact dn v a.a a.b n (fun j=>D j∧j≠w.heap.size∧j≠w.heap.size+2) W hg)
 have JE:=ħ hk
 rw[hk] at HD⊢
 clear hp0 hv hG htb ht0 hk
 have hk:=JE.out
 clear JE
 have UE:=ħ hk
 clear hk
 go_enter Tryz.func14,Tryz.ntmps14
 go_upto_region 1 with fail
 have HB3:=ħ (show Below w.heap.size w (((w.alloc (.cells (β v) 29)).alloc (.cells #[ι 4,ι a.t.c.call,ι a.t.c.inc,ι a.t.c.urg,.string a.t.c.code,.slice a.t.A a.t.c.nodes.length a.t.k,ι a.t.c.dist,ι a.t.c.since,.bool a.t.c.closed,ι a.id,ι a.a,ι a.b,ι a.unit] 36)).alloc (.cells #[.slice none 0 0,.slice none 0 0] 29)) from (((Below.refl _ w).alloc (Nat.le_refl _) _).alloc (by simp) _).alloc (by simp;omega) _)
 have Uu:=ħ ((((Fr.refl (fun _=>False) w).alloc (.cells (β v) 29)).alloc (.cells #[ι 4,ι a.t.c.call,ι a.t.c.inc,ι a.t.c.urg,.string a.t.c.code,.slice a.t.A a.t.c.nodes.length a.t.k,ι a.t.c.dist,ι a.t.c.since,.bool a.t.c.closed,ι a.id,ι a.a,ι a.b,ι a.unit] 36)).alloc (.cells #[.slice none 0 0,.slice none 0 0] 29))
 have HD3:=HD
 generalize ((w.alloc _).alloc _).alloc _=W3 at *
 have Qt:=ħ (HP.out W3 Uu.out (YL.out _ HB3.out))
 obtain ⟨r,hr⟩:∃ r,r=zM v.bk a.a a.b:=⟨_,rfl⟩
 rw[←hr] at Qt HQ
 have JL:=ħ hr
 clear hr
 obtain ⟨b1,e1⟩:=r
 have x0:=HD3.out.b4.facts
 have y0:=HD3.out.b5.facts
 have z0:=HD3.out.b6.facts
 go_wp2_with (first
  | (go_at_call 17;((with_reducible refine Qt.out.mono ?_);rintro e w4 ⟨rfl,hpi,hf⟩;have ZL:=ħ hpi;have HD4:=ħ (HD3.out.fr_ HL2.out hf);have Kt:=ħ (HQ.out _ HD4.out.fr HD4.out.sz);clear hpi hf x0 y0 z0;have x0:=HD4.out.b4.facts;have y0:=HD4.out.b5.facts;have z0:=HD4.out.b6.facts))
  | (go_at_call 46;((with_reducible refine Kt.out.mono ?_);rintro e w5 ⟨⟨la,AL,cL,lc,AC,cC⟩,rfl,hv5,hb5,hb⟩;have HV5:=ħ hv5;have Q0:=ħ hb5;have HD5:=ħ (HD4.out.below hb);have ZJ:=ħ (ZL.out.below hb);clear hv5 hb5 hb x0 y0 z0;have x0:=HD5.out.b4.facts;have y0:=HD5.out.b5.facts;have z0:=HD5.out.b6.facts)))
 have jK:=((Fr.refl (fun j=>j=w.heap.size) w5).setCell (p:=⟨w.heap.size,0,none⟩) (.inl rfl) (.slice AL la.length cL)).setCell (p:=⟨w.heap.size,1,none⟩) (.inl rfl) (.slice AC lc.length cC)
 obtain ⟨w6,Y3⟩:∃ W,W=(w5.setCell ⟨w.heap.size,0,none⟩ (.slice AL la.length cL)).setCell ⟨w.heap.size,1,none⟩ (.slice AC lc.length cC):=⟨_,rfl⟩
 rw[←Y3] at jK⊢
 clear Y3 x0 y0 z0
 have X8:=ħ (HV5.out.fr jK (fun j hj e=>hj.2.1 e))
 have QG:=ħ (ZJ.out.box HD5.out.b4 (by have:=HL2.out;unfold Bq;omega) jK)
 have Zm:=ħ (HD5.out.b6.fr jK (by show ¬ (w.heap.size+2=w.heap.size);omega))
 have ZR:=ħ (yN HD5.out.fr jK (Nat.le_refl _))
 have Zz:=((Fr.refl (fun j=>j=w.heap.size+2) w6).setCell (p:=⟨w.heap.size+2,0,none⟩) (.inl rfl) (.slice AL la.length cL)).setCell (p:=⟨w.heap.size+2,1,none⟩) (.inl rfl) (.slice AC lc.length cC)
 have ZO:zb ((w6.setCell ⟨w.heap.size+2,0,none⟩ (.slice AL la.length cL)).setCell ⟨w.heap.size+2,1,none⟩ (.slice AC lc.length cC)) (w.heap.size+2) 29 #[.slice AL la.length cL,.slice AC lc.length cC]:=by
  have:=(Zm.out.set_ 0 (.slice AL la.length cL)).set_ 1 (.slice AC lc.length cC)
  simpa using this
 refine bodyPost_ret (za (p:=6) (u:=7) (ty:=29) Tryz.results14 _ _ (w.heap.size+2) 29 #[.slice AL la.length cL,.slice AC lc.length cC] (0,0) _ rfl ZO Tryz.underlying29 rfl zm) rfl ?_
 have hdo:jY v.bk a=b1:=by
  rw[show b1=(zM v.bk a.a a.b).1 by rw[←JL.out]]
  unfold jY
  simp[UE.out]
 rw[hdo]
 exact ⟨⟨la,AL,cL,lc,AC,cC⟩,rfl,Q0.out,(X8.out.fr Zz (fun j hj e=>hj.2.2 e)).more (fun j hj=>hj.1),QG.out.box Zm.out (by have:=HL2.out;unfold Bq;omega) Zz,yN ZR.out Zz (by omega)⟩
end Go.Proofs.YtdhcjhfgibmhfaaGreatDoor
namespace Go
abbrev φ (a:Proofs.YtdhcjhfgibmhfaaGreatDoor.Av):Array Value:=#[ι a.kind,ι a.t.c.call,ι a.t.c.inc,ι a.t.c.urg,.string a.t.c.code,.slice a.t.A a.t.c.nodes.length a.t.k,ι a.t.c.dist,ι a.t.c.since,.bool a.t.c.closed,ι a.id,ι a.a,ι a.b,ι a.unit]
end Go

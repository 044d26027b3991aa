import Derived.Test.YtdhcjhfgibmhfaaGreatDoorVG30
set_option linter.unusedVariables false
set_option linter.unusedSimpArgs false
set_option maxRecDepth 10000
set_option maxHeartbeats 8000000
namespace Go.Proofs.YtdhcjhfgibmhfaaGreatDoor
open Go.RowKit Go.Own Go.Quo Go.Inc
theorem restores4 (l:List Av)(A:Option Addr)(c:Nat)(call id:Int)(w:World)(htb:jg w)(h1:Reads w (· < w.heap.size) 13 A l.length (l.flatMap Bd))(r1:∀ a∈l,RI w (· < w.heap.size) a.t.A a.t.c.nodes)(m1:l.length≤9223372036854775807) :
 Calls Tryz.prog 4 #[.slice A l.length c,ι call,ι id] w (qX true w):=by
 have Yi:=ħ htb
 cases hf:Qm l with
 | false=>
  have tF:=ħ (FJ _ A c l w h1 m1 hf)
  clear h1 r1 m1 htb hf
  go_enter Tryz.func4,Tryz.ntmps4
  go_upto_region 2 with (go_at_call 13;((with_reducible refine tF.out.mono ?_);rintro e w2 ⟨rfl,hb⟩;have HB2:=ħ hb;clear hb))
  have HB3:=ħ (HB2.out.alloc HB2.out.size (.cells #[.slice none 0 0,.slice none 0 0] 29))
  generalize w2.alloc _=W3 at *
  have pG:=ħ (UX W3 (Yi.out.below HB3.out Yi.out.lt))
  go_wp2_with (go_at_call 12;((with_reducible refine pG.out.mono ?_);rintro e w4 ⟨rfl,hb⟩;have Zp:=ħ (HB3.out.trans (hb.mono HB3.out.size));clear hb))
  go_ret
  exact ⟨rfl,Zp.out⟩
 | true=>
  have tF:=ħ (vM _ A c l w h1 r1 hf htb)
  have HG:=ħ (show Good 40 (yU l) from zg.mono (Zj l (by have:=(P_ hf).2;omega) (P_ hf).1) (P_ hf).2)
  clear h1 r1 m1 htb hf
  unfold nH at tF
  generalize yU l=b at *
  go_enter Tryz.func4,Tryz.ntmps4
  go_upto_region 2 with (go_at_call 13;((with_reducible refine tF.out.mono ?_);rintro e w2 ⟨p,mc,mi,mh,v,rfl,hbk,hpi,hbv,hpl,hb⟩;have HS2:=ħ (LP.new hbk hpi hbv hpl hb HG.out Yi.out);have HV:=ħ hbk;clear hbk hpi hbv hpl hb))
  obtain ⟨q,hq⟩:∃ q,q=w2.heap.size:=⟨_,rfl⟩
  rw[←hq] at HS2⊢
  clear hq tF Yi
  generalize w2.alloc _=W3 at *
  have x0:=HS2.out.x.facts
  cases hc:yP b.C call with
  | none=>
   have BU:=ħ (HS2.out.callq call (show Jz b call=(Qf,false) by unfold Jz;rw[hc]))
   clear hc
   generalize Qf=t at *
   go_upto_region 5 with (go_at_call 15;((with_reducible refine BU.out.mono ?_);rintro e w4 ⟨A1,k1,rfl,-,hb⟩;have Mx:=ħ (HS2.out.below hb);clear hb x0))
   have QE:=ħ (Mx.out.below ((Below.refl _ w4).alloc (Nat.le_refl _) (.cells (χ t A1 k1) 34)))
   generalize w4.alloc _=W5 at *
   go_wp2_with (go_at_call 12;((with_reducible refine QE.out.awake.mono ?_);rintro e w6 ⟨rfl,hb⟩;have GL:=ħ (QE.out.below hb);clear hb))
   go_ret
   exact ⟨rfl,GL.out.be⟩
  | some t=>
   have BU:=ħ (HS2.out.callq call (show Jz b call=(t,true) by unfold Jz;rw[hc]))
   have HC:=ħ hc
   clear hc
   go_upto_region 5 with (go_at_call 15;((with_reducible refine BU.out.mono ?_);rintro e w4 ⟨A1,k1,rfl,-,hb⟩;have Mx:=ħ (HS2.out.below hb);clear hb x0))
   have HT:=ħ (zb.new w4 34 (χ t A1 k1))
   have QE:=ħ (Mx.out.below ((Below.refl _ w4).alloc (Nat.le_refl _) (.cells (χ t A1 k1) 34)))
   have HRp:=ħ (show Bq p mc mi mh w4.heap.size by have:=Mx.out.pi.lt;unfold Bq;omega)
   obtain ⟨r,hr⟩:∃ r,r=w4.heap.size:=⟨_,rfl⟩
   rw[←hr] at HT HRp⊢
   clear hr Mx HS2 BU
   generalize w4.alloc _=W5 at *
   have y0:=HT.out.facts
   have NV:=ħ (kr p mc mi mh b call t.inc id 0 60 W5 QE.out.pi QE.out.go (by omega) QE.out.ta)
   have HG2:=ħ (zg.mono (Ub HG.out (by omega) call t.inc id 0) (by omega:41≤60))
   have iY:=ħ fun hp=>Tg HG.out (by omega) HC.out (id:=id) hp
   generalize zS b call t.inc id 0=pb at *
   obtain ⟨b2,r2⟩:=pb
   dsimp only at HG2 iY
   by_cases hp:r2=0
   ·have HR1:=ħ (iY.out hp)
    have tK:=ħ (zg.mono (XW HG2.out (by omega) id t.inc) (Nat.le_refl 60))
    have Oc:=ħ fun (W:World) (h:LP w W p mc mi mh q b2 v)=>xE p mc mi mh b2 id t.inc 60 W h.pi h.go (by omega) h.ta
    generalize zM b2 id t.inc=pm at *
    obtain ⟨b3,r3⟩:=pm
    dsimp only at tK HR1
    obtain ⟨e1,e2,⟨x,e3,e4⟩,e5⟩:=HR1.out
    subst hp e1
    have HE:=ħ (And.intro e3 (And.intro e4 e5))
    have BL:=ħ e2
    clear iY HR1 e2 e3 e4 e5
    go_upto_region 7 with (go_at_call 16;((with_reducible refine NV.out.mono ?_);rintro e w6 ⟨rfl,hpi,hf⟩;have GL:=ħ (QE.out.fr (b':=b2) hpi HG2.out hf);have fQ:=ħ (HT.out.fr hf (qh HRp.out));clear hpi hf y0))
    have WC:=ħ (GL.out.below (Below.refl _ w6).drew)
    have WG:=ħ (fQ.out.below (Below.refl _ w6).drew fQ.out.lt)
    have WV:=ħ (Oc.out _ WC.out)
    have K0:w6.drew.cell? ⟨r,1,none⟩=some (ι t.inc):=WG.out.cell 1
    go_region_held (fun W'=>W'.cell? ⟨r,1,none⟩=some (ι t.inc)) (first | assumption | exact K0) (first
     | (go_at_call 17;((with_reducible refine WV.out.mono ?_);rintro e w7 ⟨rfl,hpi,hf⟩;have xm:=ħ (WC.out.fr (b':=b3) hpi tK.out hf);have ng:=ħ (WG.out.fr hf (qh HRp.out));have K7:w7.cell? ⟨r,1,none⟩=some (ι t.inc):=ng.out.cell 1;have mQ:=ħ (xm.out.root id);rw[BL.out] at mQ;clear hpi hf))
     | (go_at_call 18;((with_reducible refine mQ.out.mono ?_);rintro e w8 ⟨rfl,hb⟩;have lC:=ħ (xm.out.below hb);have gG:=ħ (ng.out.below hb ng.out.lt);have K8:w8.cell? ⟨r,1,none⟩=some (ι t.inc):=gG.out.cell 1;clear hb)))
    all_goals
     clear K0 K7 K8 WV Oc NV WC WG xm ng GL fQ mQ
     have H19:=ħ (lC.out.incx t.inc (x:=x) (f:=true) (by unfold QF;rw[HE.out.2.1]))
     have y0:=gG.out.facts
     go_upto_region 10 with (go_at_call 19;((with_reducible refine H19.out.mono ?_);rintro e w9 ⟨y,hy,rfl,hr,hb⟩;have HS9:=ħ (lC.out.below hb);have fM:=ħ (gG.out.below hb gG.out.lt);have HY:=ħ hy;have HR9:=ħ hr;clear hy hr hb y0))
     have HI:=ħ (zb.new w9 48 (ξ y.x y.An y.cn y.Ac y.cc y.Au y.cu))
     have SI:=ħ (HS9.out.below ((Below.refl _ w9).alloc (Nat.le_refl _) (.cells (ξ y.x y.An y.cn y.Ac y.cc y.Au y.cu) 48)))
     have eX:=ħ (fM.out.below ((Below.refl _ w9).alloc (Nat.le_refl _) (.cells (ξ y.x y.An y.cn y.Ac y.cc y.Au y.cu) 48)) fM.out.lt)
     have HRa:=ħ (HR9.out.below ((Below.refl _ w9).alloc (Nat.le_refl _) (.cells (ξ y.x y.An y.cn y.Ac y.cc y.Au y.cu) 48)))
     obtain ⟨s,hs⟩:∃ s,s=w9.heap.size:=⟨_,rfl⟩
     rw[←hs] at HI⊢
     clear hs HS9 fM HR9 lC gG
     generalize w9.alloc _=Wa at *
     rcases TD HV.out t.inc with ⟨i,hi,hix,hiv⟩ | ⟨-,hno⟩
     ·have HX:=ħ (show v.la[i].x=y.x by rw[HE.out.1] at hiv;rw[HY.out];exact (Option.some.inj hiv).symm)
      have ZX:=ħ (SI.out.find (Nat.le_trans (Rc HV.out HG.out).1 (by omega)) t.inc)
      rw[hix] at ZX
      have y0:=eX.out.facts
      have x0:=SI.out.x.facts
      clear hix hiv
      go_upto_region 11 with (go_at_call 20;((with_reducible refine ZX.out.mono ?_);rintro e wb ⟨rfl,hb⟩;have Lr:=ħ (SI.out.below hb);have HIb:=ħ (HI.out.below hb HI.out.lt);have Ij:=ħ (HRa.out.below hb);clear hb x0 y0))
      have hi0:(0:Int)≤(i:Int):=by omega
      have WZ:=Lr.out.bv.rl.plain (by omega)
      have hix:=fun W=>JZ WZ v.cL i hi W
      obtain ⟨z,hz⟩:∃ z,z=v.la[i]:=⟨_,rfl⟩
      have HZ:=ħ (show z.x=y.x by rw[hz];exact HX.out)
      have HK:=ħ fun (W':World) (hb:Below wb.heap.size wb W')=>(show Cg W' s y∧Cx W' (bk v.AL) (qP v.AL+i * 10) z∧(W'.cell? ⟨q,0,none⟩=some (.slice v.AL v.la.length v.cL)∧W'.cell? ⟨q,1,none⟩=some (.slice v.AC v.lc.length v.cC)) from ⟨Sk (HIb.out.below hb HIb.out.lt),jA (Lr.out.below hb).bv.rl hi hz,(Lr.out.below hb).cells⟩)
      have K0:=HK.out _ (Below.refl _ wb).drew
      have Rw:=ħ (Lr.out.below (Below.refl _ wb).drew)
      have hzm:=Rw.out.bv.xl z (by rw[hz];exact List.getElem_mem hi)
      have Td:=ħ (Rj _ _ y z wb.drew (Ij.out.below (Below.refl _ wb).drew) hzm HZ.out (HY.out ▸ Ru (by omega) HG.out (zi HE.out.1).1))
      clear hz hzm
      go_region_held (fun W'=>Cg W' s y∧Cx W' (bk v.AL) (qP v.AL+i * 10) z∧(W'.cell? ⟨q,0,none⟩=some (.slice v.AL v.la.length v.cL)∧W'.cell? ⟨q,1,none⟩=some (.slice v.AC v.lc.length v.cC))) (first | assumption | exact K0) (first
       | (go_at_call 21;((with_reducible refine Td.out.mono ?_);rintro e w5 ⟨rfl,hb⟩;have QE:=ħ (Rw.out.below hb);have Tp:=ħ ((Below.refl _ wb).drew.trans hb);have K5:=HK.out _ Tp.out;clear hb))
       | (go_at_call 23;((with_reducible refine QE.out.calls.mono ?_);rintro e w6 ⟨A2,c2,ys,rfl,hm,hx⟩;have GL:=ħ (QE.out.below hx.be);have H22:=ħ (GL.out.told (by rw[HV.out,HE.out.2.2]) hm hx);have SA:=ħ (Tp.out.trans (hx.be.mono Tp.out.size));have K6:=HK.out _ SA.out;clear hm hx))
       | (go_at_call 22;((with_reducible refine H22.out.mono ?_);rintro e w7 ⟨rfl,hb⟩;have xm:=ħ (GL.out.below hb);have Te:=ħ (SA.out.trans (hb.mono SA.out.size));have K7:=HK.out _ Te.out;clear hb))
       | (go_at_call 12;((with_reducible refine xm.out.awake.mono ?_);rintro e w8 ⟨rfl,hb⟩;have Jy:=ħ (xm.out.be.trans (hb.mono xm.out.be.size));have K8:=HK.out _ (Te.out.trans (hb.mono Te.out.size));clear hb)))
      all_goals
       go_wp2_with fail
       go_ret
       exact ⟨rfl,Jy.out⟩
     ·rw[HE.out.1] at hno;cases hno
   ·have hn:(r2 != 0)=true:=by simp[bne_iff_ne];exact hp
    clear hp
    go_wp2_with (first
     | (go_at_call 16;((with_reducible refine NV.out.mono ?_);rintro e w6 ⟨rfl,hpi,hf⟩;have GL:=ħ (QE.out.fr (b':=b2) hpi HG2.out hf);clear hpi hf y0))
     | (go_at_call 12;((with_reducible refine GL.out.awake.mono ?_);rintro e w7 ⟨rfl,hb⟩;have xm:=ħ (GL.out.below hb);clear hb)))
    go_ret
    exact ⟨rfl,xm.out.be⟩
end Go.Proofs.YtdhcjhfgibmhfaaGreatDoor

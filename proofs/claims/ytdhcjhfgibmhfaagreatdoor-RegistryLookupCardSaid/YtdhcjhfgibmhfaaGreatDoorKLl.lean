import Derived.Test.YtdhcjhfgibmhfaaGreatDoorKG30
import Derived.Test.YtdhcjhfgibmhfaaGreatDoorKG20
import Derived.Test.YtdhcjhfgibmhfaaGreatDoorKG21
import Derived.Test.YtdhcjhfgibmhfaaGreatDoorKG11
set_option linter.unusedVariables false
set_option linter.unusedSimpArgs false
set_option maxRecDepth 10000
set_option maxHeartbeats 8000000
namespace Go.Proofs.YtdhcjhfgibmhfaaGreatDoor
open Go.RowKit Go.Own Go.Quo Go.Inc
attribute [local irreducible] Go.wpQuiet
theorem RB {c:Prop}[Decidable c]{p q:Prop}(h:c)(hp:p):if c then p else q:=by rw[if_pos h];exact hp
theorem Sa {c:Prop}[Decidable c]{p q:Prop}(h:¬ c)(hq:q):if c then p else q:=by rw[if_neg h];exact hq
theorem Si:TA Qf:=⟨⟨by decide,by decide⟩,⟨by decide,by decide⟩,⟨by decide,by decide⟩,by decide,by decide,fun n hn=>by simp[Qf] at hn,⟨by decide,by decide⟩,⟨by decide,by decide⟩⟩
theorem WO {v:Bv}{b:Bk}(hv:v.bk=b)(k:Int):(QF b k).2=decide (0≤GI (fun a:Xa=>a.x.id) v.la k):=by
 rcases TD hv k with ⟨i,h,h1,h2⟩ | ⟨h1,h2⟩
 ·unfold QF;rw[h2,h1];simp
 ·unfold QF;rw[h2,h1];rfl
theorem WI {v:Bv}{b:Bk}(hv:v.bk=b)(k:Int):(Jz b k).2=decide (0≤GI (fun a:Ca=>a.c.call) v.lc k):=by
 rcases Wo hv k with ⟨i,h,h1,h2⟩ | ⟨h1,h2⟩
 ·unfold Jz;rw[h2,h1];simp
 ·unfold Jz;rw[h2,h1];rfl
theorem lookup5 (l:List Av)(A:Option Addr)(c:Nat)(id:Int)(w:World)(htb:jg w)(h1:Reads w (· < w.heap.size) 13 A l.length (l.flatMap Bd))(r1:∀ a∈l,RI w (· < w.heap.size) a.t.A a.t.c.nodes)(m1:l.length≤9223372036854775807) :
 Calls Tryz.prog 5 #[.slice A l.length c,ι id] w (qX true w):=by
 have Yi:=ħ htb
 cases hf:Qm l with
 | false=>
  have tF:=ħ (FJ _ A c l w h1 m1 hf)
  clear h1 r1 m1 htb hf
  go_enter Tryz.func5,Tryz.ntmps5
  go_upto_region 2 with (go_at_call 13;((with_reducible refine tF.out.mono ?_);rintro e w2 ⟨rfl,hb⟩;have HB2:=ħ hb;clear hb))
  have HB3:=ħ (HB2.out.alloc HB2.out.size (.cells #[.slice none 0 0,.slice none 0 0] 29))
  generalize w2.alloc _=W3 at *
  have pG:=ħ (UX W3 (Yi.out.below HB3.out Yi.out.lt))
  go_wp2_with (go_at_call 12;((with_reducible refine pG.out.mono ?_);rintro e w4 ⟨rfl,hb⟩;have Zp:=ħ (HB3.out.trans (hb.mono HB3.out.size));clear hb))
  go_ret
  exact ⟨rfl,Zp.out⟩
 | true=>
  have tF:=ħ (vM _ A c l w h1 r1 hf htb)
  have HG:=ħ (show Good 40 (yU l) from zg.mono (Zj l (by have:=(P_ hf).2;omega) (P_ hf).1) (P_ hf).2)
  clear h1 r1 m1 htb hf
  unfold nH at tF
  generalize yU l=b at *
  go_enter Tryz.func5,Tryz.ntmps5
  go_upto_region 2 with (go_at_call 13;((with_reducible refine tF.out.mono ?_);rintro e w2 ⟨p,mc,mi,mh,v,rfl,hbk,hpi,hbv,hpl,hb⟩;have HS2:=ħ (LP.new hbk hpi hbv hpl hb HG.out Yi.out);have HV:=ħ hbk;clear hbk hpi hbv hpl hb))
  obtain ⟨q,hq⟩:∃ q,q=w2.heap.size:=⟨_,rfl⟩
  rw[←hq] at HS2⊢
  clear hq tF Yi
  generalize w2.alloc _=W3 at *
  have x0:=HS2.out.x.facts
  go_wp2_with fail
  go_loopw [8] (fun vi wr=>∃ k:Nat,k≤21∧vi=ι (k:Int)∧LP w wr p mc mi mh q b v) (fun vi _=>21 - (intOf vi).toNat)
  case atStart=>exact ⟨0,by omega,rfl,HS2.out⟩
  case round=>
   obtain ⟨k,hk,rfl,hls⟩:=hrel
   have HS:=ħ hls
   clear hls HS2 x0
   by_cases hlt:k<21
   ·have hlt':(k:Int)≤20:=by omega
    go_upto_if 34 with fail
    go_cut [9] (fun vk wx=>wx=wr∧∃ key:Int,vk=ι key)
    case first=>
     by_cases h20:(k:Int)=20
     ·have e20:((k:Int) == 20)=true:=by simp[h20]
      go_wp2_with fail
      all_goals go_meet
      all_goals exact ⟨rfl,_,rfl⟩
     ·have e20:((k:Int) == 20)=false:=by simp[h20]
      go_wp2_with fail
      all_goals go_meet
      all_goals exact ⟨rfl,_,rfl⟩
    case rest=>
     obtain ⟨hw,key,rfl⟩:=hcut
     subst hw
     have H19:=ħ (HS.out.incx key (x:=(QF b key).1) (f:=(QF b key).2) rfl)
     rw[WO HV.out key] at H19
     have BU:=ħ fun (W:World) (h:LP w W p mc mi mh q b v)=>h.callx key (t:=(Jz b key).1) (f:=(Jz b key).2) rfl
     rw[WI HV.out key] at BU
     have ZX:=ħ fun (W:World) (h:LP w W p mc mi mh q b v)=>h.find (Nat.le_trans (Rc HV.out HG.out).1 (by omega)) key
     have kJ:=ħ fun (W:World) (h:LP w W p mc mi mh q b v)=>XT v _ key W h.bv (Nat.le_trans (Rc HV.out HG.out).2 (by omega))
     have HFi:=ħ (TD HV.out key)
     have WQ:=ħ (Wo HV.out key)
     generalize GI (fun a:Xa=>a.x.id) v.la key=i at *
     generalize GI (fun a:Ca=>a.c.call) v.lc key=j at *
     have x0:=HS.out.x.facts
     go_upto_region 11 with (go_at_call 19;((with_reducible refine H19.out.mono ?_);rintro e w4 ⟨y,hy,rfl,hr,hb⟩;have Mx:=ħ (HS.out.below hb);have HY:=ħ hy;have HR4:=ħ hr;clear hy hr hb x0))
     have TI:=ħ (zb.new w4 48 (ξ y.x y.An y.cn y.Ac y.cc y.Au y.cu))
     have QE:=ħ (Mx.out.below ((Below.refl _ w4).alloc (Nat.le_refl _) (.cells (ξ y.x y.An y.cn y.Ac y.cc y.Au y.cu) 48)))
     have Ef:=ħ (HR4.out.below ((Below.refl _ w4).alloc (Nat.le_refl _) (.cells (ξ y.x y.An y.cn y.Ac y.cc y.Au y.cu) 48)))
     obtain ⟨s,hs⟩:∃ s,s=w4.heap.size:=⟨_,rfl⟩
     rw[←hs] at TI⊢
     clear hs Mx HR4 H19 HS
     generalize w4.alloc _=W5 at *
     have WT:=ħ (BU.out _ QE.out)
     have x0:=QE.out.x.facts
     have y0:=TI.out.facts
     go_upto_region 12 with (go_at_call 15;((with_reducible refine WT.out.mono ?_);rintro e w6 ⟨z,hz,rfl,hr,hb⟩;have GL:=ħ (QE.out.below hb);have TJ:=ħ (TI.out.below hb TI.out.lt);have E8:=ħ (Ef.out.below hb);have HZ:=ħ hz;have Gy:=ħ hr;clear hz hr hb x0 y0))
     have ng:=ħ (zb.new w6 34 (χ z.c z.A z.k))
     have ZO:=(Below.refl _ w6).alloc (Nat.le_refl _) (.cells (χ z.c z.A z.k) 34)
     have xm:=ħ (GL.out.below ZO)
     have TF:=ħ (TJ.out.below ZO TJ.out.lt)
     have oU:=ħ (E8.out.below ZO)
     have Gc:=ħ (zl Gy.out ZO)
     obtain ⟨r,hr⟩:∃ r,r=w6.heap.size:=⟨_,rfl⟩
     rw[←hr] at ng⊢
     clear hr ZO GL TJ E8 Gy QE TI Ef BU WT
     generalize w6.alloc _=W7 at *
     have HK:=ħ fun (W':World) (hb:Below W7.heap.size W7 W')=>(xm.out.below hb).cells
     have K0:=HK.out _ (Below.refl _ W7).drew
     have SI:=ħ (xm.out.below (Below.refl _ W7).drew)
     have Qr:=ħ (ZX.out _ SI.out)
     go_region_held (fun W'=>(W'.cell? ⟨q,0,none⟩=some (.slice v.AL v.la.length v.cL)∧W'.cell? ⟨q,1,none⟩=some (.slice v.AC v.lc.length v.cC))) (first | assumption | exact K0) (first
      | (go_at_call 20;((with_reducible refine Qr.out.mono ?_);rintro e w8 ⟨rfl,hb⟩;have lC:=ħ (SI.out.below hb);have hB8:=ħ ((Below.refl _ W7).drew.trans hb);have K8:=HK.out _ hB8.out;have jP:=ħ (kJ.out _ lC.out);clear hb))
      | (go_at_call 24;((with_reducible refine jP.out.mono ?_);rintro e wb ⟨rfl,hb⟩;have hBb:=ħ (hB8.out.trans (hb.mono hB8.out.size));have Kb:=HK.out _ hBb.out;clear hb)))
     all_goals
      clear K0 K8 Kb
      have HSc:=ħ (xm.out.below hBb.out)
      have Tc:=ħ (TF.out.below hBb.out TF.out.lt)
      have Ma:=ħ (ng.out.below hBb.out ng.out.lt)
      have Sl:=ħ (oU.out.below hBb.out)
      have Sn:=ħ (zl Gc.out hBb.out)
      clear HK SI ZX Qr lC hB8 kJ jP hBb xm TF ng oU Gc
      rcases HFi.out with ⟨n,hn,rfl,hgi⟩ | ⟨rfl,hgi⟩
      ·have QP:=ħ hgi
       clear hgi HFi
       have ei:decide ((0:Int)≤(n:Int))=true:=by simp
       rcases WQ.out with ⟨m,hm,rfl,hgc⟩ | ⟨rfl,hgc⟩
       ·have U0:=ħ hgc
        clear hgc WQ
        have ec:decide ((0:Int)≤(m:Int))=true:=by simp
        have x0:=HSc.out.x.facts
        have RY:=ħ fun (W':World) (hb:Below wb.heap.size wb W')=>(HSc.out.below hb).cells
        have K0:=RY.out _ (Below.refl _ wb).drew
        have SC:=ħ (HSc.out.below (Below.refl _ wb).drew)
        have mQ:=ħ (SC.out.root key)
        have t_:=ħ fun (W:World) (h:LP w W p mc mi mh q b v)=>(show Calls Tryz.prog 25 #[.agg (β v),ι key] W (fun e w'=>e=.returned (ι (jd b key))∧Below W.heap.size W w') from HV.out ▸ gU v key _ W h.bv (Nat.le_trans (Rc HV.out HG.out).1 (by omega)))
        go_upto_region 13 with fail
        go_region_held (fun W'=>(W'.cell? ⟨q,0,none⟩=some (.slice v.AL v.la.length v.cL)∧W'.cell? ⟨q,1,none⟩=some (.slice v.AC v.lc.length v.cC))) (first | assumption | exact K0) (first
         | (go_at_call 18;((with_reducible refine mQ.out.mono ?_);rintro e w3 ⟨rfl,hb⟩;have hB3:=ħ ((Below.refl _ wb).drew.trans hb);have K3:=RY.out _ hB3.out;have Mk:=ħ (SC.out.below hb);have RO:=ħ (t_.out _ Mk.out);clear hb))
         | (go_at_call 25;((with_reducible refine RO.out.mono ?_);rintro e wd ⟨rfl,hb⟩;have hBd:=ħ (hB3.out.trans (hb.mono hB3.out.size));have Kd:=RY.out _ hBd.out;clear hb)))
        all_goals
         clear K0 K3 Kd x0
         have Rw:=ħ (HSc.out.below hBd.out)
         have HI:=ħ (Tc.out.below hBd.out Tc.out.lt)
         have HT:=ħ (Ma.out.below hBd.out Ma.out.lt)
         have tq:=ħ (Sl.out.below hBd.out)
         have TH:=ħ (zl Sn.out hBd.out)
         clear SC Mk mQ t_ RO hB3 hBd RY HSc Tc Ma Sl Sn
         go_upto_region 15 with fail
         obtain ⟨a,ha⟩:∃ a,a=v.la[n]:=⟨_,rfl⟩
         have hi0:(0:Int)≤(n:Int):=by omega
         have hi1:decide ((n:Int)<0)=false:=decide_eq_false (by omega)
         have WZ:=Rw.out.bv.rl.plain (by omega)
         have hix:=fun W=>JZ WZ v.cL n hn W
         have hax:=Rw.out.bv.xl a (by rw[ha];exact List.getElem_mem hn)
         have HA:=ħ (show a.x=y.x by rw[ha,HY.out];unfold QF;rw[QP.out])
         have J5:=ħ (show SS y.x by rw[HY.out];unfold QF;rw[QP.out];exact Ru (by omega) HG.out (zi QP.out).1)
         obtain ⟨d,hd⟩:∃ d,d=v.lc[m]:=⟨_,rfl⟩
         have hj0:(0:Int)≤(m:Int):=by omega
         have hj1:decide ((m:Int)<0)=false:=decide_eq_false (by omega)
         have hpC:=Rw.out.bv.rc.plain (by omega)
         have hjx:=fun W=>UC hpC v.cC m hm W
         have WY:=Rw.out.bv.xc d (by rw[hd];exact List.getElem_mem hm)
         have HD:=ħ (show d.c=z.c by rw[hd,HZ.out];unfold Jz;rw[U0.out])
         have tZ:=ħ (show TA z.c by rw[HZ.out];unfold Jz;rw[U0.out];exact SE HG.out (yC U0.out).1)
         have HK:=ħ fun (W':World) (hb:Below wd.heap.size wd W')=>(show Cg W' s y∧Ce W' r z.c z.A z.k∧Cx W' (bk v.AL) (qP v.AL+n * 10) a∧Cc W' (bk v.AC) (qP v.AC+m * 8) d∧(W'.cell? ⟨q,0,none⟩=some (.slice v.AL v.la.length v.cL)∧W'.cell? ⟨q,1,none⟩=some (.slice v.AC v.lc.length v.cC)) from ⟨Sk (HI.out.below hb HI.out.lt),RS (HT.out.below hb HT.out.lt),jA (Rw.out.below hb).bv.rl hn ha,Qz (Rw.out.below hb).bv.rc hm hd,(Rw.out.below hb).cells⟩)
         have Td:=ħ fun (W:World) (hb:Below wd.heap.size wd W)=>Rj _ _ y a W (tq.out.below hb) (hax.below hb) HA.out J5.out
         have H26:=ħ fun (W:World) (hb:Below wd.heap.size wd W)=>Rs _ _ z d W (zl TH.out hb) (zl WY hb) HD.out tZ.out
         clear ha hax hd WY
         refine wp_region_quiet (C:=fun w'=>Below wd.heap.size wd w') (by kernel_rfl) (by kernel_rfl) ((Below.refl _ _).drew) ?_
         repeat (refine wpQuiet_step (fun K hK=>?_);have HKK:=ħ hK;clear hK;first | (refine Sa ?_ ?_;(focus (clear HKK K;go_simp;done));go_simp;refine HKK.out _ ?_;clear HKK K) | (refine RB ?_ ?_;(focus (clear HKK K;go_simp;done));apply Exists.intro;refine ⟨fun wq hq=>?_,?_⟩;(focus ((have hK:=HK.out _ hq);go_simp;(first | done | rfl | (first | ((refine (Td.out _ hq).mono ?_);rintro e w3 ⟨rfl,hh⟩;exact ⟨rfl,hq.trans (hh.mono hq.size)⟩) | ((refine (H26.out _ hq).mono ?_);rintro e w3 ⟨rfl,hh⟩;exact ⟨rfl,hq.trans (hh.mono hq.size)⟩)))));go_simp;refine HKK.out _ ?_;clear HKK K))
         refine wpQuiet_nil ?_
         intro w5 Vg
         have SA:=ħ Vg
         clear Vg
         go_wp2_with fail
         exact ⟨⟨k+1,by omega,by go_num,Rw.out.below SA.out⟩,by simp[intOf];omega⟩
       ·have U0:=ħ hgc
        clear hgc WQ
        have ec:decide ((0:Int)≤-1)=false:=by decide
        have x0:=HSc.out.x.facts
        have RY:=ħ fun (W':World) (hb:Below wb.heap.size wb W')=>(HSc.out.below hb).cells
        have K0:=RY.out _ (Below.refl _ wb).drew
        have SC:=ħ (HSc.out.below (Below.refl _ wb).drew)
        have mQ:=ħ (SC.out.root key)
        have t_:=ħ fun (W:World) (h:LP w W p mc mi mh q b v)=>(show Calls Tryz.prog 25 #[.agg (β v),ι key] W (fun e w'=>e=.returned (ι (jd b key))∧Below W.heap.size W w') from HV.out ▸ gU v key _ W h.bv (Nat.le_trans (Rc HV.out HG.out).1 (by omega)))
        go_upto_region 13 with fail
        go_region_held (fun W'=>(W'.cell? ⟨q,0,none⟩=some (.slice v.AL v.la.length v.cL)∧W'.cell? ⟨q,1,none⟩=some (.slice v.AC v.lc.length v.cC))) (first | assumption | exact K0) (first
         | (go_at_call 18;((with_reducible refine mQ.out.mono ?_);rintro e w3 ⟨rfl,hb⟩;have hB3:=ħ ((Below.refl _ wb).drew.trans hb);have K3:=RY.out _ hB3.out;have Mk:=ħ (SC.out.below hb);have RO:=ħ (t_.out _ Mk.out);clear hb))
         | (go_at_call 25;((with_reducible refine RO.out.mono ?_);rintro e wd ⟨rfl,hb⟩;have hBd:=ħ (hB3.out.trans (hb.mono hB3.out.size));have Kd:=RY.out _ hBd.out;clear hb)))
        all_goals
         clear K0 K3 Kd x0
         have Rw:=ħ (HSc.out.below hBd.out)
         have HI:=ħ (Tc.out.below hBd.out Tc.out.lt)
         have HT:=ħ (Ma.out.below hBd.out Ma.out.lt)
         have tq:=ħ (Sl.out.below hBd.out)
         have TH:=ħ (zl Sn.out hBd.out)
         clear SC Mk mQ t_ RO hB3 hBd RY HSc Tc Ma Sl Sn
         go_upto_region 15 with fail
         obtain ⟨a,ha⟩:∃ a,a=v.la[n]:=⟨_,rfl⟩
         have hi0:(0:Int)≤(n:Int):=by omega
         have hi1:decide ((n:Int)<0)=false:=decide_eq_false (by omega)
         have WZ:=Rw.out.bv.rl.plain (by omega)
         have hix:=fun W=>JZ WZ v.cL n hn W
         have hax:=Rw.out.bv.xl a (by rw[ha];exact List.getElem_mem hn)
         have HA:=ħ (show a.x=y.x by rw[ha,HY.out];unfold QF;rw[QP.out])
         have J5:=ħ (show SS y.x by rw[HY.out];unfold QF;rw[QP.out];exact Ru (by omega) HG.out (zi QP.out).1)
         have hzz:z.c=Qf:=by rw[HZ.out];unfold Jz;rw[U0.out]
         have tZ:=ħ (show TA z.c by rw[hzz];exact Si)
         have HD:=ħ hzz
         clear hzz
         have HK:=ħ fun (W':World) (hb:Below wd.heap.size wd W')=>(show Cg W' s y∧Ce W' r z.c z.A z.k∧Cx W' (bk v.AL) (qP v.AL+n * 10) a∧(W'.cell? ⟨q,0,none⟩=some (.slice v.AL v.la.length v.cL)∧W'.cell? ⟨q,1,none⟩=some (.slice v.AC v.lc.length v.cC)) from ⟨Sk (HI.out.below hb HI.out.lt),RS (HT.out.below hb HT.out.lt),jA (Rw.out.below hb).bv.rl hn ha,(Rw.out.below hb).cells⟩)
         have Td:=ħ fun (W:World) (hb:Below wd.heap.size wd W)=>Rj _ _ y a W (tq.out.below hb) (hax.below hb) HA.out J5.out
         have H26:=ħ fun (W:World) (hb:Below wd.heap.size wd W)=>(show Calls Tryz.prog 26 #[.agg (χ z.c z.A z.k),.agg κ] W (qX true W) from Rs _ (· < W.heap.size) z ⟨Qf,none,0⟩ W (zl TH.out hb) Reads.none_ HD.out.symm tZ.out)
         clear ha hax
         refine wp_region_quiet (C:=fun w'=>Below wd.heap.size wd w') (by kernel_rfl) (by kernel_rfl) ((Below.refl _ _).drew) ?_
         repeat (refine wpQuiet_step (fun K hK=>?_);have HKK:=ħ hK;clear hK;first | (refine Sa ?_ ?_;(focus (clear HKK K;go_simp;done));go_simp;refine HKK.out _ ?_;clear HKK K) | (refine RB ?_ ?_;(focus (clear HKK K;go_simp;done));apply Exists.intro;refine ⟨fun wq hq=>?_,?_⟩;(focus ((have hK:=HK.out _ hq);go_simp;(first | done | rfl | (first | ((refine (Td.out _ hq).mono ?_);rintro e w3 ⟨rfl,hh⟩;exact ⟨rfl,hq.trans (hh.mono hq.size)⟩) | ((refine (H26.out _ hq).mono ?_);rintro e w3 ⟨rfl,hh⟩;exact ⟨rfl,hq.trans (hh.mono hq.size)⟩)))));go_simp;refine HKK.out _ ?_;clear HKK K))
         refine wpQuiet_nil ?_
         intro w5 Vg
         have SA:=ħ Vg
         clear Vg
         go_wp2_with fail
         exact ⟨⟨k+1,by omega,by go_num,Rw.out.below SA.out⟩,by simp[intOf];omega⟩
      ·have QP:=ħ hgi
       clear hgi HFi
       have ei:decide ((0:Int)≤-1)=false:=by decide
       rcases WQ.out with ⟨m,hm,rfl,hgc⟩ | ⟨rfl,hgc⟩
       ·have U0:=ħ hgc
        clear hgc WQ
        have ec:decide ((0:Int)≤(m:Int))=true:=by simp
        have x0:=HSc.out.x.facts
        have RY:=ħ fun (W':World) (hb:Below wb.heap.size wb W')=>(HSc.out.below hb).cells
        have K0:=RY.out _ (Below.refl _ wb).drew
        have SC:=ħ (HSc.out.below (Below.refl _ wb).drew)
        have mQ:=ħ (SC.out.root key)
        have t_:=ħ fun (W:World) (h:LP w W p mc mi mh q b v)=>(show Calls Tryz.prog 25 #[.agg (β v),ι key] W (fun e w'=>e=.returned (ι (jd b key))∧Below W.heap.size W w') from HV.out ▸ gU v key _ W h.bv (Nat.le_trans (Rc HV.out HG.out).1 (by omega)))
        go_upto_region 13 with fail
        go_region_held (fun W'=>(W'.cell? ⟨q,0,none⟩=some (.slice v.AL v.la.length v.cL)∧W'.cell? ⟨q,1,none⟩=some (.slice v.AC v.lc.length v.cC))) (first | assumption | exact K0) (first
         | (go_at_call 18;((with_reducible refine mQ.out.mono ?_);rintro e w3 ⟨rfl,hb⟩;have hB3:=ħ ((Below.refl _ wb).drew.trans hb);have K3:=RY.out _ hB3.out;have Mk:=ħ (SC.out.below hb);have RO:=ħ (t_.out _ Mk.out);clear hb))
         | (go_at_call 25;((with_reducible refine RO.out.mono ?_);rintro e wd ⟨rfl,hb⟩;have hBd:=ħ (hB3.out.trans (hb.mono hB3.out.size));have Kd:=RY.out _ hBd.out;clear hb)))
        all_goals
         clear K0 K3 Kd x0
         have Rw:=ħ (HSc.out.below hBd.out)
         have HI:=ħ (Tc.out.below hBd.out Tc.out.lt)
         have HT:=ħ (Ma.out.below hBd.out Ma.out.lt)
         have tq:=ħ (Sl.out.below hBd.out)
         have TH:=ħ (zl Sn.out hBd.out)
         clear SC Mk mQ t_ RO hB3 hBd RY HSc Tc Ma Sl Sn
         go_upto_region 15 with fail
         have WJ:y.x=zO:=by rw[HY.out];unfold QF;rw[QP.out]
         have J5:=ħ (show SS y.x by rw[WJ];exact Sr)
         have HA:=ħ WJ
         clear WJ
         obtain ⟨d,hd⟩:∃ d,d=v.lc[m]:=⟨_,rfl⟩
         have hj0:(0:Int)≤(m:Int):=by omega
         have hj1:decide ((m:Int)<0)=false:=decide_eq_false (by omega)
         have hpC:=Rw.out.bv.rc.plain (by omega)
         have hjx:=fun W=>UC hpC v.cC m hm W
         have WY:=Rw.out.bv.xc d (by rw[hd];exact List.getElem_mem hm)
         have HD:=ħ (show d.c=z.c by rw[hd,HZ.out];unfold Jz;rw[U0.out])
         have tZ:=ħ (show TA z.c by rw[HZ.out];unfold Jz;rw[U0.out];exact SE HG.out (yC U0.out).1)
         have HK:=ħ fun (W':World) (hb:Below wd.heap.size wd W')=>(show Cg W' s y∧Ce W' r z.c z.A z.k∧Cc W' (bk v.AC) (qP v.AC+m * 8) d∧(W'.cell? ⟨q,0,none⟩=some (.slice v.AL v.la.length v.cL)∧W'.cell? ⟨q,1,none⟩=some (.slice v.AC v.lc.length v.cC)) from ⟨Sk (HI.out.below hb HI.out.lt),RS (HT.out.below hb HT.out.lt),Qz (Rw.out.below hb).bv.rc hm hd,(Rw.out.below hb).cells⟩)
         have Td:=ħ fun (W:World) (hb:Below wd.heap.size wd W)=>(show Calls Tryz.prog 21 #[.agg (ξ y.x y.An y.cn y.Ac y.cc y.Au y.cu),.agg ζ] W (qX true W) from Rj _ (· < W.heap.size) y ⟨zO,none,none,none,0,0,0⟩ W (tq.out.below hb) ⟨Reads.none_,Reads.none_,Reads.none_⟩ HA.out.symm J5.out)
         have H26:=ħ fun (W:World) (hb:Below wd.heap.size wd W)=>Rs _ _ z d W (zl TH.out hb) (zl WY hb) HD.out tZ.out
         clear hd WY
         refine wp_region_quiet (C:=fun w'=>Below wd.heap.size wd w') (by kernel_rfl) (by kernel_rfl) ((Below.refl _ _).drew) ?_
         repeat (refine wpQuiet_step (fun K hK=>?_);have HKK:=ħ hK;clear hK;first | (refine Sa ?_ ?_;(focus (clear HKK K;go_simp;done));go_simp;refine HKK.out _ ?_;clear HKK K) | (refine RB ?_ ?_;(focus (clear HKK K;go_simp;done));apply Exists.intro;refine ⟨fun wq hq=>?_,?_⟩;(focus ((have hK:=HK.out _ hq);go_simp;(first | done | rfl | (first | ((refine (Td.out _ hq).mono ?_);rintro e w3 ⟨rfl,hh⟩;exact ⟨rfl,hq.trans (hh.mono hq.size)⟩) | ((refine (H26.out _ hq).mono ?_);rintro e w3 ⟨rfl,hh⟩;exact ⟨rfl,hq.trans (hh.mono hq.size)⟩)))));go_simp;refine HKK.out _ ?_;clear HKK K))
         refine wpQuiet_nil ?_
         intro w5 Vg
         have SA:=ħ Vg
         clear Vg
         go_wp2_with fail
         exact ⟨⟨k+1,by omega,by go_num,Rw.out.below SA.out⟩,by simp[intOf];omega⟩
       ·have U0:=ħ hgc
        clear hgc WQ
        have x0:=HSc.out.x.facts
        have RY:=ħ fun (W':World) (hb:Below wb.heap.size wb W')=>(HSc.out.below hb).cells
        have K0:=RY.out _ (Below.refl _ wb).drew
        have SC:=ħ (HSc.out.below (Below.refl _ wb).drew)
        have mQ:=ħ (SC.out.root key)
        have t_:=ħ fun (W:World) (h:LP w W p mc mi mh q b v)=>(show Calls Tryz.prog 25 #[.agg (β v),ι key] W (fun e w'=>e=.returned (ι (jd b key))∧Below W.heap.size W w') from HV.out ▸ gU v key _ W h.bv (Nat.le_trans (Rc HV.out HG.out).1 (by omega)))
        go_upto_region 13 with fail
        go_region_held (fun W'=>(W'.cell? ⟨q,0,none⟩=some (.slice v.AL v.la.length v.cL)∧W'.cell? ⟨q,1,none⟩=some (.slice v.AC v.lc.length v.cC))) (first | assumption | exact K0) (first
         | (go_at_call 18;((with_reducible refine mQ.out.mono ?_);rintro e w3 ⟨rfl,hb⟩;have hB3:=ħ ((Below.refl _ wb).drew.trans hb);have K3:=RY.out _ hB3.out;have Mk:=ħ (SC.out.below hb);have RO:=ħ (t_.out _ Mk.out);clear hb))
         | (go_at_call 25;((with_reducible refine RO.out.mono ?_);rintro e wd ⟨rfl,hb⟩;have hBd:=ħ (hB3.out.trans (hb.mono hB3.out.size));have Kd:=RY.out _ hBd.out;clear hb)))
        all_goals
         clear K0 K3 Kd x0
         have Rw:=ħ (HSc.out.below hBd.out)
         have HI:=ħ (Tc.out.below hBd.out Tc.out.lt)
         have HT:=ħ (Ma.out.below hBd.out Ma.out.lt)
         have tq:=ħ (Sl.out.below hBd.out)
         have TH:=ħ (zl Sn.out hBd.out)
         clear SC Mk mQ t_ RO hB3 hBd RY HSc Tc Ma Sl Sn
         go_upto_region 15 with fail
         have WJ:y.x=zO:=by rw[HY.out];unfold QF;rw[QP.out]
         have J5:=ħ (show SS y.x by rw[WJ];exact Sr)
         have HA:=ħ WJ
         clear WJ
         have hzz:z.c=Qf:=by rw[HZ.out];unfold Jz;rw[U0.out]
         have tZ:=ħ (show TA z.c by rw[hzz];exact Si)
         have HD:=ħ hzz
         clear hzz
         have HK:=ħ fun (W':World) (hb:Below wd.heap.size wd W')=>(show Cg W' s y∧Ce W' r z.c z.A z.k∧(W'.cell? ⟨q,0,none⟩=some (.slice v.AL v.la.length v.cL)∧W'.cell? ⟨q,1,none⟩=some (.slice v.AC v.lc.length v.cC)) from ⟨Sk (HI.out.below hb HI.out.lt),RS (HT.out.below hb HT.out.lt),(Rw.out.below hb).cells⟩)
         have Td:=ħ fun (W:World) (hb:Below wd.heap.size wd W)=>(show Calls Tryz.prog 21 #[.agg (ξ y.x y.An y.cn y.Ac y.cc y.Au y.cu),.agg ζ] W (qX true W) from Rj _ (· < W.heap.size) y ⟨zO,none,none,none,0,0,0⟩ W (tq.out.below hb) ⟨Reads.none_,Reads.none_,Reads.none_⟩ HA.out.symm J5.out)
         have H26:=ħ fun (W:World) (hb:Below wd.heap.size wd W)=>(show Calls Tryz.prog 26 #[.agg (χ z.c z.A z.k),.agg κ] W (qX true W) from Rs _ (· < W.heap.size) z ⟨Qf,none,0⟩ W (zl TH.out hb) Reads.none_ HD.out.symm tZ.out)
         refine wp_region_quiet (C:=fun w'=>Below wd.heap.size wd w') (by kernel_rfl) (by kernel_rfl) ((Below.refl _ _).drew) ?_
         repeat (refine wpQuiet_step (fun K hK=>?_);have HKK:=ħ hK;clear hK;first | (refine Sa ?_ ?_;(focus (clear HKK K;go_simp;done));go_simp;refine HKK.out _ ?_;clear HKK K) | (refine RB ?_ ?_;(focus (clear HKK K;go_simp;done));apply Exists.intro;refine ⟨fun wq hq=>?_,?_⟩;(focus ((have hK:=HK.out _ hq);go_simp;(first | done | rfl | (first | ((refine (Td.out _ hq).mono ?_);rintro e w3 ⟨rfl,hh⟩;exact ⟨rfl,hq.trans (hh.mono hq.size)⟩) | ((refine (H26.out _ hq).mono ?_);rintro e w3 ⟨rfl,hh⟩;exact ⟨rfl,hq.trans (hh.mono hq.size)⟩)))));go_simp;refine HKK.out _ ?_;clear HKK K))
         refine wpQuiet_nil ?_
         intro w5 Vg
         have SA:=ħ Vg
         clear Vg
         go_wp2_with fail
         exact ⟨⟨k+1,by omega,by go_num,Rw.out.below SA.out⟩,by simp[intOf];omega⟩
   ·have hlt':¬ (k:Int)≤20:=by omega
    go_upto_region 17 with fail
    have HK:=ħ fun (W':World) (hb:Below wr.heap.size wr W')=>(HS.out.below hb).cells
    have K0:=HK.out _ (Below.refl _ wr).drew
    have SI:=ħ (HS.out.below (Below.refl _ wr).drew)
    have H29:=ħ fun (W:World) (h:LP w W p mc mi mh q b v)=>TU v _ W h.bv (fun k hk=>by have h1:=h.pi.lt;have h2:=h.x.lt;unfold Bq;omega) (Nat.le_trans (Rc HV.out HG.out).1 (by omega))
    have H27:=ħ fun (W:World) (A1 A2:Option Addr) (c1 c2:Nat) (xs:List Xa) (w4:World) (hm:xs.map (fun a=>a.x)=R9 b) (hx:XL Yz PR 48 10 w4 W A1 c1 xs []) (B:Nat→Prop) (hr:Reads W B 10 A2 (RD v.la).length ((RD v.la).flatMap Yz)) (hr2:∀ t∈RD v.la,XR W B t)=>(show Calls Tryz.prog 27 #[.slice A1 xs.length c1,.slice A2 (RD v.la).length c2] W (qX true W) from by
     have hmm:∀ t∈xs,t.x∈b.L:=fun t ht=>(List.mem_filter.1 (show t.x∈R9 b by rw[←hm];exact List.mem_map_of_mem ht)).1
     have hl:xs.length≤40:=by
      have h1:=congrArg List.length hm
      rw[List.length_map] at h1
      rw[h1]
      exact Nat.le_trans (List.length_filter_le _ _) (zg.nL HG.out)
     exact Wn _ (OB w4 W A1) B B A1 A2 c1 c2 xs (RD v.la) W (Reads.of_own hx.ow) (fun t ht=>⟨hx.rw t ht (t.An,t.x.nodes) (by simp[PR]),hx.rw t ht (t.Ac,t.x.calls) (by simp[PR]),hx.rw t ht (t.Au,t.x.units) (by simp[PR])⟩) hr hr2 (by rw[show xs.map (·.x)=R9 b from hm,show (RD v.la).map (·.x)=R9 v.bk from Wd v,HV.out]) (fun t ht=>Ru (by omega) HG.out (hmm t ht)) (by omega))
    have x0:=HS.out.x.facts
    go_region_held (fun W'=>(W'.cell? ⟨q,0,none⟩=some (.slice v.AL v.la.length v.cL)∧W'.cell? ⟨q,1,none⟩=some (.slice v.AC v.lc.length v.cC))) (first | assumption | exact K0) (first
     | (go_at_call 28;((with_reducible refine SI.out.waits.mono ?_);rintro e w4 ⟨A1,c1,xs,rfl,hm,hx⟩;have Mx:=ħ (SI.out.below hx.be);have HM:=ħ hm;have jv:=ħ hx;have hB4:=ħ ((Below.refl _ wr).drew.trans hx.be);have K4:=HK.out _ hB4.out;have z0f:=ħ (H29.out _ Mx.out);clear hm hx))
     | (go_at_call 29;((with_reducible refine z0f.out.mono ?_);rintro e w5 ⟨A2,c2,rfl,h1,h2,hb⟩;have QE:=ħ (Mx.out.below hb);have z0z:=ħ (H27.out _ A1 A2 c1 c2 xs _ HM.out (jv.out.below hb) _ h1 h2);have Tp:=ħ (hB4.out.trans (hb.mono hB4.out.size));have K5:=HK.out _ Tp.out;clear h1 h2 hb))
     | (go_at_call 27;((with_reducible refine z0z.out.mono ?_);rintro e w7 ⟨rfl,hb⟩;have xm:=ħ (QE.out.below hb);have Te:=ħ (Tp.out.trans (hb.mono Tp.out.size));have K7:=HK.out _ Te.out;clear hb))
     | (go_at_call 12;((with_reducible refine xm.out.awake.mono ?_);rintro e w8 ⟨rfl,hb⟩;have Jy:=ħ (xm.out.be.trans (hb.mono xm.out.be.size));have K8:=HK.out _ (Te.out.trans (hb.mono Te.out.size));clear hb)))
    all_goals
     go_wp2_with fail
     go_ret
     exact ⟨rfl,Jy.out⟩
end Go.Proofs.YtdhcjhfgibmhfaaGreatDoor

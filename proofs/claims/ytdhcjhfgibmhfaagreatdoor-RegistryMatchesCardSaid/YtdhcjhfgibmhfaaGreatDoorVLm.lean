import Derived.Test.YtdhcjhfgibmhfaaGreatDoorVG30
set_option linter.unusedVariables false
set_option linter.unusedSimpArgs false
set_option maxRecDepth 10000
set_option maxHeartbeats 8000000
namespace Go.Proofs.YtdhcjhfgibmhfaaGreatDoor
open Go.RowKit Go.Own Go.Quo Go.Inc
theorem matches7 (l:List Av)(A:Option Addr)(c:Nat)(w:World)(htb:jg w)(h1:Reads w (· < w.heap.size) 13 A l.length (l.flatMap Bd))(r1:∀ a∈l,RI w (· < w.heap.size) a.t.A a.t.c.nodes)(m1:l.length≤9223372036854775807) :
 Calls Tryz.prog 7 #[.slice A l.length c] w (qX true w):=by
 have Yi:=ħ htb
 cases hf:Qm l with
 | false=>
  have tF:=ħ (FJ _ A c l w h1 m1 hf)
  clear h1 r1 m1 htb hf
  go_enter Tryz.func7,Tryz.ntmps7
  go_upto_region 2 with (go_at_call 13;((with_reducible refine tF.out.mono ?_);rintro e w2 ⟨rfl,hb⟩;have HB2:=ħ hb;clear hb))
  have HB3:=ħ (HB2.out.alloc HB2.out.size (.cells #[.slice none 0 0,.slice none 0 0] 29))
  generalize w2.alloc _=W3 at *
  have pG:=ħ (UX W3 (Yi.out.below HB3.out Yi.out.lt))
  go_wp2_with (go_at_call 12;((with_reducible refine pG.out.mono ?_);rintro e w4 ⟨rfl,hb⟩;have Zp:=ħ (HB3.out.trans (hb.mono HB3.out.size));clear hb))
  go_ret
  exact ⟨rfl,Zp.out⟩
 | true=>
  have tF:=ħ (vM _ A c l w h1 r1 hf htb)
  have HG:=ħ (show Good 40 (yU l) from zg.mono (Zj l (by have:=(P_ hf).2;omega) (P_ hf).1) (P_ hf).2)
  clear h1 r1 m1 htb hf
  unfold nH at tF
  generalize yU l=b at *
  go_enter Tryz.func7,Tryz.ntmps7
  go_upto_region 2 with (go_at_call 13;((with_reducible refine tF.out.mono ?_);rintro e w2 ⟨p,mc,mi,mh,v,rfl,hbk,hpi,hbv,hpl,hb⟩;have HS2:=ħ (LP.new hbk hpi hbv hpl hb HG.out Yi.out);have HV:=ħ hbk;clear hbk hpi hbv hpl hb))
  obtain ⟨q,hq⟩:∃ q,q=w2.heap.size:=⟨_,rfl⟩
  rw[←hq] at HS2⊢
  clear hq tF Yi
  generalize w2.alloc _=W3 at *
  have x0:=HS2.out.x.facts
  go_upto_region 4 with fail
  have HK:=ħ fun (W':World) (hb:Below W3.heap.size W3 W')=>(HS2.out.below hb).cells
  have K0:=HK.out _ (Below.refl _ W3).drew
  have HS:=ħ (HS2.out.below (Below.refl _ W3).drew)
  go_region_held (fun W'=>W'.cell? ⟨q,0,none⟩=some (.slice v.AL v.la.length v.cL)∧W'.cell? ⟨q,1,none⟩=some (.slice v.AC v.lc.length v.cC)) (first | assumption | exact K0) (first
   | (go_at_call 31;((with_reducible refine HS.out.incs.mono ?_);rintro e w4 ⟨A1,c1,xs,rfl,hm,hx⟩;have Mx:=ħ (HS.out.below hx.be);have H27:=ħ (Mx.out.all HV.out hm hx);have K4:=HK.out _ ((Below.refl _ W3).drew.trans (hx.be));have hB4:=ħ ((Below.refl _ W3).drew.trans hx.be);clear hm hx))
   | (go_at_call 27;((with_reducible refine H27.out.mono ?_);rintro e w5 ⟨rfl,hb⟩;have QE:=ħ (Mx.out.below hb);have Tp:=ħ (hB4.out.trans (hb.mono hB4.out.size));have K5:=HK.out _ Tp.out;clear hb))
   | (go_at_call 23;((with_reducible refine QE.out.calls.mono ?_);rintro e w6 ⟨A2,c2,ys,rfl,hm,hx⟩;have GL:=ħ (QE.out.below hx.be);have H22:=ħ (GL.out.told (by rw[HV.out]) hm hx);have SA:=ħ (Tp.out.trans (hx.be.mono Tp.out.size));have K6:=HK.out _ SA.out;clear hm hx))
   | (go_at_call 22;((with_reducible refine H22.out.mono ?_);rintro e w7 ⟨rfl,hb⟩;have xm:=ħ (GL.out.below hb);have Te:=ħ (SA.out.trans (hb.mono SA.out.size));have K7:=HK.out _ Te.out;clear hb))
   | (go_at_call 12;((with_reducible refine xm.out.awake.mono ?_);rintro e w8 ⟨rfl,hb⟩;have Jy:=ħ (xm.out.be.trans (hb.mono xm.out.be.size));have K8:=HK.out _ (Te.out.trans (hb.mono Te.out.size));clear hb)))
  all_goals
   go_wp2_with fail
   go_ret
   exact ⟨rfl,Jy.out⟩
end Go.Proofs.YtdhcjhfgibmhfaaGreatDoor

import Derived.Test.YtdhcjhfgibmhfaaGreatDoorVG30
set_option linter.unusedVariables false
set_option linter.unusedSimpArgs false
set_option maxRecDepth 10000
set_option maxHeartbeats 8000000
namespace Go.Proofs.YtdhcjhfgibmhfaaGreatDoor
open Go.RowKit Go.Own Go.Quo Go.Inc
theorem Tv {n:Nat}{b:Bk}(h:Good n b){y:Xa}(hy:y.x∈b.L)(ho:zx y.x=true){A:Option Addr}{m c:Nat}{W:World}(hc:Calls Tryz.prog 30 #[.agg (ξ y.x y.An y.cn y.Ac y.cc y.Au y.cu),.slice A m c] W (yY (fun _=>True) y.x (qB b.C y.x.id) W)) :
 Calls Tryz.prog 30 #[.agg (ξ y.x y.An y.cn y.Ac y.cc y.Au y.cu),.slice A m c] W (fun e w'=>∃ z:Xa,z.x=y.x∧e=.returned (.tuple #[.agg (ξ z.x z.An z.cn z.Ac z.cc z.Au z.cu),ι 0])∧XR w' (· < w'.heap.size) z∧Below W.heap.size W w'):=by
 unfold yY at hc
 rw[Good.dr h y.x hy ho] at hc
 exact hc.mono (fun e w' ⟨An,Ac,Au,cn,cc,cu,h1,h2,h3,h4,h5⟩=>⟨⟨y.x,An,Ac,Au,cn,cc,cu⟩,rfl,h1,⟨h2.more (fun k hk=>hk.1),h3.more (fun k hk=>hk.1),h4.more (fun k hk=>hk.1)⟩,h5⟩)
theorem TS {n:Nat}{b:Bk}(h:Good n b){x:Ic}(hx:x∈b.L){k:Nat}(hk:k<x.calls.length):∃ hk2:k<(qB b.C x.id).length,gd x.calls k=(qB b.C x.id)[k].call∧(qB b.C x.id)[k].inc=x.id∧Jz b (qB b.C x.id)[k].call=((qB b.C x.id)[k],true):=by
 have hc:=Good.cs h x hx
 have hk2:k<(qB b.C x.id).length:=by rw[hc,List.length_map] at hk;exact hk
 refine ⟨hk2,?_,?_,?_⟩
 ·rw[qd hk];simp only[hc,List.getElem_map]
 ·exact (zo.1 (List.getElem_mem hk2)).2
 ·unfold Jz
  rw[show yP b.C (qB b.C x.id)[k].call=some (qB b.C x.id)[k] from yR Cr.call (zg.sC h) (zo.1 (List.getElem_mem hk2)).1]
theorem derived6 (l:List Av)(A:Option Addr)(c:Nat)(w:World)(htb:jg w)(h1:Reads w (· < w.heap.size) 13 A l.length (l.flatMap Bd))(r1:∀ a∈l,RI w (· < w.heap.size) a.t.A a.t.c.nodes)(m1:l.length≤9223372036854775807) :
 Calls Tryz.prog 6 #[.slice A l.length c] w (qX true w):=by
 have Yi:=ħ htb
 cases hf:Qm l with
 | false=>
  have tF:=ħ (FJ _ A c l w h1 m1 hf)
  clear h1 r1 m1 htb hf
  go_enter Tryz.func6,Tryz.ntmps6
  go_upto_region 2 with (go_at_call 13;((with_reducible refine tF.out.mono ?_);rintro e w2 ⟨rfl,hb⟩;have HB2:=ħ hb;clear hb))
  have HB3:=ħ (HB2.out.alloc HB2.out.size (.cells #[.slice none 0 0,.slice none 0 0] 29))
  generalize w2.alloc _=W3 at *
  have pG:=ħ (UX W3 (Yi.out.below HB3.out Yi.out.lt))
  go_wp2_with (go_at_call 12;((with_reducible refine pG.out.mono ?_);rintro e w4 ⟨rfl,hb⟩;have Zp:=ħ (HB3.out.trans (hb.mono HB3.out.size));clear hb))
  go_ret
  exact ⟨rfl,Zp.out⟩
 | true=>
  have tF:=ħ (vM _ A c l w h1 r1 hf htb)
  have HG:=ħ (show Good 40 (yU l) from zg.mono (Zj l (by have:=(P_ hf).2;omega) (P_ hf).1) (P_ hf).2)
  clear h1 r1 m1 htb hf
  unfold nH at tF
  generalize yU l=b at *
  go_enter Tryz.func6,Tryz.ntmps6
  go_upto_region 2 with (go_at_call 13;((with_reducible refine tF.out.mono ?_);rintro e w2 ⟨p,mc,mi,mh,v,rfl,hbk,hpi,hbv,hpl,hb⟩;have HS2:=ħ (LP.new hbk hpi hbv hpl hb HG.out Yi.out);have HV:=ħ hbk;clear hbk hpi hbv hpl hb))
  obtain ⟨q,hq⟩:∃ q,q=w2.heap.size:=⟨_,rfl⟩
  rw[←hq] at HS2⊢
  clear hq tF Yi
  generalize w2.alloc _=W3 at *
  have x0:=HS2.out.x.facts
  have dX:=ħ HS2.out.waits
  go_upto_region 5 with (go_at_call 28;((with_reducible refine dX.out.mono ?_);rintro e w4 ⟨A1,c1,xs,rfl,hm,hx⟩;have Mx:=ħ (HS2.out.below hx.be);have HM:=ħ hm;have jv:=ħ hx;clear hm hx x0))
  have hxl:xs.length≤40:=by
   have h1:=congrArg List.length HM.out
   rw[List.length_map] at h1
   rw[h1]
   exact Nat.le_trans (List.length_filter_le _ _) (zg.nL HG.out)
  have RH:=ħ (show ∀ t∈xs,t.x∈b.L∧zx t.x=true from fun t ht=>List.mem_filter.1 (show t.x∈R9 b by rw[←HM.out];exact List.mem_map_of_mem ht))
  have hpx:=(WP jv.out).plain (by omega)
  clear dX HS2
  go_loopw [30] (fun vi wr=>∃ k:Nat,k≤xs.length∧vi=ι (k:Int)∧LP w wr p mc mi mh q b v∧XL Yz PR 48 10 W3 wr A1 c1 xs []) (fun vi _=>xs.length - (intOf vi).toNat)
  case atStart=>exact ⟨0,Nat.zero_le _,rfl,Mx.out,jv.out⟩
  case round=>
   obtain ⟨k,hk,rfl,hls,hxx⟩:=hrel
   have HS:=ħ hls
   have HX:=ħ hxx
   clear hls hxx Mx jv
   by_cases hlt:k<xs.length
   ·have hlt':(k:Int)<xs.length:=by omega
    have hix:=fun W=>JZ hpx c1 k hlt W
    obtain ⟨y,hy⟩:∃ y,y=xs[k]:=⟨_,rfl⟩
    have hyx:y∈xs:=by rw[hy];exact List.getElem_mem hlt
    have hr:wr.rangeAt (bk A1) (qP A1+k * 10) [ι y.x.id,ι y.x.urg,.string y.x.code,.slice y.An y.x.nodes.length y.cn,ι y.x.dist,ι y.x.since,.slice y.Ac y.x.calls.length y.cc,.slice y.Au y.x.units.length y.cu,ι y.x.merged,.bool y.x.closed]:=by
     have:=XQ (WP HX.out) hlt
     rw[←hy] at this;exact this
    have HY:=ħ (RH.out y hyx)
    have HR:=ħ (TP HX.out hyx)
    clear hy hyx
    go_upto_region 7 with (refine wpList_load_mid rfl 48 _ rfl (bk A1) (qP A1+k * 10) rfl [ι y.x.id,ι y.x.urg,.string y.x.code,.slice y.An y.x.nodes.length y.cn,ι y.x.dist,ι y.x.since,.slice y.Ac y.x.calls.length y.cc,.slice y.Au y.x.units.length y.cu,ι y.x.merged,.bool y.x.closed] _ hr Tryz.underlying48 rfl qo ?_)
    have TI:=ħ (zb.new wr 48 (ξ y.x y.An y.cn y.Ac y.cc y.Au y.cu))
    have hb5:=(Below.refl _ wr).alloc (Nat.le_refl _) (.cells (ξ y.x y.An y.cn y.Ac y.cc y.Au y.cu) 48)
    have QE:=ħ (HS.out.below hb5)
    have jq:=ħ (HX.out.below hb5)
    have Ef:=ħ (HR.out.below hb5).old
    obtain ⟨s,hs⟩:∃ s,s=wr.heap.size:=⟨_,rfl⟩
    rw[←hs] at TI⊢
    clear hs hb5 HS HX HR hr hix
    generalize wr.alloc _=W5 at *
    have y0:=TI.out.facts
    have hpc:=Ef.out.c.plain (by omega)
    have sw:=ħ fun k hk=>TS HG.out HY.out.1 (k:=k) hk
    have hcl:y.x.calls.length≤40:=by
     have h1:=Good.cs HG.out y.x HY.out.1
     rw[h1,List.length_map]
     exact Nat.le_trans (UM _ _) (zg.nC HG.out)
    have HCe:=ħ (Good.cs HG.out y.x HY.out.1)
    go_upto_region 9 with fail
    clear y0
    have HT0:=ħ (show XL qC Rb 34 8 W5 W5 none 0 [] [] from ⟨World.ownsRow_nil _ _ _ _,fun a ha=>by simp at ha,fun r hr=>by simp at hr,Below.refl _ W5⟩)
    go_loopw [8,37] (fun va vi wr=>∃ (k m:Nat) (A:Option Addr) (c:Nat) (ts:List Ca),k≤y.x.calls.length∧vi=ι (k:Int)∧va=.slice A m c∧m=ts.length∧ts.map (fun a=>a.c)=(qB b.C y.x.id).take k∧XL qC Rb 34 8 W5 wr A c ts []) (fun _ vi _=>y.x.calls.length - (intOf vi).toNat)
    case atStart=>exact ⟨0,0,none,0,[],Nat.zero_le _,rfl,rfl,rfl,rfl,HT0.out⟩
    case round=>
     obtain ⟨j,m,A,cc,ts,hj,rfl,rfl,hm,has,hx⟩:=hrel
     have Ws:=ħ hm
     have bS:=ħ has
     have Xx:=ħ hx
     have GL:=ħ (QE.out.below hx.be)
     have TJ:=ħ (TI.out.below hx.be TI.out.lt)
     have E8:=ħ (Ef.out.below hx.be)
     have uY:m≤40:=by
      have h1:ts.length=((qB b.C y.x.id).take j).length:=by rw[←has,List.length_map]
      rw[List.length_take] at h1
      omega
     clear hm has hx HT0
     have y0:=TJ.out.facts
     by_cases hjl:j<y.x.calls.length
     ·have z0q:(j:Int)<y.x.calls.length:=by omega
      have hix:=fun W=>Ki hpc y.cc j hjl W
      obtain ⟨hj2,g1,g2,g3⟩:=sw.out j hjl
      have hcell:=qJ E8.out.c hjl
      obtain ⟨t,ht⟩:∃ t,t=(qB b.C y.x.id)[j]:=⟨_,rfl⟩
      rw[←ht] at g1 g2 g3
      rw[g1] at hcell
      have Xj:=ħ (show (qB b.C y.x.id).take (j+1)=(qB b.C y.x.id).take j ++ [t] by rw[List.take_succ_eq_append_getElem hj2,ht])
      have BU:=ħ (GL.out.callx t.call g3)
      have hne:(t.inc != y.x.id)=false:=by rw[g2];simp
      clear g1 g2 g3 hj2 ht
      go_upto_region 12 with (go_at_call 15;((with_reducible refine BU.out.mono ?_);rintro e w5 ⟨z,hz,rfl,ho,hb⟩;have y9:=ħ (show RI w5 (OB W5 w5 A) z.A z.c.nodes from Ti Xx.out ho);have ZI:=ħ (Xx.out.below hb);have TF:=ħ (TJ.out.below hb TJ.out.lt);have HZ:=ħ hz;clear hz ho hb y0))
      have ng:=ħ (zb.new w5 34 (χ z.c z.A z.k))
      have ZO:=(Below.refl _ w5).alloc (Nat.le_refl _) (.cells (χ z.c z.A z.k) 34)
      have Kn:=ħ (ZI.out.below ZO)
      have ZM:=ħ (PN y9.out ZO)
      have HI8:=ħ (TF.out.below ZO TF.out.lt)
      obtain ⟨r,hr⟩:∃ r,r=w5.heap.size:=⟨_,rfl⟩
      rw[←hr] at ng⊢
      clear hr ZO ZI y9 TF Xx GL TJ E8 BU hcell hix
      generalize w5.alloc _=W7 at *
      rw[←HZ.out] at hne
      have y0:=HI8.out.facts
      have z0:=ng.out.facts
      have H1:=ħ (show ∀ u∈([ι z.c.call,ι z.c.inc,ι z.c.urg,.string z.c.code,.slice z.A z.c.nodes.length z.k,ι z.c.dist,ι z.c.since,.bool z.c.closed]:List Value),u.oneCell'=true from Vz z)
      have zW:=(Below.refl _ W7).alloc (Nat.le_refl _) (.cells (χ z.c z.A z.k) 34)
      have BG:=ħ (Kn.out.below zW)
      have V6:=ħ (show ∀ r∈Rb z,RI (W7.alloc (.cells (χ z.c z.A z.k) 34)) (OB W5 (W7.alloc (.cells (χ z.c z.A z.k) 34)) A) r.1 r.2 from by
       intro r hr
       have e:r=(z.A,z.c.nodes):=by unfold Rb at hr;simpa using hr
       rw[e]
       exact PN ZM.out zW)
      clear zW
      go_wp2_with (at_builtin;refine ze _ rfl _ _ _ rfl W5.heap.size 34 _ 8 88 Tryz.underlying27 jM rfl (by omega) (.slice A m cc) m (ts.flatMap qC) rfl (by have h:=BG.out.ow;rw[←Ws.out] at h;exact h) _ (some ⟨W7.heap.size,0,none⟩) 1 1 [ι z.c.call,ι z.c.inc,ι z.c.urg,.string z.c.code,.slice z.A z.c.nodes.length z.k,ι z.c.dist,ι z.c.since,.bool z.c.closed] rfl (Reads.newS W7 [ι z.c.call,ι z.c.inc,ι z.c.urg,.string z.c.code,.slice z.A z.c.nodes.length z.k,ι z.c.dist,ι z.c.since,.bool z.c.closed] 34 (0,0) 1 8 rfl _ rfl) H1.out (by simp only[maxLen];omega) (by omega) BG.out.be.size ?_;intro A6 c6 w6 hown hgr hat;have VM:=ħ (BG.out.app z V6.out (by rw[←Ws.out];exact hown) (by rw[←Ws.out];exact hgr) (by rw[←Ws.out];exact hat));clear hown hgr hat)
      exact ⟨⟨j+1,m+1,A6,c6,ts ++ [z],by omega,by go_num,rfl,by rw[List.length_append,Ws.out];rfl,by rw[List.map_append,bS.out,Xj.out,←HZ.out];rfl,VM.out⟩,by simp[intOf];omega⟩
     ·have z0q:¬ (j:Int)<y.x.calls.length:=by omega
      have hje:(qB b.C y.x.id).take j=qB b.C y.x.id:=List.take_of_length_le (by have:=congrArg List.length HCe.out;rw[List.length_map] at this;omega)
      rw[hje] at bS
      have ZI:=ħ (jq.out.below Xx.out.be)
      have h30:=lM (fun _=>True) y.x y.An y.Ac y.Au y.cn y.cc y.cu ts A cc wr (E8.out.n.old (by omega)|>.more (fun k hk=>⟨hk.2,trivial⟩)) (E8.out.c.old (by omega)|>.more (fun k hk=>⟨hk.2,trivial⟩)) (E8.out.u.old (by omega)|>.more (fun k hk=>⟨hk.2,trivial⟩)) ((WP Xx.out).old (by omega)|>.more (fun k hk=>hk.2)) (fun t ht=>(Xx.out.rw t ht (t.A,t.c.nodes) (by simp[Rb])).more (fun k hk=>⟨hk.2.1,trivial⟩)) (by have:=yO (zg.vL HG.out _ HY.out.1).1;omega) (by have:=(zg.vL HG.out _ HY.out.1).2;omega) (by omega) (by have:=yO (zg.vL HG.out _ HY.out.1).1;omega) (by have:=Ws.out;omega) (fun t ht=>by
       have h1:t.c∈b.C:=(zo.1 (by rw[←bS.out];exact List.mem_map_of_mem ht:t.c∈qB b.C y.x.id)).1
       have h2:=zg.vC HG.out _ h1
       exact ⟨D6 h2.1,by omega⟩)
      rw[show ts.map (·.c)=qB b.C y.x.id from bS.out] at h30
      have hmm:=Ws.out
      subst hmm
      have Yf:=ħ (Tv HG.out HY.out.1 HY.out.2 h30)
      clear h30 hje
      go_upto_region 17 with (go_at_call 30;((with_reducible refine Yf.out.mono ?_);rintro e w5 ⟨z,hz,rfl,hr,hb⟩;have xm:=ħ (GL.out.below hb);have Kn:=ħ (ZI.out.below hb);have TF:=ħ (TJ.out.below hb TJ.out.lt);have oU:=ħ (E8.out.below hb);have HZ:=ħ hz;have TH:=ħ hr;clear hz hr hb y0))
      have HJ:=ħ (zb.new w5 48 (ξ z.x z.An z.cn z.Ac z.cc z.Au z.cu))
      have zW:=(Below.refl _ w5).alloc (Nat.le_refl _) (.cells (ξ z.x z.An z.cn z.Ac z.cc z.Au z.cu) 48)
      have lC:=ħ (xm.out.below zW)
      have BG:=ħ (Kn.out.below zW)
      have HI8:=ħ (TF.out.below zW TF.out.lt)
      have HR8:=ħ (oU.out.below zW)
      have tq:=ħ (TH.out.below zW)
      obtain ⟨r,hr⟩:∃ r,r=w5.heap.size:=⟨_,rfl⟩
      rw[←hr] at HJ⊢
      clear hr zW xm Kn TF oU TH
      generalize w5.alloc _=W8 at *
      have Td:=ħ (Rj _ _ y z W8 HR8.out tq.out HZ.out (Ru (by omega) HG.out HY.out.1))
      have y0:=HI8.out.facts
      have z0:=HJ.out.facts
      go_wp2_with (go_at_call 21;((with_reducible refine Td.out.mono ?_);rintro e w9 ⟨rfl,hb⟩;have HS9:=ħ (lC.out.below hb);have VM:=ħ (BG.out.below hb);clear hb))
      exact ⟨⟨k+1,by omega,by go_num,HS9.out,VM.out⟩,by simp[intOf];omega⟩
   ·have hlt':¬ (k:Int)<xs.length:=by omega
    go_wp2_with (go_at_call 12;((with_reducible refine HS.out.awake.mono ?_);rintro e w6 ⟨rfl,hb⟩;have GL:=ħ (HS.out.below hb);clear hb))
    go_ret
    exact ⟨rfl,GL.out.be⟩
end Go.Proofs.YtdhcjhfgibmhfaaGreatDoor

import Derived.Test.YtdhcjhfgibmhfaaGreatDoorKG30
import Derived.Test.YtdhcjhfgibmhfaaGreatDoorKG32
set_option linter.unusedVariables false
set_option linter.unusedSimpArgs false
set_option maxRecDepth 10000
set_option maxHeartbeats 8000000
namespace Go.Proofs.YtdhcjhfgibmhfaaGreatDoor
open Go.RowKit Go.Own Go.Quo Go.Inc
theorem CS (xs:List Xa):∀ u∈xs.flatMap Yz,u.oneCell'=true:=fun u hu=>by
 obtain ⟨x,-,h⟩:=List.mem_flatMap.1 hu
 unfold Yz at h
 simp only[List.mem_cons,List.not_mem_nil,or_false] at h
 rcases h with rfl | rfl | rfl | rfl | rfl | rfl | rfl | rfl | rfl | rfl <;> rfl
theorem z0O {n:Nat}{b:Bk}(h:Good n b):(R9 b).length≤n:=Nat.le_trans (List.length_filter_le _ _) (zg.nL h)
theorem z0M {n:Nat}{b:Bk}(h:Good n b){x:Ic}(hx:x∈b.L):QF b x.id=(x,true):=by unfold QF;rw[Vl (zg.sL h) hx]
theorem z0o {n:Nat}{b:Bk}(h:Good n b){t:Cr}(ht:t∈b.C):Jz b t.call=(t,true):=by unfold Jz;rw[show yP b.C t.call=some t from yR Cr.call (zg.sC h) ht]
theorem copies9 (l:List Av)(A:Option Addr)(c:Nat)(w:World)(htb:jg w)(h1:Reads w (· < w.heap.size) 13 A l.length (l.flatMap Bd))(r1:∀ a∈l,RI w (· < w.heap.size) a.t.A a.t.c.nodes)(m1:l.length≤9223372036854775807) :
 Calls Tryz.prog 9 #[.slice A l.length c] w (qX true w):=by
 have Yi:=ħ htb
 cases hf:Qm l with
 | false=>
  have tF:=ħ (FJ _ A c l w h1 m1 hf)
  clear h1 r1 m1 htb hf
  go_enter Tryz.func9,Tryz.ntmps9
  go_upto_region 2 with (go_at_call 13;((with_reducible refine tF.out.mono ?_);rintro e w2 ⟨rfl,hb⟩;have HB2:=ħ hb;clear hb))
  have HB3:=ħ (HB2.out.alloc HB2.out.size (.cells #[.slice none 0 0,.slice none 0 0] 29))
  generalize w2.alloc _=W3 at *
  have pG:=ħ (UX W3 (Yi.out.below HB3.out Yi.out.lt))
  go_wp2_with (go_at_call 12;((with_reducible refine pG.out.mono ?_);rintro e w4 ⟨rfl,hb⟩;have Zp:=ħ (HB3.out.trans (hb.mono HB3.out.size));clear hb))
  go_ret
  exact ⟨rfl,Zp.out⟩
 | true=>
  have tF:=ħ (vM _ A c l w h1 r1 hf htb)
  have HG:=ħ (show Good 40 (yU l) from zg.mono (Zj l (by have:=(P_ hf).2;omega) (P_ hf).1) (P_ hf).2)
  clear h1 r1 m1 htb hf
  unfold nH at tF
  generalize yU l=b at *
  go_enter Tryz.func9,Tryz.ntmps9
  go_upto_region 2 with (go_at_call 13;((with_reducible refine tF.out.mono ?_);rintro e w2 ⟨p,mc,mi,mh,v,rfl,hbk,hpi,hbv,hpl,hb⟩;have HS2:=ħ (LP.new hbk hpi hbv hpl hb HG.out Yi.out);have HV:=ħ hbk;clear hbk hpi hbv hpl hb))
  obtain ⟨q,hq⟩:∃ q,q=w2.heap.size:=⟨_,rfl⟩
  rw[←hq] at HS2⊢
  clear hq tF Yi
  generalize w2.alloc _=W3 at *
  have x0:=HS2.out.x.facts
  go_upto_region 6 with (first
   | (go_at_call 31;((with_reducible refine HS2.out.incs.mono ?_);rintro e w4 ⟨A1,c1,xs,rfl,hm,hx⟩;have Mx:=ħ (HS2.out.below hx.be);have HM:=ħ hm;have HX:=ħ hx;have hxl:xs.length≤40:=(by have h1:=congrArg List.length HM.out;rw[List.length_map] at h1;rw[h1];exact zg.nL HG.out);clear hm hx x0))
   | (go_at_call 28;((with_reducible refine Mx.out.waits.mono ?_);rintro e w5 ⟨A2,c2,ys,rfl,hm,hx⟩;have VW:=ħ hm;have Zo:=ħ hx;have hyl:ys.length≤40:=(by have h1:=congrArg List.length VW.out;rw[List.length_map] at h1;rw[h1];exact z0O HG.out);have hsz:W3.heap.size≤w5.heap.size:=Nat.le_trans HX.out.be.size Zo.out.be.size;clear hm hx))
   | (at_builtin;refine ze _ rfl _ _ _ rfl W3.heap.size 48 _ 10 136 Tryz.underlying26 zJ rfl (by omega) (.slice A1 xs.length c1) xs.length (xs.flatMap Yz) rfl (own_below HX.out.ow Zo.out.be (fun g hg=>(HX.out.ow.lt g hg).2)) _ A2 ys.length c2 (ys.flatMap Yz) rfl (Reads.of_own Zo.out.ow) (CS ys) (by simp only[maxLen];omega) (by omega) hsz ?_;intro A5 c5 W5 hown hgr hat;have HJ:=ħ (z0u HX.out Zo.out hown hgr hat);clear hown hgr hat))
  try simp only[Act.put,σa,σb,σc]
  have HMz:=ħ (show ∀ y∈xs ++ ys,y.x∈b.L from fun y hy=>by
   rcases List.mem_append.1 hy with h | h
   ·rw[←HM.out];exact List.mem_map_of_mem h
   ·exact (List.mem_filter.1 (show y.x∈R9 b by rw[←VW.out];exact List.mem_map_of_mem h)).1)
  obtain ⟨zs,hzs⟩:∃ zs,zs=xs ++ ys:=⟨_,rfl⟩
  have hzl:zs.length=xs.length+ys.length:=by rw[hzs,List.length_append]
  rw[←hzs] at HJ HMz
  have hzi:(xs.length:Int)+(ys.length:Int)=(zs.length:Int):=by omega
  rw[←hzl,hzi]
  have hzm:zs.length≤100:=by omega
  clear hzs hzl hzi HM VW HX Zo Mx hxl hyl hsz
  have hpz:=HJ.out.r.plain (by omega)
  have mW:=ħ fun (W:World) (h:Sp (Bz W3 A5) W5 W)=>HJ.out.b.trans (h.f.below HJ.out.b.size (fun k hk e=>by have:=e.1;omega))
  have iY:=ħ (HJ.out.r.old (by omega))
  go_wp2_with fail
  go_loopw [35] (fun vi wr=>∃ k:Nat,k≤zs.length∧vi=ι (k:Int)∧Sp (Bz W3 A5) W5 wr) (fun vi _=>zs.length - (intOf vi).toNat)
  case atStart=>exact ⟨0,Nat.zero_le _,rfl,Sp.refl _ _⟩
  case round=>
   obtain ⟨k,hk,rfl,hsp⟩:=hrel
   have HP:=ħ hsp
   clear hsp
   by_cases hlt:k<zs.length
   ·have hlt':(k:Int)<zs.length:=by omega
    have hix:=fun W=>JZ hpz c5 k hlt W
    obtain ⟨y,hy⟩:∃ y,y=zs[k]:=⟨_,rfl⟩
    have WJ:y∈zs:=by rw[hy];exact List.getElem_mem hlt
    have hr:wr.rangeAt (bk A5) (qP A5+k * 10) [ι y.x.id,ι y.x.urg,.string y.x.code,.slice y.An y.x.nodes.length y.cn,ι y.x.dist,ι y.x.since,.slice y.Ac y.x.calls.length y.cc,.slice y.Au y.x.units.length y.cu,ι y.x.merged,.bool y.x.closed]:=by
     have:=XQ (iY.out.fr HP.out.f (fun j hj e=>e.2 hj.1)) hlt
     rw[←hy] at this;exact this
    have HYm:=ħ (HMz.out y WJ)
    have HWy:=ħ ((HJ.out.x y WJ).lt.sp HP.out)
    clear hy WJ
    go_upto_region 8 with (refine wpList_load_mid rfl 48 _ rfl (bk A5) (qP A5+k * 10) rfl [ι y.x.id,ι y.x.urg,.string y.x.code,.slice y.An y.x.nodes.length y.cn,ι y.x.dist,ι y.x.since,.slice y.Ac y.x.calls.length y.cc,.slice y.Au y.x.units.length y.cu,ι y.x.merged,.bool y.x.closed] _ hr Tryz.underlying48 rfl qo ?_)
    have HI:=ħ (zb.new wr 48 (ξ y.x y.An y.cn y.Ac y.cc y.Au y.cu))
    have hb6:=(Below.refl _ wr).alloc (Nat.le_refl _) (.cells (ξ y.x y.An y.cn y.Ac y.cc y.Au y.cu) 48)
    have kT:=ħ (HP.out.below hb6)
    have HW6:=ħ (HWy.out.keep (fun k hk=>hb6.block k hk))
    have tZ:=ħ (show W5.heap.size≤wr.heap.size from HP.out.f.size)
    obtain ⟨s,hs⟩:∃ s,s=wr.heap.size:=⟨_,rfl⟩
    have HsB:=ħ (show W5.heap.size≤s by have:=tZ.out;omega)
    rw[←hs] at HI⊢
    clear hs hb6 HP HWy hr hix tZ
    generalize wr.alloc _=W6 at *
    have GL:=ħ (HS2.out.below (mW.out _ kT.out))
    have H19:=ħ (GL.out.incx y.x.id (z0M HG.out HYm.out))
    have y0:=HI.out.facts
    go_upto_region 9 with (go_at_call 19;((with_reducible refine H19.out.mono ?_);rintro e w7 ⟨z,hz,rfl,hr,hb⟩;have HZ:=ħ hz;have KR:=ħ (kT.out.below hb);have M5:=ħ (HW6.out.keep (fun k hk=>hb.block k hk));have TF:=ħ (HI.out.below hb HI.out.lt);have HWz:=ħ ((Wx.of hr (fun j hj i=>hj.2 i)).more (B':=fun j=>W6.heap.size≤j) (fun j hj=>hj.1));clear hz hr hb y0))
    have HIz:=ħ (zb.new w7 48 (ξ z.x z.An z.cn z.Ac z.cc z.Au z.cu))
    have zW:=(Below.refl _ w7).alloc (Nat.le_refl _) (.cells (ξ z.x z.An z.cn z.Ac z.cc z.Au z.cu) 48)
    have gI:=ħ (KR.out.below zW)
    have HW8:=ħ (M5.out.keep (fun k hk=>zW.block k hk))
    have z0Q:=ħ (HWz.out.keep (fun k hk=>zW.block k hk))
    have HI8:=ħ (TF.out.below zW TF.out.lt)
    obtain ⟨r,hr⟩:∃ r,r=w7.heap.size:=⟨_,rfl⟩
    rw[←hr] at HIz⊢
    have HrB:=ħ (show W5.heap.size≤r∧s≠r by have h1:=KR.out.f.size;have h2:=TF.out.lt;omega)
    clear hr zW KR M5 HWz TF HI
    generalize w7.alloc _=W8 at *
    have HOw:=ħ (show ∀ j,W5.heap.size≤j→Bz W3 A5 j from fun j hj=>⟨Nat.le_trans HJ.out.b.size hj,fun e=>by have:=(HJ.out.o j e).2;omega⟩)
    have hlY:=yO (zg.vL HG.out _ HYm.out).1
    have hnY:=(zg.vL HG.out _ HYm.out).2
    have HLY:=ħ (show y.x.nodes.length≤100000∧y.x.calls.length≤100000∧y.x.units.length≤100000 by omega)
    have HLZ:=ħ (show z.x.nodes.length≤100000∧z.x.calls.length≤100000∧z.x.units.length≤100000 by rw[HZ.out];omega)
    have z1q:=ħ (KC y _ W8 (fun j hj=>Nat.lt_of_lt_of_le hj.2 gI.out.f.size) HW8.out.n HW8.out.c HW8.out.u HLY.out.1 HLY.out.2.1 HLY.out.2.2)
    have z1l:=ħ z0Q.out.lt
    clear hlY hnY z0Q
    have y0:=HI8.out.facts
    have z0:=HIz.out.facts
    go_upto_region 10 with (go_at_call 32;((with_reducible refine z1q.out.mono ?_);rintro e w9 ⟨rfl,hs⟩;have eu:=ħ (gI.out.trans (hs.mono (fun k hk=>hk.1)));have HI9:=ħ (HIz.out.fr hs.f (fun e=>by have:=HrB.out;omega));have HW9:=ħ (z1l.out.sp hs);have HS9:=ħ hs.f.size;clear hs y0 z0))
    have z1i:=ħ (KC z _ w9 (fun j hj=>Nat.lt_of_lt_of_le hj.2 HS9.out) HW9.out.n HW9.out.c HW9.out.u HLZ.out.1 HLZ.out.2.1 HLZ.out.2.2)
    have z0:=HI9.out.facts
    go_wp2_with (go_at_call 32;((with_reducible refine z1i.out.mono ?_);rintro e wb ⟨rfl,hs⟩;have Om:=ħ (eu.out.trans (hs.mono (fun k hk=>HOw.out k (by have:=kT.out.f.size;omega))));clear hs))
    exact ⟨⟨k+1,by omega,by go_num,Om.out⟩,by simp[intOf];omega⟩
   ·have hlt':¬ (k:Int)<zs.length:=by omega
    have GL:=ħ (HS2.out.below (mW.out _ HP.out))
    clear mW HJ HMz iY hpz hzm HP
    obtain ⟨Wq,hWq⟩:∃ W,W=wr:=⟨_,rfl⟩
    subst hWq
    go_upto_region 13 with (go_at_call 23;((with_reducible refine GL.out.calls.mono ?_);rintro e w7 ⟨A6,c6,ts,rfl,hm,hx⟩;have HM:=ħ hm;have HX:=ħ hx;clear hm hx))
    have htl:ts.length≤40:=by
     have h1:=congrArg List.length HM.out
     rw[List.length_map] at h1
     rw[h1];exact zg.nC HG.out
    have hpt:=(WP HX.out).plain (by omega)
    have iY:=ħ ((WP HX.out).more (B':=fun j=>(Value.slice A6 0 0).ownBlock=some j) (fun k hk=>by rw[R7] at hk;exact hk))
    have HW0:=ħ (show ∀ t∈ts,Wb w7 (fun j=>Bz Wq A6 j∧j<w7.heap.size) t.A t.c.nodes.length from fun t ht=>(Wb.of (HX.out.rw t ht (t.A,t.c.nodes) (by simp[Rb])) (fun j hj i=>hj.2.2.2 i)).more (fun j hj=>⟨⟨hj.1,hj.2.2.1⟩,hj.2.1⟩))
    have HMt:=ħ (show ∀ t∈ts,t.c∈b.C from fun t ht=>by rw[←HM.out];exact List.mem_map_of_mem ht)
    have z0U:=ħ fun (W:World) (h:Sp (Bz Wq A6) w7 W)=>HX.out.be.trans (h.f.below HX.out.be.size (fun k hk e=>by have:=e.1;omega))
    have HOw:=ħ (show ∀ j,w7.heap.size≤j→Bz Wq A6 j from fun j hj=>⟨Nat.le_trans HX.out.be.size hj,fun e=>by have:=(HX.out.ow.lt j (by rw[R7];exact e)).2;omega⟩)
    clear HM HX
    go_loopw [56] (fun vi wr=>∃ k:Nat,k≤ts.length∧vi=ι (k:Int)∧Sp (Bz Wq A6) w7 wr) (fun vi _=>ts.length - (intOf vi).toNat)
    case atStart=>exact ⟨0,Nat.zero_le _,rfl,Sp.refl _ _⟩
    case round=>
     obtain ⟨i,hi,rfl,hsp⟩:=hrel
     have HP:=ħ hsp
     clear hsp
     by_cases hil:i<ts.length
     ·have z10:(i:Int)<ts.length:=by omega
      have hix:=fun W=>UC hpt c6 i hil W
      obtain ⟨t,ht⟩:∃ t,t=ts[i]:=⟨_,rfl⟩
      have htz:t∈ts:=by rw[ht];exact List.getElem_mem hil
      have hr:wr.rangeAt (bk A6) (qP A6+i * 8) [ι t.c.call,ι t.c.inc,ι t.c.urg,.string t.c.code,.slice t.A t.c.nodes.length t.k,ι t.c.dist,ι t.c.since,.bool t.c.closed]:=by
       have:=QB (iY.out.fr HP.out.f (fun j hj e=>e.2 hj)) hil
       rw[←ht] at this;exact this
      have rD:=ħ (HMt.out t htz)
      have HWt:=ħ ((HW0.out t htz).keep2 HP.out)
      clear ht htz
      go_upto_region 15 with (refine wpList_load_mid rfl 34 _ rfl (bk A6) (qP A6+i * 8) rfl [ι t.c.call,ι t.c.inc,ι t.c.urg,.string t.c.code,.slice t.A t.c.nodes.length t.k,ι t.c.dist,ι t.c.since,.bool t.c.closed] _ hr Tryz.underlying34 rfl jN ?_)
      have HI:=ħ (zb.new wr 34 (χ t.c t.A t.k))
      have hb6:=(Below.refl _ wr).alloc (Nat.le_refl _) (.cells (χ t.c t.A t.k) 34)
      have HPc:=ħ (HP.out.below hb6)
      have HWc:=ħ (HWt.out.keep (fun k hk=>hb6.block k hk))
      have tZ:=ħ (show w7.heap.size≤wr.heap.size from HP.out.f.size)
      obtain ⟨s,hs⟩:∃ s,s=wr.heap.size:=⟨_,rfl⟩
      have HsB:=ħ (show w7.heap.size≤s by have:=tZ.out;omega)
      rw[←hs] at HI⊢
      clear hs hb6 HP HWt hr hix tZ
      generalize wr.alloc _=W6 at *
      have xm:=ħ (GL.out.below (z0U.out _ HPc.out))
      have BU:=ħ (xm.out.callx t.c.call (z0o HG.out rD.out))
      have HsL:=ħ HI.out.lt
      have y0:=HI.out.facts
      go_upto_region 16 with (go_at_call 15;((with_reducible refine BU.out.mono ?_);rintro e w8 ⟨u,hu,rfl,hr,hb⟩;have HU:=ħ hu;have HPd:=ħ (HPc.out.below hb);have HWd:=ħ (HWc.out.keep (fun k hk=>hb.block k hk));have TF:=ħ (HI.out.below hb HI.out.lt);have HWu:=ħ (((Wb.of hr (fun j hj i=>hj.2 i)).more (B':=fun j=>W6.heap.size≤j) (fun j hj=>hj.1)).lt);clear hu hr hb y0))
      have HJb:=ħ (zb.new w8 34 (χ u.c u.A u.k))
      have zW:=(Below.refl _ w8).alloc (Nat.le_refl _) (.cells (χ u.c u.A u.k) 34)
      have gI:=ħ (HPd.out.below zW)
      have HW8:=ħ (HWd.out.keep (fun k hk=>zW.block k hk))
      have z0V:=ħ (HWu.out.keep (fun k hk=>zW.block k hk))
      have HI8:=ħ (TF.out.below zW TF.out.lt)
      obtain ⟨r,hr⟩:∃ r,r=w8.heap.size:=⟨_,rfl⟩
      have HrB:=ħ (show s<r∧w7.heap.size≤r∧w8.heap.size≤r by have h1:=HPd.out.f.size;have h2:=TF.out.lt;omega)
      rw[←hr] at HJb⊢
      clear hr zW HPd HWd HWu TF HI HPc HWc
      generalize w8.alloc _=W8 at *
      have iL:t.c.nodes.length≤60:=(zg.vC HG.out _ rD.out).2
      have z1L:u.c.nodes.length≤60:=by rw[HU.out];exact iL
      have hpn:=HW8.out.p
      have mJ:=z0V.out.p
      have y0:=HI8.out.facts
      have z0:=HJb.out.facts
      go_upto_region 17 with fail
      clear y0 z0
      go_loopw [70] (fun vi wr=>∃ k:Nat,k≤t.c.nodes.length∧vi=ι (k:Int)∧Sp (fun j=>Bz Wq A6 j∧j<w7.heap.size) W8 wr∧zb wr s 34 (χ t.c t.A t.k)∧zb wr r 34 (χ u.c u.A u.k)) (fun vi _=>t.c.nodes.length - (intOf vi).toNat)
      case atStart=>exact ⟨0,Nat.zero_le _,rfl,Sp.refl _ _,HI8.out,HJb.out⟩
      case round=>
       obtain ⟨k,hk,rfl,hsp,hbx,hby⟩:=hrel
       have HS:=ħ hsp
       have HI:=ħ hbx
       have HJ:=ħ hby
       clear hsp hbx hby
       have y0:=HI.out.facts
       have z0:=HJ.out.facts
       by_cases hlt:k<t.c.nodes.length
       ·have hlt':(k:Int)<t.c.nodes.length:=by omega
        have hix:=fun W=>JI hpn t.k k hlt W
        have hwb:=HS.out.k _ _ _ HW8.out
        obtain ⟨h1,h2⟩:=hwb.c k hlt
        obtain ⟨x,hv⟩:∃ x,wr.cell? ⟨bk t.A,qP t.A+k,none⟩=some x:=Option.isSome_iff_exists.1 h1
        have HS2:=ħ (HS.out.set (p:=⟨bk t.A,qP t.A+k,none⟩) (hwb.b (by omega)) (ι 4000))
        have hfr:=(Fr.refl (fun j=>Bz Wq A6 j∧j<w7.heap.size) wr).setCell (p:=⟨bk t.A,qP t.A+k,none⟩) (.inl (hwb.b (by omega))) (ι 4000)
        have HI2:=ħ (HI.out.fr hfr (fun e=>by have:=HrB.out;have:=HsB.out;have:=HsL.out;omega))
        have HJ2:=ħ (HJ.out.fr hfr (fun e=>by have:=HrB.out;have:=HsB.out;omega))
        clear h1 hwb hfr
        go_wp2_with fail
        exact ⟨⟨k+1,by omega,by go_num,HS2.out,HI2.out,HJ2.out⟩,by simp[intOf];omega⟩
       ·have hlt':¬ (k:Int)<t.c.nodes.length:=by omega
        obtain ⟨Wz,hWz⟩:∃ W,W=wr:=⟨_,rfl⟩
        subst hWz
        have SI:=ħ HS.out
        have HIa:=ħ HI.out
        have HJa:=ħ HJ.out
        go_upto_region 22 with fail
        clear HS HI HJ hlt hlt' hk y0 z0
        go_loopw [81] (fun vi wr=>∃ k:Nat,k≤u.c.nodes.length∧vi=ι (k:Int)∧Sp (fun j=>W6.heap.size≤j∧j<w8.heap.size) Wz wr∧zb wr s 34 (χ t.c t.A t.k)∧zb wr r 34 (χ u.c u.A u.k)) (fun vi _=>u.c.nodes.length - (intOf vi).toNat)
        case atStart=>exact ⟨0,Nat.zero_le _,rfl,Sp.refl _ _,HIa.out,HJa.out⟩
        case round=>
         obtain ⟨k,hk,rfl,hsp,hbx,hby⟩:=hrel
         have HS:=ħ hsp
         have HI:=ħ hbx
         have HJ:=ħ hby
         clear hsp hbx hby
         have y0:=HI.out.facts
         have z0:=HJ.out.facts
         by_cases hlt:k<u.c.nodes.length
         ·have hlt':(k:Int)<u.c.nodes.length:=by omega
          have hix:=fun W=>JI mJ u.k k hlt W
          have hwb:=HS.out.k _ _ _ (SI.out.k _ _ _ z0V.out)
          obtain ⟨h1,h2⟩:=hwb.c k hlt
          obtain ⟨x,hv⟩:∃ x,wr.cell? ⟨bk u.A,qP u.A+k,none⟩=some x:=Option.isSome_iff_exists.1 h1
          have HS2:=ħ (HS.out.set (p:=⟨bk u.A,qP u.A+k,none⟩) (hwb.b (by omega)) (ι 4000))
          have hfr:=(Fr.refl (fun j=>W6.heap.size≤j∧j<w8.heap.size) wr).setCell (p:=⟨bk u.A,qP u.A+k,none⟩) (.inl (hwb.b (by omega))) (ι 4000)
          have HI2:=ħ (HI.out.fr hfr (fun e=>by have:=HrB.out;have:=HsB.out;have:=HsL.out;omega))
          have HJ2:=ħ (HJ.out.fr hfr (fun e=>by have:=HrB.out;have:=HsB.out;omega))
          clear h1 hwb hfr
          go_wp2_with fail
          exact ⟨⟨k+1,by omega,by go_num,HS2.out,HI2.out,HJ2.out⟩,by simp[intOf];omega⟩
         ·have hlt':¬ (k:Int)<u.c.nodes.length:=by omega
          go_wp2_with fail
          exact ⟨⟨i+1,by omega,by go_num,(gI.out.trans (SI.out.mono (fun k hk=>hk.1))).trans (HS.out.mono (fun k hk=>HOw.out k (by have:=HsB.out;have:=HsL.out;omega)))⟩,by simp[intOf];omega⟩
     ·have z10:¬ (i:Int)<ts.length:=by omega
      have xm:=ħ (GL.out.below (z0U.out _ HP.out))
      have x0:=xm.out.x.facts
      go_upto_region 27 with fail
      have HK:=ħ fun (W':World) (hb:Below wr.heap.size wr W')=>(xm.out.below hb).cells
      have K0:=HK.out _ (Below.refl _ wr).drew
      have SC:=ħ (xm.out.below (Below.refl _ wr).drew)
      go_region_held (fun W'=>W'.cell? ⟨q,0,none⟩=some (.slice v.AL v.la.length v.cL)∧W'.cell? ⟨q,1,none⟩=some (.slice v.AC v.lc.length v.cC)) (first | assumption | exact K0) (first
       | (go_at_call 31;((with_reducible refine SC.out.incs.mono ?_);rintro e wa ⟨A1,c1,xs,rfl,hm,hx⟩;have Mx:=ħ (SC.out.below hx.be);have H27:=ħ (Mx.out.all HV.out hm hx);have hB4:=ħ ((Below.refl _ wr).drew.trans hx.be);have K4:=HK.out _ hB4.out;clear hm hx))
       | (go_at_call 27;((with_reducible refine H27.out.mono ?_);rintro e wb ⟨rfl,hb⟩;have QE:=ħ (Mx.out.below hb);have Tp:=ħ (hB4.out.trans (hb.mono hB4.out.size));have K5:=HK.out _ Tp.out;clear hb))
       | (go_at_call 23;((with_reducible refine QE.out.calls.mono ?_);rintro e wd ⟨A2,c2,ys,rfl,hm,hx⟩;have lC:=ħ (QE.out.below hx.be);have H22:=ħ (lC.out.told (by rw[HV.out]) hm hx);have SA:=ħ (Tp.out.trans (hx.be.mono Tp.out.size));have K6:=HK.out _ SA.out;clear hm hx))
       | (go_at_call 22;((with_reducible refine H22.out.mono ?_);rintro e we ⟨rfl,hb⟩;have HS9:=ħ (lC.out.below hb);have Te:=ħ (SA.out.trans (hb.mono SA.out.size));have K7:=HK.out _ Te.out;clear hb))
       | (go_at_call 12;((with_reducible refine HS9.out.awake.mono ?_);rintro e wf ⟨rfl,hb⟩;have Jy:=ħ (HS9.out.be.trans (hb.mono HS9.out.be.size));have K8:=HK.out _ (Te.out.trans (hb.mono Te.out.size));clear hb)))
      all_goals
       go_wp2_with fail
       go_ret
       exact ⟨rfl,Jy.out⟩
end Go.Proofs.YtdhcjhfgibmhfaaGreatDoor

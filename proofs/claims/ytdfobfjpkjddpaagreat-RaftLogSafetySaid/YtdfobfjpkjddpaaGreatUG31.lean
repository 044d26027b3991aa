import Derived.Test.YtdfobfjpkjddpaaGreatUG29
import Derived.Deep.RegionHeld3
import Derived.Test.YtdfobfjpkjddpaaGreatUG30
set_option linter.unusedVariables false
set_option linter.unusedSimpArgs false
set_option maxRecDepth 10000
set_option maxHeartbeats 8000000
namespace Go.Proofs.YtdfobfjpkjddpaaGreat
open Go.RowKit Go.Own Go.Quo Go.Wire Go.Raft
attribute [local irreducible] Go.wpQuiet
theorem step15_6 (w:World)(cc:Nat→Nat)(g:Nat)(C:Cl)(fo:Ms)(h:CS w cc g C fo){c0:Mb}{G:Gh}{k:Nat}(hw:CW c0 k C)(hI:CInv c0 G C)(hc0:c0=⟨fo.o,fo.n⟩)(hk:k≤1400)(kd wh nn:Nat)(A:Option Addr)(b:List Int)(c:Nat)(hkd:kd<256)(hwh:wh<256)(hnn:nn<256)(hnd:0<C.nd.length∧C.nd.length≤9)(hr:kd % 8=6) :
 Calls Tryz.prog 15 #[.pointer (some ⟨g,0,none⟩),.agg (stC kd wh nn A b.length c)] w fun e w'=>e=.returned (.bool true)∧∃ c1,CB w cc g (C.step kd wh nn b) fo w' c1:=by
 obtain ⟨K,Am,cm,Ap,cp,At,ct,Al,cl,mv,hz⟩:=h
 have HKL:=ħ hz.nd_len
 have HML:=ħ hz.ms_len
 have hk9:K.length≤9:=by have:=HKL.out;omega
 have hk0:0<K.length:=by have:=HKL.out;omega
 have hmv:mv.length≤200:=by have:=HML.out;have:=hw.l;omega
 have K1:=ħ (CK.start (cs:=stC kd wh nn A b.length c) hz)
 have HLT:=ħ hz.lt
 have HW:=ħ hw
 have HTM:=ħ fun (i:Nat) (s:Nd) (hs:C.nd[i]?=some s) (hr:s.role=3)=>hI.tm hs hr
 have HND:=ħ hnd
 clear hz hw hnd hI
 obtain ⟨u,hu⟩:∃ u,u=wh % K.length:=⟨_,rfl⟩
 have HU:=ħ hu
 have hul:u<K.length:=by rw[hu];exact Nat.mod_lt _ hk0
 have hrm:Int.tmod (wh:Int) (K.length:Int)=(u:Int):=by rw[tmod_nat',hu]
 have hk0i:(0:Int)<(K.length:Int):=by omega
 have hk0n:¬ ((K.length:Int)=0):=by omega
 have hwh':IntKind.i64.wrap (wh:Int)=(wh:Int):=IntWalk.i64_in _ (by omega)
 have hu':IntKind.i64.wrap (u:Int)=(u:Int):=IntWalk.i64_in _ (by omega)
 have hr8:Int.tmod (kd:Int) 8=6:=by rw[show (8:Int)=((8:Nat):Int) from rfl,tmod_nat',hr];rfl
 obtain ⟨xq,hxq⟩:∃ x,K[u]?=some x:=⟨_,List.getElem?_eq_getElem hul⟩
 have HSTEP:=ħ (show C.nd[wh % C.nd.length]?=some xq.s∧wh % C.nd.length=u from by
  have h1:wh % C.nd.length=u:=by rw[hu,HKL.out]
  rw[h1,←K1.out.z.nd,List.getElem?_map,hxq]
  exact ⟨rfl,rfl⟩)
 have HXQ:=ħ hxq
 clear hu hxq
 go_enter Tryz.func15,Tryz.ntmps15
 go_upto_region 1 with fail
 generalize w.alloc (.cells (stC kd wh nn A b.length c) 48)=W1 at *
 have y0:W1.cell? ⟨w.heap.size,1,none⟩=some (.int .u8 (wh:Int)):=K1.out.k.cell 1
 have y1:=K1.out.z.x.2.2.2.1
 have y2:=K1.out.z.x.1
 have y3:=K1.out.k.lt
 go_quiet (fail)
 have K2:=ħ (K1.out.below (below_drewN (Below.refl _ _) nq))
 generalize W1.drewN nq=W2 at *
 clear y0 y1 y2 y3 K1
 obtain ⟨x0,xf,x1,x2,x3,x4,x5,x6⟩:=K2.out.z.x
 obtain ⟨q0,q1,q2⟩:=K2.out.k.facts
 clear hrm hwh'
 go_upto_if 29 with fail
 go_cut [6] (fun vx wx=>∃ ix:Nat,vx=.int .i64 (ix:Int)∧(0<mv.length→ix=nn % mv.length)∧CK w cc g C K fo Am cm Ap cp At ct Al cl mv w.heap.size (stC kd wh nn A b.length c) wx cc)
 case first=>
  by_cases hm0:0<mv.length
  ·obtain ⟨ix,hix⟩:∃ ix,ix=nn % mv.length:=⟨_,rfl⟩
   have HIX:=ħ hix
   have hixl:ix<mv.length:=by rw[hix];exact Nat.mod_lt _ hm0
   have hrm2:Int.tmod (nn:Int) (mv.length:Int)=(ix:Int):=by rw[tmod_nat',hix]
   have hm0i:(0:Int)<(mv.length:Int):=by omega
   have hm0n:¬ ((mv.length:Int)=0):=by omega
   have hnn':IntKind.i64.wrap (nn:Int)=(nn:Int):=IntWalk.i64_in _ (by omega)
   have hix':IntKind.i64.wrap (ix:Int)=(ix:Int):=IntWalk.i64_in _ (by omega)
   clear hix hr8
   go_upto_region 4 with fail
   go_quiet (fail)
   go_wp2_with fail
   go_meet
   exact ⟨ix,rfl,fun _=>HIX.out,K2.out.below (below_drewN (Below.refl _ _) _)⟩
  ·have hm0i:¬ (0:Int)<(mv.length:Int):=by omega
   clear hr8
   go_wp2_with fail
   go_meet
   exact ⟨0,rfl,fun h=>absurd h hm0,K2.out⟩
 case rest=>
  obtain ⟨ix,rfl,hixx,hk3⟩:=hcut
  have K3:=ħ hk3
  have HIX:=ħ hixx
  clear hk3 hixx K2 x0 xf x1 x2 x3 x4 x5 x6 q0 q1 q2
  obtain ⟨x0,xf,x1,x2,x3,x4,x5,x6⟩:=K3.out.z.x
  obtain ⟨q0,q1,q2⟩:=K3.out.k.facts
  go_upto_region 33 with fail
  clear hr8 hu'
  obtain ⟨xp,xv,xj,xl,xf',xcol,xs⟩:=xq
  obtain ⟨hns,hcl,hcl2⟩:=K3.out.z.n u _ HXQ.out
  have hxs:C.nd[u]?=some xs:=by rw[←HSTEP.out.2];exact HSTEP.out.1
  have hnw:=HW.out.n u xs hxs
  have HST:=ħ (show C.step kd wh nn b = { C with nd:=C.nd.set u (xs.again C.now) } from by
   unfold Cl.step
   rw[HSTEP.out.1,HSTEP.out.2]
   simp only[hr])
  have Kd:=ħ (K3.out.below (Below.refl _ _).drew)
  have H26:=ħ (show Calls Tryz.prog 26 #[.agg #[.int .i64 (u:Int),.slice fo.A fo.o.length fo.c,.slice fo.A' fo.n.length fo.c',.int .i64 (8+2 * (u:Int)),.int .i64 2,.int .i64 0],.pointer (some ⟨xf',0,none⟩),.int .i64 C.now] wc.drew (OkQ xf' (fun k=>xcol k=3) (xs.again C.now) wc.drew) from by
   have:=again_w wc.drew xcol xp xv xj xl xf' xs [] (hns.below (Below.refl _ _).drew) hnw.w (by omega) _ fo Kd.out.z.fo (fun k hk=>by
    cases hx2:xcol k with
    | zero=>rfl
    | succ n=>have:=hcl2 k (by show xcol k≠0;omega);omega) (by rw[hnw.c0,hc0];exact ⟨rfl,rfl⟩) 0 C.now
   rwa [hnw.id,hnw.wait,hnw.beat] at this)
  have hPm:=((Reads.of_own K3.out.z.om).plain (by omega))
  have hPp:=((Reads.of_own K3.out.z.op).plain (by omega))
  have hPt:=((Reads.of_own K3.out.z.ot).plain (by omega))
  have hix1:=fun W=>ix50 hPm cm u hul W
  have hix2:=fun W=>ix51 hPp cp u hul W
  have hix3:=fun W=>ix52 hPt ct u hul W
  have HKS:=ħ fun W c2 C2 K2 (z:CZ W c2 g C2 K2 fo Am cm Ap cp At ct Al cl mv) (e1:C2.now=C.now) (e2:K2.length=K.length) (e3:(K2.map fun x=>(Value.pointer (some ⟨x.f,0,none⟩)))[u]?=some (.pointer (some ⟨xf',0,none⟩)))=>(show (W.cell? ⟨g,1,none⟩=some (.slice Ap K.length cp))∧(W.cell? ⟨g,0,none⟩=some (.slice Am K.length cm))∧(W.cell? ⟨bk Am,ofs Am+u * 6,none⟩=some (.int .i64 (u:Int))∧W.cell? ⟨bk Am,ofs Am+u * 6+1,none⟩=some (.slice fo.A fo.o.length fo.c)∧W.cell? ⟨bk Am,ofs Am+u * 6+2,none⟩=some (.slice fo.A' fo.n.length fo.c')∧W.cell? ⟨bk Am,ofs Am+u * 6+3,none⟩=some (.int .i64 (8+2 * (u:Int)))∧W.cell? ⟨bk Am,ofs Am+u * 6+4,none⟩=some (.int .i64 2)∧W.cell? ⟨bk Am,ofs Am+u * 6+5,none⟩=some (.int .i64 0))∧(W.cell? ⟨g,2,none⟩=some (.slice At K.length ct))∧(W.cell? ⟨bk At,ofs At+u,none⟩=some (.pointer (some ⟨xf',0,none⟩)))∧(W.cell? ⟨g,4,none⟩=some (.int .i64 C.now)) from
   ⟨by rw[z.x.2.2.2.1,e2],by rw[z.x.2.2.1,e2],md_all (e2 ▸ Reads.of_own z.om) hul,by rw[z.x.2.2.2.2.1,e2],(by
    have h1:=Reads.of_own z.ot
    rw[(h1.cell2 u (by omega) (by omega))]
    exact e3),by rw[z.x.2.2.2.2.2.2.1,e1]⟩)
  have hp3:(K.map fun x=>(Value.pointer (some ⟨x.f,0,none⟩)))[u]?=some (.pointer (some ⟨xf',0,none⟩)):=by rw[List.getElem?_map,HXQ.out];rfl
  have HP3:=ħ hp3
  have S3:=HKS.out wc cc C K K3.out.z rfl rfl hp3
  have hpp3:(K.map fun x=>(Value.pointer (some ⟨x.p,0,none⟩)))[u]?=some (.pointer (some ⟨xp,0,none⟩)):=by rw[List.getElem?_map,HXQ.out];rfl
  have HPP3:=ħ hpp3
  have hf3:xcol xf'=3:=by
   obtain ⟨_,_,_,_,_,_,hz,_⟩:=hns
   obtain ⟨A,c,Ar,cr,As,cs,rs,h1,h2⟩:=hz.js
   exact h1.zp
  have HONE:=ħ (show ∀ k,cc k=1→¬ (k=xf'∨xcol k=3) from fun k hk e=>by
   have h1:cc k=2+u:=e.elim (fun e=>hcl2 k (by show xcol k≠0;rw[e,hf3];decide)) (fun e=>hcl2 k (by show xcol k≠0;rw[e];decide))
   omega)
  have HKR:=ħ fun W (fr6:Fr (fun k=>k=xf'∨xcol k=3) wc.drew W)=>(show ((W.cell? ⟨g,1,none⟩=some (.slice Ap K.length cp))∧(W.cell? ⟨g,0,none⟩=some (.slice Am K.length cm))∧(W.cell? ⟨bk Am,ofs Am+u * 6,none⟩=some (.int .i64 (u:Int))∧W.cell? ⟨bk Am,ofs Am+u * 6+1,none⟩=some (.slice fo.A fo.o.length fo.c)∧W.cell? ⟨bk Am,ofs Am+u * 6+2,none⟩=some (.slice fo.A' fo.n.length fo.c')∧W.cell? ⟨bk Am,ofs Am+u * 6+3,none⟩=some (.int .i64 (8+2 * (u:Int)))∧W.cell? ⟨bk Am,ofs Am+u * 6+4,none⟩=some (.int .i64 2)∧W.cell? ⟨bk Am,ofs Am+u * 6+5,none⟩=some (.int .i64 0))∧(W.cell? ⟨g,2,none⟩=some (.slice At K.length ct))∧(W.cell? ⟨bk At,ofs At+u,none⟩=some (.pointer (some ⟨xf',0,none⟩)))∧(W.cell? ⟨g,4,none⟩=some (.int .i64 C.now)))∧bk Ap<W.heap.size∧(∀ i,W.frozen? ⟨bk Ap,i,none⟩=false)∧W.cell? ⟨bk Ap,ofs Ap+u,none⟩=some (.pointer (some ⟨xp,0,none⟩)) from by
   have b5:=Kd.out.z.b.fr fr6 (HONE.out g Kd.out.z.gc)
   have om5:=own_fr Kd.out.z.om fr6 (fun k hk=>HONE.out k (Kd.out.z.mc k hk))
   have op5:=own_fr Kd.out.z.op fr6 (fun k hk=>HONE.out k (Kd.out.z.pc k hk))
   have ot5:=own_fr Kd.out.z.ot fr6 (fun k hk=>HONE.out k (Kd.out.z.tc k hk))
   obtain ⟨bcs,bop⟩:∃ cs,Blk W (bk Ap) 31 cs:=by
    rcases op5.2 with ⟨h0,h1⟩ | ⟨g',cap,cur,hv,hb,hg,_⟩
    ·omega
    ·injection hv with h1 h2 h3
     subst h1
     exact ⟨cur,hg⟩
   refine ⟨⟨b5.cell 1,b5.cell 0,md_all (Reads.of_own om5) hul,b5.cell 2,?_,b5.cell 4⟩,bop.lt,bop.frozen,?_⟩
   ·rw[((Reads.of_own ot5).cell2 u (by omega) (by omega))]
    exact HP3.out
   ·rw[((Reads.of_own op5).cell2 u (by omega) (by omega))]
    exact HPP3.out)
  clear hns hcl hcl2 hp3 hpp3 hxs hnw hf3
  go_cut [] (fun wx=>∃ c1,CB w cc g (C.step kd wh nn b) fo wx c1∧g<wx.heap.size∧wx.cell? ⟨g,1,none⟩=some (.slice Ap K.length cp)∧∃ p':Nat,wx.cell? ⟨bk Ap,ofs Ap+u,none⟩=some (.pointer (some ⟨p',0,none⟩)))
  case first=>
   go_region_held3 (fun W=>(W.cell? ⟨g,1,none⟩=some (.slice Ap K.length cp))∧(W.cell? ⟨g,0,none⟩=some (.slice Am K.length cm))∧(W.cell? ⟨bk Am,ofs Am+u * 6,none⟩=some (.int .i64 (u:Int))∧W.cell? ⟨bk Am,ofs Am+u * 6+1,none⟩=some (.slice fo.A fo.o.length fo.c)∧W.cell? ⟨bk Am,ofs Am+u * 6+2,none⟩=some (.slice fo.A' fo.n.length fo.c')∧W.cell? ⟨bk Am,ofs Am+u * 6+3,none⟩=some (.int .i64 (8+2 * (u:Int)))∧W.cell? ⟨bk Am,ofs Am+u * 6+4,none⟩=some (.int .i64 2)∧W.cell? ⟨bk Am,ofs Am+u * 6+5,none⟩=some (.int .i64 0))∧(W.cell? ⟨g,2,none⟩=some (.slice At K.length ct))∧(W.cell? ⟨bk At,ofs At+u,none⟩=some (.pointer (some ⟨xf',0,none⟩)))∧(W.cell? ⟨g,4,none⟩=some (.int .i64 C.now))) (first | assumption | exact S3) (first
    | (((with_reducible refine H26.out.mono ?_);rintro e w6 ⟨p6,v6,j6,l6,col6,rfl,n6,cl6,sp6,fr6⟩;obtain ⟨S6,k0,k1,k2⟩:=HKR.out w6 fr6;obtain ⟨c7,hz7,ag7,fr7⟩:=CZ.renew Kd.out.z HXQ.out (by omega) n6 cl6 sp6 fr6;have S7:=HKS.out _ c7 _ _ hz7 rfl List.length_set (by rw[List.map_set];exact set_same HP3.out);have HZ7:=ħ hz7;have HA7:=ħ ag7;have HF7:=ħ fr7;clear hz7 n6 cl6 sp6 ag7 fr7 fr6)))
   all_goals
    go_wp2_with fail
    go_meet
    refine ⟨c7,?_,?_,S7.1,p6,?_⟩
    ·rw[HST.out]
     exact (Kd.out.cb).trans ⟨⟨_,_,_,_,_,_,_,_,_,_,HZ7.out⟩,HA7.out,HF7.out⟩
    ·exact HZ7.out.b.lt
    ·rw[((Reads.of_own HZ7.out.op).cell2 u (by rw[List.length_set];omega) (by omega)),List.map_set]
     exact List.getElem?_set_self (by rw[List.length_map];omega)
  case rest=>
   obtain ⟨c1,hcb,gl,gc1,p',gp⟩:=hcut
   have HCB:=ħ hcb
   clear hcb S3
   go_wp2_with fail
   go_ret
   exact ⟨rfl,c1,HCB.out⟩
theorem step15_7 (w:World)(cc:Nat→Nat)(g:Nat)(C:Cl)(fo:Ms)(h:CS w cc g C fo){c0:Mb}{G:Gh}{k:Nat}(hw:CW c0 k C)(hI:CInv c0 G C)(hc0:c0=⟨fo.o,fo.n⟩)(hk:k≤1400)(kd wh nn:Nat)(A:Option Addr)(b:List Int)(c:Nat)(hkd:kd<256)(hwh:wh<256)(hnn:nn<256)(hnd:0<C.nd.length∧C.nd.length≤9)(hr:kd % 8=7) :
 Calls Tryz.prog 15 #[.pointer (some ⟨g,0,none⟩),.agg (stC kd wh nn A b.length c)] w fun e w'=>e=.returned (.bool true)∧∃ c1,CB w cc g (C.step kd wh nn b) fo w' c1:=by
 obtain ⟨K,Am,cm,Ap,cp,At,ct,Al,cl,mv,hz⟩:=h
 have HKL:=ħ hz.nd_len
 have HML:=ħ hz.ms_len
 have hk9:K.length≤9:=by have:=HKL.out;omega
 have hk0:0<K.length:=by have:=HKL.out;omega
 have hmv:mv.length≤200:=by have:=HML.out;have:=hw.l;omega
 have K1:=ħ (CK.start (cs:=stC kd wh nn A b.length c) hz)
 have HLT:=ħ hz.lt
 have HW:=ħ hw
 have HTM:=ħ fun (i:Nat) (s:Nd) (hs:C.nd[i]?=some s) (hr:s.role=3)=>hI.tm hs hr
 have HND:=ħ hnd
 clear hz hw hnd hI
 obtain ⟨u,hu⟩:∃ u,u=wh % K.length:=⟨_,rfl⟩
 have HU:=ħ hu
 have hul:u<K.length:=by rw[hu];exact Nat.mod_lt _ hk0
 have hrm:Int.tmod (wh:Int) (K.length:Int)=(u:Int):=by rw[tmod_nat',hu]
 have hk0i:(0:Int)<(K.length:Int):=by omega
 have hk0n:¬ ((K.length:Int)=0):=by omega
 have hwh':IntKind.i64.wrap (wh:Int)=(wh:Int):=IntWalk.i64_in _ (by omega)
 have hu':IntKind.i64.wrap (u:Int)=(u:Int):=IntWalk.i64_in _ (by omega)
 have hr8:Int.tmod (kd:Int) 8=7:=by rw[show (8:Int)=((8:Nat):Int) from rfl,tmod_nat',hr];rfl
 obtain ⟨xq,hxq⟩:∃ x,K[u]?=some x:=⟨_,List.getElem?_eq_getElem hul⟩
 have HSTEP:=ħ (show C.nd[wh % C.nd.length]?=some xq.s∧wh % C.nd.length=u from by
  have h1:wh % C.nd.length=u:=by rw[hu,HKL.out]
  rw[h1,←K1.out.z.nd,List.getElem?_map,hxq]
  exact ⟨rfl,rfl⟩)
 have HXQ:=ħ hxq
 clear hu hxq
 go_enter Tryz.func15,Tryz.ntmps15
 go_upto_region 1 with fail
 generalize w.alloc (.cells (stC kd wh nn A b.length c) 48)=W1 at *
 have y0:W1.cell? ⟨w.heap.size,1,none⟩=some (.int .u8 (wh:Int)):=K1.out.k.cell 1
 have y1:=K1.out.z.x.2.2.2.1
 have y2:=K1.out.z.x.1
 have y3:=K1.out.k.lt
 go_quiet (fail)
 have K2:=ħ (K1.out.below (below_drewN (Below.refl _ _) nq))
 generalize W1.drewN nq=W2 at *
 clear y0 y1 y2 y3 K1
 obtain ⟨x0,xf,x1,x2,x3,x4,x5,x6⟩:=K2.out.z.x
 obtain ⟨q0,q1,q2⟩:=K2.out.k.facts
 clear hrm hwh'
 go_upto_if 29 with fail
 go_cut [6] (fun vx wx=>∃ ix:Nat,vx=.int .i64 (ix:Int)∧(0<mv.length→ix=nn % mv.length)∧CK w cc g C K fo Am cm Ap cp At ct Al cl mv w.heap.size (stC kd wh nn A b.length c) wx cc)
 case first=>
  by_cases hm0:0<mv.length
  ·obtain ⟨ix,hix⟩:∃ ix,ix=nn % mv.length:=⟨_,rfl⟩
   have HIX:=ħ hix
   have hixl:ix<mv.length:=by rw[hix];exact Nat.mod_lt _ hm0
   have hrm2:Int.tmod (nn:Int) (mv.length:Int)=(ix:Int):=by rw[tmod_nat',hix]
   have hm0i:(0:Int)<(mv.length:Int):=by omega
   have hm0n:¬ ((mv.length:Int)=0):=by omega
   have hnn':IntKind.i64.wrap (nn:Int)=(nn:Int):=IntWalk.i64_in _ (by omega)
   have hix':IntKind.i64.wrap (ix:Int)=(ix:Int):=IntWalk.i64_in _ (by omega)
   clear hix hr8
   go_upto_region 4 with fail
   go_quiet (fail)
   go_wp2_with fail
   go_meet
   exact ⟨ix,rfl,fun _=>HIX.out,K2.out.below (below_drewN (Below.refl _ _) _)⟩
  ·have hm0i:¬ (0:Int)<(mv.length:Int):=by omega
   clear hr8
   go_wp2_with fail
   go_meet
   exact ⟨0,rfl,fun h=>absurd h hm0,K2.out⟩
 case rest=>
  obtain ⟨ix,rfl,hixx,hk3⟩:=hcut
  have K3:=ħ hk3
  have HIX:=ħ hixx
  clear hk3 hixx K2 x0 xf x1 x2 x3 x4 x5 x6 q0 q1 q2
  obtain ⟨x0,xf,x1,x2,x3,x4,x5,x6⟩:=K3.out.z.x
  obtain ⟨q0,q1,q2⟩:=K3.out.k.facts
  go_upto_region 11 with fail
  clear hr8 hu'
  have HST:=ħ (show C.step kd wh nn b=C.come (nn % C.ms.length) from by
   unfold Cl.step
   rw[HSTEP.out.1]
   simp only[hr])
  clear x0 xf x1 x2 x3 x5 x6 q0 q1 q2 hk0i hk0n
  by_cases hm0:0<mv.length
  ·have hm0i:(0:Int)<(mv.length:Int):=by omega
   have h39:=come39 wc cc g C fo K3.out.cb.n HW.out hk ix (by rw[←HML.out,HIX.out hm0];exact Nat.mod_lt _ hm0) HND.out.2
   rw[HIX.out hm0,HML.out] at h39
   have HE:=ħ (HIX.out hm0)
   rw[HML.out] at HE
   rw[←HE.out] at h39
   have H39:=ħ h39
   clear h39 hm0
   obtain ⟨x0,xf,x1,x2,x3,x4,x5,x6⟩:=K3.out.z.x
   clear x1 x2 x3 x5 x6
   go_wp2_with (go_at_call 39;((with_reducible refine H39.out.mono ?_);rintro e w5 ⟨rfl,c5,hcb5⟩;have HC5:=ħ hcb5;clear hcb5))
   go_ret
   refine ⟨rfl,c5,?_⟩
   rw[HST.out,←HE.out]
   exact K3.out.cb.trans HC5.out
  ·have hm0i:¬ (0:Int)<(mv.length:Int):=by omega
   have HE:=ħ (show C.come (nn % C.ms.length)=C from by
    unfold Cl.come
    rw[List.getElem?_eq_none (by have:=HML.out;omega)])
   obtain ⟨x0,xf,x1,x2,x3,x4,x5,x6⟩:=K3.out.z.x
   clear x1 x2 x3 x5 x6
   go_wp2_with fail
   go_ret
   refine ⟨rfl,cc,?_⟩
   rw[HST.out,HE.out]
   exact K3.out.cb
theorem step15_any (w:World)(cc:Nat→Nat)(g:Nat)(C:Cl)(fo:Ms)(h:CS w cc g C fo){c0:Mb}{G:Gh}{k:Nat}(hw:CW c0 k C)(hI:CInv c0 G C)(hc0:c0=⟨fo.o,fo.n⟩)(hk:k≤1400)(kd wh nn:Nat)(A:Option Addr)(b:List Int)(c:Nat)(B:Nat→Prop)(hb:Reads w B 1 A b.length (bys b))(hBc:∀ k,B k→cc k=0)(hbb:b.length≤200∧Bytes b)(hkd:kd<256)(hwh:wh<256)(hnn:nn<256)(hnd:0<C.nd.length∧C.nd.length≤9) :
 Calls Tryz.prog 15 #[.pointer (some ⟨g,0,none⟩),.agg (stC kd wh nn A b.length c)] w fun e w'=>e=.returned (.bool true)∧∃ c1,CB w cc g (C.step kd wh nn b) fo w' c1:=by
 have h8:kd % 8=0∨kd % 8=1∨kd % 8=2∨kd % 8=3∨kd % 8=4∨kd % 8=5∨kd % 8=6∨kd % 8=7:=by omega
 rcases h8 with e | e | e | e | e | e | e | e
 ·exact step15_0 w cc g C fo h hw hI hc0 hk kd wh nn A b c hkd hwh hnn hnd e
 ·exact step15_1 w cc g C fo h hw hI hc0 hk kd wh nn A b c hkd hwh hnn hnd e
 ·exact step15_2 w cc g C fo h hw hI hc0 hk kd wh nn A b c hkd hwh hnn hnd e
 ·exact step15_3 w cc g C fo h hw hI hc0 hk kd wh nn A b c hkd hwh hnn hnd e
 ·exact step15_4 w cc g C fo h hw hI hc0 hk kd wh nn A b c B hb hBc hbb hkd hwh hnn hnd e
 ·exact step15_5 w cc g C fo h hw hI hc0 hk kd wh nn A b c hkd hwh hnn hnd e
 ·exact step15_6 w cc g C fo h hw hI hc0 hk kd wh nn A b c hkd hwh hnn hnd e
 ·exact step15_7 w cc g C fo h hw hI hc0 hk kd wh nn A b c hkd hwh hnn hnd e
section
variable {w W:World} {cc:Nat→Nat} {g:Nat} {C:Cl} {K:List NQ} {fo:Ms} {Am Ap At Am' Ap' At':Option Addr} {cm cp ct cm' cp' ct':Nat} {x:NQ}
theorem CZ.add (h:CZ w cc g C K fo Am cm Ap cp At ct none 0 [])(hl:K.length<90)(hfr:Fr (fun k=>cc k=1) w W)(hx:∀ k,x.col k≠0→w.heap.size≤k)(hn:NS W x.col x.p x.v x.j x.l x.f x.s false [])(hc:Clean x.col)
 (b:Blk W g 55 #[.slice Am' (K ++ [x]).length cm',.slice Ap' (K ++ [x]).length cp',.slice At' (K ++ [x]).length ct',.slice none 0 0,.int .i64 C.now,.bool false])
 (om:W.ownsRow 0 26 6 (.slice Am' (K ++ [x]).length cm') (K ++ [x]).length ((List.range (K ++ [x]).length).flatMap (mdR fo)))
 (op:W.ownsRow 0 31 1 (.slice Ap' (K ++ [x]).length cp') (K ++ [x]).length ((K ++ [x]).map fun x=>.pointer (some ⟨x.p,0,none⟩)))
 (ot:W.ownsRow 0 36 1 (.slice At' (K ++ [x]).length ct') (K ++ [x]).length ((K ++ [x]).map fun x=>.pointer (some ⟨x.f,0,none⟩)))
 (mc:∀ k,(Value.slice Am' (K ++ [x]).length cm').ownBlock=some k→cc k=1∨(w.heap.size≤k∧x.col k=0))
 (pc:∀ k,(Value.slice Ap' (K ++ [x]).length cp').ownBlock=some k→cc k=1∨(w.heap.size≤k∧x.col k=0))
 (tc:∀ k,(Value.slice At' (K ++ [x]).length ct').ownBlock=some k→cc k=1∨(w.heap.size≤k∧x.col k=0)) :
 ∃ c1,CZ W c1 g { C with nd:=C.nd ++ [x.s] } (K ++ [x]) fo Am' cm' Ap' cp' At' ct' none 0 []∧∀ k,k<w.heap.size→c1 k=cc k:=by
 classical
 obtain ⟨Q,hQ⟩:∃ Q:Nat→Prop,Q=fun k=>(Value.slice Am' (K ++ [x]).length cm').ownBlock=some k∨(Value.slice Ap' (K ++ [x]).length cp').ownBlock=some k∨(Value.slice At' (K ++ [x]).length ct').ownBlock=some k:=⟨_,rfl⟩
 obtain ⟨c1,k1,k2,k3⟩:∃ c1:Nat→Nat,(∀ k,k<w.heap.size→c1 k=cc k)∧(∀ k,w.heap.size≤k→x.col k≠0→c1 k=2+K.length)∧(∀ k,w.heap.size≤k→x.col k=0→c1 k=if Q k then 1 else 0):=by
  refine ⟨fun k=>if k<w.heap.size then cc k else if x.col k=0 then (if Q k then 1 else 0) else 2+K.length,fun k hk=>if_pos hk,fun k hk h0=>?_,fun k hk h0=>?_⟩
  ·simp only
   rw[if_neg (by omega),if_neg h0]
  ·simp only
   rw[if_neg (by omega),if_pos h0]
 have own1:∀ k,Q k→(cc k=1∨(w.heap.size≤k∧x.col k=0))→c1 k=1:=fun k hk e=>by
  rcases e with e | e
  ·rw[k1 k (h.lt k (by rw[e];decide))];exact e
  ·rw[k3 k e.1 e.2,if_pos hk]
 refine ⟨c1,⟨b,by rw[k1 g h.b.lt];exact h.gc,om,op,ot,World.ownsRow_nil _ _ _ _,fun k hk=>own1 k (by rw[hQ];exact .inl hk) (mc k hk),fun k hk=>own1 k (by rw[hQ];exact .inr (.inl hk)) (pc k hk),fun k hk=>own1 k (by rw[hQ];exact .inr (.inr hk)) (tc k hk),(fun k hk=>by simp[Value.ownBlock] at hk),?_,?_,h.ms,(fun y hy=>by cases hy),?_,?_⟩,k1⟩
 ·have f1:=h.fo.fr hfr (fun k hk e=>by have e:cc k=1:=e;have hk:cc k=100:=hk;omega)
  exact ⟨(f1.1).more (fun k hk=>by rw[k1 k (h.lt k (by rw[hk];decide))];exact hk),(f1.2).more (fun k hk=>by rw[k1 k (h.lt k (by rw[hk];decide))];exact hk),f1.3,f1.4⟩
 ·rw[List.map_append,h.nd];rfl
 ·intro j y hy
  rcases Nat.lt_or_ge j K.length with hj | hj
  ·rw[List.getElem?_append_left hj] at hy
   obtain ⟨b1,b2,b3⟩:=h.n j y hy
   refine ⟨b1.fr hfr (fun k hk e=>by have:=b3 k hk;have e:cc k=1:=e;omega),b2,fun k hk=>by rw[k1 k (b1.lt k hk)];exact b3 k hk⟩
  ·rw[List.getElem?_append_right hj] at hy
   have hj0:j - K.length=0:=by
    have:=(List.getElem?_eq_some_iff.1 hy).1
    simp at this;omega
   rw[hj0] at hy
   have hy:some x=some y:=hy
   injection hy with hy
   subst hy
   have:j=K.length:=by omega
   subst this
   exact ⟨hn,hc,fun k hk=>k2 k (hx k hk) hk⟩
 ·intro k hk
  rcases Nat.lt_or_ge k w.heap.size with h1 | h1
  ·exact Nat.lt_of_lt_of_le h1 hfr.size
  ·by_cases h0:x.col k=0
   ·rw[k3 k h1 h0] at hk
    by_cases hq:Q k
    ·rw[hQ] at hq
     rcases hq with e | e | e
     ·exact own_lt om e
     ·exact own_lt op e
     ·exact own_lt ot e
    ·rw[if_neg hq] at hk
     exact absurd rfl hk
   ·exact hn.lt k h0
end
def cN (m:Nat):Mb:=⟨(List.range m).map (fun (k:Nat)=>(k:Int)),[]⟩
def nN (m i:Nat):Nd:=Nd.new (i:Int) (8+2 * (i:Int)) 2 0 (cN m)
def clN (m i:Nat):Cl:=⟨(List.range i).map (nN m),[],0⟩
abbrev gC0:Array Value:=#[.slice none 0 0,.slice none 0 0,.slice none 0 0,.slice none 0 0,.int .i64 0,.bool false]
theorem range_push (m:Nat):(List.range (m+1)).map (fun (k:Nat)=>(k:Int))=(List.range m).map (fun (k:Nat)=>(k:Int)) ++ [(m:Int)]:=by rw[List.range_succ,List.map_append];rfl
theorem blk_n {w:World}{L:Nat}{t:TypeId}{cs:Array Value}(h:L=w.heap.size):Blk (w.alloc (.cells cs t)) L t cs:=by subst h;exact Blk.new w t cs
theorem rd_blk {w:World}{L:Nat}{t:TypeId}(cs:List Value){n size:Nat}(h:Blk w L t cs.toArray)(hn:cs.length=n * size):Reads w (fun _=>True) size (some ⟨L,0,none⟩) n cs:=by
 have:=Reads.of_blk (B:=fun _=>True) (size:=size) (n:=n) h (by simp[hn]) trivial
 rwa [show cs.toArray.toList.take (n * size)=cs from List.take_of_length_le (Nat.le_of_eq hn)] at this
theorem own_kept {w w':World}{b1 b2:Nat}{e1 e2:TypeId}{s1 s2 n1 n2:Nat}{v1 v2:Value}{x1 x2:List Value}(h1:w.ownsRow b1 e1 s1 v1 n1 x1)(h2:w.ownsRow b2 e2 s2 v2 n2 x2)(hne:e1≠e2)(hg:w.grownBy w' v2.ownBlock):w'.ownsRow b1 e1 s1 v1 n1 x1:=h1.kept hg (by
 cases hv:v1.ownBlock with
 | none=>exact .inl rfl
 | some g=>exact .inr (fun e=>own_type h1 h2 hne g hv e.symm))
theorem perm_cN {i:Nat}(h1:1≤i)(h5:i≤5):permB (cN i).o (cN i).n=true:=by
 have:i=1∨i=2∨i=3∨i=4∨i=5:=by omega
 rcases this with rfl | rfl | rfl | rfl | rfl <;> decide +kernel
theorem opened_new (j i:Nat)(c0:Mb)(h:c0=cN i):opened (j:Int) (8+2 * (j:Int)) 2 (max 0 (min (max 0 0) MT)) c0 [] 0 (-1) []=nN i j:=by subst h;rfl
theorem clN_succ (m i:Nat):clN m (i+1) = { clN m i with nd:=(clN m i).nd ++ [nN m i] }:=by unfold clN;rw[List.range_succ,List.map_append];rfl
theorem md_open {fo:Ms}{A:Option Addr}{i c j:Nat}(h:mdR fo j=[.int .i64 (j:Int),.slice A i c,.slice none 0 0,.int .i64 (8+2 * (j:Int)),.int .i64 2,.int .i64 0]):mdC (j:Int) (8+2 * (j:Int)) 2 0 fo=#[.int .i64 (j:Int),.slice A i c,.slice none 0 0,.int .i64 (8+2 * (j:Int)),.int .i64 2,.int .i64 0]:=by
 have h1:mdC (j:Int) (8+2 * (j:Int)) 2 0 fo=(mdR fo j).toArray:=rfl
 rw[h1,h]
theorem CZ.zero {w:World}{g base:Nat}{A:Option Addr}{c:Nat}(m:Nat)(hb:Blk w g 55 gC0)(ho:w.ownsRow base 3 1 (.slice A m c) m (((List.range m).map (fun (k:Nat)=>(k:Int))).map (Value.int .i64)))(hg:g<base)(hm:m≤9) :
 ∃ cc,CZ w cc g (clN m 0) [] ⟨A,c,(List.range m).map (fun (k:Nat)=>(k:Int)),none,0,[]⟩ none 0 none 0 none 0 none 0 []∧∀ k,k<g→cc k=0:=by
 classical
 have hlo:∀ k,(Value.slice A m c).ownBlock=some k→base≤k∧k<w.heap.size:=fun k hk=>ho.lt k hk
 have hR:=Reads.of_own ho
 obtain ⟨cc,h1,h2,h3⟩:∃ cc:Nat→Nat,cc g=1∧(∀ k,(Value.slice A m c).ownBlock=some k→cc k=100)∧(∀ k,cc k≠0→k=g∨(Value.slice A m c).ownBlock=some k):=by
  refine ⟨fun k=>if k=g then 1 else if (Value.slice A m c).ownBlock=some k then 100 else 0,if_pos rfl,fun k hk=>?_,fun k hk=>?_⟩
  ·simp only
   rw[if_neg (by have:=hlo k hk;omega),if_pos hk]
  ·simp only at hk
   split at hk
   ·rename_i e;exact .inl e
   ·split at hk
    ·rename_i e;exact .inr e
    ·exact absurd rfl hk
 refine ⟨cc,⟨hb,h1,World.ownsRow_nil _ _ _ _,World.ownsRow_nil _ _ _ _,World.ownsRow_nil _ _ _ _,World.ownsRow_nil _ _ _ _,(fun k hk=>by simp[Value.ownBlock] at hk),(fun k hk=>by simp[Value.ownBlock] at hk),(fun k hk=>by simp[Value.ownBlock] at hk),(fun k hk=>by simp[Value.ownBlock] at hk),⟨?_,Reads.none_,by simp;omega,by simp⟩,rfl,rfl,(fun y hy=>by cases hy),(fun i x hx=>by simp at hx),fun k hk=>?_⟩,fun k hk=>?_⟩
 ·have h0:RI w (fun k=>(Value.slice A m c).ownBlock=some k) A ((List.range m).map (fun (k:Nat)=>(k:Int))):=by
   unfold RI
   rw[List.length_map,List.length_range]
   exact hR
  exact h0.more (fun k hk=>h2 k hk)
 ·rcases h3 k hk with e | e
  ·rw[e];exact hb.lt
  ·exact (hlo k e).2
 ·by_cases hc:cc k=0
  ·exact hc
  ·rcases h3 k hc with e | e
   ·omega
   ·have:=hlo k e;omega
structure BG (w5:World) (cc:Nat→Nat) (g:Nat) (cs:Array Value) (V0 V1 V2:Value) (n0 n1 n2:Nat) (X0 X1 X2:List Value) (W:World):Prop where
 r0:W.ownsRow 0 26 6 V0 n0 X0
 r1:W.ownsRow 0 36 1 V1 n1 X1
 r2:W.ownsRow 0 31 1 V2 n2 X2
 fr:Fr (fun k=>cc k=1) w5 W
 b:Blk W g 55 cs
 m0:∀ k,V0.ownBlock=some k→cc k=1∨w5.heap.size≤k
 m1:∀ k,V1.ownBlock=some k→cc k=1∨w5.heap.size≤k
 m2:∀ k,V2.ownBlock=some k→cc k=1∨w5.heap.size≤k
section
variable {w5 W W':World} {cc:Nat→Nat} {g:Nat} {cs:Array Value} {V0 V1 V2 V':Value} {n0 n1 n2 n':Nat} {X0 X1 X2 X':List Value}
theorem BG.alloc (h:BG w5 cc g cs V0 V1 V2 n0 n1 n2 X0 X1 X2 W)(o:Obj):BG w5 cc g cs V0 V1 V2 n0 n1 n2 X0 X1 X2 (W.alloc o):=by
 have hf:Fr (fun _=>False) W (W.alloc o):=Fr.of_below ((Below.refl _ _).alloc (Nat.le_refl _) _)
 exact ⟨own_fr h.r0 hf (fun _ _ e=>e),own_fr h.r1 hf (fun _ _ e=>e),own_fr h.r2 hf (fun _ _ e=>e),h.fr.alloc o,h.b.alloc o,h.m0,h.m1,h.m2⟩
theorem BG.drew (h:BG w5 cc g cs V0 V1 V2 n0 n1 n2 X0 X1 X2 W):BG w5 cc g cs V0 V1 V2 n0 n1 n2 X0 X1 X2 W.drew:=by
 have hf:Fr (fun _=>False) W W.drew:=(Fr.refl _ _).drew
 exact ⟨own_fr h.r0 hf (fun _ _ e=>e),own_fr h.r1 hf (fun _ _ e=>e),own_fr h.r2 hf (fun _ _ e=>e),h.fr.drew,h.b.fr hf (fun e=>e),h.m0,h.m1,h.m2⟩
theorem BG.grow0 (h:BG w5 cc g cs V0 V1 V2 n0 n1 n2 X0 X1 X2 W)(hg:W.grownBy W' V0.ownBlock)(ho:W'.ownsRow 0 26 6 V' n' X')(ha:V'.ownBlock=V0.ownBlock∨V'.ownBlock=some W.heap.size):BG w5 cc g cs V' V1 V2 n' n1 n2 X' X1 X2 W':=
 ⟨ho,own_kept h.r1 h.r0 (by decide) hg,own_kept h.r2 h.r0 (by decide) hg,h.fr.grown hg (fun k hk=>h.m0 k hk),h.b.grown hg (fun e=>own_ne h.r0 h.b (by decide) _ e.symm rfl),fun k hk=>by
  rcases ha with e | e
  ·exact h.m0 k (e ▸ hk)
  ·rw[hk] at e;injection e with e;subst e;exact .inr h.fr.size,h.m1,h.m2⟩
theorem BG.grow1 (h:BG w5 cc g cs V0 V1 V2 n0 n1 n2 X0 X1 X2 W)(hg:W.grownBy W' V1.ownBlock)(ho:W'.ownsRow 0 36 1 V' n' X')(ha:V'.ownBlock=V1.ownBlock∨V'.ownBlock=some W.heap.size):BG w5 cc g cs V0 V' V2 n0 n' n2 X0 X' X2 W':=
 ⟨own_kept h.r0 h.r1 (by decide) hg,ho,own_kept h.r2 h.r1 (by decide) hg,h.fr.grown hg (fun k hk=>h.m1 k hk),h.b.grown hg (fun e=>own_ne h.r1 h.b (by decide) _ e.symm rfl),h.m0,fun k hk=>by
  rcases ha with e | e
  ·exact h.m1 k (e ▸ hk)
  ·rw[hk] at e;injection e with e;subst e;exact .inr h.fr.size,h.m2⟩
theorem BG.grow2 (h:BG w5 cc g cs V0 V1 V2 n0 n1 n2 X0 X1 X2 W)(hg:W.grownBy W' V2.ownBlock)(ho:W'.ownsRow 0 31 1 V' n' X')(ha:V'.ownBlock=V2.ownBlock∨V'.ownBlock=some W.heap.size):BG w5 cc g cs V0 V1 V' n0 n1 n' X0 X1 X' W':=
 ⟨own_kept h.r0 h.r2 (by decide) hg,own_kept h.r1 h.r2 (by decide) hg,ho,h.fr.grown hg (fun k hk=>h.m2 k hk),h.b.grown hg (fun e=>own_ne h.r2 h.b (by decide) _ e.symm rfl),h.m0,h.m1,fun k hk=>by
  rcases ha with e | e
  ·exact h.m2 k (e ▸ hk)
  ·rw[hk] at e;injection e with e;subst e;exact .inr h.fr.size⟩
theorem BG.set (h:BG w5 cc g cs V0 V1 V2 n0 n1 n2 X0 X1 X2 W)(hc:cc g=1)(i:Nat)(v:Value):BG w5 cc g (cs.setIfInBounds i v) V0 V1 V2 n0 n1 n2 X0 X1 X2 (W.setCell ⟨g,i,none⟩ v):=
 ⟨own_set h.r0 (p:=⟨g,i,none⟩) (own_ne h.r0 h.b (by decide)) _,own_set h.r1 (p:=⟨g,i,none⟩) (own_ne h.r1 h.b (by decide)) _,own_set h.r2 (p:=⟨g,i,none⟩) (own_ne h.r2 h.b (by decide)) _,h.fr.setCell (p:=⟨g,i,none⟩) (.inl hc) _,h.b.set_ i v,h.m0,h.m1,h.m2⟩
theorem BG.done {w:World}{C:Cl}{K:List NQ}{fo:Ms}{Am Ap At Am' Ap' At':Option Addr}{cm cp ct cm' cp' ct':Nat}{x:NQ}(hz:CZ w cc g C K fo Am cm Ap cp At ct none 0 [])(hl:K.length<90)(hb:Below w.heap.size w w5)(hn:NS w5 x.col x.p x.v x.j x.l x.f x.s false [])(hc:Clean x.col)(hx:∀ k,x.col k≠0→w.heap.size≤k)
 (h:BG w5 cc g #[.slice Am' (K.length+1) cm',.slice Ap' (K.length+1) cp',.slice At' (K.length+1) ct',.slice none 0 0,.int .i64 C.now,.bool false] (.slice Am' (K.length+1) cm') (.slice At' (K.length+1) ct') (.slice Ap' (K.length+1) cp') (K.length+1) (K.length+1) (K.length+1) ((List.range K.length).flatMap (mdR fo) ++ mdR fo K.length) ((K.map fun x=>.pointer (some ⟨x.f,0,none⟩)) ++ [.pointer (some ⟨x.f,0,none⟩)]) ((K.map fun x=>.pointer (some ⟨x.p,0,none⟩)) ++ [.pointer (some ⟨x.p,0,none⟩)]) W) :
 ∃ c1,CZ W c1 g { C with nd:=C.nd ++ [x.s] } (K ++ [x]) fo Am' cm' Ap' cp' At' ct' none 0 []∧∀ k,k<w.heap.size→c1 k=cc k:=by
 have hl1:(K ++ [x]).length=K.length+1:=by simp
 have e0:(List.range (K ++ [x]).length).flatMap (mdR fo)=(List.range K.length).flatMap (mdR fo) ++ mdR fo K.length:=by rw[hl1,List.range_succ,List.flatMap_append];simp
 have nb:∀ k,w5.heap.size≤k→w.heap.size≤k∧x.col k=0:=fun k hk=>⟨Nat.le_trans hb.size hk,by
  cases hc2:x.col k with
  | zero=>rfl
  | succ n=>have:=hn.lt k (by omega);omega⟩
 have mv:∀ k,(cc k=1∨w5.heap.size≤k)→cc k=1∨(w.heap.size≤k∧x.col k=0):=fun k e=>e.elim .inl (fun e=>.inr (nb k e))
 refine CZ.add (x:=x) hz hl ((Fr.of_below hb).trans h.fr) hx (hn.fr h.fr (fun k hk e=>by
  have e:cc k=1:=e
  have:=hz.lt k (by rw[e];decide)
  have:=hx k hk
  omega)) hc ?_ ?_ ?_ ?_ ?_ ?_ ?_
 ·rw[hl1];exact h.b
 ·rw[e0,hl1];exact h.r0
 ·rw[hl1,List.map_append];exact h.r2
 ·rw[hl1,List.map_append];exact h.r1
 ·rw[hl1];exact fun k hk=>mv k (h.m0 k hk)
 ·rw[hl1];exact fun k hk=>mv k (h.m2 k hk)
 ·rw[hl1];exact fun k hk=>mv k (h.m1 k hk)
end
structure TV where
 kd:Nat
 wh:Nat
 nn:Nat
 A:Option Addr
 c:Nat
 b:List Int
def tvL (x:TV):List Value:=[.int .u8 (x.kd:Int),.int .u8 (x.wh:Int),.int .u8 (x.nn:Int),.slice x.A x.b.length x.c]
theorem tvL_len (x:TV):(tvL x).length=4:=rfl
def manyB (ss:List TV):Bool:=decide (200<ss.length) || ss.any fun x=>decide (20<x.b.length)
theorem manyB_no {ss:List TV}(h:manyB ss=false):ss.length≤200∧∀ x∈ss,x.b.length≤20:=by
 unfold manyB at h
 simp only[Bool.or_eq_false_iff,decide_eq_false_iff_not,List.any_eq_false,decide_eq_true_eq] at h
 exact ⟨by omega,fun x hx=>by have:=h.2 x hx;omega⟩
theorem info48p:(Tryz.prog.info? 48).map (fun i=>(i.zero,i.size,i.bytes))=some (some (.agg #[.int .u8 0,.int .u8 0,.int .u8 0,.slice none 0 0]),4,32):=by kernel_rfl
theorem i48x:∃ i,Tryz.prog.info? 48=some i∧i.size=4:=by obtain ⟨i,h,_,h2,_⟩:=info_parts info48p;exact ⟨i,h,h2⟩
theorem ix41 {A:Option Addr}{n:Nat}(hA:Plain A n)(c k:Nat)(hk:k<n)(w:World):(Instr.indexAt 41 (.slice A n c) (.int .i64 (k:Int))).run Tryz.prog w=.ok (.pointer (some ⟨bk A,ofs A+k * 4,none⟩)) w:=by
 obtain ⟨i,hi,hi1⟩:=i48x
 exact run_indexAt2 (P:=Tryz.prog) Tryz.underlying41 hi hi1 hA c k hk w
theorem tv_at {w:World}{B:Nat→Prop}{A:Option Addr}{l:List TV}(h:Reads w B 4 A l.length (l.flatMap tvL)){i:Nat}{x:TV}(hx:l[i]?=some x)(j:Nat)(hj:j<4):w.cell? ⟨bk A,ofs A+i * 4+j,none⟩=(tvL x)[j]?:=by
 have hi:=(List.getElem?_eq_some_iff.1 hx).1
 rw[Nat.add_assoc,h.cell2 (i * 4+j) (by omega) (by omega)]
 exact flat_get tvL 4 tvL_len l i j x hx hj
theorem tv_all {w:World}{B:Nat→Prop}{A:Option Addr}{l:List TV}(h:Reads w B 4 A l.length (l.flatMap tvL)){i:Nat}{kd wh nn c:Nat}{xA:Option Addr}{b:List Int}(hx:l[i]?=some ⟨kd,wh,nn,xA,c,b⟩) :
 w.cell? ⟨bk A,ofs A+i * 4,none⟩=some (.int .u8 (kd:Int))∧w.cell? ⟨bk A,ofs A+i * 4+1,none⟩=some (.int .u8 (wh:Int))∧w.cell? ⟨bk A,ofs A+i * 4+2,none⟩=some (.int .u8 (nn:Int))∧w.cell? ⟨bk A,ofs A+i * 4+3,none⟩=some (.slice xA b.length c):=
 ⟨tv_at h hx 0 (by decide),tv_at h hx 1 (by decide),tv_at h hx 2 (by decide),tv_at h hx 3 (by decide)⟩
theorem many14 (w:World)(B:Nat→Prop)(A:Option Addr)(c:Nat)(ss:List TV)(h:Reads w B 4 A ss.length (ss.flatMap tvL)) :
 Calls Tryz.prog 14 #[.slice A ss.length c] w fun e w'=>e=.returned (.bool (manyB ss))∧Below w.heap.size w w':=by
 have HR:=ħ (h.old (by decide))
 have HM:=ħ (show manyB ss=(decide (200<ss.length) || ss.any fun x=>decide (20<x.b.length)) from rfl)
 clear h
 by_cases hl:200<ss.length
 ·have hl':(200:Int)<(ss.length:Int):=by omega
  have HE:=ħ (show manyB ss=true by rw[HM.out];simp[hl])
  go_enter Tryz.func14,Tryz.ntmps14
  go_wp2_with fail
  go_ret
  exact ⟨by rw[HE.out];rfl,Below.refl _ _⟩
 ·have hl':¬ (200:Int)<(ss.length:Int):=by omega
  have HPl:=ħ (HR.out.plain (by omega))
  go_enter Tryz.func14,Tryz.ntmps14
  go_wp2_with fail
  go_loopw [10] (fun vi wr=>∃ i:Nat,i≤ss.length∧vi=.int .i64 (i:Int)∧Below w.heap.size w wr∧(∀ k,k<i→∀ x,ss[k]?=some x→x.b.length≤20)) (fun vi _=>ss.length - (intOf vi).toNat)
  case atStart=>exact ⟨0,Nat.zero_le _,rfl,Below.refl _ _,fun k hk=>absurd hk (Nat.not_lt_zero k)⟩
  case round=>
   obtain ⟨i,hi,rfl,hb,hq⟩:=hrel
   have HB:=ħ hb
   have HQ:=ħ hq
   have hsz:=hb.size
   clear hb hq
   by_cases hin:i=ss.length
   ·have hlt:¬ ((i:Int)<(ss.length:Int)):=by omega
    have HE:=ħ (show manyB ss=false by
     rw[HM.out]
     simp only[Bool.or_eq_false_iff,decide_eq_false_iff_not,List.any_eq_false,decide_eq_true_eq]
     refine ⟨hl,fun x hx=>?_⟩
     obtain ⟨k,hk⟩:=List.getElem?_of_mem hx
     have:=HQ.out k (by rw[hin];exact (List.getElem?_eq_some_iff.1 hk).1) x hk
     omega)
    clear hin
    go_wp2_with fail
    go_ret
    exact ⟨by rw[HE.out];rfl,HB.out⟩
   ·have hlt:(i:Int)<(ss.length:Int):=by omega
    have hil:i<ss.length:=by omega
    obtain ⟨⟨kd,wh,nn,xA,xc,b⟩,hx⟩:∃ x,ss[i]?=some x:=⟨_,List.getElem?_eq_getElem hil⟩
    have HX:=ħ hx
    have hri:=HR.out.fr (Fr.of_below (S:=fun _=>False) HB.out) (fun _ _ e=>e)
    obtain ⟨y0,y1,y2,y3⟩:=tv_all hri hx
    have hix:=fun W=>ix41 HPl.out c i hil W
    clear hx hri
    by_cases hbl:20<b.length
    ·have hbl':(20:Int)<(b.length:Int):=by omega
     have HE:=ħ (show manyB ss=true by
      rw[HM.out]
      simp only[Bool.or_eq_true,List.any_eq_true,decide_eq_true_eq]
      exact .inr ⟨_,List.mem_of_getElem? HX.out,hbl⟩)
     go_wp2_with fail
     go_ret
     exact ⟨by rw[HE.out];rfl,HB.out.alloc HB.out.size _⟩
    ·have hbl':¬ (20:Int)<(b.length:Int):=by omega
     go_wp2_with fail
     refine ⟨⟨i+1,by omega,by go_num,HB.out.alloc HB.out.size _,fun k hk x hx=>?_⟩,by simp[intOf];omega⟩
     rcases Nat.lt_or_ge k i with h1 | h1
     ·exact HQ.out k h1 x hx
     ·have:k=i:=by omega
      subst this
      rw[HX.out] at hx
      injection hx with hx
      subst hx
      show b.length≤20
      omega
end Go.Proofs.YtdfobfjpkjddpaaGreat

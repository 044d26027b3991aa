import Derived.Test.YtdfobfjpkjddpaaGreatUG29
import Derived.Deep.RegionHeld3
set_option linter.unusedVariables false
set_option linter.unusedSimpArgs false
set_option maxRecDepth 10000
set_option maxHeartbeats 8000000
namespace Go.Proofs.YtdfobfjpkjddpaaGreat
open Go.RowKit Go.Own Go.Quo Go.Wire Go.Raft
attribute [local irreducible] Go.wpQuiet
theorem step15_2 (w:World)(cc:Nat→Nat)(g:Nat)(C:Cl)(fo:Ms)(h:CS w cc g C fo){c0:Mb}{G:Gh}{k:Nat}(hw:CW c0 k C)(hI:CInv c0 G C)(hc0:c0=⟨fo.o,fo.n⟩)(hk:k≤1400)(kd wh nn:Nat)(A:Option Addr)(b:List Int)(c:Nat)(hkd:kd<256)(hwh:wh<256)(hnn:nn<256)(hnd:0<C.nd.length∧C.nd.length≤9)(hr:kd % 8=2) :
 Calls Tryz.prog 15 #[.pointer (some ⟨g,0,none⟩),.agg (stC kd wh nn A b.length c)] w fun e w'=>e=.returned (.bool true)∧∃ c1,CB w cc g (C.step kd wh nn b) fo w' c1:=by
 obtain ⟨K,Am,cm,Ap,cp,At,ct,Al,cl,mv,hz⟩:=h
 have HKL:=ħ hz.nd_len
 have HML:=ħ hz.ms_len
 have hk9:K.length≤9:=by have:=HKL.out;omega
 have hk0:0<K.length:=by have:=HKL.out;omega
 have hmv:mv.length≤200:=by have:=HML.out;have:=hw.l;omega
 have K1:=ħ (CK.start (cs:=stC kd wh nn A b.length c) hz)
 have HLT:=ħ hz.lt
 have HW:=ħ hw
 have HTM:=ħ fun (i:Nat) (s:Nd) (hs:C.nd[i]?=some s) (hr:s.role=3)=>hI.tm hs hr
 have HND:=ħ hnd
 clear hz hw hnd hI
 obtain ⟨u,hu⟩:∃ u,u=wh % K.length:=⟨_,rfl⟩
 have HU:=ħ hu
 have hul:u<K.length:=by rw[hu];exact Nat.mod_lt _ hk0
 have hrm:Int.tmod (wh:Int) (K.length:Int)=(u:Int):=by rw[tmod_nat',hu]
 have hk0i:(0:Int)<(K.length:Int):=by omega
 have hk0n:¬ ((K.length:Int)=0):=by omega
 have hwh':IntKind.i64.wrap (wh:Int)=(wh:Int):=IntWalk.i64_in _ (by omega)
 have hu':IntKind.i64.wrap (u:Int)=(u:Int):=IntWalk.i64_in _ (by omega)
 have hr8:Int.tmod (kd:Int) 8=2:=by rw[show (8:Int)=((8:Nat):Int) from rfl,tmod_nat',hr];rfl
 obtain ⟨xq,hxq⟩:∃ x,K[u]?=some x:=⟨_,List.getElem?_eq_getElem hul⟩
 have HSTEP:=ħ (show C.nd[wh % C.nd.length]?=some xq.s∧wh % C.nd.length=u from by
  have h1:wh % C.nd.length=u:=by rw[hu,HKL.out]
  rw[h1,←K1.out.z.nd,List.getElem?_map,hxq]
  exact ⟨rfl,rfl⟩)
 have HXQ:=ħ hxq
 clear hu hxq
 go_enter Tryz.func15,Tryz.ntmps15
 go_upto_region 1 with fail
 generalize w.alloc (.cells (stC kd wh nn A b.length c) 48)=W1 at *
 have y0:W1.cell? ⟨w.heap.size,1,none⟩=some (.int .u8 (wh:Int)):=K1.out.k.cell 1
 have y1:=K1.out.z.x.2.2.2.1
 have y2:=K1.out.z.x.1
 have y3:=K1.out.k.lt
 go_quiet (fail)
 have K2:=ħ (K1.out.below (below_drewN (Below.refl _ _) nq))
 generalize W1.drewN nq=W2 at *
 clear y0 y1 y2 y3 K1
 obtain ⟨x0,xf,x1,x2,x3,x4,x5,x6⟩:=K2.out.z.x
 obtain ⟨q0,q1,q2⟩:=K2.out.k.facts
 clear hrm hwh'
 go_upto_if 29 with fail
 go_cut [6] (fun vx wx=>∃ ix:Nat,vx=.int .i64 (ix:Int)∧(0<mv.length→ix=nn % mv.length)∧CK w cc g C K fo Am cm Ap cp At ct Al cl mv w.heap.size (stC kd wh nn A b.length c) wx cc)
 case first=>
  by_cases hm0:0<mv.length
  ·obtain ⟨ix,hix⟩:∃ ix,ix=nn % mv.length:=⟨_,rfl⟩
   have HIX:=ħ hix
   have hixl:ix<mv.length:=by rw[hix];exact Nat.mod_lt _ hm0
   have hrm2:Int.tmod (nn:Int) (mv.length:Int)=(ix:Int):=by rw[tmod_nat',hix]
   have hm0i:(0:Int)<(mv.length:Int):=by omega
   have hm0n:¬ ((mv.length:Int)=0):=by omega
   have hnn':IntKind.i64.wrap (nn:Int)=(nn:Int):=IntWalk.i64_in _ (by omega)
   have hix':IntKind.i64.wrap (ix:Int)=(ix:Int):=IntWalk.i64_in _ (by omega)
   clear hix hr8
   go_upto_region 4 with fail
   go_quiet (fail)
   go_wp2_with fail
   go_meet
   exact ⟨ix,rfl,fun _=>HIX.out,K2.out.below (below_drewN (Below.refl _ _) _)⟩
  ·have hm0i:¬ (0:Int)<(mv.length:Int):=by omega
   clear hr8
   go_wp2_with fail
   go_meet
   exact ⟨0,rfl,fun h=>absurd h hm0,K2.out⟩
 case rest=>
  obtain ⟨ix,rfl,hixx,hk3⟩:=hcut
  have K3:=ħ hk3
  have HIX:=ħ hixx
  clear hk3 hixx K2 x0 xf x1 x2 x3 x4 x5 x6 q0 q1 q2
  obtain ⟨x0,xf,x1,x2,x3,x4,x5,x6⟩:=K3.out.z.x
  obtain ⟨q0,q1,q2⟩:=K3.out.k.facts
  go_upto_region 14 with fail
  clear hr8 hu'
  have HST:=ħ (show C.step kd wh nn b=C.cut (nn % C.ms.length) from by
   unfold Cl.step
   rw[HSTEP.out.1]
   simp only[hr])
  clear x0 xf x1 x2 x3 x4 x5 x6 q0 q1 q2 hk0i hk0n
  by_cases hm0:0<mv.length
  ·have hm0i:(0:Int)<(mv.length:Int):=by omega
   have HE:=ħ (show ix=nn % C.ms.length by rw[HIX.out hm0,HML.out])
   have him:ix<mv.length:=by rw[HIX.out hm0];exact Nat.mod_lt _ hm0
   have HZ1:=ħ K3.out.z
   obtain ⟨x0,xf,x1,x2,x3,x4,x5,x6⟩:=K3.out.z.x
   clear x1 x2 x3 x5 x6
   have hcap:=own_cap HZ1.out.ol
   obtain ⟨j,hj⟩:∃ j:Nat,j=ix+1:=⟨_,rfl⟩
   have HJ:=ħ hj
   have hw1:IntKind.i64.wrap ((ix:Int)+1)=(j:Int):=by rw[IntWalk.i64_in _ (by omega)];omega
   have r1:=fun W=>run_lo53 (A:=Al) (n:=mv.length) (c:=cl) (k:=j) (by omega) W
   have r2:=fun W=>run_lo53b (A:=Al) (n:=mv.length) (c:=cl) (k:=j) (by omega) W
   have r3:=fun W=>run_hi53 (A:=Al) (n:=mv.length) (c:=cl) (k:=ix) (by omega) W
   have r4:=fun W=>run_hi53b (A:=Al) (n:=mv.length) (c:=cl) (k:=ix) (by omega) W
   have HHd:=ħ (HZ1.out.head (i:=ix) (by omega))
   have HTl:=ħ (HZ1.out.tail (i:=j) (by omega))
   have g0:=HZ1.out.b
   obtain ⟨n,hn⟩:∃ n,n=mv.length - j:=⟨_,rfl⟩
   have HNN:=ħ hn
   rw[←hn] at r1 r2 HTl
   have hnb:n≤200:=by omega
   have hgs:g<wc.heap.size:=g0.lt
   clear hn hj
   go_upto_region 15 with fail
   go_region_law (first
    | (refine step_append_any _ (by rfl) (.tmp 90) (.tmp 96) _ (by rfl) wc.heap.size 99 zM 9 88 Tryz.underlying53 info99 rfl (by omega) _ 0 [] (by rfl) (by exact own_z (Blk.new wc 99 #[]) (Nat.le_refl _)) (fun k=>cc k=1) Al ix cl ((mv.take ix).flatMap mvL) (by rfl) (by exact HHd.out.alloc (.cells #[] 99)) (mv_one _) (by simp only[maxLen];omega) (by omega) (by simp) ?_
       intro A5 c5 w5 hown5 hgr5 hat5
       simp only[Nat.zero_add,List.nil_append] at hown5 hat5
       have b5:=(g0.alloc (.cells #[] 99)).drew.grown hgr5 (fun e=>by have e':some g=some wc.heap.size:=e;injection e' with e';omega)
       have t5:=(HTl.out.alloc (.cells #[] 99)).drew.grown hgr5 (fun k hk e=>by have e':some k=some wc.heap.size:=e;injection e' with e';have:=HZ1.out.lt k (by rw[hk];decide);omega)
       have f5:Fr (fun _=>False) wc w5:=(((Fr.refl _ wc).alloc (.cells #[] 99)).drew).grown hgr5 (fun k hk=>by have e':some wc.heap.size=some k:=hk;injection e' with e';right;omega)
       have l5:=b5.lt
       have q5:w5.cell? ⟨g,3,none⟩=some (.slice Al mv.length cl):=b5.cell 3)
    | (refine step_append_any _ (by rfl) (.tmp 97) (.tmp 104) _ (by rfl) wc.heap.size 99 zM 9 88 Tryz.underlying53 info99 rfl (by omega) _ ix _ (by rfl) (by exact hown5) (fun k=>cc k=1) (cutM Al cl j) n (cl - j) ((mv.drop j).flatMap mvL) (by rfl) (by exact t5) (mv_one _) (by simp only[maxLen];omega) (by omega) (by have:=f5.size;simp;omega) ?_
       intro A6 c6 w6 hown6 hgr6 hat6
       have b6:=b5.grown hgr6 (fun e=>by have:=(hown5.lt g e.symm).1;omega)
       have f6:=f5.grown hgr6 (fun k hk=>by right;exact (hown5.lt k hk).1)
       obtain ⟨z0,z1,z2⟩:=b6.facts))
   all_goals
    go_wp2_with fail
    go_ret
    obtain rfl:=HJ.out
    obtain ⟨c7,h7⟩:=CZ.cut HZ1.out him (f6.mono (fun _ _ h=>h.elim)) (by rw[List.length_append,List.length_take,List.length_drop,HNN.out];omega) (own_base hown6 (Nat.zero_le _)) (fun k hk=>(hown6.lt k hk).1)
    refine ⟨rfl,c7,?_⟩
    rw[HST.out,←HE.out]
    exact K3.out.cb.trans h7.cb
  ·have hm0i:¬ (0:Int)<(mv.length:Int):=by omega
   have HE:=ħ (show C.cut (nn % C.ms.length)=C from by
    unfold Cl.cut
    rw[List.eraseIdx_of_length_le (by have:=HML.out;omega)])
   obtain ⟨x0,xf,x1,x2,x3,x4,x5,x6⟩:=K3.out.z.x
   clear x1 x2 x3 x5 x6
   go_wp2_with fail
   go_ret
   refine ⟨rfl,cc,?_⟩
   rw[HST.out,HE.out]
   exact K3.out.cb
theorem step15_3 (w:World)(cc:Nat→Nat)(g:Nat)(C:Cl)(fo:Ms)(h:CS w cc g C fo){c0:Mb}{G:Gh}{k:Nat}(hw:CW c0 k C)(hI:CInv c0 G C)(hc0:c0=⟨fo.o,fo.n⟩)(hk:k≤1400)(kd wh nn:Nat)(A:Option Addr)(b:List Int)(c:Nat)(hkd:kd<256)(hwh:wh<256)(hnn:nn<256)(hnd:0<C.nd.length∧C.nd.length≤9)(hr:kd % 8=3) :
 Calls Tryz.prog 15 #[.pointer (some ⟨g,0,none⟩),.agg (stC kd wh nn A b.length c)] w fun e w'=>e=.returned (.bool true)∧∃ c1,CB w cc g (C.step kd wh nn b) fo w' c1:=by
 obtain ⟨K,Am,cm,Ap,cp,At,ct,Al,cl,mv,hz⟩:=h
 have HKL:=ħ hz.nd_len
 have HML:=ħ hz.ms_len
 have hk9:K.length≤9:=by have:=HKL.out;omega
 have hk0:0<K.length:=by have:=HKL.out;omega
 have hmv:mv.length≤200:=by have:=HML.out;have:=hw.l;omega
 have K1:=ħ (CK.start (cs:=stC kd wh nn A b.length c) hz)
 have HLT:=ħ hz.lt
 have HW:=ħ hw
 have HTM:=ħ fun (i:Nat) (s:Nd) (hs:C.nd[i]?=some s) (hr:s.role=3)=>hI.tm hs hr
 have HND:=ħ hnd
 clear hz hw hnd hI
 obtain ⟨u,hu⟩:∃ u,u=wh % K.length:=⟨_,rfl⟩
 have HU:=ħ hu
 have hul:u<K.length:=by rw[hu];exact Nat.mod_lt _ hk0
 have hrm:Int.tmod (wh:Int) (K.length:Int)=(u:Int):=by rw[tmod_nat',hu]
 have hk0i:(0:Int)<(K.length:Int):=by omega
 have hk0n:¬ ((K.length:Int)=0):=by omega
 have hwh':IntKind.i64.wrap (wh:Int)=(wh:Int):=IntWalk.i64_in _ (by omega)
 have hu':IntKind.i64.wrap (u:Int)=(u:Int):=IntWalk.i64_in _ (by omega)
 have hr8:Int.tmod (kd:Int) 8=3:=by rw[show (8:Int)=((8:Nat):Int) from rfl,tmod_nat',hr];rfl
 obtain ⟨xq,hxq⟩:∃ x,K[u]?=some x:=⟨_,List.getElem?_eq_getElem hul⟩
 have HSTEP:=ħ (show C.nd[wh % C.nd.length]?=some xq.s∧wh % C.nd.length=u from by
  have h1:wh % C.nd.length=u:=by rw[hu,HKL.out]
  rw[h1,←K1.out.z.nd,List.getElem?_map,hxq]
  exact ⟨rfl,rfl⟩)
 have HXQ:=ħ hxq
 clear hu hxq
 go_enter Tryz.func15,Tryz.ntmps15
 go_upto_region 1 with fail
 generalize w.alloc (.cells (stC kd wh nn A b.length c) 48)=W1 at *
 have y0:W1.cell? ⟨w.heap.size,1,none⟩=some (.int .u8 (wh:Int)):=K1.out.k.cell 1
 have y1:=K1.out.z.x.2.2.2.1
 have y2:=K1.out.z.x.1
 have y3:=K1.out.k.lt
 go_quiet (fail)
 have K2:=ħ (K1.out.below (below_drewN (Below.refl _ _) nq))
 generalize W1.drewN nq=W2 at *
 clear y0 y1 y2 y3 K1
 obtain ⟨x0,xf,x1,x2,x3,x4,x5,x6⟩:=K2.out.z.x
 obtain ⟨q0,q1,q2⟩:=K2.out.k.facts
 clear hrm hwh'
 go_upto_if 29 with fail
 go_cut [6] (fun vx wx=>∃ ix:Nat,vx=.int .i64 (ix:Int)∧(0<mv.length→ix=nn % mv.length)∧CK w cc g C K fo Am cm Ap cp At ct Al cl mv w.heap.size (stC kd wh nn A b.length c) wx cc)
 case first=>
  by_cases hm0:0<mv.length
  ·obtain ⟨ix,hix⟩:∃ ix,ix=nn % mv.length:=⟨_,rfl⟩
   have HIX:=ħ hix
   have hixl:ix<mv.length:=by rw[hix];exact Nat.mod_lt _ hm0
   have hrm2:Int.tmod (nn:Int) (mv.length:Int)=(ix:Int):=by rw[tmod_nat',hix]
   have hm0i:(0:Int)<(mv.length:Int):=by omega
   have hm0n:¬ ((mv.length:Int)=0):=by omega
   have hnn':IntKind.i64.wrap (nn:Int)=(nn:Int):=IntWalk.i64_in _ (by omega)
   have hix':IntKind.i64.wrap (ix:Int)=(ix:Int):=IntWalk.i64_in _ (by omega)
   clear hix hr8
   go_upto_region 4 with fail
   go_quiet (fail)
   go_wp2_with fail
   go_meet
   exact ⟨ix,rfl,fun _=>HIX.out,K2.out.below (below_drewN (Below.refl _ _) _)⟩
  ·have hm0i:¬ (0:Int)<(mv.length:Int):=by omega
   clear hr8
   go_wp2_with fail
   go_meet
   exact ⟨0,rfl,fun h=>absurd h hm0,K2.out⟩
 case rest=>
  obtain ⟨ix,rfl,hixx,hk3⟩:=hcut
  have K3:=ħ hk3
  have HIX:=ħ hixx
  clear hk3 hixx K2 x0 xf x1 x2 x3 x4 x5 x6 q0 q1 q2
  obtain ⟨x0,xf,x1,x2,x3,x4,x5,x6⟩:=K3.out.z.x
  obtain ⟨q0,q1,q2⟩:=K3.out.k.facts
  go_upto_region 17 with fail
  clear hr8 hu'
  have HST:=ħ (show C.step kd wh nn b=(match C.ms[nn % C.ms.length]? with | none=>C | some m=>C.send [m]) from by
   unfold Cl.step
   rw[HSTEP.out.1]
   simp only[hr]
   cases C.ms[nn % C.ms.length]? <;> rfl)
  clear x0 xf x1 x2 x3 x4 x5 x6 q0 q1 q2 hk0i hk0n
  by_cases hm0:0<mv.length
  ·have hm0i:(0:Int)<(mv.length:Int):=by omega
   have HE:=ħ (show ix=nn % C.ms.length by rw[HIX.out hm0,HML.out])
   have him:ix<mv.length:=by rw[HIX.out hm0];exact Nat.mod_lt _ hm0
   obtain ⟨⟨kind,frm,tt,term,prev,pterm,commit,granted,xA,xc,es⟩,hx⟩:∃ x,mv[ix]?=some x:=⟨_,List.getElem?_eq_getElem him⟩
   have hxm:C.ms[ix]?=some (MV.m ⟨kind,frm,tt,term,prev,pterm,commit,granted,xA,xc,es⟩):=by rw[←K3.out.z.ms,List.getElem?_map,hx];rfl
   have HSX:=ħ (show C.step kd wh nn b=C.send [MV.m ⟨kind,frm,tt,term,prev,pterm,commit,granted,xA,xc,es⟩] by rw[HST.out,←HE.out,hxm])
   obtain ⟨hE,hcp⟩:=K3.out.z.mb _ (List.mem_of_getElem? hx)
   obtain ⟨hmw,hel⟩:=HW.out.m _ (List.mem_of_getElem? hxm)
   have hel':es.length≤16:=by have h1:(es.map EV.e).length≤16:=hel;rwa [List.length_map] at h1
   obtain ⟨y0,y1,y2,y3,y4,y5,y6,y7,y8⟩:=mv_all K3.out.z.src hx
   have hPl:=(K3.out.z.src.plain (by omega))
   obtain ⟨ti,hti,htz⟩:=i99x
   have hix:=fun W=>run_indexAt2 (P:=Tryz.prog) Tryz.underlying53 hti htz hPl cl ix him W
   have H40:=ħ (show Calls Tryz.prog 40 #[.agg (mvC kind frm tt term prev pterm commit granted xA es.length xc)] wc _ from copied40 wc _ ⟨kind,frm,tt,term,prev,pterm,commit,granted,xA,xc,es⟩ hE (by show es.length≤100;omega) (fun x hx=>by have:=(hmw.e x.e (List.mem_map_of_mem hx)).2.2.2.2.1;show x.b.length≤1000;have e:x.e.body.length≤200:=this;exact Nat.le_trans e (by decide)))
   obtain ⟨x0,xf,x1,x2,x3,x4,x5,x6⟩:=K3.out.z.x
   have hcl:C.ms.length≤200:=HW.out.l
   clear x1 x2 x3 x5 x6 hE hcp hmw hel hx hxm
   have H38:=ħ fun W (hb:Below wc.heap.size wc W) A5 x5 (m5:Msgs W (fun k=>wc.heap.size≤k) A5 [x5])=>send38 W cc g C K fo Am cm Ap cp At ct Al cl mv (K3.out.z.fr (S:=fun _=>False) (Fr.of_below hb) (fun _ _ e=>e)) (fun k=>wc.heap.size≤k) A5 1 [x5] m5 (fun k hk=>by
    cases hc:cc k with
    | zero=>rfl
    | succ n=>have:=K3.out.z.lt k (by omega);omega) hcl (show (1:Nat)≤1000 by decide)
   go_wp2_with (first
    | (go_at_call 40;((with_reducible refine H40.out.mono ?_);rintro e w5 ⟨A5,c5,e5,rfl,he5,hE5,hc5,b5⟩;have HE5:=ħ he5;have b6:Below wc.heap.size wc (w5.alloc (.cells (mvC kind frm tt term prev pterm commit granted A5 e5.length c5) 99)):=b5.alloc b5.size _;have m6:Msgs (w5.alloc (.cells (mvC kind frm tt term prev pterm commit granted A5 e5.length c5) 99)) (fun k=>wc.heap.size≤k) (some ⟨w5.heap.size,0,none⟩) [⟨kind,frm,tt,term,prev,pterm,commit,granted,A5,c5,e5⟩]:=⟨(Reads.newS w5 (mvL ⟨kind,frm,tt,term,prev,pterm,commit,granted,A5,c5,e5⟩) 99 (0,0) 1 9 rfl _ rfl).more (fun k hk=>by have:=b5.size;omega),fun x hx=>by { rw[List.mem_singleton] at hx;subst hx;exact ⟨hE5.fr (S:=fun _=>False) (Fr.of_below ((Below.refl _ _).alloc (Nat.le_refl _) _)) (fun _ _ e=>e),hc5⟩ }⟩;have H38b:=ħ (show Calls Tryz.prog 38 #[.pointer (some ⟨g,0,none⟩),.slice (some ⟨w5.heap.size,0,none⟩) 1 1] (w5.alloc (.cells (mvC kind frm tt term prev pterm commit granted A5 e5.length c5) 99)) _ from H38.out _ b6 _ _ m6);have HB6:=ħ b6;clear he5 hE5 b5 b6 m6))
    | (go_at_call 38;((with_reducible refine H38b.out.mono ?_);rintro e w8 ⟨rfl,c8,hls8⟩;have HL8:=ħ hls8;clear hls8)))
   go_ret
   refine ⟨rfl,c8,?_⟩
   rw[HSX.out]
   have e9:MV.m ⟨kind,frm,tt,term,prev,pterm,commit,granted,xA,xc,es⟩=MV.m ⟨kind,frm,tt,term,prev,pterm,commit,granted,A5,c5,e5⟩:=by
    simp only[MV.m]
    rw[HE5.out]
   rw[e9]
   exact ((K3.out.below HB6.out).cb).trans HL8.out.cb
  ·have hm0i:¬ (0:Int)<(mv.length:Int):=by omega
   have HE:=ħ (show C.step kd wh nn b=C from by
    rw[HST.out,List.getElem?_eq_none (by have:=HML.out;omega)])
   obtain ⟨x0,xf,x1,x2,x3,x4,x5,x6⟩:=K3.out.z.x
   clear x1 x2 x3 x5 x6
   go_wp2_with fail
   go_ret
   refine ⟨rfl,cc,?_⟩
   rw[HE.out]
   exact K3.out.cb
theorem step15_4 (w:World)(cc:Nat→Nat)(g:Nat)(C:Cl)(fo:Ms)(h:CS w cc g C fo){c0:Mb}{G:Gh}{k:Nat}(hw:CW c0 k C)(hI:CInv c0 G C)(hc0:c0=⟨fo.o,fo.n⟩)(hk:k≤1400)(kd wh nn:Nat)(A:Option Addr)(b:List Int)(c:Nat)(B:Nat→Prop)(hb:Reads w B 1 A b.length (bys b))(hBc:∀ k,B k→cc k=0)(hbb:b.length≤200∧Bytes b)(hkd:kd<256)(hwh:wh<256)(hnn:nn<256)(hnd:0<C.nd.length∧C.nd.length≤9)(hr:kd % 8=4) :
 Calls Tryz.prog 15 #[.pointer (some ⟨g,0,none⟩),.agg (stC kd wh nn A b.length c)] w fun e w'=>e=.returned (.bool true)∧∃ c1,CB w cc g (C.step kd wh nn b) fo w' c1:=by
 obtain ⟨K,Am,cm,Ap,cp,At,ct,Al,cl,mv,hz⟩:=h
 have HKL:=ħ hz.nd_len
 have HML:=ħ hz.ms_len
 have hk9:K.length≤9:=by have:=HKL.out;omega
 have hk0:0<K.length:=by have:=HKL.out;omega
 have hmv:mv.length≤200:=by have:=HML.out;have:=hw.l;omega
 have K1:=ħ (CK.start (cs:=stC kd wh nn A b.length c) hz)
 have HLT:=ħ hz.lt
 have HW:=ħ hw
 have HTM:=ħ fun (i:Nat) (s:Nd) (hs:C.nd[i]?=some s) (hr:s.role=3)=>hI.tm hs hr
 have HND:=ħ hnd
 clear hz hw hnd hI
 obtain ⟨u,hu⟩:∃ u,u=wh % K.length:=⟨_,rfl⟩
 have HU:=ħ hu
 have hul:u<K.length:=by rw[hu];exact Nat.mod_lt _ hk0
 have hrm:Int.tmod (wh:Int) (K.length:Int)=(u:Int):=by rw[tmod_nat',hu]
 have hk0i:(0:Int)<(K.length:Int):=by omega
 have hk0n:¬ ((K.length:Int)=0):=by omega
 have hwh':IntKind.i64.wrap (wh:Int)=(wh:Int):=IntWalk.i64_in _ (by omega)
 have hu':IntKind.i64.wrap (u:Int)=(u:Int):=IntWalk.i64_in _ (by omega)
 have hr8:Int.tmod (kd:Int) 8=4:=by rw[show (8:Int)=((8:Nat):Int) from rfl,tmod_nat',hr];rfl
 obtain ⟨xq,hxq⟩:∃ x,K[u]?=some x:=⟨_,List.getElem?_eq_getElem hul⟩
 have HSTEP:=ħ (show C.nd[wh % C.nd.length]?=some xq.s∧wh % C.nd.length=u from by
  have h1:wh % C.nd.length=u:=by rw[hu,HKL.out]
  rw[h1,←K1.out.z.nd,List.getElem?_map,hxq]
  exact ⟨rfl,rfl⟩)
 have HXQ:=ħ hxq
 clear hu hxq
 go_enter Tryz.func15,Tryz.ntmps15
 go_upto_region 1 with fail
 generalize w.alloc (.cells (stC kd wh nn A b.length c) 48)=W1 at *
 have y0:W1.cell? ⟨w.heap.size,1,none⟩=some (.int .u8 (wh:Int)):=K1.out.k.cell 1
 have y1:=K1.out.z.x.2.2.2.1
 have y2:=K1.out.z.x.1
 have y3:=K1.out.k.lt
 go_quiet (fail)
 have K2:=ħ (K1.out.below (below_drewN (Below.refl _ _) nq))
 generalize W1.drewN nq=W2 at *
 clear y0 y1 y2 y3 K1
 obtain ⟨x0,xf,x1,x2,x3,x4,x5,x6⟩:=K2.out.z.x
 obtain ⟨q0,q1,q2⟩:=K2.out.k.facts
 clear hrm hwh'
 go_upto_if 29 with fail
 go_cut [6] (fun vx wx=>∃ ix:Nat,vx=.int .i64 (ix:Int)∧(0<mv.length→ix=nn % mv.length)∧CK w cc g C K fo Am cm Ap cp At ct Al cl mv w.heap.size (stC kd wh nn A b.length c) wx cc)
 case first=>
  by_cases hm0:0<mv.length
  ·obtain ⟨ix,hix⟩:∃ ix,ix=nn % mv.length:=⟨_,rfl⟩
   have HIX:=ħ hix
   have hixl:ix<mv.length:=by rw[hix];exact Nat.mod_lt _ hm0
   have hrm2:Int.tmod (nn:Int) (mv.length:Int)=(ix:Int):=by rw[tmod_nat',hix]
   have hm0i:(0:Int)<(mv.length:Int):=by omega
   have hm0n:¬ ((mv.length:Int)=0):=by omega
   have hnn':IntKind.i64.wrap (nn:Int)=(nn:Int):=IntWalk.i64_in _ (by omega)
   have hix':IntKind.i64.wrap (ix:Int)=(ix:Int):=IntWalk.i64_in _ (by omega)
   clear hix hr8
   go_upto_region 4 with fail
   go_quiet (fail)
   go_wp2_with fail
   go_meet
   exact ⟨ix,rfl,fun _=>HIX.out,K2.out.below (below_drewN (Below.refl _ _) _)⟩
  ·have hm0i:¬ (0:Int)<(mv.length:Int):=by omega
   clear hr8
   go_wp2_with fail
   go_meet
   exact ⟨0,rfl,fun h=>absurd h hm0,K2.out⟩
 case rest=>
  obtain ⟨ix,rfl,hixx,hk3⟩:=hcut
  have K3:=ħ hk3
  have HIX:=ħ hixx
  clear hk3 hixx K2 x0 xf x1 x2 x3 x4 x5 x6 q0 q1 q2
  obtain ⟨x0,xf,x1,x2,x3,x4,x5,x6⟩:=K3.out.z.x
  obtain ⟨q0,q1,q2⟩:=K3.out.k.facts
  go_upto_region 20 with fail
  clear hr8 hu'
  obtain ⟨xp,xv,xj,xl,xf',xcol,xs⟩:=xq
  have hxs:C.nd[u]?=some xs:=by rw[←HSTEP.out.2];exact HSTEP.out.1
  have HNW:=ħ (HW.out.n u xs hxs)
  have htm:=HTM.out u xs hxs
  have HST:=ħ (show C.step kd wh nn b=C.put u (xs.propose b) from by
   unfold Cl.step
   rw[HSTEP.out.1,HSTEP.out.2]
   simp only[hr])
  clear x0 xf x1 x2 x3 x4 x5 x6 q0 q1 q2 hk0i hk0n
  obtain ⟨hns,hcl,hcl2⟩:=K3.out.z.n u _ HXQ.out
  obtain ⟨x0,xf,x1,x2,x3,x4,x5,x6⟩:=K3.out.z.x
  clear x0 x1 x2 x3 x4 x5 x6
  have hPp:=((Reads.of_own K3.out.z.op).plain (by omega))
  have hixp:=fun W=>ix51 hPp cp u hul W
  have HB3:=ħ (hb.fr K3.out.fr (fun k hk e=>e.1 (hBc k hk)))
  have hbl:=hbb.1
  have HNS:=ħ hns
  have HCN:=ħ hcl
  have H24:=ħ fun W (hW:Below wc.heap.size wc W) A5 c5 (h5:Reads W (fun k=>wc.heap.size≤k) 1 A5 b.length (bys b))=>(show Calls Tryz.prog 24 #[.pointer (some ⟨xp,0,none⟩),.slice A5 b.length c5] W (PP W xcol xp xv xj xl xf' (xs.propose b) (prN xs).2 (prN xs).1) from propose24 W xcol xp xv xj xl xf' xs (HNS.out.below hW) HCN.out HNW.out.w (by omega) htm A5 c5 b _ h5 (fun k hk=>by
   cases hx2:xcol k with
   | zero=>rfl
   | succ n=>have:=HNS.out.lt k (by show xcol k≠0;omega);omega) hbb)
  have HKS:=ħ fun W c2 C2 K2 A' c' mv' (z:CZ W c2 g C2 K2 fo Am cm Ap cp At ct A' c' mv') (e2:K2.length=K.length) (e3:(K2.map fun x=>(Value.pointer (some ⟨x.p,0,none⟩)))[u]?=some (.pointer (some ⟨xp,0,none⟩))) (bx:Blk W w.heap.size 48 (stC kd wh nn A b.length c))=>(show (W.cell? ⟨g,1,none⟩=some (.slice Ap K.length cp))∧(W.cell? ⟨bk Ap,ofs Ap+u,none⟩=some (.pointer (some ⟨xp,0,none⟩)))∧(W.cell? ⟨w.heap.size,3,none⟩=some (.slice A b.length c)) from
   ⟨by rw[z.x.2.2.2.1,e2],(by
    have h1:=Reads.of_own z.op
    rw[(h1.cell2 u (by omega) (by omega))]
    exact e3),bx.cell 3⟩)
  have hp3:(K.map fun x=>(Value.pointer (some ⟨x.p,0,none⟩)))[u]?=some (.pointer (some ⟨xp,0,none⟩)):=by rw[List.getElem?_map,HXQ.out];rfl
  have S5:=HKS.out wc cc _ K _ _ _ K3.out.z rfl hp3 K3.out.k
  have Ka:=K3.out.below ((Below.refl wc.heap.size wc).drew.alloc (Nat.le_refl _) (.cells #[] 5))
  have Sa:=HKS.out _ cc _ K _ _ _ Ka.z rfl hp3 Ka.k
  have HSL:=ħ (KP.propose xs b).2.1
  have HCL:=ħ HW.out.l
  have HP3:=ħ hp3
  clear hns hcl hcl2 hp3 Ka htm hbb hb hBc
  generalize xs.propose b=R at *
  go_region_held3 (fun W=>(W.cell? ⟨g,1,none⟩=some (.slice Ap K.length cp))∧(W.cell? ⟨bk Ap,ofs Ap+u,none⟩=some (.pointer (some ⟨xp,0,none⟩)))∧(W.cell? ⟨w.heap.size,3,none⟩=some (.slice A b.length c))) (first | assumption | exact S5 | exact Sa) (first
   | (refine step_append_any _ (by rfl) (.tmp 137) (.tmp 139) _ (by rfl) wc.heap.size 5 (.int .u8 0) 1 1 Tryz.underlying46 info5 rfl (by omega) _ 0 [] (by rfl) (by exact own_z (Blk.new wc 5 #[]) (Nat.le_refl _)) B A b.length c (bys b) (by rfl) (by exact HB3.out.alloc (.cells #[] 5)) (bys_one b) (by simp only[maxLen];omega) (by omega) (by simp) ?_
      intro A5 c5 w5 hown5 hgr5 hat5
      simp only[Nat.zero_add,List.nil_append] at hown5 hat5
      have B5:Below wc.heap.size wc w5:=(((Below.refl wc.heap.size wc).drew.alloc (Nat.le_refl _) (.cells #[] 5))).grown hgr5 (by simp) (fun g hg=>by have e:some wc.heap.size=some g:=hg;injection e with e;omega)
      have K5:=ħ (K3.out.below B5)
      have S6:=HKS.out w5 cc _ K _ _ _ K5.out.z rfl HP3.out K5.out.k
      have H24a:=ħ (H24.out w5 B5 A5 c5 ((Reads.of_own hown5).more (fun k hk=>(hown5.lt k hk).1)))
      clear hown5 hgr5 hat5 B5)
   | (((with_reducible refine H24a.out.mono ?_);rintro e w6 ⟨A6,c6,ms6,col6,rfl,hm6,hM6,hb6,hc6⟩;obtain ⟨c7,hz7,ag7,fr7,z7⟩:=CB.node K5.out.z HXQ.out (by omega) hb6 hc6;have S7:=HKS.out w6 c7 _ _ _ _ _ hz7 List.length_set (by rw[List.map_set];exact set_same HP3.out) (K5.out.k.fr fr7 (fun e=>e.1 K5.out.zb));have hms6:ms6.length≤1000:=by { have h1:=HSL.out;rw[←hm6,List.length_map] at h1;omega };have H38:=ħ (send38 w6 c7 g _ _ fo Am cm Ap cp At ct _ _ _ hz7 _ A6 c6 ms6 hM6 (fun k hk=>z7 k hk.1 hk.2) HCL.out hms6);have CB7:=ħ (show CB w5 cc g _ fo w6 c7 from ⟨⟨_,_,_,_,_,_,_,_,_,_,hz7⟩,ag7,fr7⟩);have HM6:=ħ hm6;clear hz7 hM6 hb6 hc6 z7 hm6)))
  all_goals
   go_wp2_with (go_at_call 38;((with_reducible refine H38.out.mono ?_);rintro e w8 ⟨rfl,c8,hls8⟩;have HL8:=ħ hls8;clear hls8))
   go_ret
   refine ⟨rfl,c8,?_⟩
   have e9:C.put u R=Cl.send { nd:=C.nd.set u R.1,ms:=C.ms,now:=C.now } (ms6.map MV.m):=by rw[HM6.out];rfl
   rw[HST.out,e9]
   exact ((K5.out.cb).trans CB7.out).trans HL8.out.cb
theorem bit_dec:∀ n:Fin 256,∀ i:Fin 9,bits .and .u8 ((n.1 / 2 ^ i.1:Nat):Int) 1=if n.1.testBit i.1=true then 1 else 0:=by decide +kernel
theorem bit_at {n i:Nat}(h:n<256)(hi:i<9):bits .and .u8 ((n / 2 ^ i:Nat):Int) 1=if n.testBit i=true then 1 else 0:=bit_dec ⟨n,h⟩ ⟨i,hi⟩
theorem bits_succ (i N:Nat):Cl.bits (i+1) N=Cl.bits i N ++ (if N.testBit i=true then [(i:Int)] else []):=by
 unfold Cl.bits
 rw[List.range_succ,List.filter_append,List.map_append]
 congr 1
 by_cases h:N.testBit i=true
 ·rw[if_pos h,List.filter_cons_of_pos h];rfl
 ·rw[if_neg h,List.filter_cons_of_neg h];rfl
theorem bits_len (i N:Nat):(Cl.bits i N).length≤i:=by
 unfold Cl.bits
 rw[List.length_map]
 exact Nat.le_trans (List.length_filter_le _ _) (Nat.le_of_eq List.length_range)
theorem step15_5 (w:World)(cc:Nat→Nat)(g:Nat)(C:Cl)(fo:Ms)(h:CS w cc g C fo){c0:Mb}{G:Gh}{k:Nat}(hw:CW c0 k C)(hI:CInv c0 G C)(hc0:c0=⟨fo.o,fo.n⟩)(hk:k≤1400)(kd wh nn:Nat)(A:Option Addr)(b:List Int)(c:Nat)(hkd:kd<256)(hwh:wh<256)(hnn:nn<256)(hnd:0<C.nd.length∧C.nd.length≤9)(hr:kd % 8=5) :
 Calls Tryz.prog 15 #[.pointer (some ⟨g,0,none⟩),.agg (stC kd wh nn A b.length c)] w fun e w'=>e=.returned (.bool true)∧∃ c1,CB w cc g (C.step kd wh nn b) fo w' c1:=by
 obtain ⟨K,Am,cm,Ap,cp,At,ct,Al,cl,mv,hz⟩:=h
 have HKL:=ħ hz.nd_len
 have HML:=ħ hz.ms_len
 have hk9:K.length≤9:=by have:=HKL.out;omega
 have hk0:0<K.length:=by have:=HKL.out;omega
 have hmv:mv.length≤200:=by have:=HML.out;have:=hw.l;omega
 have K1:=ħ (CK.start (cs:=stC kd wh nn A b.length c) hz)
 have HLT:=ħ hz.lt
 have HW:=ħ hw
 have HTM:=ħ fun (i:Nat) (s:Nd) (hs:C.nd[i]?=some s) (hr:s.role=3)=>hI.tm hs hr
 have HND:=ħ hnd
 clear hz hw hnd hI
 obtain ⟨u,hu⟩:∃ u,u=wh % K.length:=⟨_,rfl⟩
 have HU:=ħ hu
 have hul:u<K.length:=by rw[hu];exact Nat.mod_lt _ hk0
 have hrm:Int.tmod (wh:Int) (K.length:Int)=(u:Int):=by rw[tmod_nat',hu]
 have hk0i:(0:Int)<(K.length:Int):=by omega
 have hk0n:¬ ((K.length:Int)=0):=by omega
 have hwh':IntKind.i64.wrap (wh:Int)=(wh:Int):=IntWalk.i64_in _ (by omega)
 have hu':IntKind.i64.wrap (u:Int)=(u:Int):=IntWalk.i64_in _ (by omega)
 have hr8:Int.tmod (kd:Int) 8=5:=by rw[show (8:Int)=((8:Nat):Int) from rfl,tmod_nat',hr];rfl
 obtain ⟨xq,hxq⟩:∃ x,K[u]?=some x:=⟨_,List.getElem?_eq_getElem hul⟩
 have HSTEP:=ħ (show C.nd[wh % C.nd.length]?=some xq.s∧wh % C.nd.length=u from by
  have h1:wh % C.nd.length=u:=by rw[hu,HKL.out]
  rw[h1,←K1.out.z.nd,List.getElem?_map,hxq]
  exact ⟨rfl,rfl⟩)
 have HXQ:=ħ hxq
 clear hu hxq
 go_enter Tryz.func15,Tryz.ntmps15
 go_upto_region 1 with fail
 generalize w.alloc (.cells (stC kd wh nn A b.length c) 48)=W1 at *
 have y0:W1.cell? ⟨w.heap.size,1,none⟩=some (.int .u8 (wh:Int)):=K1.out.k.cell 1
 have y1:=K1.out.z.x.2.2.2.1
 have y2:=K1.out.z.x.1
 have y3:=K1.out.k.lt
 go_quiet (fail)
 have K2:=ħ (K1.out.below (below_drewN (Below.refl _ _) nq))
 generalize W1.drewN nq=W2 at *
 clear y0 y1 y2 y3 K1
 obtain ⟨x0,xf,x1,x2,x3,x4,x5,x6⟩:=K2.out.z.x
 obtain ⟨q0,q1,q2⟩:=K2.out.k.facts
 clear hrm hwh'
 go_upto_if 29 with fail
 go_cut [6] (fun vx wx=>∃ ix:Nat,vx=.int .i64 (ix:Int)∧(0<mv.length→ix=nn % mv.length)∧CK w cc g C K fo Am cm Ap cp At ct Al cl mv w.heap.size (stC kd wh nn A b.length c) wx cc)
 case first=>
  by_cases hm0:0<mv.length
  ·obtain ⟨ix,hix⟩:∃ ix,ix=nn % mv.length:=⟨_,rfl⟩
   have HIX:=ħ hix
   have hixl:ix<mv.length:=by rw[hix];exact Nat.mod_lt _ hm0
   have hrm2:Int.tmod (nn:Int) (mv.length:Int)=(ix:Int):=by rw[tmod_nat',hix]
   have hm0i:(0:Int)<(mv.length:Int):=by omega
   have hm0n:¬ ((mv.length:Int)=0):=by omega
   have hnn':IntKind.i64.wrap (nn:Int)=(nn:Int):=IntWalk.i64_in _ (by omega)
   have hix':IntKind.i64.wrap (ix:Int)=(ix:Int):=IntWalk.i64_in _ (by omega)
   clear hix hr8
   go_upto_region 4 with fail
   go_quiet (fail)
   go_wp2_with fail
   go_meet
   exact ⟨ix,rfl,fun _=>HIX.out,K2.out.below (below_drewN (Below.refl _ _) _)⟩
  ·have hm0i:¬ (0:Int)<(mv.length:Int):=by omega
   clear hr8
   go_wp2_with fail
   go_meet
   exact ⟨0,rfl,fun h=>absurd h hm0,K2.out⟩
 case rest=>
  obtain ⟨ix,rfl,hixx,hk3⟩:=hcut
  have K3:=ħ hk3
  have HIX:=ħ hixx
  clear hk3 hixx K2 x0 xf x1 x2 x3 x4 x5 x6 q0 q1 q2
  obtain ⟨x0,xf,x1,x2,x3,x4,x5,x6⟩:=K3.out.z.x
  obtain ⟨q0,q1,q2⟩:=K3.out.k.facts
  go_upto_region 23 with fail
  clear hr8 hu'
  obtain ⟨xp,xv,xj,xl,xf',xcol,xs⟩:=xq
  have hxs:C.nd[u]?=some xs:=by rw[←HSTEP.out.2];exact HSTEP.out.1
  have HNW:=ħ (HW.out.n u xs hxs)
  have htm:=HTM.out u xs hxs
  have HST:=ħ (show C.step kd wh nn b=C.put u (xs.change (Cl.bits K.length nn)) from by
   unfold Cl.step
   rw[HSTEP.out.1,HSTEP.out.2]
   simp only[hr]
   rw[←HKL.out])
  clear x0 xf x1 x2 x3 x4 x5 x6 q0 q1 q2 hk0i hk0n
  obtain ⟨hns,hcl,hcl2⟩:=K3.out.z.n u _ HXQ.out
  obtain ⟨x0,xf,x1,x2,x3,x4,x5,x6⟩:=K3.out.z.x
  clear x1 x3 x4 x5 x6
  have hPp:=((Reads.of_own K3.out.z.op).plain (by omega))
  have hixp:=fun W=>ix51 hPp cp u hul W
  have HNS:=ħ hns
  have HCN:=ħ hcl
  have H41:=ħ fun W (hW:Below wc.heap.size wc W) A5 c5 (nx:List Int) (hl:nx.length≤1000) (h5:RI W (fun k=>wc.heap.size≤k) A5 nx)=>(show Calls Tryz.prog 41 #[.pointer (some ⟨xp,0,none⟩),.slice A5 nx.length c5] W (CP W xcol xp xv xj xl xf' (xs.change nx)) from change41 W xcol xp xv xj xl xf' xs (HNS.out.below hW) HCN.out HNW.out.w (by omega) htm A5 c5 nx _ h5 (fun k hk=>by
   cases hx2:xcol k with
   | zero=>rfl
   | succ n=>have:=HNS.out.lt k (by show xcol k≠0;omega);omega) hl)
  have HKS:=ħ fun W c2 C2 K2 A' c' mv' (z:CZ W c2 g C2 K2 fo Am cm Ap cp At ct A' c' mv') (e2:K2.length=K.length) (e3:(K2.map fun x=>(Value.pointer (some ⟨x.p,0,none⟩)))[u]?=some (.pointer (some ⟨xp,0,none⟩))) (bx:Blk W w.heap.size 48 (stC kd wh nn A b.length c))=>(show (W.cell? ⟨g,1,none⟩=some (.slice Ap K.length cp))∧(W.cell? ⟨bk Ap,ofs Ap+u,none⟩=some (.pointer (some ⟨xp,0,none⟩)))∧(W.cell? ⟨w.heap.size,2,none⟩=some (.int .u8 (nn:Int))) from
   ⟨by rw[z.x.2.2.2.1,e2],(by
    have h1:=Reads.of_own z.op
    rw[(h1.cell2 u (by omega) (by omega))]
    exact e3),bx.cell 2⟩)
  have hp3:(K.map fun x=>(Value.pointer (some ⟨x.p,0,none⟩)))[u]?=some (.pointer (some ⟨xp,0,none⟩)):=by rw[List.getElem?_map,HXQ.out];rfl
  have HSL:=ħ fun nx=>(KP.change xs nx).2.1
  have HCL:=ħ HW.out.l
  have HP3:=ħ hp3
  clear hns hcl hcl2 hp3 htm hxs
  go_wp2_with fail
  go_loopw [10,155] (fun vo vi wr=>∃ (i m:Nat) (A5:Option Addr) (c5:Nat),i≤K.length∧vi=.int .i64 (i:Int)∧vo=.slice A5 m c5∧m=(Cl.bits i nn).length∧wr.ownsRow wc.heap.size 3 1 (.slice A5 m c5) m ((Cl.bits i nn).map (Value.int .i64))∧Below wc.heap.size wc wr) (fun _ vi _=>K.length - (intOf vi).toNat)
  case atStart=>exact ⟨0,0,none,0,Nat.zero_le _,rfl,rfl,rfl,World.ownsRow_nil _ _ _ _,Below.refl _ _⟩
  case round=>
   obtain ⟨i,m,A5,c5,hi,rfl,rfl,hm,ho,hb5⟩:=hrel
   have hml:=bits_len i nn
   rw[←hm] at hml
   have HS:=ħ ho
   have HB:=ħ hb5
   have HM:=ħ hm
   have K5:=ħ (K3.out.below hb5)
   obtain ⟨s0,s1,s2⟩:=HKS.out wr cc _ K _ _ _ K5.out.z rfl HP3.out K5.out.k
   have gl5:=K5.out.z.b.lt
   clear ho hb5 hm x0 x2
   by_cases hin:i=K.length
   ·have hlt:¬ ((i:Int)<(K.length:Int)):=by omega
    have HIN:=ħ hin
    have hmk:m=(Cl.bits K.length nn).length:=by rw[HM.out,hin]
    have hri:RI wr (fun k=>wc.heap.size≤k) A5 (Cl.bits K.length nn):=by
     have h0:=HS.out
     rw[HM.out,hin] at h0
     exact (Reads.of_own h0).more (fun k hk=>(h0.lt k hk).1)
    have H41a:=ħ (H41.out wr HB.out A5 c5 (Cl.bits K.length nn) (by have:=bits_len K.length nn;omega) hri)
    rw[←hmk] at H41a
    have HSLn:=ħ (HSL.out (Cl.bits K.length nn))
    clear hri hml hin hmk hi
    generalize xs.change (Cl.bits K.length nn)=R at *
    go_wp2_with (first
     | (go_at_call 41;((with_reducible refine H41a.out.mono ?_);rintro e w6 ⟨n6,er6,A6,c6,ms6,col6,rfl,hm6,hM6,hb6,hc6⟩;obtain ⟨c7,hz7,ag7,fr7,z7⟩:=CB.node K5.out.z HXQ.out (by omega) hb6 hc6;have hms6:ms6.length≤1000:=by { have h1:=HSLn.out;rw[←hm6,List.length_map] at h1;omega };have H38:=ħ (send38 w6 c7 g _ _ fo Am cm Ap cp At ct _ _ _ hz7 _ A6 c6 ms6 hM6 (fun k hk=>z7 k hk.1 hk.2) HCL.out hms6);have CB7:=ħ (show CB wr cc g _ fo w6 c7 from ⟨⟨_,_,_,_,_,_,_,_,_,_,hz7⟩,ag7,fr7⟩);have HM6:=ħ hm6;clear hz7 hM6 hb6 hc6 z7 hm6))
     | (go_at_call 38;((with_reducible refine H38.out.mono ?_);rintro e w8 ⟨rfl,c8,hls8⟩;have HL8:=ħ hls8;clear hls8)))
    go_ret
    refine ⟨rfl,c8,?_⟩
    have e9:C.put u R=Cl.send { nd:=C.nd.set u R.1,ms:=C.ms,now:=C.now } (ms6.map MV.m):=by rw[HM6.out];rfl
    rw[HST.out,e9]
    exact ((K5.out.cb).trans CB7.out).trans HL8.out.cb
   ·have hlt:(i:Int)<(K.length:Int):=by omega
    have hi9:i<9:=by omega
    have hi8:(i:Int)≤8:=by omega
    have hi0:(0:Int)≤(i:Int):=by omega
    have hbt:=bit_at hnn hi9
    have HSU:=ħ (bits_succ i nn)
    obtain ⟨q,hq⟩:∃ q,q=nn / 2 ^ i:=⟨_,rfl⟩
    rw[←hq] at hbt
    have e1:(nn:Int) / 2 ^ i=(q:Int):=by rw[hq];push_cast;rfl
    have hsz:=HB.out.size
    clear hq
    by_cases hb:nn.testBit i=true
    ·rw[if_pos hb] at hbt
     rw[if_pos hb] at HSU
     clear hb
     go_wp2_with (at_builtin;refine wpList_append_any _ rfl _ _ _ rfl wc.heap.size 3 _ 1 8 Tryz.underlying22 info3 rfl (by omega) (.slice A5 m c5) m ((Cl.bits i nn).map (Value.int .i64)) rfl (by exact own_fr HS.out (Fr.of_below (S:=fun _=>False) ((Below.refl _ _).alloc (Nat.le_refl _) _)) (fun _ _=>id)) (fun _=>True) (some ⟨wr.heap.size,0,none⟩) 1 1 [.int .i64 i] rfl (by exact ((Reads.newS _ [.int .i64 i] 3 (0,0) 1 1 rfl _ rfl).more (fun _ _=>trivial))) (by intro u hu;simp at hu;rcases hu with rfl;rfl) (by simp only[maxLen];omega) (by omega) (by simp;omega) ?_;intro A6 c6 w6 hown hgr hat;have HS6:=ħ hown;have HB6:=ħ (Below.grown (HB.out.alloc HB.out.size _) hgr (by simp;omega) (fun j hj=>(HS.out.lt j hj).1));clear hown hgr hat)
     exact ⟨⟨i+1,m+1,A6,c6,by omega,by go_num,rfl,by rw[HSU.out,List.length_append,←HM.out];rfl,by rw[HSU.out,List.map_append];exact HS6.out,HB6.out⟩,by simp[intOf];omega⟩
    ·rw[if_neg hb] at hbt
     rw[if_neg hb,List.append_nil] at HSU
     clear hb
     go_wp2_with fail
     exact ⟨⟨i+1,m,A5,c5,by omega,by go_num,rfl,by rw[HSU.out];exact HM.out,by rw[HSU.out];exact HS.out,HB.out⟩,by simp[intOf];omega⟩
end Go.Proofs.YtdfobfjpkjddpaaGreat

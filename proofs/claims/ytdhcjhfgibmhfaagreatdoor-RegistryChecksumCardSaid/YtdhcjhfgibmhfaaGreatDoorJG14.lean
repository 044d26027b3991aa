import Derived.Test.YtdhcjhfgibmhfaaGreatDoorJG13
import Derived.Deep.MidRow
import Derived.Deep.RegionHeld
import Derived.Deep.RegionLaw
import Derived.Deep.DeepCutAuto
set_option linter.unusedVariables false
set_option linter.unusedSimpArgs false
set_option maxRecDepth 10000
set_option maxHeartbeats 8000000
namespace Go.Proofs.YtdhcjhfgibmhfaaGreatDoor
open Go.RowKit Go.Own Go.Quo Go.Inc
theorem aY (D:Nat→Prop)(x y:Ic)(cs:List Cr)(An Ac Au Ay QY VC:Option Addr)(cn cc cu VO Y6 VB p:Nat)(w wr:World)(Mm:w.heap.size+2≤p)(HU:RowKit.Hid (RI w (fun b=>b<w.heap.size∧D b) Au x.units))
 (HP:RowKit.Hid (zb wr p 48 (ξ y Ay VO QY Y6 VC VB))) (HN:RowKit.Hid (RI wr (fun b=>b<wr.heap.size∧b≠p∧((b<w.heap.size∧D b)∨w.heap.size+2≤b)) Ay y.nodes)) (HC:RowKit.Hid (RI wr (fun b=>b<wr.heap.size∧b≠p∧((b<w.heap.size∧D b)∨w.heap.size+2≤b)) QY y.calls))
 (HX:RowKit.Hid (zb wr w.heap.size 48 (ξ x An cn Ac cc Au cu))) (HY:RowKit.Hid (zb wr (w.heap.size+1) 48 ζ)) (HB:RowKit.Hid (Below w.heap.size w wr)) (fq:RowKit.Hid (qF x cs=if x.merged≠0 then (zO,8) else (⟨x.id,y.urg,y.code,y.nodes,x.dist,y.since,y.calls,x.units,x.merged,x.closed⟩,0))) (s0 s1 s3 s5 s6 s7 s8 s9 s10 s12 s13 vw s15 s16 xQ xP xS s20 xM vD xK s24 xZ xO xX Sw vB xL vz x_ xN vE kw Df kR D7 Dt DD kg kE s43 s44 DK De kC D9 s49 uI uS D8 s53 DC Dk kX Du uO Dn Dy D5 kK uJ kF Dz DJ Dw s68 Bw BR ae s72 BS BX aa BV BB af BM BH B_ s82 s83 BI Gz GM s87 GK GN GY GA Eg Ec Eh GQ GU Ed G_ Ee X3 Xp Xf JX Xn JV JN Xq JS Xd JW Xc J_ JJ Xh JO JQ X9 Xu Xe X0 Xo X6 JR Xl X4 JY Xr JK Xk Xb JM X5 Xm X7 Xt:Value) :
 (Q5 [true,true,true,true,true,true,true] (Tryz.f30.body.getD .skip)).wp Tryz.prog (bodyPost Tryz.prog Tryz.f30 (yY D x cs w)) ⟨#[s0,s1,.pointer (some ⟨w.heap.size,0,none⟩),s3,.pointer (some ⟨w.heap.size+1,0,none⟩),s5,s6,s7,s8,s9,s10,.pointer (some ⟨p,0,none⟩),s12,s13,vw,s15,s16,xQ,xP,xS,s20,xM,vD,xK,s24,xZ,xO,xX,Sw,vB,xL,vz,x_,xN,vE,kw,Df,kR,D7,Dt,DD,kg,kE,s43,s44,DK,De,kC,D9,s49,uI,uS,D8,s53,DC,Dk,kX,Du,uO,Dn,Dy,D5,kK,uJ,kF,Dz,DJ,Dw,s68,Bw,BR,ae,s72,BS,BX,aa,BV,BB,af,BM,BH,B_,s82,s83,BI,Gz,GM,s87,GK,GN,GY,GA,Eg,Ec,Eh,GQ,GU,Ed,G_,Ee,X3,Xp,Xf,JX,Xn,JV,JN,Xq,JS,Xd,JW,Xc,J_,JJ,Xh,JO,JQ,X9,Xu,Xe,X0,Xo,X6,JR,Xl,X4,JY,Xr,JK,Xk,Xb,JM,X5,Xm,X7,Xt],[]⟩ wr:=by
 generalize hQ:bodyPost Tryz.prog Tryz.f30 (yY D x cs w)=Q
 dsimp only [Q5,Tryz.f30,Option.getD]
 subst hQ
 have x0:=HX.out.facts
 have y0:=HP.out.facts
 by_cases hm:x.merged=0
 ·have Cc:=ħ (show qF x cs=(⟨x.id,y.urg,y.code,y.nodes,x.dist,y.since,y.calls,x.units,x.merged,x.closed⟩,0) by rw[fq.out,if_neg (fun h=>h hm)])
  have dm:(x.merged != 0)=false:=by rw[hm];rfl
  have wL:((x.merged:Int) == 0)=true:=by rw[hm];rfl
  clear hm fq
  have VM:=ħ (show zb (((((wr.setCell ⟨w.heap.size,1,none⟩ (ι y.urg)).setCell ⟨w.heap.size,2,none⟩ (.string y.code)).setCell ⟨w.heap.size,3,none⟩ (.slice Ay y.nodes.length VO)).setCell ⟨w.heap.size,5,none⟩ (ι y.since)).setCell ⟨w.heap.size,6,none⟩ (.slice QY y.calls.length Y6)) w.heap.size 48 #[ι x.id,ι y.urg,.string y.code,.slice Ay y.nodes.length VO,ι x.dist,ι y.since,.slice QY y.calls.length Y6,.slice Au x.units.length cu,ι x.merged,.bool x.closed] by
   have:=((((HX.out.set_ 1 (ι y.urg)).set_ 2 (.string y.code)).set_ 3 (.slice Ay y.nodes.length VO)).set_ 5 (ι y.since)).set_ 6 (.slice QY y.calls.length Y6)
   simpa using this)
  have Yn:=ħ ((((((Fr.refl (fun k=>k=w.heap.size) wr).setCell (p:=⟨w.heap.size,1,none⟩) (.inl rfl) (ι y.urg)).setCell (p:=⟨w.heap.size,2,none⟩) (.inl rfl) (.string y.code)).setCell (p:=⟨w.heap.size,3,none⟩) (.inl rfl) (.slice Ay y.nodes.length VO)).setCell (p:=⟨w.heap.size,5,none⟩) (.inl rfl) (ι y.since)).setCell (p:=⟨w.heap.size,6,none⟩) (.inl rfl) (.slice QY y.calls.length Y6))
  have F6:=ħ fun (W':World) (h:Fr (fun k=>k=w.heap.size) wr W')=>(show W'.cell? ⟨p,1,none⟩=some (ι y.urg)∧W'.cell? ⟨p,2,none⟩=some (.string y.code)∧W'.cell? ⟨p,3,none⟩=some (.slice Ay y.nodes.length VO)∧W'.cell? ⟨p,5,none⟩=some (ι y.since)∧W'.cell? ⟨p,6,none⟩=some (.slice QY y.calls.length Y6) from by
   have h1:=HP.out.fr h (by omega)
   refine ⟨?_,?_,?_,?_,?_⟩ <;> (rw[zb.cell h1];rfl))
  have K0:=F6.out _ (Fr.refl _ wr).drew
  have F1:=(Fr.refl (fun k=>k=w.heap.size) wr).setCell (p:=⟨w.heap.size,1,none⟩) (.inl rfl) (ι y.urg)
  have F2:=F1.setCell (p:=⟨w.heap.size,2,none⟩) (.inl rfl) (.string y.code)
  have F3:=F2.setCell (p:=⟨w.heap.size,3,none⟩) (.inl rfl) (.slice Ay y.nodes.length VO)
  have F4:=F3.setCell (p:=⟨w.heap.size,5,none⟩) (.inl rfl) (ι y.since)
  have F5:=F4.setCell (p:=⟨w.heap.size,6,none⟩) (.inl rfl) (.slice QY y.calls.length Y6)
  have K1:=F6.out _ F1.drew
  have K2:=F6.out _ F2.drew
  have K3:=F6.out _ F3.drew
  have K4:=F6.out _ F4.drew
  have K5:=F6.out _ F5.drew
  clear F1 F2 F3 F4 F5
  go_upto_region 29 with (fail)
  go_region_held (fun W'=>W'.cell? ⟨p,1,none⟩=some (ι y.urg)∧W'.cell? ⟨p,2,none⟩=some (.string y.code)∧W'.cell? ⟨p,3,none⟩=some (.slice Ay y.nodes.length VO)∧W'.cell? ⟨p,5,none⟩=some (ι y.since)∧W'.cell? ⟨p,6,none⟩=some (.slice QY y.calls.length Y6)) (with_reducible assumption) (fail)
  all_goals
   have Nr:=ħ VM.out.drew
   have ve:=ħ Yn.out.drew
   have ni:=ħ (HY.out.fr ve.out (by omega))
   clear K0 K1 K2 K3 K4 K5 F6 VM Yn x0 y0
   generalize (World.setCell _ _ _).drew=W9 at *
   have x0:=Nr.out.facts
   go_wp2_with (refine z8 rfl (.tmp 4) (.tmp 135) 48 rfl (w.heap.size+1) 48 _ #[ι x.id,ι y.urg,.string y.code,.slice Ay y.nodes.length VO,ι x.dist,ι y.since,.slice QY y.calls.length Y6,.slice Au x.units.length cu,ι x.merged,.bool x.closed] _ 10 136 zJ rfl rfl rfl ni.out rfl (zH (by simp[Value.oneCell'])) ?_;intro w9 ZK YS Le)
   refine bodyPost_ret (za (p:=4) (u:=5) (ty:=48) Tryz.results30 _ _ (w.heap.size+1) 48 #[ι x.id,ι y.urg,.string y.code,.slice Ay y.nodes.length VO,ι x.dist,ι y.since,.slice QY y.calls.length Y6,.slice Au x.units.length cu,ι x.merged,.bool x.closed] (0,0) _ rfl ZK Tryz.underlying48 rfl qo) rfl ?_
   unfold yY;rw[Cc.out]
   have NG:=ve.out.size
   have Cf:=(HB.out.trans (ve.out.below HB.out.size (fun k hk e=>by omega)))
   refine ⟨Ay,QY,Au,VO,Y6,cu,rfl,?_,?_,?_,Cf.trans (YS.below Cf.size (fun k hk e=>by omega))⟩
   ·exact (((HN.out.fr ve.out (fun b hb=>by have:=hb.2.2;omega)).fr YS (fun b hb=>by have:=hb.2.2;omega)).old (by omega)).more (fun b hb=>⟨hb.2,by first | exact .inl hb.1.2 | (rcases hb.1.2.2 with h3 | h3;exact .inl h3.2;exact .inr (by omega))⟩)
   ·exact (((HC.out.fr ve.out (fun b hb=>by have:=hb.2.2;omega)).fr YS (fun b hb=>by have:=hb.2.2;omega)).old (by omega)).more (fun b hb=>⟨hb.2,by first | exact .inl hb.1.2 | (rcases hb.1.2.2 with h3 | h3;exact .inl h3.2;exact .inr (by omega))⟩)
   ·exact (((HU.out.below Cf (fun b hb=>by first | exact hb | exact hb.1)).fr YS (fun b hb=>by omega)).old (by omega)).more (fun b hb=>⟨hb.2,by first | exact .inl hb.1.2 | (rcases hb.1.2.2 with h3 | h3;exact .inl h3.2;exact .inr (by omega))⟩)
 ·have Cc:=ħ (show qF x cs=(zO,8) by rw[fq.out,if_pos hm])
  have dm:(x.merged != 0)=true:=by simpa [bne] using hm
  have wL:((x.merged:Int) == 0)=false:=by simpa using hm
  clear hm fq
  go_wp2_with (refine z8 rfl (.tmp 4) (.tmp 119) 48 rfl (w.heap.size+1) 48 _ ζ _ 10 136 zJ rfl rfl rfl HY.out rfl (zH (by simp[Value.oneCell'])) ?_;intro w9 ZK YS Le)
  refine bodyPost_ret (za (p:=4) (u:=5) (ty:=48) Tryz.results30 _ _ (w.heap.size+1) 48 ζ (0,0) _ rfl ZK Tryz.underlying48 rfl qo) rfl ?_
  unfold yY;rw[Cc.out]
  exact YX (HB.out.trans (YS.below HB.out.size (fun k hk e=>by omega)))
theorem Hm (D:Nat→Prop)(x:Ic)(An Ac Au:Option Addr)(cn cc cu:Nat)(t0:Ca)(r:List Ca)(cs:List Cr)(A2:Option Addr)(c2 n:Nat)(w w5 w6:World)(hn:n≤1000)(hc2:n≤c2)(p:Nat)(UW Uz xV:Option Addr)(Kj Kc vF:Nat)(hp:w5.heap.size≤p)
 (HU:RowKit.Hid (RI w (fun b=>b<w.heap.size∧D b) Au x.units)) (qx:RowKit.Hid (zb w5 w.heap.size 48 (ξ x An cn Ac cc Au cu))) (RF:RowKit.Hid (zb w5 (w.heap.size+1) 48 ζ)) (HB3:RowKit.Hid (Below w.heap.size w w5))
 (YM:RowKit.Hid (n=r.length+1)) (jB:RowKit.Hid (Reads w5 (· < w5.heap.size) 8 A2 (t0 :: r).length ((t0 :: r).flatMap qC))) (Zh:RowKit.Hid (∀ t∈t0 :: r,yz t.c=true∧RI w (fun b=>b<w.heap.size∧D b) t.A t.c.nodes∧t.c.code.size≤100000∧t.c.nodes.length≤100000)) (AA:RowKit.Hid (qF x cs=match Zc (zt x.id t0.c) (r.map (·.c)) with | none=>(zO,5) | some y=>if x.merged≠0 then (zO,8) else (⟨x.id,y.urg,y.code,y.nodes,x.dist,y.since,y.calls,x.units,x.merged,x.closed⟩,0)))
 (Zm:RowKit.Hid (zb w6 p 48 #[ι x.id,ι t0.c.urg,.string t0.c.code,.slice UW t0.c.nodes.length Kj,ι t0.c.dist,ι t0.c.since,.slice Uz 1 Kc,.slice xV 0 vF,ι 0,.bool false])) (yx:RowKit.Hid (w6.ownsRow w5.heap.size 3 1 (.slice UW t0.c.nodes.length Kj) t0.c.nodes.length (t0.c.nodes.map (Value.int .i64)))) (Dm:RowKit.Hid (w6.ownsRow w5.heap.size 2 1 (.slice Uz 1 Kc) 1 [ι t0.c.call])) (ZR:RowKit.Hid (Fr (fun _=>False) w5 w6)) (s0 s1 s3 s5 s7 s8 s9 s10 s12 s13 vw s15 s16 xQ xP xS s20 xM vD xK s24 xZ xO xX Sw vB xL vz x_ xN vE kw Df kR D7 Dt DD kg kE s43 s44 DK De kC D9 s49 uI uS D8 s53 DC Dk kX Du uO Dn Dy D5 kK uJ kF Dz DJ Dw s68 Bw BR ae s72 BS BX aa BV BB af BM BH B_ s82 s83 BI Gz GM s87 GK GN GY GA Eg Ec Eh GQ GU Ed G_ Ee X3 Xp Xf JX Xn JV JN Xq JS Xd JW Xc J_ JJ Xh JO JQ X9 Xu Xe X0 Xo X6 JR Xl X4 JY Xr JK Xk Xb JM X5 Xm X7 Xt:Value) :
 (Q5 [true,true,true,true,true,true] (Tryz.f30.body.getD .skip)).wp Tryz.prog (bodyPost Tryz.prog Tryz.f30 (yY D x cs w)) ⟨#[s0,s1,.pointer (some ⟨w.heap.size,0,none⟩),s3,.pointer (some ⟨w.heap.size+1,0,none⟩),s5,.slice A2 n c2,s7,s8,s9,s10,.pointer (some ⟨p,0,none⟩),s12,s13,vw,s15,s16,xQ,xP,xS,s20,xM,vD,xK,s24,xZ,xO,xX,Sw,vB,xL,vz,x_,xN,vE,kw,Df,kR,D7,Dt,DD,kg,kE,s43,s44,DK,De,kC,D9,s49,uI,uS,D8,s53,DC,Dk,kX,Du,uO,Dn,Dy,D5,kK,uJ,kF,Dz,DJ,Dw,s68,Bw,BR,ae,s72,BS,BX,aa,BV,BB,af,BM,BH,B_,s82,s83,BI,Gz,GM,s87,GK,GN,GY,GA,Eg,Ec,Eh,GQ,GU,Ed,G_,Ee,X3,Xp,Xf,JX,Xn,JV,JN,Xq,JS,Xd,JW,Xc,J_,JJ,Xh,JO,JQ,X9,Xu,Xe,X0,Xo,X6,JR,Xl,X4,JY,Xr,JK,Xk,Xb,JM,X5,Xm,X7,Xt],[]⟩ w6:=by
 have hpos:0<n:=by have:=YM.out;omega
 have hr3:Reads w5 (· < w5.heap.size) 8 A2 n ((t0 :: r).flatMap qC):=by have:=jB.out;rw[List.length_cons,←YM.out] at this;exact this
 have Al:=ħ (Ym hr3 YM.out hc2)
 have hpt:=Al.out.plain (by omega)
 have hcut:∀ W:World,(Instr.slice 27 (.slice A2 n c2) (some (ι 1)) none none).run Tryz.prog W=.ok (.slice (ZH A2 c2) r.length (c2 - 1)) W:=fun W=>by
  have:=Q3 (A:=A2) (c:=c2) (show 1≤n from hpos) W
  rw[YM.out,Nat.add_sub_cancel] at this;rw[YM.out];exact this
 have fJ:∀ W:World,(Instr.sliceAt 27 (.slice A2 n c2) (some (ι 1)) none none).run Tryz.prog W=.ok (.slice (ZH A2 c2) r.length (c2 - 1)) W:=fun W=>by
  have:=QC (A:=A2) (c:=c2) (show 1≤n from hpos) W
  rw[YM.out,Nat.add_sub_cancel] at this;rw[YM.out];exact this
 clear hr3
 have hS:=HB3.out.size
 have l8:=ħ (Zh.out t0 (by simp)).2.2.2
 have hz:=Zm.out
 have hn2:=yx.out
 have hc3:=Dm.out
 have hf:=ZR.out
 clear Zm yx Dm ZR
 generalize hQ:bodyPost Tryz.prog Tryz.f30 (yY D x cs w)=Q
 dsimp only [Q5,Tryz.f30,Option.getD]
 subst hQ
 have PE:=RF.out.lt
 have Qp:=ħ (hf.below (B:=w5.heap.size) (Nat.le_refl _) (fun _ _=>id))
 have HI:=ħ (show ∃ (k:Nat) (y:Ic) (Ay QY VC:Option Addr) (VO Y6 VB:Nat),k≤r.length∧ι 0=ι (k:Int)∧Zc (zt x.id t0.c) ((r.map (·.c)).take k)=some y∧zb w6 p 48 (ξ y Ay VO QY Y6 VC VB)∧RI w6 (fun b=>b<w6.heap.size∧b≠p∧((b<w.heap.size∧D b)∨w.heap.size+2≤b)) Ay y.nodes∧RI w6 (fun b=>b<w6.heap.size∧b≠p∧((b<w.heap.size∧D b)∨w.heap.size+2≤b)) QY y.calls∧y.calls.length≤Y6∧y.nodes.length≤100000∧y.calls.length=k+1∧zb w6 w.heap.size 48 (ξ x An cn Ac cc Au cu)∧zb w6 (w.heap.size+1) 48 ζ∧Below w.heap.size w w6∧Below w5.heap.size w5 w6 from ⟨0,zt x.id t0.c,UW,Uz,xV,Kj,Kc,vF,Nat.zero_le _,rfl,rfl,hz,((Reads.of_own hn2).old (by omega)).more (fun k hk=>⟨hk.2,zR hn2 hz (by decide) k hk.1,.inr (by have:=(hn2.lt k hk.1).1;omega)⟩),((Reads.of_own hc3).old (by omega)).more (fun k hk=>⟨hk.2,zR hc3 hz (by decide) k hk.1,.inr (by have:=(hc3.lt k hk.1).1;omega)⟩),DN hc3,l8.out,rfl,qx.out.fr hf id,RF.out.fr hf id,HB3.out.trans (Qp.out.mono hS),Qp.out⟩)
 have Mm:w.heap.size+2≤p:=by omega
 have hpw:=hp
 clear hz hn2 hc3 hf qx RF Qp l8
 go_wp2_with fail
 go_loopw [102] (fun vi wr=>∃ (k:Nat) (y:Ic) (Ay QY VC:Option Addr) (VO Y6 VB:Nat),k≤r.length∧vi=ι (k:Int)∧Zc (zt x.id t0.c) ((r.map (·.c)).take k)=some y∧zb wr p 48 (ξ y Ay VO QY Y6 VC VB)∧RI wr (fun b=>b<wr.heap.size∧b≠p∧((b<w.heap.size∧D b)∨w.heap.size+2≤b)) Ay y.nodes∧RI wr (fun b=>b<wr.heap.size∧b≠p∧((b<w.heap.size∧D b)∨w.heap.size+2≤b)) QY y.calls∧y.calls.length≤Y6∧y.nodes.length≤100000∧y.calls.length=k+1∧zb wr w.heap.size 48 (ξ x An cn Ac cc Au cu)∧zb wr (w.heap.size+1) 48 ζ∧Below w.heap.size w wr∧Below w5.heap.size w5 wr) (fun vi _=>r.length - (intOf vi).toNat)
 case atStart=>exact HI.out
 case round=>
  obtain ⟨k,y,Ay,QY,VC,VO,Y6,VB,hk,rfl,Mt,hP,hN,hC,hcap,hln,hlc,hX,hY,hB,hW⟩:=hrel
  have iR:=ħ Mt
  have HP:=ħ hP
  have HN:=ħ hN
  have HC:=ħ hC
  have HX:=ħ hX
  have HY:=ħ hY
  have HB:=ħ hB
  have HW:=ħ hW
  have mR:=ħ (And.intro hcap (And.intro hln hlc))
  clear Mt hP hN hC hX hY hB hW hcap hln hlc HI
  by_cases hlt:k<r.length
  ·have hlt':(k:Int)<r.length:=by omega
   have hix:=fun W=>VD hpt (c2 - 1) k hlt W
   obtain ⟨t,htk⟩:∃ t,t=r[k]:=⟨_,rfl⟩
   have hr:wr.rangeAt (bk (ZH A2 c2)) (qP (ZH A2 c2)+k * 8) [ι t.c.call,ι t.c.inc,ι t.c.urg,.string t.c.code,.slice t.A t.c.nodes.length t.k,ι t.c.dist,ι t.c.since,.bool t.c.closed]:=by
    have:=jG (Al.out.below HW.out (fun k hk=>by first | exact hk | exact hk.1)) hlt
    rw[←htk] at this
    exact this
   obtain ⟨m1,m2,m3,m4⟩:=Zh.out t (by rw[htk];exact List.mem_cons_of_mem _ (List.getElem_mem hlt))
   have Vt:=ħ (show ((r.map (·.c)).take (k+1))=((r.map (·.c)).take k) ++ [t.c] by
    rw[List.take_succ_eq_append_getElem (by simpa using hlt),List.getElem_map,←htk])
   have lW:=ħ (show r.map (·.c)=(r.map (·.c)).take k ++ t.c :: (r.map (·.c)).drop (k+1) by
    have hl2:k<(r.map (·.c)).length:=by simpa using hlt
    have:=List.take_append_drop k (r.map (·.c))
    rw[List.drop_eq_getElem_cons hl2,List.getElem_map,←htk] at this
    exact this.symm)
   clear htk
   have hW1:=HW.out.size
   have hr1:=YM.out
   have hkb:k<1000:=by omega
   have Qt:=ħ (HP.out.alloc (.cells (χ t.c t.A t.k) 34))
   have IR:=ħ ((HN.out.alloc (.cells (χ t.c t.A t.k) 34)).more (B':=fun b=>b≠p∧((b<w.heap.size∧D b)∨w.heap.size+2≤b)) (fun b hb=>hb.2))
   have sw:=ħ ((HC.out.alloc (.cells (χ t.c t.A t.k) 34)).more (B':=fun b=>b≠p∧((b<w.heap.size∧D b)∨w.heap.size+2≤b)) (fun b hb=>hb.2))
   have bn:=ħ (HX.out.alloc (.cells (χ t.c t.A t.k) 34))
   have xC:=ħ (HY.out.alloc (.cells (χ t.c t.A t.k) 34))
   have eX:=ħ (zb.new wr 34 (χ t.c t.A t.k))
   have Jb:=ħ (HB.out.alloc HB.out.size (.cells (χ t.c t.A t.k) 34))
   have LQ:=ħ (HW.out.alloc HW.out.size (.cells (χ t.c t.A t.k) 34))
   have tu:=ħ (lU (fun b=>b≠p∧((b<w.heap.size∧D b)∨w.heap.size+2≤b)) y Ay QY VC VO Y6 VB t (wr.alloc (.cells (χ t.c t.A t.k) 34)) IR.out sw.out ((m2.below Jb.out (fun k hk=>by first | exact hk | exact hk.1)).more (fun b hb=>⟨by omega,.inl hb⟩)) mR.out.1 mR.out.2.1 (by have:=mR.out.2.2;omega) m4)
   have Pi:=Qt.out.lt
   have rY:=ħ (Jj y.nodes t.c.nodes)
   clear m1 m2 m3 m4 HP HN HC HX HY HB HW hr1
   have x0:=eX.out.facts
   have y0:=Qt.out.facts
   by_cases hh:Zt y.calls t.c.call
   ·have H:=ħ (show Calls Tryz.prog 72 #[.agg (ξ y Ay VO QY Y6 VC VB),.agg (χ t.c t.A t.k)] (wr.alloc (.cells (χ t.c t.A t.k) 34)) (fun e w'=>e=.returned (.tuple #[.agg (ξ y Ay VO QY Y6 VC VB),.bool false])∧Below (wr.alloc (.cells (χ t.c t.A t.k) 34)).heap.size (wr.alloc (.cells (χ t.c t.A t.k) 34)) w') from tu.out.mono (fun e w' h=>by
     rcases h with ⟨_,h1,h2⟩ | ⟨h1,_⟩
     ·exact ⟨h1,h2⟩
     ·exact absurd hh h1))
    have fq:=ħ (show qF x cs=(zO,5) by
     rw[AA.out,lW.out,Ve,iR.out]
     show (match (if Zt y.calls t.c.call then none else Zc (yV y t.c) ((r.map (·.c)).drop (k+1))) with | none=>_ | some y=>_)=_
     rw[if_pos hh])
    clear tu hh lW Vt iR AA
    go_wp2_with (first
     | (refine wpList_load_mid rfl 34 _ rfl (bk (ZH A2 c2)) (qP (ZH A2 c2)+k * 8) rfl [ι t.c.call,ι t.c.inc,ι t.c.urg,.string t.c.code,.slice t.A t.c.nodes.length t.k,ι t.c.dist,ι t.c.since,.bool t.c.closed] _ hr Tryz.underlying34 rfl Jw ?_)
     | (go_at_call 72;((with_reducible refine H.out.mono ?_);rintro e w7 ⟨rfl,ZO⟩;have KR:=ħ (Qt.out.below ZO Qt.out.lt);have RZ:=ħ (xC.out.below ZO xC.out.lt);have Z7:=ħ (Jb.out.trans (ZO.mono Jb.out.size));clear ZO))
     | (refine z8 rfl (.tmp 11) (.tmp 110) 48 rfl p 48 _ (ξ y Ay VO QY Y6 VC VB) _ 10 136 zJ rfl rfl rfl KR.out rfl (zH (by simp[Value.oneCell'])) ?_;intro w8 zW zI yL;have E9:=ħ (RZ.out.fr zI (by omega));have Jy:=ħ (Z7.out.trans (zI.below Z7.out.size (fun k hk e=>by omega)));clear zW zI yL)
     | (refine z8 rfl (.tmp 4) (.tmp 114) 48 rfl (w.heap.size+1) 48 _ ζ _ 10 136 zJ rfl rfl rfl E9.out rfl (zH (by simp[Value.oneCell'])) ?_;intro w9 ZK YS Le))
    refine bodyPost_ret (za (p:=4) (u:=5) (ty:=48) Tryz.results30 _ _ (w.heap.size+1) 48 ζ (0,0) _ rfl ZK Tryz.underlying48 rfl qo) rfl ?_
    unfold yY;rw[fq.out]
    exact YX (Jy.out.trans (YS.below Jy.out.size (fun k hk e=>by omega)))
   ·have H:=ħ (show Calls Tryz.prog 72 #[.agg (ξ y Ay VO QY Y6 VC VB),.agg (χ t.c t.A t.k)] (wr.alloc (.cells (χ t.c t.A t.k) 34)) (fun e w'=>∃ (y':Ic) (Y4 Qs:Option Addr) (YA Qu:Nat),RowKit.Hid (y'=yV y t.c)∧e=.returned (.tuple #[.agg #[ι y.id,ι y'.urg,.string y'.code,.slice Y4 y'.nodes.length YA,ι y.dist,ι y'.since,.slice Qs y'.calls.length Qu,.slice VC y.units.length VB,ι y.merged,.bool y.closed],.bool true])∧RI w' (fun k=>((k≠p∧((k<w.heap.size∧D k)∨w.heap.size+2≤k))∨(wr.alloc (.cells (χ t.c t.A t.k) 34)).heap.size≤k)∧k<w'.heap.size) Y4 y'.nodes∧RI w' (fun k=>((k≠p∧((k<w.heap.size∧D k)∨w.heap.size+2≤k))∨(wr.alloc (.cells (χ t.c t.A t.k) 34)).heap.size≤k)∧k<w'.heap.size) Qs y'.calls∧y'.calls.length≤Qu∧Below (wr.alloc (.cells (χ t.c t.A t.k) 34)).heap.size (wr.alloc (.cells (χ t.c t.A t.k) 34)) w') from tu.out.mono (fun e w' h=>by
     rcases h with ⟨h1,_⟩ | ⟨_,y',Y4,Qs,YA,Qu,e1,e2,e3,e4,e5,e6⟩
     ·exact absurd h1 hh
     ·exact ⟨y',Y4,Qs,YA,Qu,ħ e1,e2,e3,e4,e5,e6⟩))
    have IW:=ħ (show Zc (zt x.id t0.c) ((r.map (·.c)).take (k+1))=some (yV y t.c) by
     rw[Vt.out,Ve,iR.out]
     show (if Zt y.calls t.c.call then none else some (yV y t.c))=_
     rw[if_neg hh])
    have HL2:=ħ (show (yV y t.c).nodes.length≤100000 by
     have h1:=rY.out
     have h2:=mR.out.2.1
     show (if 0<(zT y.nodes t.c.nodes).length then zT y.nodes t.c.nodes else y.nodes).length≤100000
     split <;> omega)
    have O1:=ħ (show (yV y t.c).calls.length=k+1+1 by
     show (yF y.calls t.c.call).length=_
     rw[ZA,mR.out.2.2])
    clear tu hh lW Vt iR mR rY
    go_wp2_with (first
     | (refine wpList_load_mid rfl 34 _ rfl (bk (ZH A2 c2)) (qP (ZH A2 c2)+k * 8) rfl [ι t.c.call,ι t.c.inc,ι t.c.urg,.string t.c.code,.slice t.A t.c.nodes.length t.k,ι t.c.dist,ι t.c.since,.bool t.c.closed] _ hr Tryz.underlying34 rfl Jw ?_)
     | (go_at_call 72;((with_reducible refine H.out.mono ?_);rintro e w7 ⟨y',Y4,Qs,YA,Qu,OB,rfl,Mg,LJ,yZ,ZO⟩;have KR:=ħ (Qt.out.below ZO Qt.out.lt);have Kn:=ħ (bn.out.below ZO bn.out.lt);have RZ:=ħ (xC.out.below ZO xC.out.lt);have Z7:=ħ (Jb.out.trans (ZO.mono Jb.out.size));have M5:=ħ (LQ.out.trans (ZO.mono LQ.out.size));have ZM:=ħ Mg;have iG:=ħ LJ;have Gc:=ħ yZ;clear ZO Mg LJ yZ))
     | (refine z8 rfl (.tmp 11) (.tmp 110) 48 rfl p 48 _ #[ι y.id,ι y'.urg,.string y'.code,.slice Y4 y'.nodes.length YA,ι y.dist,ι y'.since,.slice Qs y'.calls.length Qu,.slice VC y.units.length VB,ι y.merged,.bool y.closed] _ 10 136 zJ rfl rfl rfl KR.out rfl (zH (by simp[Value.oneCell'])) ?_;intro w8 zW zI yL;have gI:=ħ zW;have xU:=ħ zI;have lC:=ħ yL;clear zW zI yL))
    obtain rfl:=OB.out
    exact ⟨⟨k+1,yV y t.c,Y4,Qs,VC,YA,Qu,VB,by omega,by go_num,IW.out,gI.out,
     (ZM.out.fr xU.out (fun b hb=>by have:=hb.1;omega)).more (fun b hb=>⟨by have:=hb.2;have:=lC.out;omega,by have:=hb.1;omega,by rcases hb.1 with h3 | h3;exact h3.2;exact .inr (by omega)⟩),
     (iG.out.fr xU.out (fun b hb=>by have:=hb.1;omega)).more (fun b hb=>⟨by have:=hb.2;have:=lC.out;omega,by have:=hb.1;omega,by rcases hb.1 with h3 | h3;exact h3.2;exact .inr (by omega)⟩),
     Gc.out,HL2.out,O1.out,Kn.out.fr xU.out (by omega),RZ.out.fr xU.out (by omega),Z7.out.trans (xU.out.below Z7.out.size (fun k hk e=>by omega)),M5.out.trans (xU.out.below M5.out.size (fun k hk e=>by omega))⟩,by simp[intOf];omega⟩
  ·have hlt':¬ (k:Int)<r.length:=by omega
   have hk3:k=r.length:=by omega
   subst hk3
   have fq:=ħ (show qF x cs=if x.merged≠0 then (zO,8) else (⟨x.id,y.urg,y.code,y.nodes,x.dist,y.since,y.calls,x.units,x.merged,x.closed⟩,0) by
    have h1:=iR.out
    rw[List.take_of_length_le (by simp)] at h1
    rw[AA.out,h1])
   go_upto_region 20 with (fail)
   iterate 14 go_step
   refine ZZ (c':=Q5 [true,true,true,true,true,true,true] (Tryz.f30.body.getD .skip)) (by kernel_rfl) ?_
   exact aY D x y cs An Ac Au Ay QY VC cn cc cu VO Y6 VB p w wr Mm HU HP HN HC HX HY HB fq _ _ _ _ _ _ _ _ _ _ _ _ _ _ _ _ _ _ _ _ _ _ _ _ _ _ _ _ _ _ _ _ _ _ _ _ _ _ _ _ _ _ _ _ _ _ _ _ _ _ _ _ _ _ _ _ _ _ _ _ _ _ _ _ _ _ _ _ _ _ _ _ _ _ _ _ _ _ _ _ _ _ _ _ _ _ _ _ _ _ _ _ _ _ _ _ _ _ _ _ _ _ _ _ _ _ _ _ _ _ _ _ _ _ _ _ _ _ _ _ _ _ _ _ _ _ _ _ _ _ _ _ _
end Go.Proofs.YtdhcjhfgibmhfaaGreatDoor

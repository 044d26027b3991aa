import Derived.Test.YtdhcjhfgibmhfaaGreatDoorJG12
import Derived.Test.YtdhcjhfgibmhfaaGreatDoorJG10
import Derived.Test.YtdhcjhfgibmhfaaGreatDoorJG6
import Derived.Test.YtdhcjhfgibmhfaaGreatDoorJG11
import Derived.Test.YtdhcjhfgibmhfaaGreatDoorJRof
import Derived.Deep.MidRow
import Derived.Deep.QuietTactic
import Derived.BigQuiet
set_option linter.unusedVariables false
set_option linter.unusedSimpArgs false
set_option maxRecDepth 10000
set_option maxHeartbeats 8000000
namespace Go.Proofs.YtdhcjhfgibmhfaaGreatDoor
open Go.RowKit Go.Own Go.Quo Go.Inc
abbrev moveC (id into:Int):Cr→Cr:=Zv (fun t=>if t.inc=id then into else t.inc) (fun t=>t.closed)
theorem YD (id into:Int)(t:Cr):(moveC id into t).inc=if t.inc=id then into else t.inc:=rfl
theorem ym {id into:Int}{t:Cr}(h:t.inc≠id):moveC id into t=t:=by
 unfold moveC Zv
 dsimp only
 rw[if_neg h]
theorem Yr {n:Nat}{b:Bk}(h:Good n b){id into:Int}(hne:id≠into){x y:Ic}(hx:zw b.L id=some x)(hy:zw b.L into=some y)(hox:zx x=true)(hoy:zx y=true) :
 zg n ⟨zz (zz b.L (qz x into)) { y with units:=qp x.units y.units },b.C.map (moveC id into)⟩ into∧zw (zz (zz b.L (qz x into)) { y with units:=qp x.units y.units }) into=some { y with units:=qp x.units y.units }∧qB (b.C.map (moveC id into)) into≠[]:=by
 obtain ⟨gx,ex⟩:=zi hx
 obtain ⟨gy,ey⟩:=zi hy
 obtain ⟨mx,cx⟩:=yQ hox
 obtain ⟨my,cy⟩:=yQ hoy
 have sL:=zg.sL h
 have vx:=zg.vL h x gx
 have vy:=zg.vL h y gy
 have NY:=Va vx.1
 have Ho:=Va vy.1
 rw[ex] at NY
 rw[ey] at Ho
 have s1:Asc Ic.id (zz b.L (qz x into)):=zN Ic.id sL _
 have eg:(qz x into).id=id:=ex
 have eY:({ y with units:=qp x.units y.units }:Ic).id=into:=ey
 have hmem:∀ w,w∈zz (zz b.L (qz x into)) { y with units:=qp x.units y.units }↔w = { y with units:=qp x.units y.units }∨w=qz x into∨(w∈b.L∧w.id≠id∧w.id≠into):=fun w=>by
  rw[zK,zK,eg,eY]
  constructor
  ·rintro (h1 | ⟨h1 | ⟨h1,h2⟩,h3⟩)
   ·exact .inl h1
   ·exact .inr (.inl h1)
   ·exact .inr (.inr ⟨h1,h2,h3⟩)
  ·rintro (h1 | h1 | ⟨h1,h2,h3⟩)
   ·exact .inl h1
   ·exact .inr ⟨.inl h1,by rw[h1,eg];exact hne⟩
   ·exact .inr ⟨.inr ⟨h1,h2⟩,h3⟩
 have hget:∀ k,zw (zz (zz b.L (qz x into)) { y with units:=qp x.units y.units }) k=if k=into then some { y with units:=qp x.units y.units } else if k=id then some (qz x into) else zw b.L k:=fun k=>by
  rw[jb s1,jb sL,eg,eY]
 have sC:Asc Cr.call (b.C.map (moveC id into)):=Qe Cr.call (zg.sC h) _ (fun t _=>rfl)
 have hof:∀ k,k≠id→k≠into→qB (b.C.map (moveC id into)) k=qB b.C k:=fun k h1 h2=>uk sC (zg.sC h) (fun t ht=>by
  rw[List.mem_map]
  constructor
  ·rintro ⟨u,hu,rfl⟩
   by_cases e:u.inc=id
   ·rw[YD,if_pos e] at ht;exact absurd ht.symm h2
   ·rw[ym e];exact hu
  ·intro hu
   exact ⟨t,hu,ym (fun e=>h1 (ht.symm.trans e))⟩)
 refine ⟨⟨zN Ic.id s1 _,sC,?_,by show (b.C.map _).length≤n;rw[List.length_map];exact zg.nC h,?_,?_,?_,?_,?_,?_,?_,?_⟩,by rw[hget,if_pos rfl],?_⟩
 ·have l1:=jc Ic.id sL (x:=qz x into) (by show zw b.L (qz x into).id≠none;rw[eg,hx];exact fun e=>by cases e)
  have l2:=jc Ic.id s1 (x:={ y with units:=qp x.units y.units }) (by
   show zw (zz b.L (qz x into)) y.id≠none
   rw[jb sL,ey,eg,if_neg (fun e=>hne e.symm),hy]
   exact fun e=>by cases e)
  have:=zg.nL h
  exact Nat.le_trans l2 (Nat.le_trans l1 this)
 ·intro t ht
  obtain ⟨u,hu,rfl⟩:=List.mem_map.1 ht
  obtain ⟨h1,h2⟩:=zg.vC h u hu
  refine ⟨?_,h2⟩
  by_cases e:u.inc=id
  ·have:=Zx h1 (id:=into) (Zu (uf Ho)) u.closed
   unfold moveC Zv
   dsimp only
   rw[if_pos e];exact this
  ·rw[ym e];exact h1
 ·intro w hw
  rcases (hmem w).1 hw with rfl | rfl | ⟨h1,_⟩
  ·exact ⟨U9 vy.1 (Vn _ _) my,vy.2⟩
  ·refine ⟨?_,vx.2⟩
   have h1:=vx.1
   unfold jC qz at *
   simp only[Bool.and_eq_true] at h1⊢
   obtain ⟨⟨⟨⟨⟨a1,a2⟩,a3⟩,a4⟩,a5⟩,a6⟩:=h1
   refine ⟨⟨⟨⟨⟨a1,a2⟩,by show decide (([]:List Int).length≤1000)=true;rfl⟩,by show qf [] 1 Qo=true;rfl⟩,by show qf [] 0 255=true;rfl⟩,?_⟩
   have:=uf Ho
   rw[ex]
   simp[this,hne.symm]
  ·exact zg.vL h w h1
 ·intro t ht
  obtain ⟨u,hu,rfl⟩:=List.mem_map.1 ht
  obtain ⟨w,hw,h1,h2⟩:=zg.lk h u hu
  by_cases e:u.inc=id
  ·exact ⟨_,(hmem _).2 (.inl rfl),by rw[YD,if_pos e];exact ey,my⟩
  ·rw[ym e]
   by_cases e2:w.id=into
   ·exact ⟨_,(hmem _).2 (.inl rfl),by rw[←h1,e2];exact ey,my⟩
   ·exact ⟨w,(hmem w).2 (.inr (.inr ⟨hw,by rw[h1];exact e,e2⟩)),h1,h2⟩
 ·intro w hw hwc
  rcases (hmem w).1 hw with rfl | rfl | ⟨h1,h2,h3⟩
  ·have:y.closed=true:=hwc
   rw[cy] at this;cases this
  ·have:x.closed=true:=hwc
   rw[cx] at this;cases this
  ·obtain ⟨k1,k2⟩:=zg.cl h w h1 hwc
   refine ⟨k1,fun t ht hti=>?_⟩
   obtain ⟨u,hu,rfl⟩:=List.mem_map.1 ht
   by_cases e:u.inc=id
   ·rw[YD,if_pos e] at hti;exact absurd hti.symm h3
   ·rw[ym e] at hti⊢;exact k2 u hu hti
 ·have key:∀ w,w∈b.L→w.id≠id→w.id≠into→∀ u,u∈qp x.units y.units→u∈w.units→False:=fun w hw h1 h2 u hu hu2=>by
   rcases (ZU.1 hu).2 with h3 | h3
   ·exact h1 ((zg.un h w hw x gx u hu2 h3).trans ex)
   ·exact h2 ((zg.un h w hw y gy u hu2 h3).trans ey)
  intro w hw w2 hw2 u hu hu2
  rcases (hmem w).1 hw with rfl | rfl | ⟨h1,h2,h3⟩
  ·rcases (hmem w2).1 hw2 with rfl | rfl | ⟨k1,k2,k3⟩
   ·rfl
   ·have:u∈([]:List Int):=hu2
    simp at this
   ·exact (key w2 k1 k2 k3 u hu hu2).elim
  ·have:u∈([]:List Int):=hu
   simp at this
  ·rcases (hmem w2).1 hw2 with rfl | rfl | ⟨k1,k2,k3⟩
   ·exact (key w h1 h2 h3 u hu2 hu).elim
   ·have:u∈([]:List Int):=hu2
    simp at this
   ·exact zg.un h w h1 w2 k1 u hu hu2
 ·have hroot:∀ {k:Int} {m:Nat} {r:Int},j3 b.L k m r→∃ m' r',j3 (zz (zz b.L (qz x into)) { y with units:=qp x.units y.units }) k m' r':=by
   intro k m r hr
   induction hr with
   | @here k w hw hm=>
    by_cases e1:k=into
    ·exact ⟨0,k,.here (x:={ y with units:=qp x.units y.units }) (by rw[hget,if_pos e1]) my⟩
    ·by_cases e2:k=id
     ·refine ⟨1,into,.up (x:=qz x into) (by rw[hget,if_neg e1,if_pos e2]) (by show into≠0;omega) ?_⟩
      exact .here (x:={ y with units:=qp x.units y.units }) (by show zw _ into=_;rw[hget,if_pos rfl]) my
     ·exact ⟨0,k,.here (by rw[hget,if_neg e1,if_neg e2];exact hw) hm⟩
   | @up k w m r hw hm hr ih=>
    obtain ⟨m',r',hq⟩:=ih
    have e1:k≠into:=fun e=>by rw[e,hy] at hw;injection hw with hw;rw[←hw] at hm;exact hm my
    have e2:k≠id:=fun e=>by rw[e,hx] at hw;injection hw with hw;rw[←hw] at hm;exact hm mx
    exact ⟨m'+1,r',.up (by rw[hget,if_neg e1,if_neg e2];exact hw) hm hq⟩
  intro w hw
  rcases (hmem w).1 hw with rfl | rfl | ⟨h1,h2,h3⟩
  ·obtain ⟨m,r,hr⟩:=zg.rt h y gy
   exact hroot hr
  ·obtain ⟨m,r,hr⟩:=zg.rt h x gx
   exact hroot hr
  ·obtain ⟨m,r,hr⟩:=zg.rt h w h1
   exact hroot hr
 ·intro w hw hwn
  rcases (hmem w).1 hw with rfl | rfl | ⟨h1,h2,h3⟩
  ·exact absurd ey hwn
  ·show ([]:List Int)=(qB (b.C.map (moveC id into)) x.id).map Cr.call
   have:qB (b.C.map (moveC id into)) x.id=[]:=by
    rw[ex]
    refine List.eq_nil_iff_forall_not_mem.2 (fun t ht=>?_)
    obtain ⟨h4,h5⟩:=zo.1 ht
    obtain ⟨u,hu,rfl⟩:=List.mem_map.1 h4
    by_cases e:u.inc=id
    ·rw[YD,if_pos e] at h5;exact hne h5.symm
    ·rw[ym e] at h5;exact e h5
   rw[this];rfl
  ·show w.calls=(qB (b.C.map (moveC id into)) w.id).map Cr.call
   rw[hof w.id h2 h3];exact Good.cs h w h1
 ·intro w hw hwn hwo
  rcases (hmem w).1 hw with rfl | rfl | ⟨h1,h2,h3⟩
  ·exact absurd ey hwn
  ·have:into=0:=(yQ hwo).1
   omega
  ·show qF w (qB (b.C.map (moveC id into)) w.id)=(w,0)
   rw[hof w.id h2 h3];exact Good.dr h w h1 hwo
 ·intro e
  have hs:=Good.some h gy hoy
  rw[ey] at hs
  obtain ⟨u,hu⟩:=List.exists_mem_of_ne_nil _ hs
  obtain ⟨h4,h5⟩:=zo.1 hu
  have:u∈qB (b.C.map (moveC id into)) into:=zo.2 ⟨List.mem_map.2 ⟨u,h4,ym (fun e2=>hne (e2.symm.trans h5))⟩,h5⟩
  rw[e] at this;simp at this
theorem XW {n:Nat}{b:Bk}(h:Good n b)(hn:n≤1000)(id into:Int):Good n (zM b id into).1:=by
 unfold zM
 by_cases h0:id=into
 ·rw[if_pos h0];exact h
 ·rw[if_neg h0]
  cases hx:zw b.L id with
  | none=>exact h
  | some x=>
   cases hy:zw b.L into with
   | none=>exact h
   | some y=>
    dsimp only
    by_cases ho:zx x=false∨zx y=false
    ·rw[if_pos ho];exact h
    ·rw[if_neg ho]
     by_cases hl:1000<x.calls.length+y.calls.length
     ·rw[if_pos hl];exact h
     ·rw[if_neg hl]
      have h1:zx x=true∧zx y=true:=by
       constructor
       ·cases hq:zx x with
        | true=>rfl
        | false=>exact absurd (.inl hq) ho
       ·cases hq:zx y with
        | true=>rfl
        | false=>exact absurd (.inr hq) ho
      obtain ⟨k1,k2,k3⟩:=Yr h h0 hx hy h1.1 h1.2
      obtain ⟨z,-,-,-,-,hz⟩:=jH (id:=into) k1 hn k2 h1.2 k3
      exact hz
theorem FR (D:Nat→Prop)(x:Ic)(An Ac Au:Option Addr)(cn cc cu:Nat)(ts:List Ca)(A:Option Addr)(c:Nat)(w:World)(hn:RI w (fun b=>b<w.heap.size∧D b) An x.nodes)(hc:RI w (fun b=>b<w.heap.size∧D b) Ac x.calls)(hu:RI w (fun b=>b<w.heap.size∧D b) Au x.units)(h:Reads w (· < w.heap.size) 8 A ts.length (ts.flatMap qC))(hts:∀ t∈ts,RI w (fun b=>b<w.heap.size∧D b) t.A t.c.nodes)(hs:x.code.size≤100000)(ln:x.nodes.length≤100000)(lc:x.calls.length≤100000)(lu:x.units.length≤100000)(lt:ts.length≤1000)(Gb:∀ t∈ts,t.c.code.size≤100000∧t.c.nodes.length≤100000)(h0:jC x=false∨ts=[]):Calls Tryz.prog 30 #[.agg (ξ x An cn Ac cc Au cu),.slice A ts.length c] w (yY D x (ts.map (·.c)) w):=by
 have hP:qF x (ts.map (·.c))=(zO,1):=UZ (h0.imp (fun h=>h) (fun h=>.inl (by rw[h];rfl)))
 have HP:=ħ hP
 clear hP
 have hp:=h.plain (by omega)
 have HR:=ħ h
 have HN:=ħ hn
 have HC:=ħ hc
 have HU:=ħ hu
 have Bz:=ħ hts
 have HL:=ħ Gb
 have BU:=ħ fun (W:World) (hb:Below w.heap.size w W)=>(show Calls Tryz.prog 69 #[.agg (ξ x An cn Ac cc Au cu)] W (qX (jC x) W) from uU _ x.id x.urg x.dist x.since x.merged x.code An Ac Au cn cc cu x.nodes x.calls x.units x.closed W hs (HN.out.below hb (fun k hk=>by first | exact hk | exact hk.1)) (HC.out.below hb (fun k hk=>by first | exact hk | exact hk.1)) (HU.out.below hb (fun k hk=>by first | exact hk | exact hk.1)) ln lc lu)
 have HB:=ħ (((Below.refl w.heap.size w).alloc (Nat.le_refl _) (.cells (ξ x An cn Ac cc Au cu) 48)).alloc (by simp) (.cells ζ 48))
 have HX:=ħ ((zb.new w 48 (ξ x An cn Ac cc Au cu)).alloc (.cells ζ 48))
 have HY:=ħ (show zb ((w.alloc (.cells (ξ x An cn Ac cc Au cu) 48)).alloc (.cells ζ 48)) (w.heap.size+1) 48 ζ by
  have:=zb.new (w.alloc (.cells (ξ x An cn Ac cc Au cu) 48)) 48 ζ
  simpa using this)
 have x0:=HX.out.facts
 clear hn hc hu h hts Gb
 cases hi:jC x with
 | false=>
  clear h0
  rw[hi] at BU
  go_enter Tryz.func30,Tryz.ntmps30
  go_wp2_with (first | (go_at_call 69;((with_reducible refine (BU.out _ HB.out).mono ?_);rintro e w2 ⟨rfl,hb⟩;have HX:=ħ (HX.out.below hb HX.out.lt);have HY:=ħ (HY.out.below hb HY.out.lt);have HB:=ħ (HB.out.trans (hb.mono HB.out.size));clear hb x0;have x0:=HX.out.facts)) | (refine z8 rfl (.tmp 4) (.tmp 24) 48 rfl (w.heap.size+1) 48 _ ζ _ 10 136 zJ rfl rfl rfl HY.out rfl (zH (by simp[Value.oneCell'])) ?_;intro w8 zW zI yL))
  refine bodyPost_ret (za (p:=4) (u:=5) (ty:=48) Tryz.results30 _ _ (w.heap.size+1) 48 ζ (0,0) _ rfl zW Tryz.underlying48 rfl qo) rfl ?_
  unfold yY;rw[HP.out]
  exact YX (HB.out.trans (zI.below HB.out.size (fun k hk e=>by omega)))
 | true=>
  have h1:ts=[]:=by rcases h0 with e | e;· rw[hi] at e;cases e
                    ·exact e
  subst h1
  clear h0
  rw[hi] at BU
  go_enter Tryz.func30,Tryz.ntmps30
  go_wp2_with (first | (go_at_call 69;((with_reducible refine (BU.out _ HB.out).mono ?_);rintro e w2 ⟨rfl,hb⟩;have HX:=ħ (HX.out.below hb HX.out.lt);have HY:=ħ (HY.out.below hb HY.out.lt);have HB:=ħ (HB.out.trans (hb.mono HB.out.size));clear hb x0;have x0:=HX.out.facts)) | (refine z8 rfl (.tmp 4) (.tmp 24) 48 rfl (w.heap.size+1) 48 _ ζ _ 10 136 zJ rfl rfl rfl HY.out rfl (zH (by simp[Value.oneCell'])) ?_;intro w8 zW zI yL))
  refine bodyPost_ret (za (p:=4) (u:=5) (ty:=48) Tryz.results30 _ _ (w.heap.size+1) 48 ζ (0,0) _ rfl zW Tryz.underlying48 rfl qo) rfl ?_
  unfold yY;rw[HP.out]
  exact YX (HB.out.trans (zI.below HB.out.size (fun k hk e=>by omega)))
theorem below_drewN (B:Nat)(w:World)(n:Nat):Below B w (w.drewN n):=⟨rfl,rfl,rfl,Nat.le_refl _,fun _ _=>rfl⟩
theorem Ey (t:Ca):∀ u∈qC t,u.oneCell'=true:=by
 have:=Xz [t];rwa [List.flatMap_cons,List.flatMap_nil,List.append_nil] at this
def Q5:List Bool→Code→Code
 | [],c=>c
 | true :: p,.seq _ y=>Q5 p y
 | false :: p,.seq x _=>Q5 p x
 | _ :: p,.loop x=>Q5 p x
 | _ :: p,.block _ x=>Q5 p x
 | false :: p,.cond _ x _=>Q5 p x
 | true :: p,.cond _ _ y=>Q5 p y
 | _,c=>c
def fG (K:Act→World→Prop):Exit→Act→World→Prop
 | .normal,a,w=>K a w
 | _,_,_=>False
theorem Bo (ss:List Ca)(t:Ca)(A6:Option Addr)(c6 g base:Nat)(W:World)(hl:ss.length≤1000)(HO:RowKit.Hid (W.ownsRow base 34 8 (.slice A6 ss.length c6) ss.length (ss.flatMap qC)))(HT:RowKit.Hid (zb W g 34 (χ t.c t.A t.k)))
 (K0:Act→World→Prop) (s0 s1 s2 s3 s4 s5 s7 s10 s11 s12 s13 vw s15 s16 xQ xP xS s20 xM vD xK s24 xZ xO xX Sw vB xL vz x_ xN vE kw Df kR D7 Dt DD kg kE s43 s44 DK De kC D9 s49 uI uS D8 s53 DC Dk kX Du uO Dn Dy D5 kK uJ kF Dz DJ Dw s68 Bw BR ae s72 BS BX aa BV BB af BM BH B_ s82 s83 BI Gz GM s87 GK GN GY GA Eg Ec Eh GQ GU Ed G_ Ee X3 Xp Xf JX Xn JV JN Xq JS Xd JW Xc J_ JJ Xh JO JQ X9 Xu Xe X0 Xo X6 JR Xl X4 JY Xr JK Xk Xb JM X5 Xm X7 Xt:Value)
 (CZ:RowKit.Hid (∀ (j:Nat) (A9:Option Addr) (c9:Nat) (wx:World) (v9 v10 v35 v36 v37 v38 v39 v40 v41 v42 v43 v44 v45 v46 v47 v48 v49 v50 v51 v52 v53 v54 v55 v56 v57 v58 v59 v60 v61 v62 v63 v64 v65 v66 v67 v68 v69 v70 v71 v72 v73 v74 v75 v76 v77 v78 v79 v80 v81 v82 v83 v84:Value),j≤ss.length→Vr (ss.map (·.c)) t.c=j→wx.ownsRow W.heap.size 34 8 (.slice A9 (Ql ss j t).length c9) (Ql ss j t).length ((Ql ss j t).flatMap qC)→Below W.heap.size W wx→K0 ⟨#[s0,s1,s2,s3,s4,s5,.slice A9 (Ql ss j t).length c9,s7,.pointer (some ⟨g,0,none⟩),v9,v10,s11,s12,s13,vw,s15,s16,xQ,xP,xS,s20,xM,vD,xK,s24,xZ,xO,xX,Sw,vB,xL,vz,x_,xN,vE,v35,v36,v37,v38,v39,v40,v41,v42,v43,v44,v45,v46,v47,v48,v49,v50,v51,v52,v53,v54,v55,v56,v57,v58,v59,v60,v61,v62,v63,v64,v65,v66,v67,v68,v69,v70,v71,v72,v73,v74,v75,v76,v77,v78,v79,v80,v81,v82,v83,v84,Gz,GM,s87,GK,GN,GY,GA,Eg,Ec,Eh,GQ,GU,Ed,G_,Ee,X3,Xp,Xf,JX,Xn,JV,JN,Xq,JS,Xd,JW,Xc,J_,JJ,Xh,JO,JQ,X9,Xu,Xe,X0,Xo,X6,JR,Xl,X4,JY,Xr,JK,Xk,Xb,JM,X5,Xm,X7,Xt],[]⟩ wx)) :
 (Q5 [true,true,true,false,true,false,false,true,true,false,false,true,true,true] (Tryz.f30.body.getD .skip)).wp Tryz.prog (fG K0) ⟨#[s0,s1,s2,s3,s4,s5,.slice A6 ss.length c6,s7,.pointer (some ⟨g,0,none⟩),ι 0,s10,s11,s12,s13,vw,s15,s16,xQ,xP,xS,s20,xM,vD,xK,s24,xZ,xO,xX,Sw,vB,xL,vz,x_,xN,vE,kw,Df,kR,D7,Dt,DD,kg,kE,s43,s44,DK,De,kC,D9,s49,uI,uS,D8,s53,DC,Dk,kX,Du,uO,Dn,Dy,D5,kK,uJ,kF,Dz,DJ,Dw,s68,Bw,BR,ae,s72,BS,BX,aa,BV,BB,af,BM,BH,B_,s82,s83,BI,Gz,GM,s87,GK,GN,GY,GA,Eg,Ec,Eh,GQ,GU,Ed,G_,Ee,X3,Xp,Xf,JX,Xn,JV,JN,Xq,JS,Xd,JW,Xc,J_,JJ,Xh,JO,JQ,X9,Xu,Xe,X0,Xo,X6,JR,Xl,X4,JY,Xr,JK,Xk,Xb,JM,X5,Xm,X7,Xt],[]⟩ W:=by
 generalize hQ:fG K0=Q'
 dsimp only [Q5,Tryz.f30,Option.getD]
 subst hQ
 go_wp2_with fail
 go_loopw [9] (fun vi wr=>∃ (j:Nat),j≤ss.length∧vi=ι (j:Int)∧(∀ i,i<j→∀ (h:i<ss.length),Xg ss[i].c t.c)∧Below W.heap.size W wr) (fun vi _=>ss.length - (intOf vi).toNat)
 case atStart=>exact ⟨0,Nat.zero_le _,rfl,fun i hi=>by omega,Below.refl _ _⟩
 case round=>
  obtain ⟨j,hj,rfl,rX,hb5⟩:=hrel
  have iW:=ħ rX
  have bB:=ħ (HT.out.below hb5 HT.out.lt)
  have qm:=ħ (own_below HO.out hb5 (fun g hg=>(HO.out.lt g hg).2))
  have Iy:=ħ hb5
  clear rX hb5
  have Ef:=ħ ((Reads.of_own qm.out).old (by omega) |>.more (B':=fun k=>k<wr.heap.size) (fun k hk=>hk.2))
  have Ev:=ħ (xh qm.out)
  have x0:=bB.out.facts
  obtain ⟨q,HQ⟩:∃ q:Bool,RowKit.Hid (q=decide (∃ h:j<ss.length,Xg ss[j].c t.c)):=⟨_,ħ rfl⟩
  go_upto_region 10 with (fail)
  go_cut [68] from 35 to 67 (fun v wx=>v=.bool q∧Below wr.heap.size wr wx)
  case first=>
   by_cases hl:j<ss.length
   ·have hl':(j:Int)<ss.length:=by omega
    have dl:decide ((j:Int)<ss.length)=true:=by simpa using hl'
    have N7:=Ef.out.plain (by omega)
    have hix:=fun W=>VD N7 c6 j hl W
    have hq0:wr.cell? ⟨bk A6,qP A6+j * 8,none⟩=some (ι ss[j].c.call):=jG Ef.out hl 0 _ rfl
    have dY:wr.cell? ⟨bk A6,qP A6+j * 8+6,none⟩=some (ι ss[j].c.since):=jG Ef.out hl 6 _ rfl
    have HE:=ħ (show q=decide (Xg ss[j].c t.c) by rw[HQ.out];exact decide_eq_decide.2 ⟨fun ⟨_,h⟩=>h,fun h=>⟨hl,h⟩⟩)
    generalize hyy:ss[j]=y at *
    clear hyy
    by_cases h1:y.c.since<t.c.since
    ·have d1:decide (y.c.since<t.c.since)=true:=by simpa using h1
     have HD:=ħ (show q=true from by rw[HE.out];exact decide_eq_true (.inl h1))
     clear h1
     go_quiet (fail)
     go_wp2_with fail
     go_meet
     case rel=>exact ⟨by rw[HD.out],below_drewN _ _ _⟩
    ·have d1:decide (y.c.since<t.c.since)=false:=by simpa using h1
     by_cases h2:y.c.since=t.c.since
     ·have d2:(y.c.since == t.c.since)=true:=by simpa using h2
      by_cases h3:y.c.call<t.c.call
      ·have d3:decide (y.c.call<t.c.call)=true:=by simpa using h3
       have HD:=ħ (show q=true from by rw[HE.out];exact decide_eq_true (.inr ⟨h2,h3⟩))
       clear h1 h2 h3
       go_quiet (fail)
       go_wp2_with fail
       go_meet
       case rel=>exact ⟨by rw[HD.out],below_drewN _ _ _⟩
      ·have d3:decide (y.c.call<t.c.call)=false:=by simpa using h3
       have HD:=ħ (show q=false from by rw[HE.out];exact decide_eq_false (fun h=>by unfold Xg at h;omega))
       clear h1 h2 h3
       go_quiet (fail)
       go_wp2_with fail
       go_meet
       case rel=>exact ⟨by rw[HD.out],below_drewN _ _ _⟩
     ·have d2:(y.c.since == t.c.since)=false:=by simpa using h2
      have HD:=ħ (show q=false from by rw[HE.out];exact decide_eq_false (fun h=>by unfold Xg at h;omega))
      clear h1 h2
      go_quiet (fail)
      go_wp2_with fail
      go_meet
      case rel=>exact ⟨by rw[HD.out],below_drewN _ _ _⟩
   ·have hl':¬ (j:Int)<ss.length:=by omega
    have dl:decide ((j:Int)<ss.length)=false:=by simpa using hl'
    have HD:=ħ (show q=false from by rw[HQ.out];exact decide_eq_false (fun ⟨h,_⟩=>hl h))
    clear hl
    go_quiet (fail)
    go_wp2_with fail
    go_meet
    case rel=>exact ⟨by rw[HD.out],below_drewN _ _ _⟩
  case rest=>
   obtain ⟨rfl,hb6⟩:=hcut
   have fQ:=ħ (bB.out.below hb6 bB.out.lt)
   have yS:=ħ (own_below qm.out hb6 (fun g hg=>(qm.out.lt g hg).2))
   have sW:=ħ (Iy.out.trans (hb6.mono Iy.out.size))
   have E8:=ħ ((Reads.of_own yS.out).old (by omega) |>.more (B':=fun k=>k<wc.heap.size) (fun k hk=>hk.2))
   clear bB qm Iy Ef hb6 x0
   have x0:=fQ.out.facts
   cases q with
   | true=>
    obtain ⟨hl,aZ⟩:=of_decide_eq_true HQ.out.symm
    have Cm:=ħ (show ∀ i,i<j+1→∀ (h:i<ss.length),Xg ss[i].c t.c from fun i hi h=>by
     rcases (by omega:i<j∨i=j) with e | rfl
     ·exact iW.out i e h
     ·exact aZ)
    clear HQ aZ
    go_wp2_with fail
    exact ⟨⟨j+1,by omega,by go_num,Cm.out,sW.out⟩,by simp[intOf];omega⟩
   | false=>
    have HK:=ħ (dK (l:=ss) (t:=t.c) hj iW.out (fun h aZ=>absurd HQ.out.symm (by rw[decide_eq_true (⟨h,aZ⟩:∃ h:j<ss.length,Xg ss[j].c t.c)];simp)))
    clear HQ iW
    have ho:=World.ownsRow_made (base:=wc.heap.size) (e:=34) (size:=8) wc #[] 0 (Nat.le_refl _) (by simp) (by simp)
    have zD:=ħ ho
    have HB1:=ħ ((Below.refl wc.heap.size wc).alloc (Nat.le_refl _) (.cells #[] 34))
    have eQ:=ħ (lv (E8.out.alloc (.cells #[] 34)) hj)
    have LB:=fun W=>KY (A:=A6) (n:=ss.length) (k:=j) (c:=c6) (by have:=Ev.out;omega) W
    have LY:=fun W=>Gm (A:=A6) (n:=ss.length) (k:=j) (c:=c6) (by have:=Ev.out;omega) W
    have hl1:=fun W=>KV (A:=A6) (n:=ss.length) (k:=j) (c:=c6) hj W
    have hl2:=fun W=>G9 (A:=A6) (n:=ss.length) (k:=j) (c:=c6) hj W
    clear ho
    go_upto_region 13 with (at_builtin;refine ze _ rfl _ _ _ rfl wc.heap.size 34 _ 8 88 Tryz.underlying27 Hq rfl (by omega) (.slice (some ⟨wc.heap.size,0,none⟩) 0 0) (0) ([]) rfl zD.out _ A6 (j) (c6) ((ss.take j).flatMap qC) rfl eQ.out (Xz _) (by simp only[maxLen];omega) (by omega) (by simp) ?_;intro A7 c7 w7 hown hgr hat;rw[Nat.zero_add] at hown⊢;rw[List.nil_append] at hown;have Z7:=ħ (Below.grown HB1.out hgr (by simp) (fun j hj=>by simp[Value.ownBlock] at hj;omega));have oU:=ħ (E8.out.below Z7.out (fun j hj=>hj));have ng:=ħ (fQ.out.below Z7.out fQ.out.lt);have Jy:=ħ (Z7.out.alloc Z7.out.size (.cells (χ t.c t.A t.k) 34));have YY:=ħ (own_below hown ((Below.refl w7.heap.size w7).alloc (Nat.le_refl _) (.cells (χ t.c t.A t.k) 34)) (fun g hg=>(hown.lt g hg).2));have V6:=ħ (show Reads (w7.alloc (.cells (χ t.c t.A t.k) 34)) (·=w7.heap.size) 8 (some ⟨w7.heap.size,0,none⟩) 1 [ι t.c.call,ι t.c.inc,ι t.c.urg,.string t.c.code,.slice t.A t.c.nodes.length t.k,ι t.c.dist,ι t.c.since,.bool t.c.closed] from Reads.newS w7 (qC t) 34 (0,0) 1 8 rfl _ rfl);have fD:=Jy.out.size;clear hown hgr hat zD eQ x0;have x0:=ng.out.facts)
    go_upto_region 14 with (at_builtin;refine ze _ rfl _ _ _ rfl wc.heap.size 34 _ 8 88 Tryz.underlying27 Hq rfl (by omega) (.slice A7 j c7) (j) ((ss.take j).flatMap qC) rfl YY.out _ (some ⟨w7.heap.size,0,none⟩) (1) (1) ([ι t.c.call,ι t.c.inc,ι t.c.urg,.string t.c.code,.slice t.A t.c.nodes.length t.k,ι t.c.dist,ι t.c.since,.bool t.c.closed]) rfl V6.out (Ey t) (by simp only[maxLen];omega) (by omega) fD ?_;intro A8 c8 w8 hown hgr hat;have Z_:=ħ (Below.grown Jy.out hgr Jy.out.size (fun j hj=>(YY.out.lt j hj).1));have Z5:=ħ hown;have lF:=ħ ((oU.out.alloc (.cells (χ t.c t.A t.k) 34)).below (w':=w8) (Below.grown (Below.refl wc.heap.size _) hgr fD (fun j hj=>(YY.out.lt j hj).1)) (fun j hj=>hj) |>.cut (k:=j) (cap:=c6) hj Ev.out);have p9:=Z_.out.size;clear hown hgr hat)
    go_wp2_with (at_builtin;refine ze _ rfl _ _ _ rfl wc.heap.size 34 _ 8 88 Tryz.underlying27 Hq rfl (by omega) (.slice A8 (j+1) c8) (j+1) (_) rfl Z5.out _ (kG A6 c6 j) (ss.length - j) (c6 - j) ((ss.flatMap qC).drop (j * 8)) rfl lF.out (fun u hu=>Xz ss u (List.mem_of_mem_drop hu)) (by simp only[maxLen];omega) (by omega) p9 ?_;intro A9 c9 w9 hown hgr hat;have oQ:=ħ (Below.grown Z_.out hgr Z_.out.size (fun j hj=>(Z5.out.lt j hj).1));have rU:=ħ hown;clear hown hgr hat)
    have hlen:j+1+(ss.length - j)=(Ql ss j t).length:=by rw[KF t hj];omega
    have rV:w9.ownsRow wc.heap.size 34 8 (.slice A9 (j+1+(ss.length - j)) c9) (j+1+(ss.length - j)) ((ss.take j).flatMap qC ++ qC t ++ (ss.flatMap qC).drop (j * 8)):=rU.out
    rw[hlen,←FD] at rV
    rw[hlen]
    exact CZ.out j A9 c9 w9 _ _ _ _ _ _ _ _ _ _ _ _ _ _ _ _ _ _ _ _ _ _ _ _ _ _ _ _ _ _ _ _ _ _ _ _ _ _ _ _ _ _ _ _ _ _ _ _ _ _ _ _ hj HK.out (World.ownsRow.mono rV sW.out.size) (sW.out.trans (oQ.out.mono sW.out.size))
theorem bH (ss:List Ca)(t:Ca)(A6:Option Addr)(c6 g base:Nat)(W:World)(hl:ss.length≤1000)(HO:RowKit.Hid (W.ownsRow base 34 8 (.slice A6 ss.length c6) ss.length (ss.flatMap qC)))(HT:RowKit.Hid (zb W g 34 (χ t.c t.A t.k)))
 (Q:Exit→Act→World→Prop) (s0 s1 s2 s3 s4 s5 s7 s10 s11 s12 s13 vw s15 s16 xQ xP xS s20 xM vD xK s24 xZ xO xX Sw vB xL vz x_ xN vE kw Df kR D7 Dt DD kg kE s43 s44 DK De kC D9 s49 uI uS D8 s53 DC Dk kX Du uO Dn Dy D5 kK uJ kF Dz DJ Dw s68 Bw BR ae s72 BS BX aa BV BB af BM BH B_ s82 s83 BI Gz GM s87 GK GN GY GA Eg Ec Eh GQ GU Ed G_ Ee X3 Xp Xf JX Xn JV JN Xq JS Xd JW Xc J_ JJ Xh JO JQ X9 Xu Xe X0 Xo X6 JR Xl X4 JY Xr JK Xk Xb JM X5 Xm X7 Xt:Value)
 (CZ:∀ (j:Nat) (A9:Option Addr) (c9:Nat) (wx:World) (v9 v10 v35 v36 v37 v38 v39 v40 v41 v42 v43 v44 v45 v46 v47 v48 v49 v50 v51 v52 v53 v54 v55 v56 v57 v58 v59 v60 v61 v62 v63 v64 v65 v66 v67 v68 v69 v70 v71 v72 v73 v74 v75 v76 v77 v78 v79 v80 v81 v82 v83 v84:Value),j≤ss.length→Vr (ss.map (·.c)) t.c=j→wx.ownsRow W.heap.size 34 8 (.slice A9 (Ql ss j t).length c9) (Ql ss j t).length ((Ql ss j t).flatMap qC)→Below W.heap.size W wx→Q .normal ⟨#[s0,s1,s2,s3,s4,s5,.slice A9 (Ql ss j t).length c9,s7,.pointer (some ⟨g,0,none⟩),v9,v10,s11,s12,s13,vw,s15,s16,xQ,xP,xS,s20,xM,vD,xK,s24,xZ,xO,xX,Sw,vB,xL,vz,x_,xN,vE,v35,v36,v37,v38,v39,v40,v41,v42,v43,v44,v45,v46,v47,v48,v49,v50,v51,v52,v53,v54,v55,v56,v57,v58,v59,v60,v61,v62,v63,v64,v65,v66,v67,v68,v69,v70,v71,v72,v73,v74,v75,v76,v77,v78,v79,v80,v81,v82,v83,v84,Gz,GM,s87,GK,GN,GY,GA,Eg,Ec,Eh,GQ,GU,Ed,G_,Ee,X3,Xp,Xf,JX,Xn,JV,JN,Xq,JS,Xd,JW,Xc,J_,JJ,Xh,JO,JQ,X9,Xu,Xe,X0,Xo,X6,JR,Xl,X4,JY,Xr,JK,Xk,Xb,JM,X5,Xm,X7,Xt],[]⟩ wx) :
 (Q5 [true,true,true,false,true,false,false,true,true,false,false,true,true,true] (Tryz.f30.body.getD .skip)).wp Tryz.prog Q ⟨#[s0,s1,s2,s3,s4,s5,.slice A6 ss.length c6,s7,.pointer (some ⟨g,0,none⟩),ι 0,s10,s11,s12,s13,vw,s15,s16,xQ,xP,xS,s20,xM,vD,xK,s24,xZ,xO,xX,Sw,vB,xL,vz,x_,xN,vE,kw,Df,kR,D7,Dt,DD,kg,kE,s43,s44,DK,De,kC,D9,s49,uI,uS,D8,s53,DC,Dk,kX,Du,uO,Dn,Dy,D5,kK,uJ,kF,Dz,DJ,Dw,s68,Bw,BR,ae,s72,BS,BX,aa,BV,BB,af,BM,BH,B_,s82,s83,BI,Gz,GM,s87,GK,GN,GY,GA,Eg,Ec,Eh,GQ,GU,Ed,G_,Ee,X3,Xp,Xf,JX,Xn,JV,JN,Xq,JS,Xd,JW,Xc,J_,JJ,Xh,JO,JQ,X9,Xu,Xe,X0,Xo,X6,JR,Xl,X4,JY,Xr,JK,Xk,Xb,JM,X5,Xm,X7,Xt],[]⟩ W:=
 wp_mono (Bo ss t A6 c6 g base W hl HO HT (Q .normal) s0 s1 s2 s3 s4 s5 s7 s10 s11 s12 s13 vw s15 s16 xQ xP xS s20 xM vD xK s24 xZ xO xX Sw vB xL vz x_ xN vE kw Df kR D7 Dt DD kg kE s43 s44 DK De kC D9 s49 uI uS D8 s53 DC Dk kX Du uO Dn Dy D5 kK uJ kF Dz DJ Dw s68 Bw BR ae s72 BS BX aa BV BB af BM BH B_ s82 s83 BI Gz GM s87 GK GN GY GA Eg Ec Eh GQ GU Ed G_ Ee X3 Xp Xf JX Xn JV JN Xq JS Xd JW Xc J_ JJ Xh JO JQ X9 Xu Xe X0 Xo X6 JR Xl X4 JY Xr JK Xk Xb JM X5 Xm X7 Xt (ħ CZ)) (fun e a w h=>by cases e <;> first | exact h | exact h.elim)
end Go.Proofs.YtdhcjhfgibmhfaaGreatDoor

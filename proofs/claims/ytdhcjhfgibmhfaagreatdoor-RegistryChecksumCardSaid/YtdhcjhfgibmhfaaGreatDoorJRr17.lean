import Derived.Test.YtdhcjhfgibmhfaaGreatDoorJRr16
import Derived.Deep.RegionHeld
set_option linter.unusedVariables false
set_option linter.unusedSimpArgs false
set_option maxRecDepth 10000
set_option maxHeartbeats 8000000
namespace Go.Proofs.YtdhcjhfgibmhfaaGreatDoor
open Go.RowKit Go.Own Go.Quo Go.Inc
structure BT (w wr:World) (c0:Array Value) (py:Nat) (c1:Array Value):Prop where
 n:B2 w wr c0
 t:zb wr py 34 c1
theorem BT.below {w wr w2:World}{c0 c1:Array Value}{py:Nat}(h:BT w wr c0 py c1)(hb:Below wr.heap.size wr w2):BT w w2 c0 py c1:=⟨h.n.below hb,h.t.below hb h.t.lt⟩
structure tY (w wr:World) (c0:Array Value) (py:Nat) (c1:Array Value) (px:Nat) (c2:Array Value):Prop where
 n:B2 w wr c0
 t:zb wr py 34 c1
 x:zb wr px 48 c2
theorem tY.below {w wr w2:World}{c0 c1 c2:Array Value}{py px:Nat}(h:tY w wr c0 py c1 px c2)(hb:Below wr.heap.size wr w2):tY w w2 c0 py c1 px c2:=⟨h.n.below hb,h.t.below hb h.t.lt,h.x.below hb h.x.lt⟩
theorem Fh {n:Nat}{b:Bk}(h:Good n b){t:Cr}{call:Int}(hc:yP b.C call=some t):∃ x,zw b.L t.inc=some x∧1≤x.calls.length:=by
 obtain ⟨g1,g2⟩:=yC hc
 obtain ⟨x,hx,hxi,hxm⟩:=zg.lk h t g1
 have e:=Vl (zg.sL h) hx
 rw[hxi] at e
 refine ⟨x,e,?_⟩
 rw[Good.cs h x hx,List.length_map]
 exact List.length_pos_of_mem (zo.2 ⟨g1,hxi.symm⟩)
theorem Gq {n:Nat}{b:Bk}(h:Good n b){t:Cr}{x:Ic}{call id:Int}(hid:zQ id 1=true)(hc:yP b.C call=some t)(hi:zw b.L id=none)(hx:zw b.L t.inc=some x)(ho':zx x=true) :
 zg (n+1) ⟨zz b.L (zt id { t with inc:=id }),zG b.C { t with inc:=id }⟩ t.inc∧zw (zz b.L (zt id { t with inc:=id })) t.inc=some x:=by
 obtain ⟨g1,g2⟩:=yC hc
 obtain ⟨g3,g4⟩:=zi hx
 have hv:=zg.vC h t g1
 have hne:id≠t.inc:=fun e=>by rw[←e,hi] at hx;cases hx
 refine ⟨J8 h hid hi (t:={ t with inc:=id }) rfl ⟨Zx hv.1 (Zu hid) t.closed,hv.2⟩ t.inc (fun u hu e=>by
  have:u=t:=qj Cr.call (zg.sC h) hu g1 e
  subst this
  exact ⟨rfl,fun y hy hyi=>by rw[qj Ic.id (zg.sL h) hy g3 (by rw[hyi,g4])];exact ho'⟩),?_⟩
 rw[jb (zg.sL h),if_neg (fun e=>hne (by exact e.symm))];exact hx
theorem lK (v:Bv)(cl inc id now:Int)(n:Nat)(B:Nat→Prop)(w:World)(hG:OkG w B v n) :
 Calls Tryz.prog 47 #[YW v,ι cl,ι inc,ι id,ι now] w (Je (zS v.bk cl inc id now) B w):=by
 have h:=hG.toOk
 have HG:=ħ hG
 have HV:=ħ h
 have y8:=ħ (B2.new w (β v))
 have HFin:=ħ fun (r:Int) (W:World) (hb:Below w.heap.size w W) (hr:zS v.bk cl inc id now=(v.bk,r))=>(show Je (zS v.bk cl inc id now) B w (.returned (.tuple #[YW v,ι r])) W from ⟨v,by rw[hr],HV.out.ok.below0 hb,by rw[hr],hb⟩)
 have kJ:=ħ fun (W:World) (hb:Below w.heap.size w W)=>XT v (fun k=>B k) cl W (HV.out.ok.below0 hb) (by have:=HV.out.nC;omega)
 have ZX:=ħ fun (W:World) (hb:Below w.heap.size w W)=>Z4 v (fun k=>B k) inc W (HV.out.ok.below0 hb) (by have:=HV.out.nL;omega)
 have ak:=ħ fun (W:World) (hb:Below w.heap.size w W)=>Z4 v (fun k=>B k) id W (HV.out.ok.below0 hb) (by have:=HV.out.nL;omega)
 have JF:=ħ fun (W:World)=>EP id W
 clear h hG
 go_enter Tryz.func47,Tryz.ntmps47
 go_upto_region 1 with fail
 generalize (w.alloc _).alloc _=W1 at *
 obtain ⟨x0,x1,x2⟩:=y8.out.b.facts
 by_cases hn:zQ id 1=true
 ·by_cases h1:now<0
  ·have h1d:decide (now<0)=true:=by simpa using h1
   rw[hn] at JF
   have HE:=ħ (show zS v.bk cl inc id now=(v.bk,1) by unfold zS;rw[if_pos (.inr (.inl h1))])
   go_wp2_with (first | (go_at_call 87;((with_reducible refine (JF.out _).mono ?_);rintro e w3 ⟨rfl,rfl⟩)) | (refine z8 rfl (.tmp 10) (.tmp 29) 29 rfl (w.heap.size+1) 29 _ (β v) _ 2 48 zy rfl rfl rfl y8.out.z rfl zq ?_;intro w8 zW zI yL))
   refine bodyPost_ret (za (p:=10) (u:=11) (ty:=29) Tryz.results47 _ _ (w.heap.size+1) 29 (β v) (0,0) _ rfl zW Tryz.underlying29 rfl zm) rfl ?_
   exact HFin.out 1 _ (y8.out.be.trans (zI.below y8.out.be.size (fun j hj e=>by have e2:j=w.heap.size+1:=e;omega))) HE.out
  ·by_cases h2:1099511627776<now
   ·have LM:decide (1099511627776<now)=true:=by simpa using h2
    rw[hn] at JF
    have HE:=ħ (show zS v.bk cl inc id now=(v.bk,1) by unfold zS;rw[if_pos (.inr (.inr h2))])
    go_wp2_with (first | (go_at_call 87;((with_reducible refine (JF.out _).mono ?_);rintro e w3 ⟨rfl,rfl⟩)) | (refine z8 rfl (.tmp 10) (.tmp 29) 29 rfl (w.heap.size+1) 29 _ (β v) _ 2 48 zy rfl rfl rfl y8.out.z rfl zq ?_;intro w8 zW zI yL))
    refine bodyPost_ret (za (p:=10) (u:=11) (ty:=29) Tryz.results47 _ _ (w.heap.size+1) 29 (β v) (0,0) _ rfl zW Tryz.underlying29 rfl zm) rfl ?_
    exact HFin.out 1 _ (y8.out.be.trans (zI.below y8.out.be.size (fun j hj e=>by have e2:j=w.heap.size+1:=e;omega))) HE.out
   ·have wh:=ħ (show ¬ (zQ id 1=false∨now<0∨1099511627776<now) by rw[hn];simp;omega)
    have AR:=ħ hn
    rw[hn] at JF
    go_upto_region 3 with ((go_at_call 87;((with_reducible refine (JF.out _).mono ?_);rintro e w3 ⟨rfl,rfl⟩)))
    clear h1 h2 JF hn
    have QV:=kJ.out _ y8.out.be
    rcases qH (fun a:Ca=>a.c.call) v.lc cl with ⟨i,hi,hlt,hg⟩ | ⟨hi,hg⟩
    ·rw[hi] at QV
     have jP:=ħ QV
     obtain ⟨t,ht⟩:∃ t,t=v.lc[i]:=⟨_,rfl⟩
     have HC:=ħ (show yP v.bk.C cl=some t.c by rw[ht];exact kH hlt hg)
     have Ma:=ħ fun (W':World) (hb:Below w.heap.size w W')=>Qz (HV.out.ok.below0 hb).rc hlt ht
     have Kk:=ħ (HV.out.ok.xc t (by rw[ht];exact List.getElem_mem hlt))
     have MK:=zg.vC HG.out.g t.c (yC HC.out).1
     have Al:=ħ MK
     have hpc:=HV.out.ok.rc.plain (by omega)
     have hix:=fun W=>UC hpc v.cC i hlt W
     clear QV hi hg ht hlt MK
     rcases qH (fun a:Xa=>a.x.id) v.la inc with ⟨i0,hi0,iL,hg0⟩ | ⟨hi0,hg0⟩
     ·rw[hi0] at ZX
      obtain ⟨LZ,pg⟩:∃ LZ,zw v.bk.L inc=some LZ:=⟨_,QD iL hg0⟩
      have HI0:=ħ pg
      clear pg
      clear hi0 hg0 iL
      rcases qH (fun a:Xa=>a.x.id) v.la id with ⟨i1,hi1,hlt1,hg1⟩ | ⟨hi1,hg1⟩
      ·rw[hi1] at ak
       have HE:=ħ (show zS v.bk cl inc id now=(v.bk,5) by unfold zS;rw[if_neg wh.out,HC.out,HI0.out];dsimp only;rw[QD hlt1 hg1])
       clear hi1 hg1 hlt1
       go_wp2_with (first | (go_at_call 24;((with_reducible refine jP.out.mono ?_);rintro e w4 ⟨rfl,hb⟩;have qa:=ħ (y8.out.below hb);clear hb x0 x1 x2;obtain ⟨x0,x1,x2⟩:=qa.out.b.facts)) | (go_at_call 20;((with_reducible refine (ZX.out _ qa.out.be).mono ?_);rintro e w5 ⟨rfl,hb⟩;have y5:=ħ (qa.out.below hb);clear hb x0 x1 x2;obtain ⟨x0,x1,x2⟩:=y5.out.b.facts)) | (go_at_call 20;((with_reducible refine (ak.out _ y5.out.be).mono ?_);rintro e w5 ⟨rfl,hb⟩;have Z6:=ħ (y5.out.below hb);clear hb x0 x1 x2;obtain ⟨x0,x1,x2⟩:=Z6.out.b.facts)) | (refine z8 rfl (.tmp 10) (.tmp 46) 29 rfl (w.heap.size+1) 29 _ (β v) _ 2 48 zy rfl rfl rfl Z6.out.z rfl zq ?_;intro w8 zW zI yL))
       refine bodyPost_ret (za (p:=10) (u:=11) (ty:=29) Tryz.results47 _ _ (w.heap.size+1) 29 (β v) (0,0) _ rfl zW Tryz.underlying29 rfl zm) rfl ?_
       exact HFin.out 5 _ (Z6.out.be.trans (zI.below Z6.out.be.size (fun j hj e=>by have e2:j=w.heap.size+1:=e;omega))) HE.out
      ·rw[hi1] at ak
       have HI1:=ħ (show zw v.bk.L id=none from jw hg1)
       clear hi1 hg1
       have oq:=ħ (show zS v.bk cl inc id now=if t.c.inc≠jd v.bk inc then ((v.bk,14):Bk × Int) else match zw v.bk.L t.c.inc with
        | none=>((v.bk,8):Bk × Int)
        | some x=>if zx x=false∨x.calls.length<2 then (v.bk,8) else (qw ⟨zz v.bk.L (zt id { t.c with inc:=id }),zG v.bk.C { t.c with inc:=id }⟩ t.c.inc,0) from by
        unfold zS;rw[if_neg wh.out,HC.out,HI0.out];dsimp only;rw[HI1.out];rfl)
       go_upto_region 8 with (first | (go_at_call 24;((with_reducible refine jP.out.mono ?_);rintro e w4 ⟨rfl,hb⟩;have qa:=ħ (y8.out.below hb);clear hb x0 x1 x2;obtain ⟨x0,x1,x2⟩:=qa.out.b.facts)) | (go_at_call 20;((with_reducible refine (ZX.out _ qa.out.be).mono ?_);rintro e w5 ⟨rfl,hb⟩;have y5:=ħ (qa.out.below hb);clear hb x0 x1 x2;obtain ⟨x0,x1,x2⟩:=y5.out.b.facts)) | (go_at_call 20;((with_reducible refine (ak.out _ y5.out.be).mono ?_);rintro e w5 ⟨rfl,hb⟩;have Z6:=ħ (y5.out.below hb);clear hb x0 x1 x2;obtain ⟨x0,x1,x2⟩:=Z6.out.b.facts)))
       obtain ⟨e0,e1,e2,e3,e4,e5,e6,e7⟩:=Ma.out _ Z6.out.be
       go_upto_region 9 with fail
       obtain ⟨py,hpy⟩:∃ p,p=w5.heap.size:=⟨_,rfl⟩
       have qA:=ħ (show BT w (w5.alloc (.cells (χ t.c t.A t.k) 34)) (β v) py (χ t.c t.A t.k) from ⟨Z6.out.alloc (.cells (χ t.c t.A t.k) 34),by rw[hpy];exact zb.new w5 34 _⟩)
       have sG:w.heap.size+2≤py:=by have:=Z6.out.sz;omega
       rw[←hpy]
       clear e0 e1 e2 e3 e4 e5 e6 e7 hpy x0 x1 x2 kJ jP ZX Ma hix y5 qa Z6
       generalize w5.alloc _=W4 at *
       have HK:=ħ fun (W':World) (hb:Below W4.heap.size W4 W')=>(show (W'.cell? ⟨w.heap.size,0,none⟩=some (.slice v.AL v.la.length v.cL)∧W'.cell? ⟨w.heap.size,1,none⟩=some (.slice v.AC v.lc.length v.cC))∧(W'.cell? ⟨py,0,none⟩=some (ι t.c.call)∧W'.cell? ⟨py,1,none⟩=some (ι t.c.inc)∧W'.cell? ⟨py,2,none⟩=some (ι t.c.urg)∧W'.cell? ⟨py,3,none⟩=some (.string t.c.code)∧W'.cell? ⟨py,4,none⟩=some (.slice t.A t.c.nodes.length t.k)∧W'.cell? ⟨py,5,none⟩=some (ι t.c.dist)∧W'.cell? ⟨py,6,none⟩=some (ι t.c.since)∧W'.cell? ⟨py,7,none⟩=some (.bool t.c.closed)) from ⟨⟨(qA.out.below hb).n.b.cell 0,(qA.out.below hb).n.b.cell 1⟩,Q4 (qA.out.below hb).t⟩)
       have K_:=ħ fun (W:World) (hb:Below W4.heap.size W4 W)=>qA.out.below hb
       have t_:=ħ fun (W:World) (hb:Below W4.heap.size W4 W)=>gU v inc B W (HV.out.ok.below0 (qA.out.n.be.trans (hb.mono qA.out.n.be.size))) HV.out.nL
       obtain ⟨R,hR⟩:∃ R,R=jd v.bk inc:=⟨_,rfl⟩
       unfold xz at t_
       rw[←hR] at t_ oq
       clear hR
       go_cut [57] (fun a wx=>a=.bool (t.c.inc != R)∧BT w wx (β v) py (χ t.c t.A t.k))
       case first=>
        refine qW (S:=fun w'=>Fr (fun _=>False) W4 w') #[{ dst:=some 52,op:=Op.fieldAddr 34 (Operand.tmp 13) 1,type:=0,pos:= "ref.go:243",after:=#[],guard:=none },{ dst:=some 53,op:=Op.load 2 (Operand.tmp 52),type:=2,pos:= "ref.go:243",after:=#[{ on:=0,ground:=Ground.data }],guard:=none },{ dst:=some 54,op:=Op.load 29 (Operand.tmp 5),type:=29,pos:= "ref.go:243",after:=#[],guard:=none },{ dst:=some 55,op:=Op.move (Operand.tmp 2),type:=2,pos:= "ref.go:243",after:=#[],guard:=none },{ dst:=some 56,op:=Op.call { callee:=Callee.value (Operand.func 25),args:=#[Operand.tmp 54,Operand.tmp 55],argTypes:=#[29,2] },type:=2,pos:= "ref.go:243",after:=#[{ on:=2,ground:=Ground.data },{ on:=3,ground:=Ground.data }],guard:=none }] { dst:=some 57,op:=Op.binOp Go.BinOp.neq 2 (Operand.tmp 53) (Operand.tmp 56) 2,type:=4,pos:= "ref.go:243",after:=#[{ on:=1,ground:=Ground.data },{ on:=4,ground:=Ground.data }],guard:=none } (by rfl) (by kernel_rfl) (by kernel_rfl) ?_ (fun hHeld=>?_)
        ·exact (Fr.refl _ _).drew
        have HR:=ħ hHeld
        generalize W4.drew=wx at *
        refine wpAnyH_take (i:=0) (oi:= { dst:=some 52,op:=Op.fieldAddr 34 (Operand.tmp 13) 1,type:=0,pos:= "ref.go:243",after:=#[],guard:=none }) (v:=?v0) rfl (by kernel_rfl) (by kernel_rfl) (by kernel_rfl) (fun _ _ _ h=>h) (Or.inl ⟨by rfl,?hy0⟩) hHeld ?rest0
        case hy0=>
         intro w0 hSw
         obtain ⟨⟨e0,e1⟩,f0,f1,f2,f3,f4,f5,f6,f7⟩:=HK.out w0 (hSw.below (Nat.le_refl _) (fun _ _ e=>e))
         go_simp
         try with_reducible rfl
        try simp only[Act.put,σa,σb,σc]
        refine wpAnyH_take (i:=1) (oi:= { dst:=some 53,op:=Op.load 2 (Operand.tmp 52),type:=2,pos:= "ref.go:243",after:=#[{ on:=0,ground:=Ground.data }],guard:=none }) (v:=?v1) rfl (by kernel_rfl) (by kernel_rfl) (by kernel_rfl) (fun _ _ _ h=>h) (Or.inl ⟨by rfl,?hy1⟩) hHeld ?rest1
        case hy1=>
         intro w0 hSw
         obtain ⟨⟨e0,e1⟩,f0,f1,f2,f3,f4,f5,f6,f7⟩:=HK.out w0 (hSw.below (Nat.le_refl _) (fun _ _ e=>e))
         go_simp
         try with_reducible rfl
        try simp only[Act.put,σa,σb,σc]
        refine wpAnyH_take (i:=2) (oi:= { dst:=some 54,op:=Op.load 29 (Operand.tmp 5),type:=29,pos:= "ref.go:243",after:=#[],guard:=none }) (v:=?v2) rfl (by kernel_rfl) (by kernel_rfl) (by kernel_rfl) (fun _ _ _ h=>h) (Or.inl ⟨by rfl,?hy2⟩) hHeld ?rest2
        case hy2=>
         intro w0 hSw
         obtain ⟨⟨e0,e1⟩,f0,f1,f2,f3,f4,f5,f6,f7⟩:=HK.out w0 (hSw.below (Nat.le_refl _) (fun _ _ e=>e))
         go_simp
         try with_reducible rfl
        try simp only[Act.put,σa,σb,σc]
        refine wpAnyH_take (i:=3) (oi:= { dst:=some 55,op:=Op.move (Operand.tmp 2),type:=2,pos:= "ref.go:243",after:=#[],guard:=none }) (v:=?v3) rfl (by kernel_rfl) (by kernel_rfl) (by kernel_rfl) (fun _ _ _ h=>h) (Or.inl ⟨by rfl,?hy3⟩) hHeld ?rest3
        case hy3=>
         intro w0 hSw
         obtain ⟨⟨e0,e1⟩,f0,f1,f2,f3,f4,f5,f6,f7⟩:=HK.out w0 (hSw.below (Nat.le_refl _) (fun _ _ e=>e))
         go_simp
         try with_reducible rfl
        try simp only[Act.put,σa,σb,σc]
        refine wpAnyH_ready (rs:=[4]) (by kernel_rfl) (by simp) ?_
        refine AllReadyH.cons rfl (fun K hK=>?_) ?_
        ·skip
         go_simp
         go_wp2_with (go_at_call 25;((with_reducible refine (t_.out _ (HR.out.below (Nat.le_refl _) (fun _ _ e=>e))).mono ?_);rintro e wz ⟨rfl,hbz⟩))
         replace HR:=ħ (HR.out.trans (Fr.of_below hbz (S:=fun _=>False)))
         clear hbz
         obtain ⟨wx,hwx⟩:∃ wx,wx=wz:=⟨_,rfl⟩
         rw[←hwx] at HR⊢
         try rw[←hwx] at HZ
         clear hwx
         refine hK.out _ _ ?_ (fun hHeld=>?_)
         ·exact HR.out
         clear hK K
         try simp only[Act.put,σa,σb,σc]
         refine wpAnyH_done (by kernel_rfl) ?_ _
         refine qb _ rfl (fun K hK=>?_)
         go_simp
         refine hK _ _ ?_
         go_wp2_with fail
         go_meet
         case rel=>exact ⟨rfl,K_.out _ (HR.out.below (Nat.le_refl _) (fun _ _ e=>e))⟩
        exact AllReadyH.nil
       case rest=>
        obtain ⟨rfl,pF⟩:=hcut
        have y9:=ħ pF
        clear pF HK K_ t_ qA
        obtain ⟨x0,x1,x2⟩:=y9.out.n.b.facts
        obtain ⟨y0,y1,y2⟩:=y9.out.t.facts
        by_cases hr:t.c.inc=R
        ·have hrb:(t.c.inc != R)=false:=by simp[hr]
         rw[hrb]
         have tL:=ħ (oq.out.trans (if_neg (fun h=>h hr)))
         clear hrb hr oq
         obtain ⟨xx,hxg,Ns⟩:=Fh HG.out.g HC.out
         go_upto_region 12 with fail
         obtain ⟨W5,MI⟩:∃ W5,W5=wc:=⟨_,rfl⟩
         rw[←MI] at y9 x0 x1 x2 y0 y1 y2⊢
         clear MI
         have h20:=Z4 v (fun k=>B k) t.c.inc
         rcases qH (fun a:Xa=>a.x.id) v.la t.c.inc with ⟨i2,hi2,hlt2,hg2⟩ | ⟨hi2,hg2⟩
         ·rw[hi2] at h20
          obtain ⟨x,hx⟩:∃ x,x=v.la[i2]:=⟨_,rfl⟩
          have hxe:xx=x.x:=by have e:=QD hlt2 hg2;rw[hxg] at e;injection e with e;rw[e,hx]
          subst hxe
          have HX:=ħ hxg
          have Xx:=ħ (HV.out.ok.xl x (by rw[hx];exact List.getElem_mem hlt2))
          have hxl:=yO (zg.vL HG.out.g x.x (zi HX.out).1).1
          have hp:=HV.out.ok.rl.plain (by omega)
          have hix:=fun W=>JZ hp v.cL i2 hlt2 W
          have HW:=ħ fun (W':World) (hf:Fr (fun _=>False) W5 W')=>y9.out.n.be.trans (hf.below (B:=w.heap.size) y9.out.n.be.size (fun _ _ e=>e))
          have iC:=ħ fun (W:World) (hb:Below w.heap.size w W)=>h20 W (HV.out.ok.below0 hb) (by have:=HV.out.nL;omega)
          have jh:=ħ fun (W':World) (hf:Fr (fun _=>False) W5 W')=>(show (W'.cell? ⟨w.heap.size,0,none⟩=some (.slice v.AL v.la.length v.cL)∧W'.cell? ⟨w.heap.size,1,none⟩=some (.slice v.AC v.lc.length v.cC))∧(_∧_∧_∧_∧_∧_∧_∧_∧_∧_) from
           ⟨⟨(y9.out.n.b.fr hf (fun e=>e)).cell 0,(y9.out.n.b.fr hf (fun e=>e)).cell 1⟩,jA (HV.out.ok.below0 (HW.out W' hf)).rl hlt2 hx⟩)
          clear h20 hi2 hg2 hxg hx x0 x1 x2 y0 y1 y2
          go_cut [15] (fun a wx=>∃ px,a=.pointer (some ⟨px,0,none⟩)∧W5.heap.size≤px∧zb wx px 48 (ξ x.x x.An x.cn x.Ac x.cc x.Au x.cu)∧Fr (fun _=>False) W5 wx)
          case first=>
           refine qW (S:=fun w'=>Fr (fun _=>False) W5 w') #[{ dst:=some 61,op:=Op.fieldAddr 29 (Operand.tmp 5) 0,type:=0,pos:= "ref.go:247",after:=#[],guard:=none },{ dst:=some 62,op:=Op.load 26 (Operand.tmp 61),type:=26,pos:= "ref.go:247",after:=#[{ on:=0,ground:=Ground.data }],guard:=none },{ dst:=some 63,op:=Op.load 29 (Operand.tmp 5),type:=29,pos:= "ref.go:247",after:=#[],guard:=none },{ dst:=some 64,op:=Op.move (Operand.tmp 14),type:=2,pos:= "ref.go:247",after:=#[],guard:=none },{ dst:=some 65,op:=Op.call { callee:=Callee.value (Operand.func 20),args:=#[Operand.tmp 63,Operand.tmp 64],argTypes:=#[29,2] },type:=3,pos:= "ref.go:247",after:=#[{ on:=2,ground:=Ground.data },{ on:=3,ground:=Ground.data }],guard:=none },{ dst:=some 66,op:=Op.indexAddr 26 (Operand.tmp 62) (Operand.tmp 65),type:=0,pos:= "ref.go:247",after:=#[{ on:=1,ground:=Ground.data },{ on:=4,ground:=Ground.data }],guard:=none },{ dst:=some 67,op:=Op.load 48 (Operand.tmp 66),type:=48,pos:= "ref.go:247",after:=#[{ on:=5,ground:=Ground.data }],guard:=none },{ dst:=some 15,op:=Op.alloc 48,type:=0,pos:= "ref.go:247",after:=#[],guard:=none }] { dst:=none,op:=Op.store 48 (Operand.tmp 15) (Operand.tmp 67),type:=0,pos:= "ref.go:247",after:=#[{ on:=7,ground:=Ground.data },{ on:=6,ground:=Ground.data },{ on:=4,ground:=Ground.chain },{ on:=0,ground:=Ground.phase },{ on:=1,ground:=Ground.phase },{ on:=2,ground:=Ground.phase },{ on:=3,ground:=Ground.phase },{ on:=4,ground:=Ground.phase },{ on:=5,ground:=Ground.phase },{ on:=6,ground:=Ground.phase },{ on:=7,ground:=Ground.phase }],guard:=none } (by rfl) (by kernel_rfl) (by kernel_rfl) ?_ (fun hHeld=>?_)
           ·exact (Fr.refl _ _).drew
           have HR:=ħ hHeld
           generalize W5.drew=wx at *
           refine wpAnyH_take (i:=0) (oi:= { dst:=some 61,op:=Op.fieldAddr 29 (Operand.tmp 5) 0,type:=0,pos:= "ref.go:247",after:=#[],guard:=none }) (v:=?v50) rfl (by kernel_rfl) (by kernel_rfl) (by kernel_rfl) (fun _ _ _ h=>h) (Or.inl ⟨by rfl,?hy50⟩) hHeld ?rest50
           case hy50=>
            intro w0 hSw
            obtain ⟨⟨e0,e1⟩,e2,e3,e4,e5,e6,e7,e8,e9,e10,e11⟩:=jh.out w0 hSw
            go_simp
            try with_reducible rfl
           try simp only[Act.put,σa,σb,σc]
           refine wpAnyH_take (i:=1) (oi:= { dst:=some 62,op:=Op.load 26 (Operand.tmp 61),type:=26,pos:= "ref.go:247",after:=#[{ on:=0,ground:=Ground.data }],guard:=none }) (v:=?v51) rfl (by kernel_rfl) (by kernel_rfl) (by kernel_rfl) (fun _ _ _ h=>h) (Or.inl ⟨by rfl,?hy51⟩) hHeld ?rest51
           case hy51=>
            intro w0 hSw
            obtain ⟨⟨e0,e1⟩,e2,e3,e4,e5,e6,e7,e8,e9,e10,e11⟩:=jh.out w0 hSw
            go_simp
            try with_reducible rfl
           try simp only[Act.put,σa,σb,σc]
           refine wpAnyH_take (i:=2) (oi:= { dst:=some 63,op:=Op.load 29 (Operand.tmp 5),type:=29,pos:= "ref.go:247",after:=#[],guard:=none }) (v:=?v52) rfl (by kernel_rfl) (by kernel_rfl) (by kernel_rfl) (fun _ _ _ h=>h) (Or.inl ⟨by rfl,?hy52⟩) hHeld ?rest52
           case hy52=>
            intro w0 hSw
            obtain ⟨⟨e0,e1⟩,e2,e3,e4,e5,e6,e7,e8,e9,e10,e11⟩:=jh.out w0 hSw
            go_simp
            try with_reducible rfl
           try simp only[Act.put,σa,σb,σc]
           refine wpAnyH_take (i:=3) (oi:= { dst:=some 64,op:=Op.move (Operand.tmp 14),type:=2,pos:= "ref.go:247",after:=#[],guard:=none }) (v:=?v53) rfl (by kernel_rfl) (by kernel_rfl) (by kernel_rfl) (fun _ _ _ h=>h) (Or.inl ⟨by rfl,?hy53⟩) hHeld ?rest53
           case hy53=>
            intro w0 hSw
            obtain ⟨⟨e0,e1⟩,e2,e3,e4,e5,e6,e7,e8,e9,e10,e11⟩:=jh.out w0 hSw
            go_simp
            try with_reducible rfl
           try simp only[Act.put,σa,σb,σc]
           refine wpAnyH_ready (rs:=[4,7]) (by kernel_rfl) (by simp) ?_
           refine AllReadyH.cons rfl (fun K hK=>?_) ?_
           ·skip
            go_simp
            go_wp2_with (go_at_call 20;((with_reducible refine (iC.out _ (HW.out _ HR.out)).mono ?_);rintro e wz ⟨rfl,hbz⟩))
            replace HR:=ħ (HR.out.trans (Fr.of_below hbz (S:=fun _=>False)))
            try replace HZ:=ħ (HZ.out.below hbz HZ.out.lt)
            clear hbz
            obtain ⟨wx,hwx⟩:∃ wx,wx=wz:=⟨_,rfl⟩
            rw[←hwx] at HR⊢
            try rw[←hwx] at HZ
            clear hwx
            refine hK.out _ _ ?_ (fun hHeld=>?_)
            ·exact HR.out
            clear hK K
            try simp only[Act.put,σa,σb,σc]
            refine wpAnyH_take (i:=5) (oi:= { dst:=some 66,op:=Op.indexAddr 26 (Operand.tmp 62) (Operand.tmp 65),type:=0,pos:= "ref.go:247",after:=#[{ on:=1,ground:=Ground.data },{ on:=4,ground:=Ground.data }],guard:=none }) (v:=?v54) rfl (by kernel_rfl) (by kernel_rfl) (by kernel_rfl) (fun _ _ _ h=>h) (Or.inl ⟨by rfl,?hy54⟩) hHeld ?rest54
            case hy54=>
             intro w0 hSw
             obtain ⟨⟨e0,e1⟩,e2,e3,e4,e5,e6,e7,e8,e9,e10,e11⟩:=jh.out w0 hSw
             go_simp
             try with_reducible rfl
            try simp only[Act.put,σa,σb,σc]
            refine wpAnyH_take (i:=6) (oi:= { dst:=some 67,op:=Op.load 48 (Operand.tmp 66),type:=48,pos:= "ref.go:247",after:=#[{ on:=5,ground:=Ground.data }],guard:=none }) (v:=?v55) rfl (by kernel_rfl) (by kernel_rfl) (by kernel_rfl) (fun _ _ _ h=>h) (Or.inl ⟨by rfl,?hy55⟩) hHeld ?rest55
            case hy55=>
             intro w0 hSw
             obtain ⟨⟨e0,e1⟩,e2,e3,e4,e5,e6,e7,e8,e9,e10,e11⟩:=jh.out w0 hSw
             go_simp
             try with_reducible rfl
            try simp only[Act.put,σa,σb,σc]
            refine wpAnyH_ready (rs:=[7]) (by kernel_rfl) (by simp) ?_
            refine AllReadyH.cons rfl (fun K hK=>?_) ?_
            ·skip
             go_simp
             have hbn:=zb.new wx 48 ζ
             have hge:=HR.out.size
             have hrn:=HR.out.alloc (.cells ζ 48)
             generalize wx.alloc _=wz at *
             generalize wx.heap.size=gz at *
             have HZ:=ħ hbn
             have HG:=ħ hge
             replace HR:=ħ hrn
             clear hbn hge hrn
             obtain ⟨wx,hwx⟩:∃ wx,wx=wz:=⟨_,rfl⟩
             rw[←hwx] at HR⊢
             try rw[←hwx] at HZ
             clear hwx
             refine hK.out _ _ ?_ (fun hHeld=>?_)
             ·exact HR.out
             clear hK K
             try simp only[Act.put,σa,σb,σc]
             refine wpAnyH_done (by kernel_rfl) ?_ _
             refine qb _ rfl (fun K hK=>?_)
             refine zf _ (by rfl) (.tmp 15) (.tmp 67) 48 (by rfl) _ 48 _ (ξ x.x x.An x.cn x.Ac x.cc x.Au x.cu) _ 10 136 zJ (by rfl) (by rfl) (by rfl) HZ.out (by rfl) (zH (by simp[Value.oneCell'])) ?_
             intro wz hbz hfz hsz
             refine hK _ _ ?_
             replace HR:=ħ (show Fr (fun _=>False) W5 wz from ⟨hfz.os.trans HR.out.os,hfz.tape.trans HR.out.tape,hfz.output.trans HR.out.output,Nat.le_trans HR.out.size hfz.size,fun k hk _=>(hfz.block k (Nat.lt_of_lt_of_le hk HR.out.size) (by have:=HG.out;omega)).trans (HR.out.block k hk (fun e=>e))⟩)
             go_wp2_with fail
             go_meet
             case rel=>exact ⟨_,rfl,HG.out,hbz,HR.out⟩
            exact AllReadyH.nil
           refine AllReadyH.cons rfl (fun K hK=>?_) ?_
           ·skip
            go_simp
            have hbn:=zb.new wx 48 ζ
            have hge:=HR.out.size
            have hrn:=HR.out.alloc (.cells ζ 48)
            generalize wx.alloc _=wz at *
            generalize wx.heap.size=gz at *
            have HZ:=ħ hbn
            have HG:=ħ hge
            replace HR:=ħ hrn
            clear hbn hge hrn
            obtain ⟨wx,hwx⟩:∃ wx,wx=wz:=⟨_,rfl⟩
            rw[←hwx] at HR⊢
            try rw[←hwx] at HZ
            clear hwx
            refine hK.out _ _ ?_ (fun hHeld=>?_)
            ·exact HR.out
            clear hK K
            try simp only[Act.put,σa,σb,σc]
            refine wpAnyH_ready (rs:=[4]) (by kernel_rfl) (by simp) ?_
            refine AllReadyH.cons rfl (fun K hK=>?_) ?_
            ·skip
             go_simp
             go_wp2_with (go_at_call 20;((with_reducible refine (iC.out _ (HW.out _ HR.out)).mono ?_);rintro e wz ⟨rfl,hbz⟩))
             replace HR:=ħ (HR.out.trans (Fr.of_below hbz (S:=fun _=>False)))
             try replace HZ:=ħ (HZ.out.below hbz HZ.out.lt)
             clear hbz
             obtain ⟨wx,hwx⟩:∃ wx,wx=wz:=⟨_,rfl⟩
             rw[←hwx] at HR⊢
             try rw[←hwx] at HZ
             clear hwx
             refine hK.out _ _ ?_ (fun hHeld=>?_)
             ·exact HR.out
             clear hK K
             try simp only[Act.put,σa,σb,σc]
             refine wpAnyH_take (i:=5) (oi:= { dst:=some 66,op:=Op.indexAddr 26 (Operand.tmp 62) (Operand.tmp 65),type:=0,pos:= "ref.go:247",after:=#[{ on:=1,ground:=Ground.data },{ on:=4,ground:=Ground.data }],guard:=none }) (v:=?v56) rfl (by kernel_rfl) (by kernel_rfl) (by kernel_rfl) (fun _ _ _ h=>h) (Or.inl ⟨by rfl,?hy56⟩) hHeld ?rest56
             case hy56=>
              intro w0 hSw
              obtain ⟨⟨e0,e1⟩,e2,e3,e4,e5,e6,e7,e8,e9,e10,e11⟩:=jh.out w0 hSw
              go_simp
              try with_reducible rfl
             try simp only[Act.put,σa,σb,σc]
             refine wpAnyH_take (i:=6) (oi:= { dst:=some 67,op:=Op.load 48 (Operand.tmp 66),type:=48,pos:= "ref.go:247",after:=#[{ on:=5,ground:=Ground.data }],guard:=none }) (v:=?v57) rfl (by kernel_rfl) (by kernel_rfl) (by kernel_rfl) (fun _ _ _ h=>h) (Or.inl ⟨by rfl,?hy57⟩) hHeld ?rest57
             case hy57=>
              intro w0 hSw
              obtain ⟨⟨e0,e1⟩,e2,e3,e4,e5,e6,e7,e8,e9,e10,e11⟩:=jh.out w0 hSw
              go_simp
              try with_reducible rfl
             try simp only[Act.put,σa,σb,σc]
             refine wpAnyH_done (by kernel_rfl) ?_ _
             refine qb _ rfl (fun K hK=>?_)
             refine zf _ (by rfl) (.tmp 15) (.tmp 67) 48 (by rfl) _ 48 _ (ξ x.x x.An x.cn x.Ac x.cc x.Au x.cu) _ 10 136 zJ (by rfl) (by rfl) (by rfl) HZ.out (by rfl) (zH (by simp[Value.oneCell'])) ?_
             intro wz hbz hfz hsz
             refine hK _ _ ?_
             replace HR:=ħ (show Fr (fun _=>False) W5 wz from ⟨hfz.os.trans HR.out.os,hfz.tape.trans HR.out.tape,hfz.output.trans HR.out.output,Nat.le_trans HR.out.size hfz.size,fun k hk _=>(hfz.block k (Nat.lt_of_lt_of_le hk HR.out.size) (by have:=HG.out;omega)).trans (HR.out.block k hk (fun e=>e))⟩)
             go_wp2_with fail
             go_meet
             case rel=>exact ⟨_,rfl,HG.out,hbz,HR.out⟩
            exact AllReadyH.nil
           exact AllReadyH.nil
          case rest=>
           obtain ⟨px,rfl,hpx,hbx,hf⟩:=hcut
           have yx:=ħ (show tY w _ (β v) py (χ t.c t.A t.k) px (ξ x.x x.An x.cn x.Ac x.cc x.Au x.cu) from ⟨(y9.out.below (hf.below (Nat.le_refl _) (fun _ _ e=>e))).n,(y9.out.below (hf.below (Nat.le_refl _) (fun _ _ e=>e))).t,hbx⟩)
           have hxy:px≠py:=by have:=y9.out.t.lt;omega
           have hzx:w.heap.size+2≤px:=by have:=y9.out.n.sz;omega
           clear hbx hf y9 jh HW iC hix
           have VK:=ħ fun (W:World)=>Jc x W
           obtain ⟨x0,x1,x2⟩:=yx.out.n.b.facts;obtain ⟨y0,y1,y2⟩:=yx.out.t.facts;have z0:=yx.out.x.facts
           cases ho:zx x.x with
           | false=>
            have HE:=ħ (show zS v.bk cl inc id now=(v.bk,8) from tL.out.trans (by rw[HX.out];dsimp only;rw[if_pos (.inl ho)]))
            rw[ho] at VK
            clear ho
            go_wp2_with (first | (go_at_call 68;((with_reducible refine (VK.out _).mono ?_);rintro e w6 ⟨rfl,hb⟩;have ZM:=ħ (yx.out.below hb);clear hb x0 x1 x2 y0 y1 y2 z0;obtain ⟨x0,x1,x2⟩:=ZM.out.n.b.facts;obtain ⟨y0,y1,y2⟩:=ZM.out.t.facts;have z0:=ZM.out.x.facts)) | (refine z8 rfl (.tmp 10) (.tmp 77) 29 rfl (w.heap.size+1) 29 _ (β v) _ 2 48 zy rfl rfl rfl ZM.out.n.z rfl zq ?_;intro w8 zW zI yL))
            refine bodyPost_ret (za (p:=10) (u:=11) (ty:=29) Tryz.results47 _ _ (w.heap.size+1) 29 (β v) (0,0) _ rfl zW Tryz.underlying29 rfl zm) rfl ?_
            exact HFin.out 8 _ (ZM.out.n.be.trans (zI.below ZM.out.n.be.size (fun j hj e=>by have e2:j=w.heap.size+1:=e;omega))) HE.out
           | true=>
            rw[ho] at VK
            by_cases hl2:x.x.calls.length=1
            ·have oD:((x.x.calls.length:Int) == 1)=true:=by rw[hl2];rfl
             have HE:=ħ (show zS v.bk cl inc id now=(v.bk,8) from tL.out.trans (by rw[HX.out];dsimp only;rw[if_pos (.inr (by omega))]))
             clear ho hl2
             go_wp2_with (first | (go_at_call 68;((with_reducible refine (VK.out _).mono ?_);rintro e w6 ⟨rfl,hb⟩;have ZM:=ħ (yx.out.below hb);clear hb x0 x1 x2 y0 y1 y2 z0;obtain ⟨x0,x1,x2⟩:=ZM.out.n.b.facts;obtain ⟨y0,y1,y2⟩:=ZM.out.t.facts;have z0:=ZM.out.x.facts)) | (refine z8 rfl (.tmp 10) (.tmp 77) 29 rfl (w.heap.size+1) 29 _ (β v) _ 2 48 zy rfl rfl rfl ZM.out.n.z rfl zq ?_;intro w8 zW zI yL))
             refine bodyPost_ret (za (p:=10) (u:=11) (ty:=29) Tryz.results47 _ _ (w.heap.size+1) 29 (β v) (0,0) _ rfl zW Tryz.underlying29 rfl zm) rfl ?_
             exact HFin.out 8 _ (ZM.out.n.be.trans (zI.below ZM.out.n.be.size (fun j hj e=>by have e2:j=w.heap.size+1:=e;omega))) HE.out
            ·have oD:((x.x.calls.length:Int) == 1)=false:=by simpa using (fun h=>hl2 (by omega):¬ (x.x.calls.length:Int)=1)
             have HE:=ħ (show zS v.bk cl inc id now=(qw ⟨zz v.bk.L (zt id { t.c with inc:=id }),zG v.bk.C { t.c with inc:=id }⟩ t.c.inc,0) from tL.out.trans (by rw[HX.out];dsimp only;rw[if_neg (by rw[ho];simp;omega)]))
             have XN:=ħ (Gq HG.out.g AR.out HC.out HI1.out HX.out ho)
             clear ho hl2 HFin tL
             go_upto_region 15 with ((go_at_call 68;((with_reducible refine (VK.out _).mono ?_);rintro e w6 ⟨rfl,hb⟩;have ZM:=ħ (yx.out.below hb);clear hb x0 x1 x2 y0 y1 y2 z0;obtain ⟨x0,x1,x2⟩:=ZM.out.n.b.facts;obtain ⟨y0,y1,y2⟩:=ZM.out.t.facts;have z0:=ZM.out.x.facts)))
             clear oD VK yx
             have gG:=ħ (show zb (w6.setCell ⟨py,1,none⟩ (ι id)) py 34 #[ι t.c.call,ι id,ι t.c.urg,.string t.c.code,.slice t.A t.c.nodes.length t.k,ι t.c.dist,ι t.c.since,.bool t.c.closed] by
              have:=ZM.out.t.set_ 1 (ι id);simpa using this)
             have V6:=ħ (ZM.out.n.set_ (p:=⟨py,1,none⟩) sG (ι id))
             go_upto_region 16 with fail
             clear x0 x1 x2 y0 y1 y2 z0 ZM
             generalize World.setCell _ _ _=W8 at *
             obtain ⟨x0,x1,x2⟩:=V6.out.b.facts
             obtain ⟨y0,y1,y2⟩:=gG.out.facts
             obtain ⟨q,hq⟩:∃ q,q=zt id { t.c with inc:=id }:=⟨_,rfl⟩
             rw[←hq] at HE XN
             have nU:=ħ (show Calls Tryz.prog 71 #[ι id,.agg #[ι t.c.call,ι id,ι t.c.urg,.string t.c.code,.slice t.A t.c.nodes.length t.k,ι t.c.dist,ι t.c.since,.bool t.c.closed]] W8 (jX q 0 W8) from by
              have:=mq (fun k=>B k∧k<w.heap.size) id t.c.call id t.c.urg t.c.dist t.c.since t.c.code t.A t.k t.c.nodes t.c.closed W8 (D6 Al.out.1) ((Kk.out.old (by omega)).below V6.out.be (fun k hk=>hk.2)) (by have:=Al.out.2;omega)
              have e1:(zQ id 1 && yz ⟨t.c.call,id,t.c.urg,t.c.code,t.c.nodes,t.c.dist,t.c.since,t.c.closed⟩)=true:=by rw[AR.out];exact Zx Al.out.1 (Zu AR.out) t.c.closed
              rw[if_pos e1] at this
              rw[hq];exact this)
             clear hq
             go_upto_region 17 with (go_at_call 71;((with_reducible refine nU.out.mono ?_);rintro e w9 ⟨An,Ac,Au,cn,cc,cu,rfl,ho1,ho2,ho3,hb⟩;have gm:=ħ (show ∀ j,W8.heap.size≤j→(fun k=>B k∧k≠w.heap.size+1) j from fun j hj=>by have h1:=V6.out.be.size;have h2:=V6.out.sz;exact ⟨HV.out.up j (by omega),by omega⟩);have iD:=ħ (show XR w9 (fun k=>B k∧k≠w.heap.size+1) ⟨q,An,Ac,Au,cn,cc,cu⟩ from ⟨(qK ho1).more gm.out,(qK ho2).more gm.out,(qK ho3).more gm.out⟩);have fI:=ħ (V6.out.below hb);have fM:=ħ (gG.out.below hb gG.out.lt);clear ho1 ho2 ho3 hb x0 x1 x2 y0 y1 y2 V6 gG gm;obtain ⟨x0,x1,x2⟩:=fI.out.b.facts;obtain ⟨y0,y1,y2⟩:=fM.out.facts))
             obtain ⟨pq,hpq⟩:∃ p,p=w9.heap.size:=⟨_,rfl⟩
             have Jh:=ħ (fI.out.alloc (.cells (ξ q An cn Ac cc Au cu) 48))
             have vK:=ħ (fM.out.alloc (.cells (ξ q An cn Ac cc Au cu) 48))
             have Aq:=ħ (show zb (w9.alloc (.cells (ξ q An cn Ac cc Au cu) 48)) pq 48 (ξ q An cn Ac cc Au cu) by rw[hpq];exact zb.new w9 48 _)
             have oK:=ħ (iD.out.below ((Below.refl w9.heap.size w9).alloc (Nat.le_refl _) (.cells (ξ q An cn Ac cc Au cu) 48)))
             have Pe:w.heap.size+2≤pq:=by have:=fI.out.sz;omega
             rw[←hpq]
             clear hpq x0 x1 x2 y0 y1 y2 fI fM iD nU
             generalize w9.alloc _=W9 at *
             have kM:=ħ (HV.out.ok.old.more (B':=(fun k=>B k∧k≠w.heap.size+1)) (fun k hk=>⟨hk.1,by have:=hk.2;omega⟩))
             have BP:=ħ ((Kk.out.old (by omega)).more (B':=(fun k=>B k∧k≠w.heap.size+1)) (fun k hk=>⟨hk.1,by have:=hk.2;omega⟩))
             have HK:=ħ fun (W':World) (hb:Below W9.heap.size W9 W')=>(show (W'.cell? ⟨w.heap.size,0,none⟩=some (.slice v.AL v.la.length v.cL)∧W'.cell? ⟨w.heap.size,1,none⟩=some (.slice v.AC v.lc.length v.cC))∧(W'.cell? ⟨py,0,none⟩=some (ι t.c.call)∧W'.cell? ⟨py,1,none⟩=some (ι id)∧W'.cell? ⟨py,2,none⟩=some (ι t.c.urg)∧W'.cell? ⟨py,3,none⟩=some (.string t.c.code)∧W'.cell? ⟨py,4,none⟩=some (.slice t.A t.c.nodes.length t.k)∧W'.cell? ⟨py,5,none⟩=some (ι t.c.dist)∧W'.cell? ⟨py,6,none⟩=some (ι t.c.since)∧W'.cell? ⟨py,7,none⟩=some (.bool t.c.closed))∧(W'.cell? ⟨pq,0,none⟩=some (ι q.id)∧W'.cell? ⟨pq,1,none⟩=some (ι q.urg)∧W'.cell? ⟨pq,2,none⟩=some (.string q.code)∧W'.cell? ⟨pq,3,none⟩=some (.slice An q.nodes.length cn)∧W'.cell? ⟨pq,4,none⟩=some (ι q.dist)∧W'.cell? ⟨pq,5,none⟩=some (ι q.since)∧W'.cell? ⟨pq,6,none⟩=some (.slice Ac q.calls.length cc)∧W'.cell? ⟨pq,7,none⟩=some (.slice Au q.units.length cu)∧W'.cell? ⟨pq,8,none⟩=some (ι q.merged)∧W'.cell? ⟨pq,9,none⟩=some (.bool q.closed)) from ⟨⟨(Jh.out.below hb).b.cell 0,(Jh.out.below hb).b.cell 1⟩,Q4 (vK.out.below hb vK.out.lt),Zy (w:=w) (Aq.out.below hb Aq.out.lt)⟩)
             have HZ:=ħ fun (W':World) (hb:Below W9.heap.size W9 W')=>(Jh.out.below hb).z
             have MP:=Jh.out.z.lt
             have FH:=ħ fun (W':World) (hb:Below W9.heap.size W9 W') (a b:Value)=>(show ((fun W':World=>(W'.cell? ⟨w.heap.size,0,none⟩=some (.slice v.AL v.la.length v.cL)∧W'.cell? ⟨w.heap.size,1,none⟩=some (.slice v.AC v.lc.length v.cC))∧(W'.cell? ⟨py,0,none⟩=some (ι t.c.call)∧W'.cell? ⟨py,1,none⟩=some (ι id)∧W'.cell? ⟨py,2,none⟩=some (ι t.c.urg)∧W'.cell? ⟨py,3,none⟩=some (.string t.c.code)∧W'.cell? ⟨py,4,none⟩=some (.slice t.A t.c.nodes.length t.k)∧W'.cell? ⟨py,5,none⟩=some (ι t.c.dist)∧W'.cell? ⟨py,6,none⟩=some (ι t.c.since)∧W'.cell? ⟨py,7,none⟩=some (.bool t.c.closed))∧(W'.cell? ⟨pq,0,none⟩=some (ι q.id)∧W'.cell? ⟨pq,1,none⟩=some (ι q.urg)∧W'.cell? ⟨pq,2,none⟩=some (.string q.code)∧W'.cell? ⟨pq,3,none⟩=some (.slice An q.nodes.length cn)∧W'.cell? ⟨pq,4,none⟩=some (ι q.dist)∧W'.cell? ⟨pq,5,none⟩=some (ι q.since)∧W'.cell? ⟨pq,6,none⟩=some (.slice Ac q.calls.length cc)∧W'.cell? ⟨pq,7,none⟩=some (.slice Au q.units.length cu)∧W'.cell? ⟨pq,8,none⟩=some (ι q.merged)∧W'.cell? ⟨pq,9,none⟩=some (.bool q.closed))) ((W'.setCell ⟨w.heap.size+1,0,none⟩ a).setCell ⟨w.heap.size+1,1,none⟩ b)) from
              ⟨⟨(((Jh.out.below hb).b.far (p:=⟨w.heap.size+1,0,none⟩) (by simp) a).far (p:=⟨w.heap.size+1,1,none⟩) (by simp) b).cell 0,(((Jh.out.below hb).b.far (p:=⟨w.heap.size+1,0,none⟩) (by simp) a).far (p:=⟨w.heap.size+1,1,none⟩) (by simp) b).cell 1⟩,Q4 (((vK.out.below hb vK.out.lt).far (p:=⟨w.heap.size+1,0,none⟩) (by simp;omega) a).far (p:=⟨w.heap.size+1,1,none⟩) (by simp;omega) b),Zy (w:=w) (((Aq.out.below hb Aq.out.lt).far (p:=⟨w.heap.size+1,0,none⟩) (by simp;omega) a).far (p:=⟨w.heap.size+1,1,none⟩) (by simp;omega) b)⟩)
             have dR:=ħ fun (W:World) (hb:Below W9.heap.size W9 W)=>(show ∀ j,W.heap.size≤j→(fun k=>B k∧k≠w.heap.size+1) j from fun j hj=>by have h1:=hb.size;have h2:=Jh.out.be.size;exact ⟨HV.out.up j (by omega),by omega⟩)
             have FP:=ħ fun (W:World) (hb:Below W9.heap.size W9 W)=>(show Calls Tryz.prog 89 #[.agg (β v),.agg #[ι t.c.call,ι id,ι t.c.urg,.string t.c.code,.slice t.A t.c.nodes.length t.k,ι t.c.dist,ι t.c.since,.bool t.c.closed]] W (eP v.la v.AL v.cL v.lc { t.c with inc:=id } (fun k=>B k∧k≠w.heap.size+1) W) from Zg v.la v.AL v.cL v.lc v.AC v.cC ⟨{ t.c with inc:=id },t.A,t.k⟩ (fun k=>B k∧k≠w.heap.size+1) W (kM.out.below0 (Jh.out.be.trans (hb.mono Jh.out.be.size))) (zl BP.out (Jh.out.be.trans (hb.mono Jh.out.be.size))) (dR.out W hb) HV.out.sC (by have:=HV.out.nC;omega))
             have FQ:=ħ fun (C1:List Ca) (A1:Option Addr) (c1:Nat) (W:World) (hb:Below W9.heap.size W9 W) (hv:zX W (fun k=>B k∧k≠w.heap.size+1) ⟨v.la,v.AL,v.cL,C1,A1,c1⟩)=>(show Calls Tryz.prog 90 #[.agg #[.slice v.AL v.la.length v.cL,.slice A1 C1.length c1],.agg (ξ q An cn Ac cc Au cu)] W (dh v.la C1 A1 c1 q (fun k=>B k∧k≠w.heap.size+1) W) from jZ v.la v.AL v.cL C1 A1 c1 ⟨q,An,Ac,Au,cn,cc,cu⟩ (fun k=>B k∧k≠w.heap.size+1) W hv (oK.out.below hb) (dR.out W hb) HV.out.sL (by have:=HV.out.nL;omega))
             have mE:=ħ fun (C1:List Ca) (A1:Option Addr) (c1:Nat) (hm:C1.map (fun a=>a.c)=zG (v.lc.map (fun a=>a.c)) { t.c with inc:=id }) (L2:List Xa) (A2:Option Addr) (c2:Nat) (hm2:L2.map (fun a=>a.x)=zz (v.la.map (fun a=>a.x)) q) (W:World) (hb:Below W9.heap.size W9 W) (hv:zX W (fun k=>B k∧k≠w.heap.size+1) ⟨L2,A2,c2,C1,A1,c1⟩)=>(show Calls Tryz.prog 91 #[.agg #[.slice A2 L2.length c2,.slice A1 C1.length c1],ι t.c.inc] W (pO ⟨L2.map (fun a=>a.x),C1.map (fun a=>a.c)⟩ t.c.inc C1 A1 c1 (fun k=>B k∧k≠w.heap.size+1) W) from
              Uo L2 A2 c2 C1 A1 c1 t.c.inc (n+1) (fun k=>B k∧k≠w.heap.size+1) W hv (dR.out W hb) (by rw[hm,hm2];exact XN.out.1) HG.out.n (by rw[hm2];intro e;have:=XN.out.2;rw[show zz v.bk.L q=zz (v.la.map (fun a=>a.x)) q from rfl,e] at this;cases this))
             have K0:=HK.out _ (Below.refl _ W9).drew
             clear Xx Kk vK Aq oK kM BP dR
             go_wp2_with fail
             first | (go_region_held (fun W'=>(W'.cell? ⟨w.heap.size,0,none⟩=some (.slice v.AL v.la.length v.cL)∧W'.cell? ⟨w.heap.size,1,none⟩=some (.slice v.AC v.lc.length v.cC))∧(W'.cell? ⟨py,0,none⟩=some (ι t.c.call)∧W'.cell? ⟨py,1,none⟩=some (ι id)∧W'.cell? ⟨py,2,none⟩=some (ι t.c.urg)∧W'.cell? ⟨py,3,none⟩=some (.string t.c.code)∧W'.cell? ⟨py,4,none⟩=some (.slice t.A t.c.nodes.length t.k)∧W'.cell? ⟨py,5,none⟩=some (ι t.c.dist)∧W'.cell? ⟨py,6,none⟩=some (ι t.c.since)∧W'.cell? ⟨py,7,none⟩=some (.bool t.c.closed))∧(W'.cell? ⟨pq,0,none⟩=some (ι q.id)∧W'.cell? ⟨pq,1,none⟩=some (ι q.urg)∧W'.cell? ⟨pq,2,none⟩=some (.string q.code)∧W'.cell? ⟨pq,3,none⟩=some (.slice An q.nodes.length cn)∧W'.cell? ⟨pq,4,none⟩=some (ι q.dist)∧W'.cell? ⟨pq,5,none⟩=some (ι q.since)∧W'.cell? ⟨pq,6,none⟩=some (.slice Ac q.calls.length cc)∧W'.cell? ⟨pq,7,none⟩=some (.slice Au q.units.length cu)∧W'.cell? ⟨pq,8,none⟩=some (ι q.merged)∧W'.cell? ⟨pq,9,none⟩=some (.bool q.closed))) (first | assumption | exact K0 | exact FH.out _ Hr _ _) (first
              | (go_at_call 89;((with_reducible refine (FP.out _ ((Below.refl W9.heap.size W9).drew)).mono ?_);rintro e v2 ⟨C1,A1,c1,rfl,hv2,hm2,hn2,hb2⟩;have Dj:=((Below.refl W9.heap.size W9).drew).trans hb2;have K2:=HK.out _ Dj;have iV:=ħ (FQ.out C1 A1 c1 _ Dj hv2);have VW:=ħ hm2;clear hb2 hv2 hm2 hn2))
              | (go_at_call 90;((with_reducible refine iV.out.mono ?_);rintro e v3 ⟨L3,A3,c3,rfl,hv3,Uv,xW,hb3⟩;have YB:=Dj.trans (hb3.mono Dj.size);have K3:=HK.out _ YB;have uj:=ħ (mE.out C1 A1 c1 VW.out L3 A3 c3 Uv _ YB hv3);have bW:=ħ Uv;clear hb3 hv3 Uv xW))
              | (go_at_call 91;((with_reducible refine uj.out.mono ?_);rintro e v4 ⟨L4,A4,c4,rfl,hv4,nT,hb4⟩;have Hr:=YB.trans (hb4.mono YB.size);have K4:=HK.out _ Hr;have iA:=ħ hv4;have l8:=ħ nT;have z0:=(HZ.out _ Hr).facts;clear hb4 hv4 nT)))) | fail
             all_goals
              have II:=ħ (show zb ((v4.setCell ⟨w.heap.size+1,0,none⟩ (.slice A4 L4.length c4)).setCell ⟨w.heap.size+1,1,none⟩ (.slice A1 C1.length c1)) (w.heap.size+1) 29 #[.slice A4 L4.length c4,.slice A1 C1.length c1] by
               have:=((HZ.out _ Hr).set_ 0 (.slice A4 L4.length c4)).set_ 1 (.slice A1 C1.length c1);simpa using this)
              go_wp2_with fail
              refine bodyPost_ret (za (p:=10) (u:=11) (ty:=29) Tryz.results47 _ _ (w.heap.size+1) 29 #[.slice A4 L4.length c4,.slice A1 C1.length c1] (0,0) _ rfl II.out Tryz.underlying29 rfl zm) rfl ?_
              rw[HE.out]
              have YS:=((Fr.refl (fun j=>j=w.heap.size+1) v4).setCell (p:=⟨w.heap.size+1,0,none⟩) (.inl rfl) (.slice A4 L4.length c4)).setCell (p:=⟨w.heap.size+1,1,none⟩) (.inl rfl) (.slice A1 C1.length c1)
              have ZK:=Jh.out.be.trans (Hr.mono Jh.out.be.size)
              refine ⟨⟨L4,A4,c4,C1,A1,c1⟩,rfl,(iA.out.fr YS (fun j hj e=>hj.2 e)).more (fun j hj=>hj.1),?_,ZK.trans (YS.below ZK.size (fun j hj e=>by have e2:j=w.heap.size+1:=e;omega))⟩
              show (⟨L4.map (fun a=>a.x),C1.map (fun a=>a.c)⟩:Bk)=_
              rw[l8.out,bW.out,VW.out]
              exact QX _ _ rfl
         ·exact absurd (jw hg2) (by rw[hxg];simp)
        ·have hrb:(t.c.inc != R)=true:=by simpa using hr
         rw[hrb]
         have HE:=ħ (show zS v.bk cl inc id now=(v.bk,14) from oq.out.trans (if_pos hr))
         clear hrb hr oq
         go_wp2_with ((refine z8 rfl (.tmp 10) (.tmp 58) 29 rfl (w.heap.size+1) 29 _ (β v) _ 2 48 zy rfl rfl rfl y9.out.n.z rfl zq ?_;intro w8 zW zI yL))
         refine bodyPost_ret (za (p:=10) (u:=11) (ty:=29) Tryz.results47 _ _ (w.heap.size+1) 29 (β v) (0,0) _ rfl zW Tryz.underlying29 rfl zm) rfl ?_
         exact HFin.out 14 _ (y9.out.n.be.trans (zI.below y9.out.n.be.size (fun j hj e=>by have e2:j=w.heap.size+1:=e;omega))) HE.out
     ·rw[hi0] at ZX
      have HE:=ħ (show zS v.bk cl inc id now=(v.bk,4) by unfold zS;rw[if_neg wh.out,HC.out,jw hg0])
      clear hi0 hg0
      go_wp2_with (first | (go_at_call 24;((with_reducible refine jP.out.mono ?_);rintro e w4 ⟨rfl,hb⟩;have qa:=ħ (y8.out.below hb);clear hb x0 x1 x2;obtain ⟨x0,x1,x2⟩:=qa.out.b.facts)) | (go_at_call 20;((with_reducible refine (ZX.out _ qa.out.be).mono ?_);rintro e w5 ⟨rfl,hb⟩;have y5:=ħ (qa.out.below hb);clear hb x0 x1 x2;obtain ⟨x0,x1,x2⟩:=y5.out.b.facts)) | (refine z8 rfl (.tmp 10) (.tmp 41) 29 rfl (w.heap.size+1) 29 _ (β v) _ 2 48 zy rfl rfl rfl y5.out.z rfl zq ?_;intro w8 zW zI yL))
      refine bodyPost_ret (za (p:=10) (u:=11) (ty:=29) Tryz.results47 _ _ (w.heap.size+1) 29 (β v) (0,0) _ rfl zW Tryz.underlying29 rfl zm) rfl ?_
      exact HFin.out 4 _ (y5.out.be.trans (zI.below y5.out.be.size (fun j hj e=>by have e2:j=w.heap.size+1:=e;omega))) HE.out
    ·rw[hi] at QV
     have jP:=ħ QV
     have HE:=ħ (show zS v.bk cl inc id now=(v.bk,4) by unfold zS;rw[if_neg wh.out,YQ hg])
     clear QV hi hg
     go_wp2_with (first | (go_at_call 24;((with_reducible refine jP.out.mono ?_);rintro e w4 ⟨rfl,hb⟩;have qa:=ħ (y8.out.below hb);clear hb x0 x1 x2;obtain ⟨x0,x1,x2⟩:=qa.out.b.facts)) | (refine z8 rfl (.tmp 10) (.tmp 41) 29 rfl (w.heap.size+1) 29 _ (β v) _ 2 48 zy rfl rfl rfl qa.out.z rfl zq ?_;intro w8 zW zI yL))
     refine bodyPost_ret (za (p:=10) (u:=11) (ty:=29) Tryz.results47 _ _ (w.heap.size+1) 29 (β v) (0,0) _ rfl zW Tryz.underlying29 rfl zm) rfl ?_
     exact HFin.out 4 _ (qa.out.be.trans (zI.below qa.out.be.size (fun j hj e=>by have e2:j=w.heap.size+1:=e;omega))) HE.out
 ·have hn0:zQ id 1=false:=by simpa using hn
  rw[hn0] at JF
  have HE:=ħ (show zS v.bk cl inc id now=(v.bk,1) by unfold zS;rw[if_pos (.inl hn0)])
  go_wp2_with (first | (go_at_call 87;((with_reducible refine (JF.out _).mono ?_);rintro e w3 ⟨rfl,rfl⟩)) | (refine z8 rfl (.tmp 10) (.tmp 29) 29 rfl (w.heap.size+1) 29 _ (β v) _ 2 48 zy rfl rfl rfl y8.out.z rfl zq ?_;intro w8 zW zI yL))
  refine bodyPost_ret (za (p:=10) (u:=11) (ty:=29) Tryz.results47 _ _ (w.heap.size+1) 29 (β v) (0,0) _ rfl zW Tryz.underlying29 rfl zm) rfl ?_
  exact HFin.out 1 _ (y8.out.be.trans (zI.below y8.out.be.size (fun j hj e=>by have e2:j=w.heap.size+1:=e;omega))) HE.out
end Go.Proofs.YtdhcjhfgibmhfaaGreatDoor

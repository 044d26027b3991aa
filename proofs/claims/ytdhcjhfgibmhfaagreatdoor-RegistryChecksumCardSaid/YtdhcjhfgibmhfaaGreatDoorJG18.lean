import Derived.Test.YtdhcjhfgibmhfaaGreatDoorJRr8
set_option linter.unusedVariables false
set_option linter.unusedSimpArgs false
set_option maxRecDepth 10000
set_option maxHeartbeats 8000000
namespace Go.Proofs.YtdhcjhfgibmhfaaGreatDoor
open Go.RowKit Go.Own Go.Quo Go.Inc
theorem FI {n:Nat}{b:Bk}(h:Good n b){t y:Cr}(ht:t.nodes.length≤60)(h1:z_ t=true)(hc:yP b.C t.call=some y)(hcl:¬ y.closed=true) :
 ∃ x,zw b.L y.inc=some x∧zx x=true∧zg (n+1) ⟨b.L,zG b.C (qG y t)⟩ y.inc:=by
 obtain ⟨g1,g2⟩:=qY Cr.call hc
 obtain ⟨x,hx,hxi,hxm⟩:=zg.lk h y g1
 have ho:zx x=true:=by
  unfold zx
  cases gF:x.closed with
  | false=>simp[hxm]
  | true=>exact absurd ((zg.cl h x hx gF).2 y g1 hxi.symm) hcl
 have hv:yz (qG y t)=true:=by
  have h2:=(zg.vC h y g1).1
  unfold z_ at h1
  unfold yz at h1 h2⊢
  rw[jI] at h1 h2⊢
  unfold qG
  simp only[Bool.and_eq_true,decide_eq_true_eq] at h1 h2⊢
  obtain ⟨⟨a1,a2⟩,⟨⟨⟨⟨⟨⟨⟨b1,b2⟩,b3⟩,b4⟩,b5⟩,b6⟩,b7⟩,b8⟩⟩:=h1
  obtain ⟨⟨c1,c2⟩,⟨⟨⟨⟨⟨⟨⟨d1,d2⟩,d3⟩,d4⟩,d5⟩,d6⟩,d7⟩,d8⟩⟩:=h2
  exact ⟨⟨c1,c2⟩,⟨⟨⟨⟨⟨⟨⟨b1,b2⟩,b3⟩,b4⟩,b5⟩,d6⟩,d7⟩,d8⟩⟩
 obtain ⟨k1,k2⟩:=Zf h (t:=qG y t) ⟨hv,ht⟩ hx hxi ho (fun u hu e=>by
  have:u=y:=qj Cr.call (zg.sC h) hu g1 e
  rw[this];rfl)
 exact ⟨x,by rw[←hxi];exact yR Ic.id (zg.sL h) hx,ho,k1⟩
theorem Qz {w:World}{B:Nat→Prop}{A:Option Addr}{l:List Ca}(h:Reads w B 8 A l.length (l.flatMap qC)){i:Nat}(hi:i<l.length){y:Ca}(hy:y=l[i]):w.cell? ⟨bk A,qP A+i * 8,none⟩=some (ι y.c.call)∧w.cell? ⟨bk A,qP A+i * 8+1,none⟩=some (ι y.c.inc)∧w.cell? ⟨bk A,qP A+i * 8+2,none⟩=some (ι y.c.urg)∧w.cell? ⟨bk A,qP A+i * 8+3,none⟩=some (.string y.c.code)∧w.cell? ⟨bk A,qP A+i * 8+4,none⟩=some (.slice y.A y.c.nodes.length y.k)∧w.cell? ⟨bk A,qP A+i * 8+5,none⟩=some (ι y.c.dist)∧w.cell? ⟨bk A,qP A+i * 8+6,none⟩=some (ι y.c.since)∧w.cell? ⟨bk A,qP A+i * 8+7,none⟩=some (.bool y.c.closed):=by
 subst hy
 have h1:=QB h hi
 have h0:=h1 0 _ rfl
 rw[Nat.add_zero] at h0
 exact ⟨h0,h1 1 _ rfl,h1 2 _ rfl,h1 3 _ rfl,h1 4 _ rfl,h1 5 _ rfl,h1 6 _ rfl,h1 7 _ rfl⟩
theorem lZ (v:Bv)(t:Ca)(n:Nat)(B:Nat→Prop)(w:World)(hG:OkG w B v n)(ht:RI w B t.A t.c.nodes)(hs:t.c.code.size≤100000)(hl:t.c.nodes.length≤60) :
 Calls Tryz.prog 43 #[YW v,.agg (χ t.c t.A t.k)] w (Je (qR v.bk t.c) B w):=by
 have h:=hG.toOk
 have HG:=ħ hG
 have hl0:t.c.nodes.length≤100000:=by omega
 have HV:=ħ h
 have HT:=ħ ht
 have y8:=ħ (B3.new w (β v) (χ t.c t.A t.k))
 have UH:=ħ fun (W:World) (hb:Below w.heap.size w W)=>(show Calls Tryz.prog 86 #[.agg (χ t.c t.A t.k)] W (qX (z_ t.c) W) from Uy t (fun k=>B k∧k<w.heap.size) W ((HT.out.old (by omega)).below hb (fun k hk=>hk.2)) hs hl0)
 have kJ:=ħ fun (W:World) (hb:Below w.heap.size w W)=>XT v (fun k=>B k) t.c.call W (HV.out.ok.below0 hb) (by have:=HV.out.nC;omega)
 have HFin:=ħ fun (r:Int) (W:World) (hb:Below w.heap.size w W) (hr:qR v.bk t.c=(v.bk,r))=>(show Je (qR v.bk t.c) B w (.returned (.tuple #[YW v,ι r])) W from ⟨v,by rw[hr],HV.out.ok.below0 hb,by rw[hr],hb⟩)
 clear h ht
 clear hG
 cases hr:z_ t.c with
 | false=>
  have HE:=ħ (show qR v.bk t.c=(v.bk,1) by unfold qR;rw[hr];rfl)
  rw[hr] at UH
  clear hr
  go_enter Tryz.func43,Tryz.ntmps43
  go_upto_region 1 with fail
  generalize ((w.alloc _).alloc _).alloc _=W1 at *
  have x0:=y8.out.b.facts
  have y0:=y8.out.t.facts
  go_wp2_with (first | (go_at_call 86;((with_reducible refine (UH.out _ y8.out.be).mono ?_);rintro e w2 ⟨rfl,hb⟩;have qa:=ħ (y8.out.below hb);clear hb x0 y0;have x0:=qa.out.b.facts;have y0:=qa.out.t.facts)) | (refine z8 rfl (.tmp 4) (.tmp 11) 29 rfl (w.heap.size+2) 29 _ (β v) _ 2 48 zy rfl rfl rfl qa.out.z rfl zq ?_;intro w8 zW zI yL))
  refine bodyPost_ret (za (p:=4) (u:=5) (ty:=29) Tryz.results43 _ _ (w.heap.size+2) 29 (β v) (0,0) _ rfl zW Tryz.underlying29 rfl zm) rfl ?_
  exact HFin.out 1 _ (qa.out.be.trans (zI.below qa.out.be.size (fun j hj e=>by have e2:j=w.heap.size+2:=e;omega))) HE.out
 | true=>
  rw[hr] at UH
  have m_:=ħ hr
  clear hr
  go_enter Tryz.func43,Tryz.ntmps43
  go_upto_region 1 with fail
  generalize ((w.alloc _).alloc _).alloc _=W1 at *
  have x0:=y8.out.b.facts
  have y0:=y8.out.t.facts
  go_upto_region 3 with ((go_at_call 86;((with_reducible refine (UH.out _ y8.out.be).mono ?_);rintro e w2 ⟨rfl,hb⟩;have qa:=ħ (y8.out.below hb);clear hb x0 y0;have x0:=qa.out.b.facts;have y0:=qa.out.t.facts)))
  have QV:=kJ.out _ qa.out.be
  rcases qH (fun a:Ca=>a.c.call) v.lc t.c.call with ⟨i,hi,hlt,hg⟩ | ⟨hi,hg⟩
  ·rw[hi] at QV
   have jP:=ħ QV
   obtain ⟨y,hy⟩:∃ y,y=v.lc[i]:=⟨_,rfl⟩
   have HC:=ħ (show yP v.bk.C t.c.call=some y.c by rw[hy];exact kH hlt hg)
   have Jm:=ħ fun (W':World) (hb:Below w.heap.size w W')=>Qz (HV.out.ok.below0 hb).rc hlt hy
   have Ja:=ħ (HV.out.ok.xc y (by rw[hy];exact List.getElem_mem hlt))
   have hyv:=zg.vC HG.out.g y.c (yC HC.out).1
   have EC:=ħ hyv
   have hp:=HV.out.ok.rc.plain (by omega)
   have hix:=fun W=>UC hp v.cC i hlt W
   clear QV hi hg hy hlt hyv
   go_upto_region 6 with ((go_at_call 24;((with_reducible refine jP.out.mono ?_);rintro e w3 ⟨rfl,hb⟩;have y5:=ħ (qa.out.below hb);clear hb x0 y0;have x0:=y5.out.b.facts;have y0:=y5.out.t.facts)))
   obtain ⟨e0,e1,e2,e3,e4,e5,e6,e7⟩:=Jm.out _ y5.out.be
   go_upto_region 7 with fail
   obtain ⟨py,hpy⟩:∃ p,p=w3.heap.size:=⟨_,rfl⟩
   have qA:=ħ (y5.out.below ((Below.refl _ _).alloc (Nat.le_refl _) (.cells (χ y.c y.A y.k) 34)))
   have Yy:=ħ (show zb (w3.alloc (.cells (χ y.c y.A y.k) 34)) py 34 (χ y.c y.A y.k) by rw[hpy];exact zb.new w3 34 _)
   have sG:w.heap.size+3≤py:=by have:=y5.out.sz;omega
   rw[←hpy]
   clear e0 e1 e2 e3 e4 e5 e6 e7 hpy x0 y0 UH kJ jP Jm hix y5
   generalize w3.alloc _=W4 at *
   have x0:=qA.out.b.facts
   have y0:=qA.out.t.facts
   have z0:=Yy.out.facts
   by_cases hcl:y.c.closed=true
   ·have HE:=ħ (show qR v.bk t.c=(v.bk,8) by unfold qR;rw[m_.out,HC.out];dsimp only;rw[if_neg (by decide),if_pos hcl])
    have hcb:y.c.closed=true:=hcl
    go_wp2_with ((refine z8 rfl (.tmp 4) (.tmp 26) 29 rfl (w.heap.size+2) 29 _ (β v) _ 2 48 zy rfl rfl rfl qA.out.z rfl zq ?_;intro w8 zW zI yL))
    refine bodyPost_ret (za (p:=4) (u:=5) (ty:=29) Tryz.results43 _ _ (w.heap.size+2) 29 (β v) (0,0) _ rfl zW Tryz.underlying29 rfl zm) rfl ?_
    exact HFin.out 8 _ (qA.out.be.trans (zI.below qA.out.be.size (fun j hj e=>by have e2:j=w.heap.size+2:=e;omega))) HE.out
   ·have hcb:y.c.closed=false:=by simpa using hcl
    have jh:=ħ hcl
    have mX:=ħ fun (W:World) (hb:Below W4.heap.size W4 W)=>AV B B t.A y.A t.k y.k t.c.nodes y.c.nodes W (zl HT.out (qA.out.be.trans (hb.mono qA.out.be.size))) (zl Ja.out (qA.out.be.trans (hb.mono qA.out.be.size))) hl0 (by have:=EC.out.2;omega)
    have Ny:=ħ hcb
    clear hcl
    have z1x:=fun (W:World) (hb:Below W4.heap.size W4 W)=>Yy.out.below hb Yy.out.lt
    have BO:=ħ z1x
    clear z1x
    cases hsb:Jq t.c.nodes y.c.nodes with
    | false=>
     rw[hsb] at mX
     have HE:=ħ (show qR v.bk t.c=(v.bk,9) by unfold qR;rw[m_.out,HC.out];dsimp only;rw[if_neg (by decide),if_neg jh.out,if_pos (.inl hsb)])
     clear hsb
     go_wp2_with (first | (go_at_call 93;((with_reducible refine (mX.out _ (Below.refl _ _)).mono ?_);rintro e w5 ⟨rfl,hb⟩;have J9:=ħ (BO.out _ hb);clear z0;have z0:=J9.out.facts;have y9:=ħ (qA.out.below hb);clear hb x0 y0;have x0:=y9.out.b.facts;have y0:=y9.out.t.facts)) | (refine z8 rfl (.tmp 4) (.tmp 40) 29 rfl (w.heap.size+2) 29 _ (β v) _ 2 48 zy rfl rfl rfl y9.out.z rfl zq ?_;intro w8 zW zI yL))
     refine bodyPost_ret (za (p:=4) (u:=5) (ty:=29) Tryz.results43 _ _ (w.heap.size+2) 29 (β v) (0,0) _ rfl zW Tryz.underlying29 rfl zm) rfl ?_
     exact HFin.out 9 _ (y9.out.be.trans (zI.below y9.out.be.size (fun j hj e=>by have e2:j=w.heap.size+2:=e;omega))) HE.out
    | true=>
     rw[hsb] at mX
     have Lr:=ħ hsb
     clear hsb
     by_cases hu:y.c.urg<t.c.urg
     ·have HE:=ħ (show qR v.bk t.c=(v.bk,9) by unfold qR;rw[m_.out,HC.out];dsimp only;rw[if_neg (by decide),if_neg jh.out,if_pos (.inr hu)])
      go_wp2_with (first | (go_at_call 93;((with_reducible refine (mX.out _ (Below.refl _ _)).mono ?_);rintro e w5 ⟨rfl,hb⟩;have J9:=ħ (BO.out _ hb);clear z0;have z0:=J9.out.facts;have y9:=ħ (qA.out.below hb);clear hb x0 y0;have x0:=y9.out.b.facts;have y0:=y9.out.t.facts)) | (refine z8 rfl (.tmp 4) (.tmp 40) 29 rfl (w.heap.size+2) 29 _ (β v) _ 2 48 zy rfl rfl rfl y9.out.z rfl zq ?_;intro w8 zW zI yL))
      refine bodyPost_ret (za (p:=4) (u:=5) (ty:=29) Tryz.results43 _ _ (w.heap.size+2) 29 (β v) (0,0) _ rfl zW Tryz.underlying29 rfl zm) rfl ?_
      exact HFin.out 9 _ (y9.out.be.trans (zI.below y9.out.be.size (fun j hj e=>by have e2:j=w.heap.size+2:=e;omega))) HE.out
     ·have HE:=ħ (show qR v.bk t.c=(qw ⟨v.bk.L,zG v.bk.C (qG y.c t.c)⟩ y.c.inc,0) by unfold qR;rw[m_.out,HC.out];dsimp only;rw[if_neg (by decide),if_neg jh.out,if_neg (by rintro (h1 | h1);rw[Lr.out] at h1;cases h1;exact hu h1)])
      have XN:=ħ (FI HG.out.g hl m_.out HC.out jh.out)
      go_upto_region 11 with ((go_at_call 93;((with_reducible refine (mX.out _ (Below.refl _ _)).mono ?_);rintro e w5 ⟨rfl,hb⟩;have J9:=ħ (BO.out _ hb);clear z0;have z0:=J9.out.facts;have y9:=ħ (qA.out.below hb);clear hb x0 y0;have x0:=y9.out.b.facts;have y0:=y9.out.t.facts)))
      clear hu hcb mX BO HFin
      have U6:=ħ (show zb (((w5.setCell ⟨py,2,none⟩ (ι t.c.urg)).setCell ⟨py,3,none⟩ (.string t.c.code)).setCell ⟨py,4,none⟩ (.slice t.A t.c.nodes.length t.k)) py 34 #[ι y.c.call,ι y.c.inc,ι t.c.urg,.string t.c.code,.slice t.A t.c.nodes.length t.k,ι y.c.dist,ι y.c.since,.bool y.c.closed] by
       have:=((J9.out.set_ 2 (ι t.c.urg)).set_ 3 (.string t.c.code)).set_ 4 (.slice t.A t.c.nodes.length t.k);simpa using this)
      have F1:=(Fr.refl (fun k=>k=py) w5).setCell (p:=⟨py,2,none⟩) (.inl rfl) (ι t.c.urg)
      have F2:=F1.setCell (p:=⟨py,3,none⟩) (.inl rfl) (.string t.c.code)
      have F3:=F2.setCell (p:=⟨py,4,none⟩) (.inl rfl) (.slice t.A t.c.nodes.length t.k)
      have ZR:=ħ F3
      have F6:=ħ fun (W':World) (h:Fr (fun k=>k=py) w5 W')=>(show W'.cell? ⟨w.heap.size+1,2,none⟩=some (ι t.c.urg)∧W'.cell? ⟨w.heap.size+1,3,none⟩=some (.string t.c.code)∧W'.cell? ⟨w.heap.size+1,4,none⟩=some (.slice t.A t.c.nodes.length t.k) from by
       have h1:=y9.out.t.fr h (by show ¬ (w.heap.size+1=py);omega)
       refine ⟨?_,?_,?_⟩ <;> (rw[zb.cell h1];rfl))
      have K0:=F6.out _ (Fr.refl _ w5).drew
      have K1:=F6.out _ F1.drew
      have K2:=F6.out _ F2.drew
      have K3:=F6.out _ F3.drew
      clear F1 F2 F3
      go_region_held (fun W'=>W'.cell? ⟨w.heap.size+1,2,none⟩=some (ι t.c.urg)∧W'.cell? ⟨w.heap.size+1,3,none⟩=some (.string t.c.code)∧W'.cell? ⟨w.heap.size+1,4,none⟩=some (.slice t.A t.c.nodes.length t.k)) (with_reducible assumption) (fail)
      all_goals
       have ni:=ħ U6.out.drew
       have ve:=ħ ZR.out.drew
       have K_:=ħ (show Below w.heap.size w _ from y9.out.be.trans (ve.out.below y9.out.be.size (fun k hk e=>by have e2:k=py:=e;omega)))
       have I8:=ħ (y9.out.z.fr ve.out (by show ¬ (w.heap.size+2=py);omega))
       have fC:=ħ (y9.out.b.fr ve.out (by show ¬ (w.heap.size=py);omega))
       clear K0 K1 K2 K3 F6 U6 ZR ve x0 y0 z0
       generalize (World.setCell _ _ _).drew=W6 at *
       have kM:=ħ (HV.out.ok.old.more (B':=(fun k=>B k∧k≠w.heap.size+2)) (fun k hk=>⟨hk.1,by have:=hk.2;omega⟩))
       have BP:=ħ ((HT.out.old (by omega)).more (B':=(fun k=>B k∧k≠w.heap.size+2)) (fun k hk=>⟨hk.1,by have:=hk.2;omega⟩))
       have MP:w.heap.size+2<W6.heap.size:=I8.out.lt
       have HK:=ħ fun (W':World) (hb:Below W6.heap.size W6 W')=>(show (W'.cell? ⟨w.heap.size,0,none⟩=some (.slice v.AL v.la.length v.cL)∧W'.cell? ⟨w.heap.size,1,none⟩=some (.slice v.AC v.lc.length v.cC))∧(W'.cell? ⟨py,0,none⟩=some (ι y.c.call)∧W'.cell? ⟨py,1,none⟩=some (ι y.c.inc)∧W'.cell? ⟨py,2,none⟩=some (ι t.c.urg)∧W'.cell? ⟨py,3,none⟩=some (.string t.c.code)∧W'.cell? ⟨py,4,none⟩=some (.slice t.A t.c.nodes.length t.k)∧W'.cell? ⟨py,5,none⟩=some (ι y.c.dist)∧W'.cell? ⟨py,6,none⟩=some (ι y.c.since)∧W'.cell? ⟨py,7,none⟩=some (.bool y.c.closed)) from ⟨⟨(fC.out.below hb fC.out.lt).cell 0,(fC.out.below hb fC.out.lt).cell 1⟩,Q4 (ni.out.below hb ni.out.lt)⟩)
       have HZ:=ħ fun (W':World) (hb:Below W6.heap.size W6 W')=>I8.out.below hb I8.out.lt
       have FH:=ħ fun (W':World) (hb:Below W6.heap.size W6 W') (a b:Value)=>(show ((fun W':World=>(W'.cell? ⟨w.heap.size,0,none⟩=some (.slice v.AL v.la.length v.cL)∧W'.cell? ⟨w.heap.size,1,none⟩=some (.slice v.AC v.lc.length v.cC))∧(W'.cell? ⟨py,0,none⟩=some (ι y.c.call)∧W'.cell? ⟨py,1,none⟩=some (ι y.c.inc)∧W'.cell? ⟨py,2,none⟩=some (ι t.c.urg)∧W'.cell? ⟨py,3,none⟩=some (.string t.c.code)∧W'.cell? ⟨py,4,none⟩=some (.slice t.A t.c.nodes.length t.k)∧W'.cell? ⟨py,5,none⟩=some (ι y.c.dist)∧W'.cell? ⟨py,6,none⟩=some (ι y.c.since)∧W'.cell? ⟨py,7,none⟩=some (.bool y.c.closed))) ((W'.setCell ⟨w.heap.size+2,0,none⟩ a).setCell ⟨w.heap.size+2,1,none⟩ b)) from
        ⟨⟨(((fC.out.below hb fC.out.lt).far (p:=⟨w.heap.size+2,0,none⟩) (by simp) a).far (p:=⟨w.heap.size+2,1,none⟩) (by simp) b).cell 0,(((fC.out.below hb fC.out.lt).far (p:=⟨w.heap.size+2,0,none⟩) (by simp) a).far (p:=⟨w.heap.size+2,1,none⟩) (by simp) b).cell 1⟩,Q4 (((ni.out.below hb ni.out.lt).far (p:=⟨w.heap.size+2,0,none⟩) (by simp;omega) a).far (p:=⟨w.heap.size+2,1,none⟩) (by simp;omega) b)⟩)
       have FP:=ħ fun (W:World) (hb:Below W6.heap.size W6 W)=>(show Calls Tryz.prog 89 #[.agg (β v),.agg #[ι y.c.call,ι y.c.inc,ι t.c.urg,.string t.c.code,.slice t.A t.c.nodes.length t.k,ι y.c.dist,ι y.c.since,.bool y.c.closed]] W (eP v.la v.AL v.cL v.lc (qG y.c t.c) (fun k=>B k∧k≠w.heap.size+2) W) from Zg v.la v.AL v.cL v.lc v.AC v.cC ⟨qG y.c t.c,t.A,t.k⟩ (fun k=>B k∧k≠w.heap.size+2) W (kM.out.below0 (K_.out.trans (hb.mono K_.out.size))) (zl BP.out (K_.out.trans (hb.mono K_.out.size))) (fun j hj=>⟨HV.out.up j (Nat.le_trans (Nat.le_trans K_.out.size hb.size) hj),by have h2:W.heap.size≤j:=hj;have h3:=hb.size;omega⟩) HV.out.sC (by have:=HV.out.nC;omega))
       have mE:=ħ fun (C1:List Ca) (A2:Option Addr) (c2:Nat) (hm:C1.map (fun a=>a.c)=zG (v.lc.map (fun a=>a.c)) (qG y.c t.c)) (W:World) (hb:Below W6.heap.size W6 W) (hv:zX W (fun k=>B k∧k≠w.heap.size+2) ⟨v.la,v.AL,v.cL,C1,A2,c2⟩)=>(show Calls Tryz.prog 91 #[.agg #[.slice v.AL v.la.length v.cL,.slice A2 C1.length c2],ι y.c.inc] W (pO ⟨v.la.map (fun a=>a.x),C1.map (fun a=>a.c)⟩ y.c.inc C1 A2 c2 (fun k=>B k∧k≠w.heap.size+2) W) from by
        obtain ⟨x,hx1,hx2,hx3⟩:=XN.out
        exact Uo v.la v.AL v.cL C1 A2 c2 y.c.inc (n+1) (fun k=>B k∧k≠w.heap.size+2) W hv (fun j hj=>⟨HV.out.up j (Nat.le_trans (Nat.le_trans K_.out.size hb.size) hj),by have h2:W.heap.size≤j:=hj;have h3:=hb.size;omega⟩) (by rw[hm];exact hx3) HG.out.n (fun e=>by unfold Bv.bk at hx1;rw[e] at hx1;cases hx1))
       have K0:=HK.out _ (Below.refl _ W6).drew
       clear XN jh Ny Yy qA y9 J9 Lr
       go_wp2_with fail
       first | (go_region_held (fun W'=>(W'.cell? ⟨w.heap.size,0,none⟩=some (.slice v.AL v.la.length v.cL)∧W'.cell? ⟨w.heap.size,1,none⟩=some (.slice v.AC v.lc.length v.cC))∧(W'.cell? ⟨py,0,none⟩=some (ι y.c.call)∧W'.cell? ⟨py,1,none⟩=some (ι y.c.inc)∧W'.cell? ⟨py,2,none⟩=some (ι t.c.urg)∧W'.cell? ⟨py,3,none⟩=some (.string t.c.code)∧W'.cell? ⟨py,4,none⟩=some (.slice t.A t.c.nodes.length t.k)∧W'.cell? ⟨py,5,none⟩=some (ι y.c.dist)∧W'.cell? ⟨py,6,none⟩=some (ι y.c.since)∧W'.cell? ⟨py,7,none⟩=some (.bool y.c.closed))) (first | assumption | exact K0 | exact FH.out _ YB _ _) (first
        | (go_at_call 89;((with_reducible refine (FP.out _ ((Below.refl W6.heap.size W6).drew)).mono ?_);rintro e v2 ⟨C1,A2,c2,rfl,hv2,hm2,hn2,hb2⟩;have B2:=((Below.refl W6.heap.size W6).drew).trans hb2;have K2:=HK.out _ B2;have uj:=ħ (mE.out C1 A2 c2 hm2 _ B2 hv2);have VW:=ħ hm2;clear hb2 hv2 hm2))
        | (go_at_call 91;((with_reducible refine uj.out.mono ?_);rintro e v3 ⟨L3,A3,c3,rfl,hv3,Uv,hb3⟩;have YB:=B2.trans (hb3.mono B2.size);have K3:=HK.out _ YB;have pJ:=ħ hv3;have bW:=ħ Uv;have z0:=(HZ.out _ YB).facts;clear hb3 hv3 Uv)))) | fail
       all_goals
        have Kl:=ħ (show zb ((v3.setCell ⟨w.heap.size+2,0,none⟩ (.slice A3 L3.length c3)).setCell ⟨w.heap.size+2,1,none⟩ (.slice A2 C1.length c2)) (w.heap.size+2) 29 #[.slice A3 L3.length c3,.slice A2 C1.length c2] by
         have:=((HZ.out _ YB).set_ 0 (.slice A3 L3.length c3)).set_ 1 (.slice A2 C1.length c2);simpa using this)
        go_wp2_with fail
        refine bodyPost_ret (za (p:=4) (u:=5) (ty:=29) Tryz.results43 _ _ (w.heap.size+2) 29 #[.slice A3 L3.length c3,.slice A2 C1.length c2] (0,0) _ rfl Kl.out Tryz.underlying29 rfl zm) rfl ?_
        rw[HE.out]
        have YS:=((Fr.refl (fun j=>j=w.heap.size+2) v3).setCell (p:=⟨w.heap.size+2,0,none⟩) (.inl rfl) (.slice A3 L3.length c3)).setCell (p:=⟨w.heap.size+2,1,none⟩) (.inl rfl) (.slice A2 C1.length c2)
        have ZK:=K_.out.trans (YB.mono K_.out.size)
        refine ⟨⟨L3,A3,c3,C1,A2,c2⟩,rfl,(pJ.out.fr YS (fun j hj e=>hj.2 e)).more (fun j hj=>hj.1),?_,ZK.trans (YS.below ZK.size (fun j hj e=>by have e2:j=w.heap.size+2:=e;omega))⟩
        show (⟨L3.map (fun a=>a.x),C1.map (fun a=>a.c)⟩:Bk)=_
        rw[bW.out,VW.out]
        exact QX _ _ (by show zG _ _=_;rfl)
  ·rw[hi] at QV
   have jP:=ħ QV
   have HE:=ħ (show qR v.bk t.c=(v.bk,4) by unfold qR;rw[m_.out,YQ hg];rfl)
   clear QV hi hg
   go_wp2_with (first | (go_at_call 24;((with_reducible refine jP.out.mono ?_);rintro e w3 ⟨rfl,hb⟩;have y5:=ħ (qa.out.below hb);clear hb x0 y0;have x0:=y5.out.b.facts;have y0:=y5.out.t.facts)) | (refine z8 rfl (.tmp 4) (.tmp 18) 29 rfl (w.heap.size+2) 29 _ (β v) _ 2 48 zy rfl rfl rfl y5.out.z rfl zq ?_;intro w8 zW zI yL))
   refine bodyPost_ret (za (p:=4) (u:=5) (ty:=29) Tryz.results43 _ _ (w.heap.size+2) 29 (β v) (0,0) _ rfl zW Tryz.underlying29 rfl zm) rfl ?_
   exact HFin.out 4 _ (y5.out.be.trans (zI.below y5.out.be.size (fun j hj e=>by have e2:j=w.heap.size+2:=e;omega))) HE.out
structure B2 (w wr:World) (c0:Array Value):Prop where
 b:zb wr w.heap.size 29 c0
 z:zb wr (w.heap.size+1) 29 #[.slice none 0 0,.slice none 0 0]
 be:Below w.heap.size w wr
 sz:w.heap.size+2≤wr.heap.size
theorem B2.below {w wr w2:World}{c0:Array Value}(h:B2 w wr c0)(hb:Below wr.heap.size wr w2):B2 w w2 c0:=
 ⟨h.b.below hb h.b.lt,h.z.below hb h.z.lt,h.be.trans (hb.mono h.be.size),Nat.le_trans h.sz hb.size⟩
theorem B2.alloc {w wr:World}{c0:Array Value}(h:B2 w wr c0)(o:Obj):B2 w (wr.alloc o) c0:=h.below ((Below.refl _ _).alloc (Nat.le_refl _) o)
theorem B2.new (w:World)(c0:Array Value):B2 w ((w.alloc (.cells c0 29)).alloc (.cells #[.slice none 0 0,.slice none 0 0] 29)) c0:=
 ⟨(zb.new w 29 c0).alloc _,by
  have:=zb.new (w.alloc (.cells c0 29)) 29 #[.slice none 0 0,.slice none 0 0]
  simpa using this,((Below.refl w.heap.size w).alloc (Nat.le_refl _) _).alloc (by simp) _,by simp⟩
theorem B2.set_ {w wr:World}{c0:Array Value}(h:B2 w wr c0){p:Addr}(hp:w.heap.size+2≤p.block)(u:Value):B2 w (wr.setCell p u) c0:=
 ⟨h.b.far (by omega) u,h.z.far (by omega) u,h.be.setCell (by omega) u,by have:=h.sz;simpa using this⟩
theorem oZ (v:Bv)(k:Int)(n:Nat)(B:Nat→Prop)(w:World)(hG:OkG w B v n) :
 Calls Tryz.prog 45 #[YW v,ι k] w (Je (Z8 v.bk k) B w):=by
 have h:=hG.toOk
 have HG:=ħ hG
 have HV:=ħ h
 have y8:=ħ (B2.new w (β v))
 have HFin:=ħ fun (r:Int) (W:World) (hb:Below w.heap.size w W) (hr:Z8 v.bk k=(v.bk,r))=>(show Je (Z8 v.bk k) B w (.returned (.tuple #[YW v,ι r])) W from ⟨v,by rw[hr],HV.out.ok.below0 hb,by rw[hr],hb⟩)
 have kJ:=ħ fun (W:World) (hb:Below w.heap.size w W)=>XT v (fun k=>B k) k W (HV.out.ok.below0 hb) (by have:=HV.out.nC;omega)
 clear h hG
 go_enter Tryz.func45,Tryz.ntmps45
 go_upto_region 1 with fail
 generalize (w.alloc _).alloc _=W1 at *
 have x0:=y8.out.b.facts
 have QV:=kJ.out _ y8.out.be
 rcases qH (fun a:Ca=>a.c.call) v.lc k with ⟨i,hi,hlt,hg⟩ | ⟨hi,hg⟩
 ·rw[hi] at QV
  have jP:=ħ QV
  obtain ⟨y,hy⟩:∃ y,y=v.lc[i]:=⟨_,rfl⟩
  have HC:=ħ (show yP v.bk.C k=some y.c by rw[hy];exact kH hlt hg)
  have Jm:=ħ fun (W':World) (hb:Below w.heap.size w W')=>Qz (HV.out.ok.below0 hb).rc hlt hy
  have Ja:=ħ (HV.out.ok.xc y (by rw[hy];exact List.getElem_mem hlt))
  have hp:=HV.out.ok.rc.plain (by omega)
  have hix:=fun W=>UC hp v.cC i hlt W
  clear QV hi hg hy hlt
  go_upto_region 4 with ((go_at_call 24;((with_reducible refine jP.out.mono ?_);rintro e w3 ⟨rfl,hb⟩;have qa:=ħ (y8.out.below hb);clear hb x0;have x0:=qa.out.b.facts)))
  obtain ⟨e0,e1,e2,e3,e4,e5,e6,e7⟩:=Jm.out _ qa.out.be
  go_upto_region 5 with fail
  obtain ⟨py,hpy⟩:∃ p,p=w3.heap.size:=⟨_,rfl⟩
  have qA:=ħ (qa.out.alloc (.cells (χ y.c y.A y.k) 34))
  have Yy:=ħ (show zb (w3.alloc (.cells (χ y.c y.A y.k) 34)) py 34 (χ y.c y.A y.k) by rw[hpy];exact zb.new w3 34 _)
  have sG:w.heap.size+2≤py:=by have:=qa.out.sz;omega
  rw[←hpy]
  clear e0 e1 e2 e3 e4 e5 e6 e7 hpy x0 kJ jP Jm hix qa
  generalize w3.alloc _=W4 at *
  have x0:=qA.out.b.facts
  have z0:=Yy.out.facts
  by_cases hcl:y.c.closed=true
  ·have HE:=ħ (show Z8 v.bk k=(v.bk,8) by unfold Z8;rw[HC.out];dsimp only;rw[if_pos hcl])
   go_wp2_with ((refine z8 rfl (.tmp 4) (.tmp 21) 29 rfl (w.heap.size+1) 29 _ (β v) _ 2 48 zy rfl rfl rfl qA.out.z rfl zq ?_;intro w8 zW zI yL))
   refine bodyPost_ret (za (p:=4) (u:=5) (ty:=29) Tryz.results45 _ _ (w.heap.size+1) 29 (β v) (0,0) _ rfl zW Tryz.underlying29 rfl zm) rfl ?_
   exact HFin.out 8 _ (qA.out.be.trans (zI.below qA.out.be.size (fun j hj e=>by have e2:j=w.heap.size+1:=e;omega))) HE.out
  ·have hcb:y.c.closed=false:=by simpa using hcl
   have HE:=ħ (show Z8 v.bk k=(⟨v.bk.L,zG v.bk.C { y.c with closed:=true }⟩,0) by unfold Z8;rw[HC.out];dsimp only;rw[if_neg hcl])
   clear hcl HFin
   go_upto_region 8 with fail
   have y9:=ħ (qA.out.set_ (p:=⟨py,7,none⟩) sG (.bool true))
   have J9:=ħ (show zb (W4.setCell ⟨py,7,none⟩ (.bool true)) py 34 #[ι y.c.call,ι y.c.inc,ι y.c.urg,.string y.c.code,.slice y.A y.c.nodes.length y.k,ι y.c.dist,ι y.c.since,.bool true] by
    have:=Yy.out.set_ 7 (.bool true);simpa using this)
   clear hcb x0 z0 qA Yy
   generalize W4.setCell _ _=W5 at *
   have x0:=y9.out.b.facts
   have z0:=J9.out.facts
   have kM:=ħ (HV.out.ok.old.more (B':=(fun k=>B k∧k≠w.heap.size+1)) (fun k hk=>⟨hk.1,by have:=hk.2;omega⟩))
   have BP:=ħ ((Ja.out.old (by omega)).more (B':=(fun k=>B k∧k≠w.heap.size+1)) (fun k hk=>⟨hk.1,by have:=hk.2;omega⟩))
   have FP:=ħ (show Calls Tryz.prog 89 #[.agg (β v),.agg #[ι y.c.call,ι y.c.inc,ι y.c.urg,.string y.c.code,.slice y.A y.c.nodes.length y.k,ι y.c.dist,ι y.c.since,.bool true]] W5 (eP v.la v.AL v.cL v.lc { y.c with closed:=true } (fun k=>B k∧k≠w.heap.size+1) W5) from Zg v.la v.AL v.cL v.lc v.AC v.cC ⟨{ y.c with closed:=true },y.A,y.k⟩ (fun k=>B k∧k≠w.heap.size+1) W5 (kM.out.below0 y9.out.be) (zl BP.out y9.out.be) (fun j hj=>⟨HV.out.up j (Nat.le_trans y9.out.be.size hj),by have h1:=y9.out.sz;omega⟩) HV.out.sC (by have:=HV.out.nC;omega))
   go_wp2_with (first | (go_at_call 89;((with_reducible refine FP.out.mono ?_);rintro e w6 ⟨C1,A2,c2,rfl,hv2,hm2,hn2,hb⟩;have X8:=ħ hv2;have OI:=ħ hm2;clear hv2 hm2;have yx:=ħ (y9.out.below hb);clear hb x0;have x0:=yx.out.b.facts)) | (refine z8 rfl (.tmp 4) (.tmp 25) 29 rfl (w.heap.size+1) 29 _ #[.slice v.AL v.la.length v.cL,.slice A2 C1.length c2] _ 2 48 zy rfl rfl rfl yx.out.z rfl zq ?_;intro w8 zW zI yL))
   refine bodyPost_ret (za (p:=4) (u:=5) (ty:=29) Tryz.results45 _ _ (w.heap.size+1) 29 #[.slice v.AL v.la.length v.cL,.slice A2 C1.length c2] (0,0) _ rfl zW Tryz.underlying29 rfl zm) rfl ?_
   rw[HE.out]
   refine ⟨⟨v.la,v.AL,v.cL,C1,A2,c2⟩,rfl,(X8.out.fr zI (fun j hj e=>hj.2 e)).more (fun j hj=>hj.1),?_,(yx.out.be.trans (zI.below yx.out.be.size (fun j hj e=>by have e2:j=w.heap.size+1:=e;omega)))⟩
   show (⟨v.la.map (fun a=>a.x),C1.map (fun a=>a.c)⟩:Bk)=_
   rw[OI.out]
   rfl
 ·rw[hi] at QV
  have jP:=ħ QV
  have HE:=ħ (show Z8 v.bk k=(v.bk,4) by unfold Z8;rw[YQ hg])
  clear QV hi hg
  go_wp2_with (first | (go_at_call 24;((with_reducible refine jP.out.mono ?_);rintro e w3 ⟨rfl,hb⟩;have qa:=ħ (y8.out.below hb);clear hb x0;have x0:=qa.out.b.facts)) | (refine z8 rfl (.tmp 4) (.tmp 13) 29 rfl (w.heap.size+1) 29 _ (β v) _ 2 48 zy rfl rfl rfl qa.out.z rfl zq ?_;intro w8 zW zI yL))
  refine bodyPost_ret (za (p:=4) (u:=5) (ty:=29) Tryz.results45 _ _ (w.heap.size+1) 29 (β v) (0,0) _ rfl zW Tryz.underlying29 rfl zm) rfl ?_
  exact HFin.out 4 _ (qa.out.be.trans (zI.below qa.out.be.size (fun j hj e=>by have e2:j=w.heap.size+1:=e;omega))) HE.out
def DY (a b:List Int)(k:Nat):List Int:=((List.range k).map (fun n:Nat=>(n:Int))).filter (fun u=>hasB a u || hasB b u)
theorem dP (a b:List Int)(k:Nat):(DY a b k).length≤k:=by
 unfold DY
 refine Nat.le_trans (List.length_filter_le _ _) ?_
 rw[List.length_map,List.length_range];exact Nat.le_refl _
theorem EO (a b:List Int)(k:Nat):DY a b (k+1)=if hasB a k=true∨hasB b k=true then DY a b k ++ [(k:Int)] else DY a b k:=by
 unfold DY
 rw[List.range_succ,List.map_append,List.filter_append]
 by_cases h:hasB a k=true∨hasB b k=true
 ·rw[if_pos h]
  simp[List.filter_cons,h]
 ·rw[if_neg h]
  have h1:hasB a k=false:=by cases hq:hasB a k with | false=>rfl | true=>exact absurd (.inl hq) h
  have h2:hasB b k=false:=by cases hq:hasB b k with | false=>rfl | true=>exact absurd (.inr hq) h
  simp[List.filter_cons,h1,h2]
theorem QM (u:Int)(a:List Int):(zT [u] a).length=if hasB a u=true then 1 else 0:=by
 unfold zT
 rw[List.filter_cons]
 by_cases h:hasB a u=true
 ·rw[if_pos h,if_pos h];rfl
 ·rw[if_neg h,if_neg h];rfl
theorem info3':(Tryz.prog.info? 3).map (fun i=>(i.zero,i.size,i.bytes))=some (some (ι 0),1,8):=by kernel_rfl
theorem kD (B B2:Nat→Prop)(A1 A2:Option Addr)(c1 c2:Nat)(a b:List Int)(w:World)(h:RI w B A1 a)(h2:RI w B2 A2 b)(hla:a.length≤100000)(hlb:b.length≤100000) :
 Calls Tryz.prog 95 #[.slice A1 a.length c1,.slice A2 b.length c2] w (qL (qp a b) 3 w):=by
 have Hd:=ħ fun (u:Int) (g:Nat) (W:World) (hb:Below w.heap.size w W) (hr:RI W (fun _=>True) (some ⟨g,0,none⟩) [u])=>(show Calls Tryz.prog 96 #[.slice (some ⟨g,0,none⟩) 1 1,.slice A1 a.length c1] W (qL (zT [u] a) 3 W) from Jl (fun _=>True) (some ⟨g,0,none⟩) A1 1 c1 [u] a W hr ((zl h hb).more (fun _ _=>trivial)) (by simp) hla)
 have Ik:=ħ fun (u:Int) (g:Nat) (W:World) (hb:Below w.heap.size w W) (hr:RI W (fun _=>True) (some ⟨g,0,none⟩) [u])=>(show Calls Tryz.prog 96 #[.slice (some ⟨g,0,none⟩) 1 1,.slice A2 b.length c2] W (qL (zT [u] b) 3 W) from Jl (fun _=>True) (some ⟨g,0,none⟩) A2 1 c2 [u] b W hr ((zl h2 hb).more (fun _ _=>trivial)) (by simp) hlb)
 clear h h2
 go_enter Tryz.func95,Tryz.ntmps95
 go_wp2_with fail
 go_loopw [5,6] (fun vo vu wr=>∃ (k m:Nat) (A:Option Addr) (c:Nat),k≤256∧vu=ι (k:Int)∧vo=.slice A m c∧m=(DY a b k).length∧wr.ownsRow w.heap.size 3 1 (.slice A m c) m ((DY a b k).map (Value.int .i64))∧Below w.heap.size w wr) (fun _ vu _=>256 - (intOf vu).toNat)
 case atStart=>exact ⟨0,0,none,0,Nat.zero_le _,rfl,rfl,rfl,World.ownsRow_nil _ _ _ _,Below.refl _ _⟩
 case round=>
  obtain ⟨k,m,A,c,hk,rfl,rfl,hm,ho,hb⟩:=hrel
  have HM:=ħ hm
  have HO:=ħ ho
  have HB:=ħ hb
  have uY:m≤256:=by have:=dP a b k;omega
  have hsz:=hb.size
  clear hm ho hb
  by_cases hlt:k<256
  ·have hlt':(k:Int)<256:=by omega
   have hw1:IntKind.i64.wrap ((k:Int)+1)=(k:Int)+1:=IntWalk.i64_in _ (by omega)
   have HS:=ħ (EO a b k)
   have Ip:=ħ (QM k a)
   have HL2:=ħ (QM k b)
   obtain ⟨u,hu⟩:∃ u:Int,u=(k:Int):=⟨_,rfl⟩
   have sF:=ħ (Hd.out u wr.heap.size (wr.alloc (.cells #[ι u] 3)) (HB.out.alloc HB.out.size _) ((Reads.newS wr [ι u] 3 (0,0) 1 1 rfl _ rfl).more (fun _ _=>trivial)))
   have dU:=ħ (HO.out.alloc (.cells #[ι u] 3))
   have Jb:=ħ (HB.out.alloc HB.out.size (.cells #[ι u] 3))
   obtain ⟨la,dH⟩:∃ la,la=zT [u] a:=⟨_,rfl⟩
   obtain ⟨lb,Fg⟩:∃ lb,lb=zT [u] b:=⟨_,rfl⟩
   rw[←dH] at sF
   have si:=ħ fun (W:World) (hb:Below w.heap.size w W)=>(show Calls Tryz.prog 96 #[.slice (some ⟨W.heap.size,0,none⟩) 1 1,.slice A2 b.length c2] (W.alloc (.cells #[ι u] 3)) (qL lb 3 (W.alloc (.cells #[ι u] 3))) from by
    rw[Fg]
    exact Ik.out u W.heap.size (W.alloc (.cells #[ι u] 3)) (hb.alloc hb.size _) ((Reads.newS W [ι u] 3 (0,0) 1 1 rfl _ rfl).more (fun _ _=>trivial)))
   have hl1:la.length≤1:=by rw[dH,hu,Ip.out];split <;> omega
   have hl2:lb.length≤1:=by rw[Fg,hu,HL2.out];split <;> omega
   have HD:=ħ (show (0<la.length+lb.length)↔(hasB a k=true∨hasB b k=true) by
    rw[dH,Fg,hu,Ip.out,HL2.out]
    by_cases q1:hasB a k=true <;> by_cases q2:hasB b k=true <;> simp[q1,q2])
   clear dH Fg Ip HL2
   have HU:=ħ hu
   rw[←hu] at hlt' hw1⊢
   clear hu
   by_cases hd:0<la.length+lb.length
   ·have hd':(0:Int)<(la.length:Int)+(lb.length:Int):=by omega
    have J5:=ħ (show DY a b (k+1)=DY a b k ++ [u] by rw[HS.out,if_pos (HD.out.1 hd),HU.out])
    clear hd HS HD
    go_wp2_with (first
     | (go_at_call 96;((with_reducible refine sF.out.mono ?_);rintro e w2 ⟨A3,c3,rfl,ho3,hb3⟩;have zk:=ħ (own_below dU.out hb3 (fun g hg=>(dU.out.lt g hg).2));have Un:=ħ (Jb.out.trans (hb3.mono Jb.out.size));have hs2:=hb3.size;clear ho3 hb3 sF;have hs3:=Un.out.size))
     | (go_at_call 96;((with_reducible refine (si.out _ Un.out).mono ?_);rintro e w3 ⟨A4,c4,rfl,jW,hb4⟩;have zC:=ħ (own_below (zk.out.alloc (.cells #[ι u] 3)) hb4 (fun g hg=>((zk.out.alloc (.cells #[ι u] 3)).lt g hg).2));have Gw:=ħ ((Un.out.alloc Un.out.size (.cells #[ι u] 3)).trans (hb4.mono (by simp;omega)));have hs4:=Gw.out.size;clear jW hb4))
     | (at_builtin;refine ze _ rfl _ _ _ rfl w.heap.size 3 _ 1 8 Tryz.underlying32 info3' rfl (by omega) (.slice A m c) m ((DY a b k).map (Value.int .i64)) rfl (zC.out.alloc _) _ (some ⟨w3.heap.size,0,none⟩) 1 1 [ι u] rfl (Reads.newS w3 [ι u] 3 (0,0) 1 1 rfl _ rfl) (by simp[Value.oneCell']) (by simp only[maxLen];omega) (by omega) (by simp;omega) ?_;intro A5 c5 w5 hown hgr hat;have qm:=ħ hown;have ZN:=ħ (Below.grown (Gw.out.alloc Gw.out.size (.cells #[ι u] 3)) hgr (by simp;omega) (fun j hj=>(zC.out.lt j hj).1));clear hown hgr hat))
    refine ⟨⟨k+1,m+1,A5,c5,by omega,by rw[HU.out];go_num,rfl,by rw[J5.out,List.length_append,HM.out];rfl,by rw[J5.out,List.map_append];exact qm.out,ZN.out⟩,by rw[HU.out];simp[intOf];omega⟩
   ·have hd':¬ (0:Int)<(la.length:Int)+(lb.length:Int):=by omega
    have J5:=ħ (show DY a b (k+1)=DY a b k by rw[HS.out,if_neg (fun h=>hd (HD.out.2 h))])
    clear hd HS HD
    go_wp2_with (first
     | (go_at_call 96;((with_reducible refine sF.out.mono ?_);rintro e w2 ⟨A3,c3,rfl,ho3,hb3⟩;have zk:=ħ (own_below dU.out hb3 (fun g hg=>(dU.out.lt g hg).2));have Un:=ħ (Jb.out.trans (hb3.mono Jb.out.size));have hs2:=hb3.size;clear ho3 hb3 sF;have hs3:=Un.out.size))
     | (go_at_call 96;((with_reducible refine (si.out _ Un.out).mono ?_);rintro e w3 ⟨A4,c4,rfl,jW,hb4⟩;have zC:=ħ (own_below (zk.out.alloc (.cells #[ι u] 3)) hb4 (fun g hg=>((zk.out.alloc (.cells #[ι u] 3)).lt g hg).2));have Gw:=ħ ((Un.out.alloc Un.out.size (.cells #[ι u] 3)).trans (hb4.mono (by simp;omega)));have hs4:=Gw.out.size;clear jW hb4)))
    refine ⟨⟨k+1,m,A,c,by omega,by rw[HU.out];go_num,rfl,by rw[J5.out];exact HM.out,by rw[J5.out];exact zC.out,Gw.out⟩,by rw[HU.out];simp[intOf];omega⟩
  ·have hlt':¬ (k:Int)<256:=by omega
   have hk3:k=256:=by omega
   subst hk3
   go_wp2_with fail
   go_ret
   have hm:=HM.out
   subst hm
   exact ⟨A,c,rfl,HO.out,HB.out⟩
end Go.Proofs.YtdhcjhfgibmhfaaGreatDoor

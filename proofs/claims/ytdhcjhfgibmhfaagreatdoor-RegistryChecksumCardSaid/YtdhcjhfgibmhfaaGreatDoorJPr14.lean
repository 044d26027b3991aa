import Derived.Test.YtdhcjhfgibmhfaaGreatDoorJPr13
set_option linter.unusedVariables false
set_option linter.unusedSimpArgs false
set_option maxRecDepth 10000
set_option maxHeartbeats 8000000
namespace Go.Proofs.YtdhcjhfgibmhfaaGreatDoor
open Go.RowKit Go.Own Go.Quo Go.Inc
theorem EY {w:World}{mi:Nat}{ki:List (Int × Value)}(k:Int){v:Value}(hv:(zn ki k).getD (.agg ζ)=v):∀ W:World,zF W mi .i64 ki→(Instr.lookup 86 (.map (some mi)) (ι k) false).run Tryz.prog W=.ok v W:=fun W hW=>by
 have:=zF.lookup (P:=Tryz.prog) hW Tryz.underlying86 Tryz.underlying2 Ex k false
 rw[hv] at this
 simpa using this
theorem uA {n:Nat}{b:Bk}(h:Good n b)(hn:n+1≤1000){t:Cr}(h1:z_ t=true)(ht:t.nodes.length≤60){y:Cr}(g1:y∈b.C)(hcl:y.closed=false) :
 ∃ x,zw b.L y.inc=some x∧zx x=true∧∃ z,qF x (qB (zG b.C (qG y t)) y.inc)=(qD x z,0)∧yz (qG y t)=true:=by
 obtain ⟨x,hx,hxi,hxm⟩:=zg.lk h y g1
 have ho:zx x=true:=by
  unfold zx
  cases gF:x.closed with
  | false=>simp[hxm]
  | true=>have:=(zg.cl h x hx gF).2 y g1 hxi.symm;rw[hcl] at this;cases this
 have hv:yz (qG y t)=true:=by
  have h2:=(zg.vC h y g1).1
  unfold z_ at h1
  unfold yz at h1 h2⊢
  rw[jI] at h1 h2⊢
  unfold qG
  simp only[Bool.and_eq_true,decide_eq_true_eq] at h1 h2⊢
  obtain ⟨⟨a1,a2⟩,⟨⟨⟨⟨⟨⟨⟨b1,b2⟩,b3⟩,b4⟩,b5⟩,b6⟩,b7⟩,b8⟩⟩:=h1
  obtain ⟨⟨c1,c2⟩,⟨⟨⟨⟨⟨⟨⟨d1,d2⟩,d3⟩,d4⟩,d5⟩,d6⟩,d7⟩,d8⟩⟩:=h2
  exact ⟨⟨c1,c2⟩,⟨⟨⟨⟨⟨⟨⟨b1,b2⟩,b3⟩,b4⟩,b5⟩,d6⟩,d7⟩,d8⟩⟩
 obtain ⟨k1,k2⟩:=Zf h (t:=qG y t) ⟨hv,ht⟩ hx hxi ho (fun u hu e=>by
  have:u=y:=qj Cr.call (zg.sC h) hu g1 e
  rw[this];rfl)
 have hg:zw b.L y.inc=some x:=by rw[←hxi];exact yR Ic.id (zg.sL h) hx
 obtain ⟨z,-,h3,-⟩:=jH (id:=y.inc) k1 hn hg ho k2
 exact ⟨x,hg,ho,z,h3,hv⟩
theorem bC (p mc mi mh:Nat)(b:Bk)(t:Ca)(n:Nat)(Bt:Nat→Prop)(w:World)(h:PI w p mc mi mh b)(hG:Good n b)(hn:n+1≤1000)(htb:jg w)(ht:RI w Bt t.A t.c.nodes)(hs:t.c.code.size≤100000)(mH:t.c.nodes.length≤60) :
 Calls Tryz.prog 42 #[.pointer (some ⟨p,0,none⟩),.agg #[ι t.c.call,ι t.c.inc,ι t.c.urg,.string t.c.code,.slice t.A t.c.nodes.length t.k,ι t.c.dist,ι t.c.since,.bool t.c.closed]] w (Ji (qR b t.c) p mc mi mh w):=by
 have J2:=zg.sC hG
 have hsL:=zg.sL hG
 obtain ⟨kc,ki,kh,hw,hc,hi,hh⟩:=h
 have HCM:=ħ hc
 have QS:=ħ hi
 have VN:=ħ hh
 have FW:=ħ hw
 have HFin:=ħ fun (r:Int) (W:World) (L:List (Nat × TypeId × Array Value)) (R:List (Option Addr × List Int)) (ho:OW w W p mc mi mh kc ki kh L R) (hr:qR b t.c=(b,r))=>(show Ji (qR b t.c) p mc mi mh w (.returned (ι r)) W from ⟨by rw[hr],by rw[hr];exact ho.same hc hi hh,ho.fr⟩)
 have HG:=ħ hG
 have Yi:=ħ htb
 have fK:=ħ ht
 have HL:=ħ (And.intro hs (show t.c.nodes.length≤100000 by omega))
 have HB0:=ħ ((Below.refl w.heap.size w).alloc (Nat.le_refl _) (.cells #[ι t.c.call,ι t.c.inc,ι t.c.urg,.string t.c.code,.slice t.A t.c.nodes.length t.k,ι t.c.dist,ι t.c.since,.bool t.c.closed] 34))
 have zD:=ħ ((OW.new hw).alloc 34 #[ι t.c.call,ι t.c.inc,ι t.c.urg,.string t.c.code,.slice t.A t.c.nodes.length t.k,ι t.c.dist,ι t.c.since,.bool t.c.closed])
 clear ht hs hc hi hh hG htb
 cases hr:z_ t.c with
 | false=>
  have HE:=ħ (show qR b t.c=(b,1) by unfold qR;rw[if_pos hr])
  obtain ⟨z,hz⟩:∃ z:Cr,z=Qf:=⟨_,rfl⟩
  have VJ:=ħ (uF t z hz hr _ w _ HB0.out fK.out HL.out.1 HL.out.2)
  clear hr hw hz
  go_enter Tryz.func42,Tryz.ntmps42
  go_upto_region 1 with fail
  generalize w.alloc _=W0 at *
  have p0:=zD.out.pw.al
  have b00:=zD.out.f0
  go_wp2_with (go_at_call 83;((with_reducible refine (VJ.out).mono ?_);rintro e w1 ⟨A,k,rfl,ho,hb⟩;have Z0:=zD.out.own hb ho;have zu:=ħ ((zD.out.below hb).row Z0);clear Z0 ho hb;clear p0 b00;have p0:=zu.out.pw.al;have b00:=zu.out.f0))
  go_ret
  exact HFin.out 1 _ _ _ (zu.out.alloc _ _) HE.out
 | true=>
  obtain ⟨cr,hcr⟩:∃ cr:Cr,cr = { t.c with inc:=0,closed:=false }:=⟨_,rfl⟩
  have VJ:=ħ (Ka t cr hcr hr _ w _ HB0.out fK.out HL.out.1 HL.out.2)
  have Ud:=ħ hcr
  have hcc:cr.call=t.c.call:=by rw[hcr]
  have BL:=ħ hr
  have hnl:cr.nodes.length≤60:=by rw[hcr];exact mH
  have Zr:=ħ (show ∀ r:Bk × Int,(match yP b.C cr.call with | none=>(b,4) | some y=>if y.closed=true then (b,8) else if Jq cr.nodes y.nodes=false∨y.urg<cr.urg then (b,9) else (qw ⟨b.L,zG b.C (qG y t.c)⟩ y.inc,0))=r→qR b t.c=r from fun r h=>by unfold qR;rw[if_neg (by rw[hr];simp)];rw[hcr] at h;exact h)
  clear hr hcr hcc
  rcases QQ HCM.out cr.call with ⟨y,Ay,ky,hg,hk,rf⟩ | ⟨hg,hk⟩
  ·have U0:=ħ hg
   have Ja:=ħ rf
   have hlc:=QA (w:=w) (mc:=mc) cr.call (show (zn kc cr.call).getD (.agg κ)=.agg #[ι y.call,ι y.inc,ι y.urg,.string y.code,.slice Ay y.nodes.length ky,ι y.dist,ι y.since,.bool y.closed] by rw[hk];rfl) (show (zn kc cr.call).isSome=true by simp[hk])
   have hyv:=zg.vC HG.out y (yC hg).1
   have Nu:=ħ (show y.nodes.Pairwise (fun a b=>a≤b) from (j4.1 (YJ hyv.1).1).1.imp (fun h=>by omega))
   have hyl:y.nodes.length≤60:=hyv.2
   have Xi:=ħ (show ∀ r,(if y.closed=true then (b,8) else if Jq cr.nodes y.nodes=false∨y.urg<cr.urg then (b,9) else (qw ⟨b.L,zG b.C (qG y t.c)⟩ y.inc,0))=r→qR b t.c=r from fun r h=>Zr.out r (by rw[hg];exact h))
   clear hg hk rf Zr hyv
   cases hcl:y.closed with
   | true=>
    have HE:=ħ (Xi.out (b,8) (by rw[if_pos hcl]))
    rw[hcl] at hlc
    clear hw hcl
    go_enter Tryz.func42,Tryz.ntmps42
    go_upto_region 1 with fail
    generalize w.alloc _=W0 at *
    have p0:=zD.out.pw.al
    have b00:=zD.out.f0
    go_upto_region 2 with ((go_at_call 83;((with_reducible refine (VJ.out).mono ?_);rintro e w1 ⟨A,k,rfl,ho,hb⟩;have Z0:=zD.out.own hb ho;have zu:=ħ ((zD.out.below hb).row Z0);clear Z0 ho hb;clear p0 b00;have p0:=zu.out.pw.al;have b00:=zu.out.f0)))
    have zk:=ħ (zu.out.alloc 34 #[ι cr.call,ι cr.inc,ι cr.urg,.string cr.code,.slice A cr.nodes.length k,ι cr.dist,ι cr.since,.bool cr.closed])
    obtain ⟨q5,KN⟩:∃ q,q=w1.heap.size:=⟨_,rfl⟩
    rw[←KN] at zk⊢
    clear p0 b00
    clear KN zu
    generalize w1.alloc _=W2 at *
    have p0:=zk.out.pw.al
    have b00:=zk.out.f0
    have b10:=zk.out.f1
    go_upto_region 4 with (fail)
    go_cut [7,6] (fun v0 v1 wx=>∃ q7:Nat,v0=.pointer (some ⟨q7,0,none⟩)∧v1=.bool true∧OW w wx p mc mi mh kc ki kh [(q7,34,#[ι y.call,ι y.inc,ι y.urg,.string y.code,.slice Ay y.nodes.length ky,ι y.dist,ι y.since,.bool true]),(q5,34,#[ι cr.call,ι cr.inc,ι cr.urg,.string cr.code,.slice A cr.nodes.length k,ι cr.dist,ι cr.since,.bool cr.closed]),(w.heap.size,34,#[ι t.c.call,ι t.c.inc,ι t.c.urg,.string t.c.code,.slice t.A t.c.nodes.length t.k,ι t.c.dist,ι t.c.since,.bool t.c.closed])] [(A,cr.nodes)])
    case first=>
     have HK:=ħ fun (W':World) (hb:Below W2.heap.size W2 W')=>(show W'.cell? ⟨p,0,none⟩=some (.map (some mc))∧W'.cell? ⟨q5,0,none⟩=some (ι cr.call) from ⟨(zb.below zk.out.pw.P hb zk.out.pw.P.lt).cell 0,(zb.below zk.out.b0 hb zk.out.b0.lt).cell 0⟩)
     have K0:=HK.out _ (Below.refl _ W2).drew
     have K1:=HK.out _ ((Below.refl _ W2).drew.alloc (Nat.le_refl _) (.cells κ 34))
     have K2:=HK.out _ ((Below.refl _ W2).drew.alloc (Nat.le_refl _) (.cells #[ι y.call,ι y.inc,ι y.urg,.string y.code,.slice Ay y.nodes.length ky,ι y.dist,ι y.since,.bool true] 34))
     go_region_held (fun W'=>W'.cell? ⟨p,0,none⟩=some (.map (some mc))∧W'.cell? ⟨q5,0,none⟩=some (ι cr.call)) (assumption) (fail)
     clear HK K0 K1 K2
     all_goals (go_wp2_with fail)
     all_goals go_meet
     all_goals exact ⟨_,rfl,rfl,(zk.out.alloc _ _).drew⟩
    case rest=>
     obtain ⟨q7,rfl,rfl,ho⟩:=hcut
     have zC:=ħ ho
     clear p0 b00 b10
     clear ho zk
     have p0:=zC.out.pw.al
     have b00:=zC.out.f0
     have b10:=zC.out.f1
     have b20:=zC.out.f2
     go_wp2_with fail
     go_ret
     exact HFin.out 8 _ _ _ zC.out HE.out
   | false=>
    rw[hcl] at hlc
    have jh:=ħ hcl
    by_cases hu:cr.urg > y.urg
    ·have HE:=ħ (Xi.out (b,9) (by rw[if_neg (by rw[hcl];simp),if_pos (.inr hu)]))
     clear hw hcl
     go_enter Tryz.func42,Tryz.ntmps42
     go_upto_region 1 with fail
     generalize w.alloc _=W0 at *
     have p0:=zD.out.pw.al
     have b00:=zD.out.f0
     go_upto_region 2 with ((go_at_call 83;((with_reducible refine (VJ.out).mono ?_);rintro e w1 ⟨A,k,rfl,ho,hb⟩;have Z0:=zD.out.own hb ho;have zu:=ħ ((zD.out.below hb).row Z0);clear Z0 ho hb;clear p0 b00;have p0:=zu.out.pw.al;have b00:=zu.out.f0)))
     have zk:=ħ (zu.out.alloc 34 #[ι cr.call,ι cr.inc,ι cr.urg,.string cr.code,.slice A cr.nodes.length k,ι cr.dist,ι cr.since,.bool cr.closed])
     obtain ⟨q5,KN⟩:∃ q,q=w1.heap.size:=⟨_,rfl⟩
     rw[←KN] at zk⊢
     clear p0 b00
     clear KN zu
     generalize w1.alloc _=W2 at *
     have p0:=zk.out.pw.al
     have b00:=zk.out.f0
     have b10:=zk.out.f1
     go_upto_region 4 with (fail)
     go_cut [7,6] (fun v0 v1 wx=>∃ q7:Nat,v0=.pointer (some ⟨q7,0,none⟩)∧v1=.bool true∧OW w wx p mc mi mh kc ki kh [(q7,34,#[ι y.call,ι y.inc,ι y.urg,.string y.code,.slice Ay y.nodes.length ky,ι y.dist,ι y.since,.bool false]),(q5,34,#[ι cr.call,ι cr.inc,ι cr.urg,.string cr.code,.slice A cr.nodes.length k,ι cr.dist,ι cr.since,.bool cr.closed]),(w.heap.size,34,#[ι t.c.call,ι t.c.inc,ι t.c.urg,.string t.c.code,.slice t.A t.c.nodes.length t.k,ι t.c.dist,ι t.c.since,.bool t.c.closed])] [(A,cr.nodes)])
     case first=>
      have HK:=ħ fun (W':World) (hb:Below W2.heap.size W2 W')=>(show W'.cell? ⟨p,0,none⟩=some (.map (some mc))∧W'.cell? ⟨q5,0,none⟩=some (ι cr.call) from ⟨(zb.below zk.out.pw.P hb zk.out.pw.P.lt).cell 0,(zb.below zk.out.b0 hb zk.out.b0.lt).cell 0⟩)
      have K0:=HK.out _ (Below.refl _ W2).drew
      have K1:=HK.out _ ((Below.refl _ W2).drew.alloc (Nat.le_refl _) (.cells κ 34))
      have K2:=HK.out _ ((Below.refl _ W2).drew.alloc (Nat.le_refl _) (.cells #[ι y.call,ι y.inc,ι y.urg,.string y.code,.slice Ay y.nodes.length ky,ι y.dist,ι y.since,.bool false] 34))
      go_region_held (fun W'=>W'.cell? ⟨p,0,none⟩=some (.map (some mc))∧W'.cell? ⟨q5,0,none⟩=some (ι cr.call)) (assumption) (fail)
      clear HK K0 K1 K2
      all_goals (go_wp2_with fail)
      all_goals go_meet
      all_goals exact ⟨_,rfl,rfl,(zk.out.alloc _ _).drew⟩
     case rest=>
      obtain ⟨q7,rfl,rfl,ho⟩:=hcut
      have zC:=ħ ho
      clear p0 b00 b10
      clear ho zk
      have p0:=zC.out.pw.al
      have b00:=zC.out.f0
      have b10:=zC.out.f1
      have b20:=zC.out.f2
      go_wp2_with fail
      go_ret
      exact HFin.out 9 _ _ _ zC.out HE.out
    ·have rW:=ħ (show ∀ r,(if Jq cr.nodes y.nodes=false then (b,9) else (qw ⟨b.L,zG b.C (qG y t.c)⟩ y.inc,0))=r→qR b t.c=r from fun r h=>Xi.out r (by
      rw[if_neg (by rw[hcl];simp)]
      by_cases h1:Jq cr.nodes y.nodes=false
      ·rw[if_pos (.inl h1)];rw[if_pos h1] at h;exact h
      ·rw[if_neg (by rintro (h2 | h2);exact h1 h2;omega)];rw[if_neg h1] at h;exact h))
     clear Xi hcl
     go_enter Tryz.func42,Tryz.ntmps42
     go_upto_region 1 with fail
     generalize w.alloc _=W0 at *
     have p0:=zD.out.pw.al
     have b00:=zD.out.f0
     go_upto_region 2 with ((go_at_call 83;((with_reducible refine (VJ.out).mono ?_);rintro e w1 ⟨A,k,rfl,ho,hb⟩;have Z0:=zD.out.own hb ho;have zu:=ħ ((zD.out.below hb).row Z0);clear Z0 ho hb;clear p0 b00;have p0:=zu.out.pw.al;have b00:=zu.out.f0)))
     have zk:=ħ (zu.out.alloc 34 #[ι cr.call,ι cr.inc,ι cr.urg,.string cr.code,.slice A cr.nodes.length k,ι cr.dist,ι cr.since,.bool cr.closed])
     obtain ⟨q5,KN⟩:∃ q,q=w1.heap.size:=⟨_,rfl⟩
     rw[←KN] at zk⊢
     clear p0 b00
     clear KN zu
     generalize w1.alloc _=W2 at *
     have p0:=zk.out.pw.al
     have b00:=zk.out.f0
     have b10:=zk.out.f1
     go_upto_region 4 with (fail)
     go_cut [7,6] (fun v0 v1 wx=>∃ q7:Nat,v0=.pointer (some ⟨q7,0,none⟩)∧v1=.bool true∧OW w wx p mc mi mh kc ki kh [(q7,34,#[ι y.call,ι y.inc,ι y.urg,.string y.code,.slice Ay y.nodes.length ky,ι y.dist,ι y.since,.bool false]),(q5,34,#[ι cr.call,ι cr.inc,ι cr.urg,.string cr.code,.slice A cr.nodes.length k,ι cr.dist,ι cr.since,.bool cr.closed]),(w.heap.size,34,#[ι t.c.call,ι t.c.inc,ι t.c.urg,.string t.c.code,.slice t.A t.c.nodes.length t.k,ι t.c.dist,ι t.c.since,.bool t.c.closed])] [(A,cr.nodes)])
     case first=>
      have HK:=ħ fun (W':World) (hb:Below W2.heap.size W2 W')=>(show W'.cell? ⟨p,0,none⟩=some (.map (some mc))∧W'.cell? ⟨q5,0,none⟩=some (ι cr.call) from ⟨(zb.below zk.out.pw.P hb zk.out.pw.P.lt).cell 0,(zb.below zk.out.b0 hb zk.out.b0.lt).cell 0⟩)
      have K0:=HK.out _ (Below.refl _ W2).drew
      have K1:=HK.out _ ((Below.refl _ W2).drew.alloc (Nat.le_refl _) (.cells κ 34))
      have K2:=HK.out _ ((Below.refl _ W2).drew.alloc (Nat.le_refl _) (.cells #[ι y.call,ι y.inc,ι y.urg,.string y.code,.slice Ay y.nodes.length ky,ι y.dist,ι y.since,.bool false] 34))
      go_region_held (fun W'=>W'.cell? ⟨p,0,none⟩=some (.map (some mc))∧W'.cell? ⟨q5,0,none⟩=some (ι cr.call)) (assumption) (fail)
      clear HK K0 K1 K2
      all_goals (go_wp2_with fail)
      all_goals go_meet
      all_goals exact ⟨_,rfl,rfl,(zk.out.alloc _ _).drew⟩
     case rest=>
      obtain ⟨q7,rfl,rfl,ho⟩:=hcut
      have zC:=ħ ho
      clear p0 b00 b10
      clear ho zk
      have p0:=zC.out.pw.al
      have b00:=zC.out.f0
      have b10:=zC.out.f1
      have b20:=zC.out.f2
      go_wp2_with fail
      clear p0 b00 b10 b20
      go_loopw [42] (fun vi wr=>∃ (j:Nat),j≤cr.nodes.length∧vi=ι (j:Int)∧(∀ i,i<j→hasB y.nodes (gd cr.nodes i)=true)∧OW w wr p mc mi mh kc ki kh [(q7,34,#[ι y.call,ι y.inc,ι y.urg,.string y.code,.slice Ay y.nodes.length ky,ι y.dist,ι y.since,.bool false]),(q5,34,#[ι cr.call,ι cr.inc,ι cr.urg,.string cr.code,.slice A cr.nodes.length k,ι cr.dist,ι cr.since,.bool cr.closed]),(w.heap.size,34,#[ι t.c.call,ι t.c.inc,ι t.c.urg,.string t.c.code,.slice t.A t.c.nodes.length t.k,ι t.c.dist,ι t.c.since,.bool t.c.closed])] [(A,cr.nodes)]) (fun vi _=>cr.nodes.length - (intOf vi).toNat)
      case atStart=>exact ⟨0,Nat.zero_le _,rfl,fun i hi=>by omega,zC.out⟩
      case round=>
       clear zC
       obtain ⟨j,hj,rfl,hz,ho⟩:=hrel
       have HZ:=ħ hz
       have ja:=ħ ho
       clear hz ho
       have hpn:=(ja.out.ri (A:=A) (l:=cr.nodes) (.head _)).plain (by omega)
       by_cases hlt:j<cr.nodes.length
       ·have hlt':(j:Int)<cr.nodes.length:=by omega
        have hix:=fun W=>JI hpn k j hlt W
        have wT:=qJ (ja.out.ri (A:=A) (l:=cr.nodes) (.head _)) hlt
        have lI:=ħ (I_ _ Ay ky y.nodes (gd cr.nodes j) wr (ja.out.keep Ja.out) (by omega) Nu.out)
        obtain ⟨v,hv⟩:∃ v,v=gd cr.nodes j:=⟨_,rfl⟩
        rw[←hv] at wT lI
        have HV:=ħ hv
        clear hv
        cases hh:hasB y.nodes v with
        | false=>
         rw[hh] at lI
         have HE:=ħ (rW.out (b,9) (by
          rw[if_pos]
          unfold Jq
          rw[List.all_eq_false]
          refine ⟨gd cr.nodes j,by rw[qd hlt];exact List.getElem_mem hlt,?_⟩
          rw[←HV.out,hh];simp))
         clear hh
         have p0:=ja.out.pw.al
         have b00:=ja.out.f0
         have b10:=ja.out.f1
         have b20:=ja.out.f2
         go_wp2_with (go_at_call 92;((with_reducible refine (lI.out).mono ?_);rintro e w4 ⟨kk,rfl,hb⟩;have zP:=ħ (ja.out.below hb);clear hb;clear p0 b00 b10 b20;have p0:=zP.out.pw.al;have b00:=zP.out.f0;have b10:=zP.out.f1;have b20:=zP.out.f2))
         go_ret
         exact HFin.out 9 _ _ _ zP.out HE.out
        | true=>
         rw[hh] at lI
         have HF:=ħ (show ∀ i,i<j+1→hasB y.nodes (gd cr.nodes i)=true from fun i hi=>by
          rcases (by omega:i<j∨i=j) with e | rfl
          ·exact HZ.out i e
          ·rw[←HV.out];exact hh)
         clear hh
         have p0:=ja.out.pw.al
         have b00:=ja.out.f0
         have b10:=ja.out.f1
         have b20:=ja.out.f2
         go_wp2_with (go_at_call 92;((with_reducible refine (lI.out).mono ?_);rintro e w4 ⟨kk,rfl,hb⟩;have zP:=ħ (ja.out.below hb);clear hb;clear p0 b00 b10 b20;have p0:=zP.out.pw.al;have b00:=zP.out.f0;have b10:=zP.out.f1;have b20:=zP.out.f2))
         exact ⟨⟨j+1,by omega,by go_num,HF.out,zP.out⟩,by simp[intOf];omega⟩
       ·have hlt':¬ (j:Int)<cr.nodes.length:=by omega
        have NE:j=cr.nodes.length:=by omega
        subst NE
        have HE:=ħ (rW.out _ (by
         rw[if_neg]
         unfold Jq
         rw[Bool.not_eq_false,List.all_eq_true]
         intro n hn2
         obtain ⟨i,hi,rfl⟩:=List.mem_iff_getElem.1 hn2
         have:=HZ.out i hi
         rwa [qd hi] at this))
        obtain ⟨wE,xq⟩:=yC U0.out
        have Jm:=ħ wE
        have Pv:=ħ xq
        have M_:=uA HG.out hn (t:=t.c) BL.out mH wE jh.out
        obtain ⟨x,hx1,hx2,z,hz,hcv⟩:=M_
        rcases qU QS.out y.inc with ⟨a,hg,hk,hr⟩ | ⟨hg,_⟩
        case inr=>rw[hx1] at hg;cases hg
        have hax:a.x=x:=by rw[hx1] at hg;exact (Option.some.inj hg).symm
        rw[←hax] at hx2 hz
        have QP:=ħ hg
        have HR:=ħ hr
        have iR:=ħ hz
        have Nh:=ħ hcv
        have BN:=ħ (zg.vL HG.out a.x (zi hg).1)
        have YC:=ħ (yB a true hx2)
        have KU:=EY (w:=w) (mi:=mi) y.inc (show (zn ki y.inc).getD (.agg ζ)=.agg (ξ a.x a.An a.cn a.Ac a.cc a.Au a.cu) by rw[hk];rfl)
        have Fa:=fun (W:World) (k:Int) (v:Value) (hW:zF W mc .i64 kc)=>zF.update (P:=Tryz.prog) hW Tryz.underlying85 Tryz.underlying2 k v
        clear hg hk hr hx1 hx2 hz hcv hax wE xq x
        have p0:=ja.out.pw.al
        have b00:=ja.out.f0
        have b10:=ja.out.f1
        have b20:=ja.out.f2
        go_upto_region 18 with (fail)
        go_upto_region 19 with (fail)
        have zP:=ħ (OW.setC_ (L1:=[]) (L2:=[(q5,34,#[ι cr.call,ι cr.inc,ι cr.urg,.string cr.code,.slice A cr.nodes.length k,ι cr.dist,ι cr.since,.bool cr.closed]),(w.heap.size,34,#[ι t.c.call,ι t.c.inc,ι t.c.urg,.string t.c.code,.slice t.A t.c.nodes.length t.k,ι t.c.dist,ι t.c.since,.bool t.c.closed])]) ja.out 2 (ι cr.urg) (cs':=#[ι y.call,ι y.inc,ι cr.urg,.string y.code,.slice Ay y.nodes.length ky,ι y.dist,ι y.since,.bool false]) (by simp))
        clear p0 b00 b10 b20
        clear ja
        generalize World.setCell _ _ _=W4 at *
        have p0:=zP.out.pw.al
        have b00:=zP.out.f0
        have b10:=zP.out.f1
        have b20:=zP.out.f2
        go_upto_region 20 with (fail)
        have qm:=ħ (OW.setC_ (L1:=[]) (L2:=[(q5,34,#[ι cr.call,ι cr.inc,ι cr.urg,.string cr.code,.slice A cr.nodes.length k,ι cr.dist,ι cr.since,.bool cr.closed]),(w.heap.size,34,#[ι t.c.call,ι t.c.inc,ι t.c.urg,.string t.c.code,.slice t.A t.c.nodes.length t.k,ι t.c.dist,ι t.c.since,.bool t.c.closed])]) zP.out 3 (.string cr.code) (cs':=#[ι y.call,ι y.inc,ι cr.urg,.string cr.code,.slice Ay y.nodes.length ky,ι y.dist,ι y.since,.bool false]) (by simp))
        clear p0 b00 b10 b20
        clear zP
        generalize World.setCell _ _ _=W5 at *
        have p0:=qm.out.pw.al
        have b00:=qm.out.f0
        have b10:=qm.out.f1
        have b20:=qm.out.f2
        go_upto_region 21 with (fail)
        have yS:=ħ (OW.setC_ (L1:=[]) (L2:=[(q5,34,#[ι cr.call,ι cr.inc,ι cr.urg,.string cr.code,.slice A cr.nodes.length k,ι cr.dist,ι cr.since,.bool cr.closed]),(w.heap.size,34,#[ι t.c.call,ι t.c.inc,ι t.c.urg,.string t.c.code,.slice t.A t.c.nodes.length t.k,ι t.c.dist,ι t.c.since,.bool t.c.closed])]) qm.out 4 (.slice A cr.nodes.length k) (cs':=#[ι y.call,ι y.inc,ι cr.urg,.string cr.code,.slice A cr.nodes.length k,ι y.dist,ι y.since,.bool false]) (by simp))
        clear p0 b00 b10 b20
        clear qm
        generalize World.setCell _ _ _=W6 at *
        have p0:=yS.out.pw.al
        have b00:=yS.out.f0
        have b10:=yS.out.f1
        have b20:=yS.out.f2
        refine yJ 7 (by kernel_rfl) (by kernel_rfl) (fun T hT=>?_)
        simp only[List.take_succ_cons,List.take_zero]
        repeat still_step
        refine wpStill_nil (hT _ ?_)
        clear hT T
        simp only[List.drop_succ_cons,List.drop_zero]
        go_upto_region 22 with (fail)
        have j_:=ħ (yS.out.putC (y.call) (.agg #[ι y.call,ι y.inc,ι cr.urg,.string cr.code,.slice A cr.nodes.length k,ι y.dist,ι y.since,.bool false])).drew
        clear p0 b00 b10 b20
        clear yS
        generalize (mput _ _ _ _ _).drew=W7 at *
        have p0:=j_.out.pw.al
        have b00:=j_.out.f0
        have b10:=j_.out.f1
        have b20:=j_.out.f2
        go_cut [12] (fun v0 wx=>∃ Cy:Nat,v0=.pointer (some ⟨Cy,0,none⟩)∧OW w wx p mc mi mh (yg kc (y.call) (.agg #[ι y.call,ι y.inc,ι cr.urg,.string cr.code,.slice A cr.nodes.length k,ι y.dist,ι y.since,.bool false])) ki kh [(Cy,48,(ξ a.x a.An a.cn a.Ac a.cc a.Au a.cu)),(q7,34,#[ι y.call,ι y.inc,ι cr.urg,.string cr.code,.slice A cr.nodes.length k,ι y.dist,ι y.since,.bool false]),(q5,34,#[ι cr.call,ι cr.inc,ι cr.urg,.string cr.code,.slice A cr.nodes.length k,ι cr.dist,ι cr.since,.bool cr.closed]),(w.heap.size,34,#[ι t.c.call,ι t.c.inc,ι t.c.urg,.string t.c.code,.slice t.A t.c.nodes.length t.k,ι t.c.dist,ι t.c.since,.bool t.c.closed])] [(A,cr.nodes)])
        case first=>
         have HK:=ħ fun (W':World) (hb:Below W7.heap.size W7 W')=>(show W'.cell? ⟨p,1,none⟩=some (.map (some mi))∧W'.cell? ⟨q7,1,none⟩=some (ι y.inc) from ⟨(zb.below j_.out.pw.P hb j_.out.pw.P.lt).cell 1,(zb.below j_.out.b0 hb j_.out.b0.lt).cell 1⟩)
         have K0:=HK.out _ (Below.refl _ W7).drew
         have K1:=HK.out _ ((Below.refl _ W7).drew.alloc (Nat.le_refl _) (.cells ζ 48))
         have K2:=HK.out _ ((Below.refl _ W7).drew.alloc (Nat.le_refl _) (.cells (ξ a.x a.An a.cn a.Ac a.cc a.Au a.cu) 48))
         go_region_held (fun W'=>W'.cell? ⟨p,1,none⟩=some (.map (some mi))∧W'.cell? ⟨q7,1,none⟩=some (ι y.inc)) (assumption) (fail)
         clear HK K0 K1 K2
         all_goals (go_wp2_with fail)
         all_goals go_meet
         all_goals exact ⟨_,rfl,(j_.out.alloc _ _).drew⟩
        case rest=>
         obtain ⟨Cy,rfl,ho⟩:=hcut
         have YY:=ħ ho
         clear p0 b00 b10 b20
         clear ho j_
         have p0:=YY.out.pw.al
         have b00:=YY.out.f0
         have b10:=YY.out.f1
         have b20:=YY.out.f2
         have Qv:=YY.out.f3
         go_upto_region 24 with ((go_at_call 56;((with_reducible refine (YC.out _).mono ?_);rintro e w9 ⟨rfl,hb⟩;have Z5:=ħ (YY.out.below hb);clear hb;clear p0 b00 b10 b20 Qv;have p0:=Z5.out.pw.al;have b00:=Z5.out.f0;have b10:=Z5.out.f1;have b20:=Z5.out.f2;have Qv:=Z5.out.f3)))
         have V9:=ħ (show CM w9 (Bq p mc mi mh) (yg kc y.call (.agg #[ι y.call,ι y.inc,ι cr.urg,.string cr.code,.slice A cr.nodes.length k,ι y.dist,ι y.since,.bool false])) (zG b.C (qG y t.c)) from by
          have h1:=(HCM.out.fr Z5.out.fr (fun k hk=>qh hk)).put J2 (qG y t.c) A k (by have:=Z5.out.rq (A:=A) (l:=cr.nodes) (.head _);rw[Ud.out] at this;exact this)
          have e:=Ud.out
          subst e
          unfold uy χ at h1
          have e2:(qG y t.c).closed=false:=jh.out
          rw[e2] at h1
          exact h1)
         have UR:=ħ (show (qB (zG b.C (qG y t.c)) y.inc).map Cr.call=a.x.calls from by
          rw[En (t:=qG y t.c) J2 Jm.out rfl rfl,←(zi QP.out).2]
          exact (Good.cs HG.out a.x (zi QP.out).1).symm)
         have ag:=ħ (show (qB (zG b.C (qG y t.c)) y.inc).length=a.x.calls.length from by rw[←UR.out,List.length_map])
         have fo:=ħ (show Calls Tryz.prog 61 #[.pointer (some ⟨p,0,none⟩),.agg (ξ a.x a.An a.cn a.Ac a.cc a.Au a.cu),.slice a.Ac a.x.calls.length a.cc] w9 (Qk p mc mi mh (yg kc y.call (.agg #[ι y.call,ι y.inc,ι cr.urg,.string cr.code,.slice A cr.nodes.length k,ι y.dist,ι y.since,.bool false])) ki kh a.x (qB (zG b.C (qG y t.c)) y.inc) w9) from by
          have h1:=J6 a (qB (zG b.C (qG y t.c)) y.inc) (zG b.C (qG y t.c)) a.Ac a.cc _ _ _ w9 Z5.out.pw (Z5.out.tab2 Yi.out FW.out) (Z5.out.keepX HR.out) (by rw[UR.out];exact (Z5.out.keepX HR.out).c) V9.out (fun u hu=>(zo.1 hu).1) (by
           have h2:=UM (zG b.C (qG y t.c)) y.inc
           have h3:=jc Cr.call J2 (x:=qG y t.c) (by
            rw[show Cr.call (qG y t.c)=y.call from rfl,yR Cr.call J2 Jm.out];exact fun e=>by cases e)
           have h4:=zg.nC HG.out
           have h5:(zG b.C (qG y t.c)).length≤b.C.length:=h3
           omega) BN.out (fun u hu=>by
           rcases qc.1 hu with rfl | ⟨h3,h4⟩
           ·exact ⟨Nh.out,mH⟩
           ·exact zg.vC HG.out u h3)
          rw[ag.out] at h1
          exact h1)
         have uh:=ħ fun (w2:World) (e:Ending) (hr:Qk p mc mi mh (yg kc y.call (.agg #[ι y.call,ι y.inc,ι cr.urg,.string cr.code,.slice A cr.nodes.length k,ι y.dist,ι y.since,.bool false])) ki kh a.x (qB (zG b.C (qG y t.c)) y.inc) w9 e w2)=>(show PI w2 p mc mi mh (qw ⟨b.L,zG b.C (qG y t.c)⟩ y.inc)∧Fr (Sq p mc mi mh) w w2 from
          UB Z5.out V9.out (QS.out.fr Z5.out.fr (fun k hk=>qh hk)) VN.out hsL QP.out hr iR.out (List.Perm.refl _) (by rw[UR.out,Good.cs HG.out a.x (zi QP.out).1];exact jm Cr.call (qi J2 _)))
         go_wp2_with (go_at_call 61;((with_reducible refine fo.out.mono ?_);rintro e w9 hr;obtain ⟨hre,hr2⟩:=(⟨hr.1,hr⟩:_∧_);subst hre;have Yn:=ħ (uh.out _ _ hr2);clear hr hr2))
         go_ret
         rw[HE.out]
         exact ⟨rfl,Yn.out.1,Yn.out.2⟩
  ·have HE:=ħ (Zr.out (b,4) (by rw[hg]))
   have hlc:=QA (w:=w) (mc:=mc) cr.call (show (zn kc cr.call).getD (.agg κ)=.agg κ by rw[hk];rfl) (show (zn kc cr.call).isSome=false by simp[hk])
   clear hg hk hw Zr Ud
   go_enter Tryz.func42,Tryz.ntmps42
   go_upto_region 1 with fail
   generalize w.alloc _=W0 at *
   have p0:=zD.out.pw.al
   have b00:=zD.out.f0
   go_upto_region 2 with ((go_at_call 83;((with_reducible refine (VJ.out).mono ?_);rintro e w1 ⟨A,k,rfl,ho,hb⟩;have Z0:=zD.out.own hb ho;have zu:=ħ ((zD.out.below hb).row Z0);clear Z0 ho hb;clear p0 b00;have p0:=zu.out.pw.al;have b00:=zu.out.f0)))
   have zk:=ħ (zu.out.alloc 34 #[ι cr.call,ι cr.inc,ι cr.urg,.string cr.code,.slice A cr.nodes.length k,ι cr.dist,ι cr.since,.bool cr.closed])
   obtain ⟨q5,KN⟩:∃ q,q=w1.heap.size:=⟨_,rfl⟩
   rw[←KN] at zk⊢
   clear p0 b00
   clear KN zu
   generalize w1.alloc _=W2 at *
   have p0:=zk.out.pw.al
   have b00:=zk.out.f0
   have b10:=zk.out.f1
   go_upto_region 4 with (fail)
   go_cut [7,6] (fun v0 v1 wx=>∃ q7:Nat,v0=.pointer (some ⟨q7,0,none⟩)∧v1=.bool false∧OW w wx p mc mi mh kc ki kh [(q7,34,κ),(q5,34,#[ι cr.call,ι cr.inc,ι cr.urg,.string cr.code,.slice A cr.nodes.length k,ι cr.dist,ι cr.since,.bool cr.closed]),(w.heap.size,34,#[ι t.c.call,ι t.c.inc,ι t.c.urg,.string t.c.code,.slice t.A t.c.nodes.length t.k,ι t.c.dist,ι t.c.since,.bool t.c.closed])] [(A,cr.nodes)])
   case first=>
    have HK:=ħ fun (W':World) (hb:Below W2.heap.size W2 W')=>(show W'.cell? ⟨p,0,none⟩=some (.map (some mc))∧W'.cell? ⟨q5,0,none⟩=some (ι cr.call) from ⟨(zb.below zk.out.pw.P hb zk.out.pw.P.lt).cell 0,(zb.below zk.out.b0 hb zk.out.b0.lt).cell 0⟩)
    have K0:=HK.out _ (Below.refl _ W2).drew
    have K1:=HK.out _ ((Below.refl _ W2).drew.alloc (Nat.le_refl _) (.cells κ 34))
    have K2:=HK.out _ ((Below.refl _ W2).drew.alloc (Nat.le_refl _) (.cells κ 34))
    go_region_held (fun W'=>W'.cell? ⟨p,0,none⟩=some (.map (some mc))∧W'.cell? ⟨q5,0,none⟩=some (ι cr.call)) (assumption) (fail)
    clear HK K0 K1 K2
    all_goals (go_wp2_with fail)
    all_goals go_meet
    all_goals exact ⟨_,rfl,rfl,(zk.out.alloc _ _).drew⟩
   case rest=>
    obtain ⟨q7,rfl,rfl,ho⟩:=hcut
    have zC:=ħ ho
    clear p0 b00 b10
    clear ho zk
    have p0:=zC.out.pw.al
    have b00:=zC.out.f0
    have b10:=zC.out.f1
    have b20:=zC.out.f2
    go_wp2_with fail
    go_ret
    exact HFin.out 4 _ _ _ zC.out HE.out
end Go.Proofs.YtdhcjhfgibmhfaaGreatDoor

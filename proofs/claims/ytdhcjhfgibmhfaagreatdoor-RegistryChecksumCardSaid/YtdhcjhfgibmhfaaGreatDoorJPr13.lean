import Derived.Test.YtdhcjhfgibmhfaaGreatDoorJG24
set_option linter.unusedVariables false
set_option linter.unusedSimpArgs false
set_option maxRecDepth 10000
set_option maxHeartbeats 8000000
namespace Go.Proofs.YtdhcjhfgibmhfaaGreatDoor
open Go.RowKit Go.Own Go.Quo Go.Inc
theorem OW.tab2 {w wr:World}{p mc mi mh:Nat}{kc ki kh OA Oz OZ:List (Int × Value)}{L:List (Nat × TypeId × Array Value)}{R:List (Option Addr × List Int)}(h:OW w wr p mc mi mh kc ki kh L R)(ht:jg w)(hw:PW w p mc mi mh OA Oz OZ):jg wr:=ht.fr h.fr (EU ht hw)
theorem uX (p mc mi mh:Nat)(b:Bk)(t:Ca)(id:Int)(n:Nat)(Bt:Nat→Prop)(w:World)(h:PI w p mc mi mh b)(hG:Good n b)(hn:n+1≤1000)(htb:jg w)(ht:RI w Bt t.A t.c.nodes)(hs:t.c.code.size≤100000)(mH:t.c.nodes.length≤60) :
 Calls Tryz.prog 39 #[.pointer (some ⟨p,0,none⟩),.agg (χ t.c t.A t.k),ι id] w (Ji (qy b t.c id) p mc mi mh w):=by
 have J2:=zg.sC hG
 have hsL:=zg.sL hG
 obtain ⟨kc,ki,kh,hw,hc,hi,hh⟩:=h
 have HCM:=ħ hc
 have QS:=ħ hi
 have VN:=ħ hh
 have FW:=ħ hw
 have HFin:=ħ fun (r:Int) (W:World) (L:List (Nat × TypeId × Array Value)) (R:List (Option Addr × List Int)) (ho:OW w W p mc mi mh kc ki kh L R) (hr:qy b t.c id=(b,r))=>(show Ji (qy b t.c id) p mc mi mh w (.returned (ι r)) W from ⟨by rw[hr],by rw[hr];exact ho.same hc hi hh,ho.fr⟩)
 have HG:=ħ hG
 have Yi:=ħ htb
 have fK:=ħ ht
 have HL:=ħ (And.intro hs (show t.c.nodes.length≤100000 by omega))
 have HB0:=ħ ((Below.refl w.heap.size w).alloc (Nat.le_refl _) (.cells (χ t.c t.A t.k) 34))
 have zD:=ħ ((OW.new hw).alloc 34 (χ t.c t.A t.k))
 clear ht hs hc hi hh hG htb
 cases hr:z_ t.c with
 | false=>
  have HE:=ħ (show qy b t.c id=(b,1) by unfold qy;rw[if_pos (by rw[hr];rfl)])
  obtain ⟨z,hz⟩:∃ z:Cr,z=Qf:=⟨_,rfl⟩
  have VJ:=ħ (uF t z hz hr _ w _ HB0.out fK.out HL.out.1 HL.out.2)
  clear hr hw hz
  go_enter Tryz.func39,Tryz.ntmps39
  go_upto_region 1 with fail
  generalize w.alloc _=W0 at *
  have p0:=zD.out.pw.al
  have b00:=zD.out.f0
  go_wp2_with (go_at_call 83;((with_reducible refine (VJ.out).mono ?_);rintro e w1 ⟨A,k,rfl,ho,hb⟩;have Z0:=zD.out.own hb ho;have zu:=ħ ((zD.out.below hb).row Z0);clear Z0 ho hb;clear p0 b00;have p0:=zu.out.pw.al;have b00:=zu.out.f0))
  go_ret
  exact HFin.out 1 _ _ _ (zu.out.alloc _ _) HE.out
 | true=>
  obtain ⟨cr,hcr⟩:∃ cr:Cr,cr = { t.c with inc:=0,closed:=false }:=⟨_,rfl⟩
  have VJ:=ħ (Ka t cr hcr hr _ w _ HB0.out fK.out HL.out.1 HL.out.2)
  cases hid:zQ id 1 with
  | false=>
   have HE:=ħ (show qy b t.c id=(b,1) by unfold qy;rw[if_pos (by rw[hr,hid];rfl)])
   have JC:=ħ fun W=>Jn id false hid W
   clear hr hid hcr hw
   go_enter Tryz.func39,Tryz.ntmps39
   go_upto_region 1 with fail
   generalize w.alloc _=W0 at *
   have p0:=zD.out.pw.al
   have b00:=zD.out.f0
   go_wp2_with (first | (go_at_call 83;((with_reducible refine (VJ.out).mono ?_);rintro e w1 ⟨A,k,rfl,ho,hb⟩;have Z0:=zD.out.own hb ho;have zu:=ħ ((zD.out.below hb).row Z0);clear Z0 ho hb;clear p0 b00;have p0:=zu.out.pw.al;have b00:=zu.out.f0)) | (go_at_call 55;((with_reducible refine (JC.out _).mono ?_);rintro e w5 ⟨rfl,rfl⟩)))
   go_ret
   exact HFin.out 1 _ _ _ (zu.out.alloc _ _) HE.out
  | true=>
   have JC:=ħ fun W=>Jn id true hid W
   have Ud:=ħ hcr
   have hcc:cr.call=t.c.call:=by rw[hcr]
   have BL:=ħ (And.intro hr hid)
   have Zr:=ħ (show ∀ r:Bk × Int,(match yP b.C cr.call with | some _=>(b,5) | none=>match zw b.L id with | none=>(b,4) | some x=>if zx x=false then (b,8) else if 1000≤x.calls.length then (b,3) else (qw ⟨b.L,zG b.C (j6 t.c id)⟩ id,0))=r→qy b t.c id=r from fun r h=>by unfold qy;rw[if_neg (by rw[hr,hid];simp),←hcc];exact h)
   clear hr hid hcr hcc
   rcases QQ HCM.out cr.call with ⟨y,Ay,ky,hg,hk,-⟩ | ⟨hg,hk⟩
   ·have HE:=ħ (Zr.out (b,5) (by rw[hg]))
    have hlc:=QA (w:=w) (mc:=mc) cr.call (show (zn kc cr.call).getD (.agg κ)=.agg (χ y Ay ky) by rw[hk];rfl) (show (zn kc cr.call).isSome=true by simp[hk])
    clear hg hk hw Zr Ud
    go_enter Tryz.func39,Tryz.ntmps39
    go_upto_region 1 with fail
    generalize w.alloc _=W0 at *
    have p0:=zD.out.pw.al
    have b00:=zD.out.f0
    go_upto_region 2 with ((go_at_call 83;((with_reducible refine (VJ.out).mono ?_);rintro e w1 ⟨A,k,rfl,ho,hb⟩;have Z0:=zD.out.own hb ho;have zu:=ħ ((zD.out.below hb).row Z0);clear Z0 ho hb;clear p0 b00;have p0:=zu.out.pw.al;have b00:=zu.out.f0)))
    have zk:=ħ (zu.out.alloc 34 (χ cr A k))
    obtain ⟨q7,yZ⟩:∃ q,q=w1.heap.size:=⟨_,rfl⟩
    rw[←yZ] at zk⊢
    clear p0 b00
    clear yZ zu
    generalize w1.alloc _=W2 at *
    have p0:=zk.out.pw.al
    have b00:=zk.out.f0
    have b10:=zk.out.f1
    go_upto_region 4 with ((go_at_call 55;((with_reducible refine (JC.out _).mono ?_);rintro e w5 ⟨rfl,rfl⟩)))
    go_cut [9,10] (fun v0 v1 wx=>∃ q9:Nat,v0=.pointer (some ⟨q9,0,none⟩)∧v1=.bool true∧OW w wx p mc mi mh kc ki kh [(q9,34,(χ y Ay ky)),(q7,34,(χ cr A k)),(w.heap.size,34,(χ t.c t.A t.k))] [(A,cr.nodes)])
    case first=>
     have HK:=ħ fun (W':World) (hb:Below w5.heap.size w5 W')=>(show W'.cell? ⟨p,0,none⟩=some (.map (some mc))∧W'.cell? ⟨q7,0,none⟩=some (ι cr.call) from ⟨(zb.below zk.out.pw.P hb zk.out.pw.P.lt).cell 0,(zb.below zk.out.b0 hb zk.out.b0.lt).cell 0⟩)
     have K0:=HK.out _ (Below.refl _ w5).drew
     have K1:=HK.out _ ((Below.refl _ w5).drew.alloc (Nat.le_refl _) (.cells κ 34))
     have K2:=HK.out _ ((Below.refl _ w5).drew.alloc (Nat.le_refl _) (.cells (χ y Ay ky) 34))
     go_region_held (fun W'=>W'.cell? ⟨p,0,none⟩=some (.map (some mc))∧W'.cell? ⟨q7,0,none⟩=some (ι cr.call)) (assumption) (fail)
     clear HK K0 K1 K2
     all_goals (go_wp2_with fail)
     all_goals go_meet
     all_goals exact ⟨_,rfl,rfl,(zk.out.alloc _ _).drew⟩
    case rest=>
     obtain ⟨q9,rfl,rfl,ho⟩:=hcut
     have zC:=ħ ho
     clear p0 b00 b10
     clear ho zk
     have p0:=zC.out.pw.al
     have b00:=zC.out.f0
     have b10:=zC.out.f1
     have b20:=zC.out.f2
     go_wp2_with fail
     go_ret
     exact HFin.out 5 _ _ _ zC.out HE.out
   ·have hlc:=QA (w:=w) (mc:=mc) cr.call (show (zn kc cr.call).getD (.agg κ)=.agg κ by rw[hk];rfl) (show (zn kc cr.call).isSome=false by simp[hk])
    have U0:=ħ hg
    clear hg hk
    rcases qU QS.out id with ⟨a,hg,hk,hr⟩ | ⟨hg,hk⟩
    ·have QP:=ħ hg
     have HR:=ħ hr
     have KU:=yG (w:=w) (mi:=mi) id (show (zn ki id).getD (.agg ζ)=.agg (ξ a.x a.An a.cn a.Ac a.cc a.Au a.cu) by rw[hk];rfl) (show (zn ki id).isSome=true by simp[hk])
     have BN:=ħ (zg.vL HG.out a.x (zi hg).1)
     have Xi:=ħ (show ∀ r,(if zx a.x=false then (b,8) else if 1000≤a.x.calls.length then (b,3) else (qw ⟨b.L,zG b.C (j6 t.c id)⟩ id,0))=r→qy b t.c id=r from fun r h=>Zr.out r (by rw[U0.out,hg];exact h))
     clear hg hk hr Zr
     cases ho:zx a.x with
     | false=>
      have HE:=ħ (Xi.out (b,8) (by rw[if_pos ho]))
      have YC:=ħ (yB a false ho)
      clear ho hw
      go_enter Tryz.func39,Tryz.ntmps39
      go_upto_region 1 with fail
      generalize w.alloc _=W0 at *
      have p0:=zD.out.pw.al
      have b00:=zD.out.f0
      go_upto_region 2 with ((go_at_call 83;((with_reducible refine (VJ.out).mono ?_);rintro e w1 ⟨A,k,rfl,ho,hb⟩;have Z0:=zD.out.own hb ho;have zu:=ħ ((zD.out.below hb).row Z0);clear Z0 ho hb;clear p0 b00;have p0:=zu.out.pw.al;have b00:=zu.out.f0)))
      have zk:=ħ (zu.out.alloc 34 (χ cr A k))
      obtain ⟨q7,yZ⟩:∃ q,q=w1.heap.size:=⟨_,rfl⟩
      rw[←yZ] at zk⊢
      clear p0 b00
      clear yZ zu
      generalize w1.alloc _=W2 at *
      have p0:=zk.out.pw.al
      have b00:=zk.out.f0
      have b10:=zk.out.f1
      go_upto_region 4 with ((go_at_call 55;((with_reducible refine (JC.out _).mono ?_);rintro e w5 ⟨rfl,rfl⟩)))
      go_cut [9,10] (fun v0 v1 wx=>∃ q9:Nat,v0=.pointer (some ⟨q9,0,none⟩)∧v1=.bool false∧OW w wx p mc mi mh kc ki kh [(q9,34,κ),(q7,34,(χ cr A k)),(w.heap.size,34,(χ t.c t.A t.k))] [(A,cr.nodes)])
      case first=>
       have HK:=ħ fun (W':World) (hb:Below w5.heap.size w5 W')=>(show W'.cell? ⟨p,0,none⟩=some (.map (some mc))∧W'.cell? ⟨q7,0,none⟩=some (ι cr.call) from ⟨(zb.below zk.out.pw.P hb zk.out.pw.P.lt).cell 0,(zb.below zk.out.b0 hb zk.out.b0.lt).cell 0⟩)
       have K0:=HK.out _ (Below.refl _ w5).drew
       have K1:=HK.out _ ((Below.refl _ w5).drew.alloc (Nat.le_refl _) (.cells κ 34))
       have K2:=HK.out _ ((Below.refl _ w5).drew.alloc (Nat.le_refl _) (.cells κ 34))
       go_region_held (fun W'=>W'.cell? ⟨p,0,none⟩=some (.map (some mc))∧W'.cell? ⟨q7,0,none⟩=some (ι cr.call)) (assumption) (fail)
       clear HK K0 K1 K2
       all_goals (go_wp2_with fail)
       all_goals go_meet
       all_goals exact ⟨_,rfl,rfl,(zk.out.alloc _ _).drew⟩
      case rest=>
       obtain ⟨q9,rfl,rfl,ho⟩:=hcut
       have zC:=ħ ho
       clear p0 b00 b10
       clear ho zk
       have p0:=zC.out.pw.al
       have b00:=zC.out.f0
       have b10:=zC.out.f1
       have b20:=zC.out.f2
       go_upto_region 7 with (fail)
       go_upto_region 8 with (fail)
       have zP:=ħ (zC.out.alloc 48 (ξ a.x a.An a.cn a.Ac a.cc a.Au a.cu))
       obtain ⟨yM,hq11⟩:∃ q,q=wc.heap.size:=⟨_,rfl⟩
       rw[←hq11] at zP⊢
       clear p0 b00 b10 b20
       clear hq11 zC
       generalize wc.alloc _=W4 at *
       have p0:=zP.out.pw.al
       have b00:=zP.out.f0
       have b10:=zP.out.f1
       have b20:=zP.out.f2
       have Qv:=zP.out.f3
       go_wp2_with (go_at_call 56;((with_reducible refine (YC.out _).mono ?_);rintro e w5 ⟨rfl,hb⟩;have qm:=ħ (zP.out.below hb);clear hb;clear p0 b00 b10 b20 Qv;have p0:=qm.out.pw.al;have b00:=qm.out.f0;have b10:=qm.out.f1;have b20:=qm.out.f2;have Qv:=qm.out.f3))
       go_ret
       exact HFin.out 8 _ _ _ qm.out HE.out
     | true=>
      by_cases hl:1000≤a.x.calls.length
      ·have HE:=ħ (Xi.out (b,3) (by rw[if_neg (by rw[ho];simp),if_pos hl]))
       have YC:=ħ (yB a true ho)
       have hge:(a.x.calls.length:Int)≥1000:=by omega
       clear ho hw hl
       go_enter Tryz.func39,Tryz.ntmps39
       go_upto_region 1 with fail
       generalize w.alloc _=W0 at *
       have p0:=zD.out.pw.al
       have b00:=zD.out.f0
       go_upto_region 2 with ((go_at_call 83;((with_reducible refine (VJ.out).mono ?_);rintro e w1 ⟨A,k,rfl,ho,hb⟩;have Z0:=zD.out.own hb ho;have zu:=ħ ((zD.out.below hb).row Z0);clear Z0 ho hb;clear p0 b00;have p0:=zu.out.pw.al;have b00:=zu.out.f0)))
       have zk:=ħ (zu.out.alloc 34 (χ cr A k))
       obtain ⟨q7,yZ⟩:∃ q,q=w1.heap.size:=⟨_,rfl⟩
       rw[←yZ] at zk⊢
       clear p0 b00
       clear yZ zu
       generalize w1.alloc _=W2 at *
       have p0:=zk.out.pw.al
       have b00:=zk.out.f0
       have b10:=zk.out.f1
       go_upto_region 4 with ((go_at_call 55;((with_reducible refine (JC.out _).mono ?_);rintro e w5 ⟨rfl,rfl⟩)))
       go_cut [9,10] (fun v0 v1 wx=>∃ q9:Nat,v0=.pointer (some ⟨q9,0,none⟩)∧v1=.bool false∧OW w wx p mc mi mh kc ki kh [(q9,34,κ),(q7,34,(χ cr A k)),(w.heap.size,34,(χ t.c t.A t.k))] [(A,cr.nodes)])
       case first=>
        have HK:=ħ fun (W':World) (hb:Below w5.heap.size w5 W')=>(show W'.cell? ⟨p,0,none⟩=some (.map (some mc))∧W'.cell? ⟨q7,0,none⟩=some (ι cr.call) from ⟨(zb.below zk.out.pw.P hb zk.out.pw.P.lt).cell 0,(zb.below zk.out.b0 hb zk.out.b0.lt).cell 0⟩)
        have K0:=HK.out _ (Below.refl _ w5).drew
        have K1:=HK.out _ ((Below.refl _ w5).drew.alloc (Nat.le_refl _) (.cells κ 34))
        have K2:=HK.out _ ((Below.refl _ w5).drew.alloc (Nat.le_refl _) (.cells κ 34))
        go_region_held (fun W'=>W'.cell? ⟨p,0,none⟩=some (.map (some mc))∧W'.cell? ⟨q7,0,none⟩=some (ι cr.call)) (assumption) (fail)
        clear HK K0 K1 K2
        all_goals (go_wp2_with fail)
        all_goals go_meet
        all_goals exact ⟨_,rfl,rfl,(zk.out.alloc _ _).drew⟩
       case rest=>
        obtain ⟨q9,rfl,rfl,ho⟩:=hcut
        have zC:=ħ ho
        clear p0 b00 b10
        clear ho zk
        have p0:=zC.out.pw.al
        have b00:=zC.out.f0
        have b10:=zC.out.f1
        have b20:=zC.out.f2
        go_upto_region 7 with (fail)
        go_upto_region 8 with (fail)
        have zP:=ħ (zC.out.alloc 48 (ξ a.x a.An a.cn a.Ac a.cc a.Au a.cu))
        obtain ⟨yM,hq11⟩:∃ q,q=wc.heap.size:=⟨_,rfl⟩
        rw[←hq11] at zP⊢
        clear p0 b00 b10 b20
        clear hq11 zC
        generalize wc.alloc _=W4 at *
        have p0:=zP.out.pw.al
        have b00:=zP.out.f0
        have b10:=zP.out.f1
        have b20:=zP.out.f2
        have Qv:=zP.out.f3
        go_wp2_with (go_at_call 56;((with_reducible refine (YC.out _).mono ?_);rintro e w5 ⟨rfl,hb⟩;have qm:=ħ (zP.out.below hb);clear hb;clear p0 b00 b10 b20 Qv;have p0:=qm.out.pw.al;have b00:=qm.out.f0;have b10:=qm.out.f1;have b20:=qm.out.f2;have Qv:=qm.out.f3))
        go_ret
        exact HFin.out 3 _ _ _ qm.out HE.out
      ·have HE:=ħ (Xi.out _ (by rw[if_neg (by rw[ho];simp),if_neg hl]))
       have YC:=ħ (yB a true ho)
       have hge:¬ (a.x.calls.length:Int)≥1000:=by omega
       have hcl:a.x.calls.length≤1000:=by omega
       obtain ⟨O,hO⟩:∃ O,O=qB b.C id:=⟨_,rfl⟩
       have Gu:=ħ hO
       have UR:=ħ (show a.x.calls=O.map Cr.call by rw[hO,←(zi QP.out).2];exact Good.cs HG.out a.x (zi QP.out).1)
       have mK:=ħ (show ∃ z,qF a.x (qB (zG b.C (j6 t.c id)) id)=(qD a.x z,0) from by
        obtain ⟨g1,g2⟩:=zi QP.out
        obtain ⟨k1,k2⟩:=Zf HG.out (t:=j6 t.c id) ⟨ZV BL.out.1 BL.out.2 false,mH⟩ g1 g2 ho (fun u hu e=>absurd e (by have:=(qM Cr.call).1 U0.out u hu;rw[Ud.out] at this;exact this))
        obtain ⟨z,-,h2,-⟩:=jH (id:=id) k1 hn QP.out ho k2
        exact ⟨z,h2⟩)
       have Fa:=fun (W:World) (k:Int) (v:Value) (hW:zF W mc .i64 kc)=>zF.update (P:=Tryz.prog) hW Tryz.underlying85 Tryz.underlying2 k v
       have HI:=ħ (show (Tryz.prog.info? 2).map (fun i=>(i.zero,i.size,i.bytes))=some (some (ι 0),1,8) by kernel_rfl)
       clear ho hl hO
       go_enter Tryz.func39,Tryz.ntmps39
       go_upto_region 1 with fail
       generalize w.alloc _=W0 at *
       have p0:=zD.out.pw.al
       have b00:=zD.out.f0
       go_upto_region 2 with ((go_at_call 83;((with_reducible refine (VJ.out).mono ?_);rintro e w1 ⟨A,k,rfl,ho,hb⟩;have Z0:=zD.out.own hb ho;have zu:=ħ ((zD.out.below hb).row Z0);clear Z0 ho hb;clear p0 b00;have p0:=zu.out.pw.al;have b00:=zu.out.f0)))
       have zk:=ħ (zu.out.alloc 34 (χ cr A k))
       obtain ⟨q7,yZ⟩:∃ q,q=w1.heap.size:=⟨_,rfl⟩
       rw[←yZ] at zk⊢
       clear p0 b00
       clear yZ zu
       generalize w1.alloc _=W2 at *
       have p0:=zk.out.pw.al
       have b00:=zk.out.f0
       have b10:=zk.out.f1
       go_upto_region 4 with ((go_at_call 55;((with_reducible refine (JC.out _).mono ?_);rintro e w5 ⟨rfl,rfl⟩)))
       go_cut [9,10] (fun v0 v1 wx=>∃ q9:Nat,v0=.pointer (some ⟨q9,0,none⟩)∧v1=.bool false∧OW w wx p mc mi mh kc ki kh [(q9,34,κ),(q7,34,(χ cr A k)),(w.heap.size,34,(χ t.c t.A t.k))] [(A,cr.nodes)])
       case first=>
        have HK:=ħ fun (W':World) (hb:Below w5.heap.size w5 W')=>(show W'.cell? ⟨p,0,none⟩=some (.map (some mc))∧W'.cell? ⟨q7,0,none⟩=some (ι cr.call) from ⟨(zb.below zk.out.pw.P hb zk.out.pw.P.lt).cell 0,(zb.below zk.out.b0 hb zk.out.b0.lt).cell 0⟩)
        have K0:=HK.out _ (Below.refl _ w5).drew
        have K1:=HK.out _ ((Below.refl _ w5).drew.alloc (Nat.le_refl _) (.cells κ 34))
        have K2:=HK.out _ ((Below.refl _ w5).drew.alloc (Nat.le_refl _) (.cells κ 34))
        go_region_held (fun W'=>W'.cell? ⟨p,0,none⟩=some (.map (some mc))∧W'.cell? ⟨q7,0,none⟩=some (ι cr.call)) (assumption) (fail)
        clear HK K0 K1 K2
        all_goals (go_wp2_with fail)
        all_goals go_meet
        all_goals exact ⟨_,rfl,rfl,(zk.out.alloc _ _).drew⟩
       case rest=>
        obtain ⟨q9,rfl,rfl,ho⟩:=hcut
        have zC:=ħ ho
        clear p0 b00 b10
        clear ho zk
        have p0:=zC.out.pw.al
        have b00:=zC.out.f0
        have b10:=zC.out.f1
        have b20:=zC.out.f2
        go_upto_region 7 with (fail)
        go_upto_region 8 with (fail)
        have zP:=ħ (zC.out.alloc 48 (ξ a.x a.An a.cn a.Ac a.cc a.Au a.cu))
        obtain ⟨yM,hq11⟩:∃ q,q=wc.heap.size:=⟨_,rfl⟩
        rw[←hq11] at zP⊢
        clear p0 b00 b10 b20
        clear hq11 zC
        generalize wc.alloc _=W4 at *
        have p0:=zP.out.pw.al
        have b00:=zP.out.f0
        have b10:=zP.out.f1
        have b20:=zP.out.f2
        have Qv:=zP.out.f3
        go_upto_region 15 with ((go_at_call 56;((with_reducible refine (YC.out _).mono ?_);rintro e w5 ⟨rfl,hb⟩;have qm:=ħ (zP.out.below hb);clear hb;clear p0 b00 b10 b20 Qv;have p0:=qm.out.pw.al;have b00:=qm.out.f0;have b10:=qm.out.f1;have b20:=qm.out.f2;have Qv:=qm.out.f3)))
        have yS:=ħ (OW.setC_ (L1:=[(yM,48,(ξ a.x a.An a.cn a.Ac a.cc a.Au a.cu)),(q9,34,κ)]) (L2:=[(w.heap.size,34,(χ t.c t.A t.k))]) qm.out 1 (ι id) (cs':=#[ι cr.call,ι id,ι cr.urg,.string cr.code,.slice A cr.nodes.length k,ι cr.dist,ι cr.since,.bool cr.closed]) (by simp))
        clear p0 b00 b10 b20 Qv
        clear qm
        generalize World.setCell _ _ _=W6 at *
        have p0:=yS.out.pw.al
        have b00:=yS.out.f0
        have b10:=yS.out.f1
        have b20:=yS.out.f2
        have Qv:=yS.out.f3
        refine yJ 7 (by kernel_rfl) (by kernel_rfl) (fun T hT=>?_)
        simp only[List.take_succ_cons,List.take_zero]
        repeat still_step
        refine wpStill_nil (hT _ ?_)
        clear hT T
        simp only[List.drop_succ_cons,List.drop_zero]
        go_upto_region 16 with (fail)
        have j_:=ħ (yS.out.putC (cr.call) (.agg #[ι cr.call,ι id,ι cr.urg,.string cr.code,.slice A cr.nodes.length k,ι cr.dist,ι cr.since,.bool cr.closed])).drew
        clear p0 b00 b10 b20 Qv
        clear yS
        generalize (mput _ _ _ _ _).drew=W7 at *
        have p0:=j_.out.pw.al
        have b00:=j_.out.f0
        have b10:=j_.out.f1
        have b20:=j_.out.f2
        have Qv:=j_.out.f3
        have V9:=ħ (show CM W7 (Bq p mc mi mh) (yg kc cr.call (.agg #[ι cr.call,ι id,ι cr.urg,.string cr.code,.slice A cr.nodes.length k,ι cr.dist,ι cr.since,.bool cr.closed])) (zG b.C (j6 t.c id)) from by
         have h1:=(HCM.out.fr j_.out.fr (fun k hk=>qh hk)).put J2 (j6 t.c id) A k (by have:=j_.out.rq (A:=A) (l:=cr.nodes) (.head _);rw[Ud.out] at this;exact this)
         have e:=Ud.out
         subst e
         exact h1)
        have uh:=ħ fun (W':World) (hb:Below W7.heap.size W7 W') (w2:World) (e:Ending) (hr:Qk p mc mi mh (yg kc cr.call (.agg #[ι cr.call,ι id,ι cr.urg,.string cr.code,.slice A cr.nodes.length k,ι cr.dist,ι cr.since,.bool cr.closed])) ki kh a.x (O ++ [j6 t.c id]) W' e w2)=>(show PI w2 p mc mi mh (qw ⟨b.L,zG b.C (j6 t.c id)⟩ id)∧Fr (Sq p mc mi mh) w w2 from by
         obtain ⟨z,hz⟩:=mK.out
         refine UB (j_.out.below hb) (V9.out.below hb) ((QS.out.fr j_.out.fr (fun k hk=>qh hk)).below hb) VN.out hsL QP.out hr hz ?_ ?_
         ·rw[Gu.out]
          exact Bg J2 rfl (fun u hu=>by have:=(qM Cr.call).1 U0.out u hu;rw[Ud.out] at this;exact this)
         ·rw[List.map_append,Gu.out]
          refine List.nodup_append.2 ⟨jm Cr.call (qi J2 id),by simp,fun x hx y hy e=>?_⟩
          obtain ⟨u,hu,N9⟩:=List.mem_map.1 hx
          have e2:y=t.c.call:=by have:=(List.mem_map.1 hy);obtain ⟨v,hv,O9⟩:=this;have e3:v=j6 t.c id:=(by simpa using hv);rw[←O9,e3];rfl
          have:=(qM Cr.call).1 U0.out u (zo.1 hu).1
          rw[Ud.out] at this
          exact this (by rw[N9,e,e2]))
        have fo:=ħ fun (W':World) (hb:Below W7.heap.size W7 W') (Am:Option Addr) (cm:Nat) (hr:RI W' (fun k=>W7.heap.size≤k) Am (a.x.calls ++ [cr.call]))=>(show Calls Tryz.prog 61 #[.pointer (some ⟨p,0,none⟩),.agg (ξ a.x a.An a.cn a.Ac a.cc a.Au a.cu),.slice Am (a.x.calls.length+1) cm] W' (Qk p mc mi mh (yg kc cr.call (.agg #[ι cr.call,ι id,ι cr.urg,.string cr.code,.slice A cr.nodes.length k,ι cr.dist,ι cr.since,.bool cr.closed])) ki kh a.x (O ++ [j6 t.c id]) W') from by
         have hcm:=V9.out.below hb
         have e1:cr.call=(j6 t.c id).call:=by rw[Ud.out];rfl
         have e2:a.x.calls ++ [cr.call]=(O ++ [j6 t.c id]).map Cr.call:=by rw[List.map_append,UR.out,e1];rfl
         have e3:(O ++ [j6 t.c id]).length=a.x.calls.length+1:=by rw[List.length_append,UR.out,List.length_map];rfl
         rw[e2] at hr
         have h1:=J6 a (O ++ [j6 t.c id]) (zG b.C (j6 t.c id)) Am cm _ _ _ W' (j_.out.below hb).pw ((j_.out.below hb).tab2 Yi.out FW.out) ((j_.out.below hb).keepX HR.out) hr hcm (fun u hu=>by
          rcases List.mem_append.1 hu with h | h
          ·rw[Gu.out] at h
           have h3:=(zo.1 h).1
           have h4:=(qM Cr.call).1 U0.out u h3
           rw[Ud.out] at h4
           exact qc.2 (.inr ⟨h3,h4⟩)
          ·have h5:u=j6 t.c id:=by simpa using h
           exact qc.2 (.inl h5)) (by rw[e3];omega) BN.out (fun u hu=>by
           rcases qc.1 hu with rfl | ⟨h3,h4⟩
           ·exact ⟨ZV BL.out.1 BL.out.2 false,mH⟩
           ·exact zg.vC HG.out u h3)
         rw[e3] at h1
         exact h1)
        have IY:=ħ fun (W':World) (hb:Below W7.heap.size W7 W')=>XM _ a.Ac a.cc a.x.calls W' ((j_.out.below hb).keepX HR.out).c (by omega)
        have HK:=ħ fun (W':World) (hb:Below W7.heap.size W7 W')=>(show W'.cell? ⟨yM,0,none⟩=some (ι a.x.id)∧W'.cell? ⟨yM,1,none⟩=some (ι a.x.urg)∧W'.cell? ⟨yM,2,none⟩=some (.string a.x.code)∧W'.cell? ⟨yM,3,none⟩=some (.slice a.An a.x.nodes.length a.cn)∧W'.cell? ⟨yM,4,none⟩=some (ι a.x.dist)∧W'.cell? ⟨yM,5,none⟩=some (ι a.x.since)∧W'.cell? ⟨yM,6,none⟩=some (.slice a.Ac a.x.calls.length a.cc)∧W'.cell? ⟨yM,7,none⟩=some (.slice a.Au a.x.units.length a.cu)∧W'.cell? ⟨yM,8,none⟩=some (ι a.x.merged)∧W'.cell? ⟨yM,9,none⟩=some (.bool a.x.closed)∧W'.cell? ⟨q7,0,none⟩=some (ι cr.call) from by
         have h1:=zb.below (j_.out.box (g:=yM) (t:=48) (cs:=(ξ a.x a.An a.cn a.Ac a.cc a.Au a.cu)) (.head _)) hb (j_.out.box (g:=yM) (t:=48) (cs:=(ξ a.x a.An a.cn a.Ac a.cc a.Au a.cu)) (.head _)).lt
         have h2:=zb.below (j_.out.box (g:=q7) (t:=34) (cs:=#[ι cr.call,ι id,ι cr.urg,.string cr.code,.slice A cr.nodes.length k,ι cr.dist,ι cr.since,.bool cr.closed]) (.tail _ (.tail _ (.head _)))) hb (j_.out.box (g:=q7) (t:=34) (cs:=#[ι cr.call,ι id,ι cr.urg,.string cr.code,.slice A cr.nodes.length k,ι cr.dist,ι cr.since,.bool cr.closed]) (.tail _ (.tail _ (.head _)))).lt
         refine ⟨?_,?_,?_,?_,?_,?_,?_,?_,?_,?_,?_⟩ <;> first | (rw[h1.cell];rfl) | (rw[h2.cell];rfl))
        have Oa:=ħ fun (W':World) (hb:Below W7.heap.size W7 W') (w2:World) (hf:Fr (fun k=>k=mi) W' w2)=>(show (w2.cell? ⟨yM,0,none⟩=some (ι a.x.id)∧w2.cell? ⟨yM,1,none⟩=some (ι a.x.urg)∧w2.cell? ⟨yM,2,none⟩=some (.string a.x.code)∧w2.cell? ⟨yM,3,none⟩=some (.slice a.An a.x.nodes.length a.cn)∧w2.cell? ⟨yM,4,none⟩=some (ι a.x.dist)∧w2.cell? ⟨yM,5,none⟩=some (ι a.x.since)∧w2.cell? ⟨yM,6,none⟩=some (.slice a.Ac a.x.calls.length a.cc)∧w2.cell? ⟨yM,7,none⟩=some (.slice a.Au a.x.units.length a.cu)∧w2.cell? ⟨yM,8,none⟩=some (ι a.x.merged)∧w2.cell? ⟨yM,9,none⟩=some (.bool a.x.closed)∧w2.cell? ⟨q7,0,none⟩=some (ι cr.call)) from by
         have hpl:=j_.out.pl
         have l1:=j_.out.lt_ (g:=yM) (t:=48) (cs:=(ξ a.x a.An a.cn a.Ac a.cc a.Au a.cu)) (.head _)
         have l2:=j_.out.lt_ (g:=q7) (t:=34) (cs:=#[ι cr.call,ι id,ι cr.urg,.string cr.code,.slice A cr.nodes.length k,ι cr.dist,ι cr.since,.bool cr.closed]) (.tail _ (.tail _ (.head _)))
         have h1:=(zb.below (j_.out.box (g:=yM) (t:=48) (cs:=(ξ a.x a.An a.cn a.Ac a.cc a.Au a.cu)) (.head _)) hb (j_.out.box (g:=yM) (t:=48) (cs:=(ξ a.x a.An a.cn a.Ac a.cc a.Au a.cu)) (.head _)).lt).fr hf (by show ¬ yM=mi;omega)
         have h2:=(zb.below (j_.out.box (g:=q7) (t:=34) (cs:=#[ι cr.call,ι id,ι cr.urg,.string cr.code,.slice A cr.nodes.length k,ι cr.dist,ι cr.since,.bool cr.closed]) (.tail _ (.tail _ (.head _)))) hb (j_.out.box (g:=q7) (t:=34) (cs:=#[ι cr.call,ι id,ι cr.urg,.string cr.code,.slice A cr.nodes.length k,ι cr.dist,ι cr.since,.bool cr.closed]) (.tail _ (.tail _ (.head _)))).lt).fr hf (by show ¬ q7=mi;omega)
         refine ⟨?_,?_,?_,?_,?_,?_,?_,?_,?_,?_,?_⟩ <;> first | (rw[h1.cell];rfl) | (rw[h2.cell];rfl))
        have K0:=HK.out _ (Below.refl _ W7).drew
        have B0:=(show Below W7.heap.size W7 W7.drew from (Below.refl _ W7).drew)
        have BA:=(show Below W7.heap.size W7 (W7.alloc (.cells #[ι cr.call] 2)).drew from ((Below.refl _ W7).alloc (Nat.le_refl _) _).drew)
        have KA:=HK.out _ BA
        have Lf:=ħ (Reads.newS W7 [ι cr.call] 2 (0,0) 1 1 rfl W7.heap.size rfl).drew
        have MG:=ħ (show ∀ u∈([ι cr.call]:List Value),u.oneCell'=true from by intro u hu;have e:u=ι cr.call:=(by simpa using hu);rw[e];rfl)
        clear p0 b00 b10 b20 Qv J2 hsL hw hlc KU Fa
        have hsz0:W7.drew.heap.size=W7.heap.size:=rfl
        go_region_held_law (fun W'=>W'.cell? ⟨yM,0,none⟩=some (ι a.x.id)∧W'.cell? ⟨yM,1,none⟩=some (ι a.x.urg)∧W'.cell? ⟨yM,2,none⟩=some (.string a.x.code)∧W'.cell? ⟨yM,3,none⟩=some (.slice a.An a.x.nodes.length a.cn)∧W'.cell? ⟨yM,4,none⟩=some (ι a.x.dist)∧W'.cell? ⟨yM,5,none⟩=some (ι a.x.since)∧W'.cell? ⟨yM,6,none⟩=some (.slice a.Ac a.x.calls.length a.cc)∧W'.cell? ⟨yM,7,none⟩=some (.slice a.Au a.x.units.length a.cu)∧W'.cell? ⟨yM,8,none⟩=some (ι a.x.merged)∧W'.cell? ⟨yM,9,none⟩=some (.bool a.x.closed)∧W'.cell? ⟨q7,0,none⟩=some (ι cr.call)) (first | assumption | exact HK.out _ (uo.alloc uo.size _)) (first
         | (go_at_call 85;((with_reducible refine (IY.out _ (by first | exact B0 | exact BA)).mono ?_);rintro e v3 ⟨A2,c2,rfl,ho,hb⟩;have uo:=(show Below W7.heap.size W7 v3 from by first | exact B0.trans (hb.mono (by simp)) | exact BA.trans (hb.mono (by simp)));have K3:=HK.out _ uo;have Ga:=ħ (show v3.ownsRow W7.heap.size 2 1 (.slice A2 a.x.calls.length c2) a.x.calls.length (a.x.calls.map (Value.int .i64)) from World.ownsRow.mono ho (by simp));(first | have wS:=ħ (Lf.out.below hb (fun k hk=>by have e:k=W7.heap.size:=hk;rw[e];simp)) | skip);clear ho hb))
         | (refine yf _ (by rfl) (.tmp 66) (.tmp 69) _ (by rfl) W7.heap.size 2 (ι 0) 1 8 Tryz.underlying46 HI.out rfl (by omega) (.slice A2 a.x.calls.length c2) a.x.calls.length (a.x.calls.map (Value.int .i64)) (by rfl) (Ga.out.alloc _) (fun k=>k=v3.heap.size) (some ⟨v3.heap.size,0,none⟩) 1 1 [ι cr.call] (by rfl) (Reads.newS v3 [ι cr.call] 2 (0,0) 1 1 rfl _ rfl) MG.out (by have:=Ga.out.1;simp only[maxLen];omega) (by omega) (by first | exact uo.size | (have:=uo.size;simp;omega)) ?_;intro A5 c5 w7 hown hgr hat;have B7:=Below.grown (by first | exact uo.alloc uo.size _ | exact uo) hgr (by have:=uo.size;first | exact this | (simp;omega)) (fun j hj=>(Ga.out.lt j hj).1);have K7:=HK.out _ B7;have aL:=ħ (fo.out _ B7 A5 c5 (by have h1:=hown;rw[show a.x.calls.map (Value.int .i64) ++ [ι cr.call]=(a.x.calls ++ [cr.call]).map (Value.int .i64) by simp,show a.x.calls.length+1=(a.x.calls ++ [cr.call]).length by simp] at h1;exact qK h1));clear hown hgr hat)
         | (refine yf _ (by rfl) (.tmp 66) (.tmp 69) _ (by rfl) W7.heap.size 2 (ι 0) 1 8 Tryz.underlying46 HI.out rfl (by omega) (.slice A2 a.x.calls.length c2) a.x.calls.length (a.x.calls.map (Value.int .i64)) (by rfl) Ga.out (fun k=>k=W7.heap.size) (some ⟨W7.heap.size,0,none⟩) 1 1 [ι cr.call] (by rfl) wS.out MG.out (by have:=Ga.out.1;simp only[maxLen];omega) (by omega) (by first | exact uo.size | (have:=uo.size;simp;omega)) ?_;intro A5 c5 w7 hown hgr hat;have B7:=Below.grown (by first | exact uo.alloc uo.size _ | exact uo) hgr (by have:=uo.size;first | exact this | (simp;omega)) (fun j hj=>(Ga.out.lt j hj).1);have K7:=HK.out _ B7;have aL:=ħ (fo.out _ B7 A5 c5 (by have h1:=hown;rw[show a.x.calls.map (Value.int .i64) ++ [ι cr.call]=(a.x.calls ++ [cr.call]).map (Value.int .i64) by simp,show a.x.calls.length+1=(a.x.calls ++ [cr.call]).length by simp] at h1;exact qK h1));clear hown hgr hat)
         | (go_at_call 61;((with_reducible refine aL.out.mono ?_);rintro e w9 hr;obtain ⟨hre,hr2⟩:=(⟨hr.1,hr⟩:_∧_);subst hre;have Ct:=ħ hr2;have Yn:=ħ (uh.out _ B7 _ _ hr2);have K9:=Oa.out _ B7 _ hr2.2.1;clear hr hr2)))
        all_goals (go_wp2_with fail;go_ret;rw[HE.out];exact ⟨rfl,Yn.out.1,Yn.out.2⟩)
    ·have HE:=ħ (Zr.out (b,4) (by rw[U0.out,hg]))
     have KU:=yG (w:=w) (mi:=mi) id (show (zn ki id).getD (.agg ζ)=.agg ζ by rw[hk];rfl) (show (zn ki id).isSome=false by simp[hk])
     clear hg hk hw Zr Ud
     go_enter Tryz.func39,Tryz.ntmps39
     go_upto_region 1 with fail
     generalize w.alloc _=W0 at *
     have p0:=zD.out.pw.al
     have b00:=zD.out.f0
     go_upto_region 2 with ((go_at_call 83;((with_reducible refine (VJ.out).mono ?_);rintro e w1 ⟨A,k,rfl,ho,hb⟩;have Z0:=zD.out.own hb ho;have zu:=ħ ((zD.out.below hb).row Z0);clear Z0 ho hb;clear p0 b00;have p0:=zu.out.pw.al;have b00:=zu.out.f0)))
     have zk:=ħ (zu.out.alloc 34 (χ cr A k))
     obtain ⟨q7,yZ⟩:∃ q,q=w1.heap.size:=⟨_,rfl⟩
     rw[←yZ] at zk⊢
     clear p0 b00
     clear yZ zu
     generalize w1.alloc _=W2 at *
     have p0:=zk.out.pw.al
     have b00:=zk.out.f0
     have b10:=zk.out.f1
     go_upto_region 4 with ((go_at_call 55;((with_reducible refine (JC.out _).mono ?_);rintro e w5 ⟨rfl,rfl⟩)))
     go_cut [9,10] (fun v0 v1 wx=>∃ q9:Nat,v0=.pointer (some ⟨q9,0,none⟩)∧v1=.bool false∧OW w wx p mc mi mh kc ki kh [(q9,34,κ),(q7,34,(χ cr A k)),(w.heap.size,34,(χ t.c t.A t.k))] [(A,cr.nodes)])
     case first=>
      have HK:=ħ fun (W':World) (hb:Below w5.heap.size w5 W')=>(show W'.cell? ⟨p,0,none⟩=some (.map (some mc))∧W'.cell? ⟨q7,0,none⟩=some (ι cr.call) from ⟨(zb.below zk.out.pw.P hb zk.out.pw.P.lt).cell 0,(zb.below zk.out.b0 hb zk.out.b0.lt).cell 0⟩)
      have K0:=HK.out _ (Below.refl _ w5).drew
      have K1:=HK.out _ ((Below.refl _ w5).drew.alloc (Nat.le_refl _) (.cells κ 34))
      have K2:=HK.out _ ((Below.refl _ w5).drew.alloc (Nat.le_refl _) (.cells κ 34))
      go_region_held (fun W'=>W'.cell? ⟨p,0,none⟩=some (.map (some mc))∧W'.cell? ⟨q7,0,none⟩=some (ι cr.call)) (assumption) (fail)
      clear HK K0 K1 K2
      all_goals (go_wp2_with fail)
      all_goals go_meet
      all_goals exact ⟨_,rfl,rfl,(zk.out.alloc _ _).drew⟩
     case rest=>
      obtain ⟨q9,rfl,rfl,ho⟩:=hcut
      have zC:=ħ ho
      clear p0 b00 b10
      clear ho zk
      have p0:=zC.out.pw.al
      have b00:=zC.out.f0
      have b10:=zC.out.f1
      have b20:=zC.out.f2
      go_upto_region 7 with (fail)
      go_upto_region 8 with (fail)
      have zP:=ħ (zC.out.alloc 48 ζ)
      obtain ⟨yM,hq11⟩:∃ q,q=wc.heap.size:=⟨_,rfl⟩
      rw[←hq11] at zP⊢
      clear p0 b00 b10 b20
      clear hq11 zC
      generalize wc.alloc _=W4 at *
      have p0:=zP.out.pw.al
      have b00:=zP.out.f0
      have b10:=zP.out.f1
      have b20:=zP.out.f2
      have Qv:=zP.out.f3
      go_wp2_with fail
      go_ret
      exact HFin.out 4 _ _ _ zP.out HE.out
end Go.Proofs.YtdhcjhfgibmhfaaGreatDoor

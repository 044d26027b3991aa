import Derived.Test.YtdhcjhfgibmhfaaGreatDoorJPr15
set_option linter.unusedVariables false
set_option linter.unusedSimpArgs false
set_option maxRecDepth 10000
set_option maxHeartbeats 8000000
namespace Go.Proofs.YtdhcjhfgibmhfaaGreatDoor
open Go.RowKit Go.Own Go.Quo Go.Inc
section
variable {b:Bk} {call inc id now:Int} {y:Cr} {x z:Ic}
theorem aj (h0:¬ (zQ id 1=false∨now<0∨1099511627776<now))(hg:yP b.C call=none):zS b call inc id now=(b,4):=by
 unfold zS;rw[if_neg h0,hg]
theorem bg (h0:¬ (zQ id 1=false∨now<0∨1099511627776<now))(hg:yP b.C call=some y)(hi:zw b.L inc=none):zS b call inc id now=(b,4):=by
 unfold zS;rw[if_neg h0,hg,hi]
theorem iJ (h0:¬ (zQ id 1=false∨now<0∨1099511627776<now))(hg:yP b.C call=some y)(hi:zw b.L inc=some x)(h5:zw b.L id=some z):zS b call inc id now=(b,5):=by
 unfold zS;rw[if_neg h0,hg,hi];dsimp only;rw[h5]
theorem dA (h0:¬ (zQ id 1=false∨now<0∨1099511627776<now))(hg:yP b.C call=some y)(hi:zw b.L inc=some x)(h5:zw b.L id=none)(hr:y.inc≠jd b inc):zS b call inc id now=(b,14):=by
 unfold zS;rw[if_neg h0,hg,hi];dsimp only;rw[h5];dsimp only;rw[if_pos hr]
theorem Be (h0:¬ (zQ id 1=false∨now<0∨1099511627776<now))(hg:yP b.C call=some y)(hi:zw b.L inc=some x)(h5:zw b.L id=none)(hr:y.inc=jd b inc)(hx:zw b.L y.inc=some z)(hb:zx z=false∨z.calls.length<2):zS b call inc id now=(b,8):=by
 unfold zS;rw[if_neg h0,hg,hi];dsimp only;rw[h5];dsimp only;rw[if_neg (by simpa using hr),hx];dsimp only;rw[if_pos hb]
theorem gM (h0:¬ (zQ id 1=false∨now<0∨1099511627776<now))(hg:yP b.C call=some y)(hi:zw b.L inc=some x)(h5:zw b.L id=none)(hr:y.inc=jd b inc)(hx:zw b.L y.inc=some z)(hb:¬ (zx z=false∨z.calls.length<2)):zS b call inc id now=(qw ⟨zz b.L (zt id { y with inc:=id }),zG b.C { y with inc:=id }⟩ y.inc,0):=by
 unfold zS;rw[if_neg h0,hg,hi];dsimp only;rw[h5];dsimp only;rw[if_neg (by simpa using hr),hx];dsimp only;rw[if_neg hb]
end
theorem kr (p mc mi mh:Nat)(b:Bk)(call inc id now:Int)(n:Nat)(w:World)(h:PI w p mc mi mh b)(hG:Good n b)(hn:n+1≤1000)(htb:jg w) :
 Calls Tryz.prog 16 #[.pointer (some ⟨p,0,none⟩),ι call,ι inc,ι id,ι now] w (Ji (zS b call inc id now) p mc mi mh w):=by
 have J2:=zg.sC hG
 have hsL:=zg.sL hG
 have Pt:=ħ h
 obtain ⟨kc,ki,kh,hw,hc,hi,hh⟩:=h
 have HCM:=ħ hc
 have QS:=ħ hi
 have VN:=ħ hh
 have FW:=ħ hw
 have HFin:=ħ fun (r:Int) (W:World) (L:List (Nat × TypeId × Array Value)) (R:List (Option Addr × List Int)) (ho:OW w W p mc mi mh kc ki kh L R) (hr:zS b call inc id now=(b,r))=>(show Ji (zS b call inc id now) p mc mi mh w (.returned (ι r)) W from ⟨by rw[hr],by rw[hr];exact ho.same hc hi hh,ho.fr⟩)
 have HG:=ħ hG
 have Yi:=ħ htb
 have zD:=ħ (OW.new hw)
 clear hc hi hh hG htb
 cases hid:zQ id 1 with
 | false=>
  have HE:=ħ (show zS b call inc id now=(b,1) by unfold zS;rw[if_pos (.inl hid)])
  have JC:=ħ fun W=>Jn id false hid W
  clear hid hw
  go_enter Tryz.func16,Tryz.ntmps16
  have p0:=zD.out.pw.al
  go_wp2_with (go_at_call 55;((with_reducible refine (JC.out _).mono ?_);rintro e w5 ⟨rfl,rfl⟩))
  go_ret
  exact HFin.out 1 _ _ _ zD.out HE.out
 | true=>
  have JC:=ħ fun W=>Jn id true hid W
  have mD:=ħ hid
  by_cases hn1:now<0
  ·have HE:=ħ (show zS b call inc id now=(b,1) by unfold zS;rw[if_pos (.inr (.inl hn1))])
   clear hid hw
   go_enter Tryz.func16,Tryz.ntmps16
   have p0:=zD.out.pw.al
   go_wp2_with (go_at_call 55;((with_reducible refine (JC.out _).mono ?_);rintro e w5 ⟨rfl,rfl⟩))
   go_ret
   exact HFin.out 1 _ _ _ zD.out HE.out
  ·by_cases hn2:now > 1099511627776
   ·have HE:=ħ (show zS b call inc id now=(b,1) by unfold zS;rw[if_pos (.inr (.inr hn2))])
    clear hid hw
    go_enter Tryz.func16,Tryz.ntmps16
    have p0:=zD.out.pw.al
    go_wp2_with (go_at_call 55;((with_reducible refine (JC.out _).mono ?_);rintro e w5 ⟨rfl,rfl⟩))
    go_ret
    exact HFin.out 1 _ _ _ zD.out HE.out
   ·have H0:=ħ (show ¬ (zQ id 1=false∨now<0∨1099511627776<now) from by rintro (h | h | h);(rw[hid] at h;cases h);exact hn1 h;exact hn2 h)
    have d8:decide (now<0)=false:=by simpa using hn1
    have d9:decide (1099511627776<now)=false:=by simpa using hn2
    clear hid
    rcases QQ HCM.out call with ⟨y,Ay,ky,hg,hk,rf⟩ | ⟨hg,hk⟩
    ·have U0:=ħ hg
     have Ja:=ħ rf
     have hlc:=QA (w:=w) (mc:=mc) call (show (zn kc call).getD (.agg κ)=.agg (χ y Ay ky) by rw[hk];rfl) (show (zn kc call).isSome=true by simp[hk])
     clear hg hk rf
     rcases qU QS.out inc with ⟨a,hg,hk,hr⟩ | ⟨hg,hk⟩
     ·have ou:=ħ hg
      have KU:=yG (w:=w) (mi:=mi) inc (show (zn ki inc).getD (.agg ζ)=.agg (ξ a.x a.An a.cn a.Ac a.cc a.Au a.cu) by rw[hk];rfl) (show (zn ki inc).isSome=true by simp[hk])
      clear hg hk hr
      rcases qU QS.out id with ⟨a2,hg,hk,hr⟩ | ⟨hg,hk⟩
      ·have HE:=ħ (iJ H0.out U0.out ou.out hg)
       have CU:=yG (w:=w) (mi:=mi) id (show (zn ki id).getD (.agg ζ)=.agg (ξ a2.x a2.An a2.cn a2.Ac a2.cc a2.Au a2.cu) by rw[hk];rfl) (show (zn ki id).isSome=true by simp[hk])
       clear hg hk hr hw
       go_enter Tryz.func16,Tryz.ntmps16
       have p0:=zD.out.pw.al
       go_upto_region 4 with ((go_at_call 55;((with_reducible refine (JC.out _).mono ?_);rintro e w5 ⟨rfl,Vg⟩;rw[Vg];clear Vg)))
       have zu:=ħ (zD.out.alloc 34 (χ y Ay ky))
       obtain ⟨yM,hq11⟩:∃ q,q=w.heap.size:=⟨_,rfl⟩
       rw[←hq11] at zu⊢
       clear p0
       clear hq11 zD
       generalize w.alloc _=W1 at *
       have p0:=zu.out.pw.al
       have b00:=zu.out.f0
       go_upto_region 5 with (fail)
       have zk:=ħ (zu.out.alloc 48 (ξ a.x a.An a.cn a.Ac a.cc a.Au a.cu))
       obtain ⟨Kv,jO⟩:∃ q,q=W1.heap.size:=⟨_,rfl⟩
       rw[←jO] at zk⊢
       clear p0 b00
       clear jO zu
       generalize W1.alloc _=W2 at *
       have p0:=zk.out.pw.al
       have b00:=zk.out.f0
       have b10:=zk.out.f1
       go_upto_region 7 with (fail)
       go_upto_region 8 with (fail)
       have zC:=ħ (zk.out.alloc 48 (ξ a2.x a2.An a2.cn a2.Ac a2.cc a2.Au a2.cu))
       obtain ⟨Ea,Qw⟩:∃ q,q=W2.heap.size:=⟨_,rfl⟩
       rw[←Qw] at zC⊢
       clear p0 b00 b10
       clear Qw zk
       generalize W2.alloc _=W3 at *
       have p0:=zC.out.pw.al
       have b00:=zC.out.f0
       have b10:=zC.out.f1
       have b20:=zC.out.f2
       go_wp2_with fail
       go_ret
       exact HFin.out 5 _ _ _ zC.out HE.out
      ·have AR:=ħ hg
       have CU:=yG (w:=w) (mi:=mi) id (show (zn ki id).getD (.agg ζ)=.agg ζ by rw[hk];rfl) (show (zn ki id).isSome=false by simp[hk])
       obtain ⟨rt,hrt⟩:∃ r,r=jd b inc:=⟨_,rfl⟩
       have BL:=ħ hrt
       have mQ:=ħ fun (W:World) (h:PI W p mc mi mh b)=>(show Calls Tryz.prog 18 #[.pointer (some ⟨p,0,none⟩),ι inc] W (fun e w'=>e=.returned (ι rt)∧Below W.heap.size W w') from hrt ▸ DT p mc mi mh b inc W h (zg.rt HG.out))
       clear hg hk hrt
       by_cases hroot:y.inc=rt
       ·obtain ⟨x,hxl,hxi,-⟩:=zg.lk HG.out y (yC U0.out).1
        rcases qU QS.out y.inc with ⟨ax,hg,hk,hr⟩ | ⟨hg,_⟩
        case inr=>exact absurd (yR Ic.id hsL hxl) (by rw[hxi];exact fun e=>by have e2:zw b.L y.inc=some x:=e;rw[hg] at e2;cases e2)
        have XB:=ħ hg
        have OH:=ħ hr
        have hl3:=EY (w:=w) (mi:=mi) y.inc (show (zn ki y.inc).getD (.agg ζ)=.agg (ξ ax.x ax.An ax.cn ax.Ac ax.cc ax.Au ax.cu) by rw[hk];rfl)
        have CW:=ħ (show y.inc=jd b inc by rw[←BL.out];exact hroot)
        clear hg hk hr hxl hxi x BL
        subst hroot
        cases ho:zx ax.x with
        | false=>
         have HE:=ħ (Be H0.out U0.out ou.out AR.out CW.out XB.out (.inl ho))
         have YC:=ħ (yB ax false ho)
         clear ho hw
         go_enter Tryz.func16,Tryz.ntmps16
         have p0:=zD.out.pw.al
         go_upto_region 4 with ((go_at_call 55;((with_reducible refine (JC.out _).mono ?_);rintro e w5 ⟨rfl,Vg⟩;rw[Vg];clear Vg)))
         have zu:=ħ (zD.out.alloc 34 (χ y Ay ky))
         obtain ⟨yM,hq11⟩:∃ q,q=w.heap.size:=⟨_,rfl⟩
         rw[←hq11] at zu⊢
         clear p0
         clear hq11 zD
         generalize w.alloc _=W1 at *
         have p0:=zu.out.pw.al
         have b00:=zu.out.f0
         go_upto_region 5 with (fail)
         have zk:=ħ (zu.out.alloc 48 (ξ a.x a.An a.cn a.Ac a.cc a.Au a.cu))
         obtain ⟨Kv,jO⟩:∃ q,q=W1.heap.size:=⟨_,rfl⟩
         rw[←jO] at zk⊢
         clear p0 b00
         clear jO zu
         generalize W1.alloc _=W2 at *
         have p0:=zk.out.pw.al
         have b00:=zk.out.f0
         have b10:=zk.out.f1
         go_upto_region 7 with (fail)
         go_upto_region 8 with (fail)
         have zC:=ħ (zk.out.alloc 48 ζ)
         obtain ⟨Ea,Qw⟩:∃ q,q=W2.heap.size:=⟨_,rfl⟩
         rw[←Qw] at zC⊢
         clear p0 b00 b10
         clear Qw zk
         generalize W2.alloc _=W3 at *
         have p0:=zC.out.pw.al
         have b00:=zC.out.f0
         have b10:=zC.out.f1
         have b20:=zC.out.f2
         go_upto_region 10 with (fail)
         go_cut [68] (fun v wx=>v=.bool false∧OW w wx p mc mi mh kc ki kh [(Ea,48,ζ),(Kv,48,(ξ a.x a.An a.cn a.Ac a.cc a.Au a.cu)),(yM,34,(χ y Ay ky))] [])
         case first=>
          have HK:=ħ fun (W':World) (hb:Below W3.heap.size W3 W')=>(show W'.cell? ⟨yM,1,none⟩=some (ι y.inc) from (zb.below (zC.out.box (g:=yM) (t:=34) (cs:=(χ y Ay ky)) (.tail _ (.tail _ (.head _)))) hb (zC.out.box (g:=yM) (t:=34) (cs:=(χ y Ay ky)) (.tail _ (.tail _ (.head _)))).lt).cell 1)
          have B0:=(show Below W3.heap.size W3 W3.drew from (Below.refl _ W3).drew)
          have K0:=HK.out _ B0
          have uq:=ħ (mQ.out W3.drew (OW.same (zC.out.below B0) HCM.out QS.out VN.out))
          clear p0 b00 b10 b20
          go_region_held (fun W'=>W'.cell? ⟨yM,1,none⟩=some (ι y.inc)) (with_reducible assumption) (((with_reducible refine uq.out.mono ?_);rintro e w18 ⟨rfl,hb⟩;have Ag:=(show Below W3.heap.size W3 w18 from B0.trans hb);have Ch:=HK.out _ Ag;clear hb))
          all_goals (go_wp2_with fail)
          all_goals go_meet
          all_goals exact ⟨by first | rfl | rw[d2] | simp,zC.out.below Ag⟩
         case rest=>
          obtain ⟨rfl,ho⟩:=hcut
          have zP:=ħ ho
          clear p0 b00 b10 b20
          clear ho zC
          have p0:=zP.out.pw.al
          have b00:=zP.out.f0
          have b10:=zP.out.f1
          have b20:=zP.out.f2
          go_upto_region 12 with (fail)
          go_cut [17] (fun v0 wx=>∃ EE:Nat,v0=.pointer (some ⟨EE,0,none⟩)∧OW w wx p mc mi mh kc ki kh [(EE,48,(ξ ax.x ax.An ax.cn ax.Ac ax.cc ax.Au ax.cu)),(Ea,48,ζ),(Kv,48,(ξ a.x a.An a.cn a.Ac a.cc a.Au a.cu)),(yM,34,(χ y Ay ky))] [])
          case first=>
           have HK:=ħ fun (W':World) (hb:Below wc.heap.size wc W')=>(show W'.cell? ⟨p,1,none⟩=some (.map (some mi))∧W'.cell? ⟨yM,1,none⟩=some (ι y.inc) from ⟨(zb.below zP.out.pw.P hb zP.out.pw.P.lt).cell 1,(zb.below zP.out.b2 hb zP.out.b2.lt).cell 1⟩)
           have K0:=HK.out _ (Below.refl _ wc).drew
           have K1:=HK.out _ ((Below.refl _ wc).drew.alloc (Nat.le_refl _) (.cells ζ 48))
           have K2:=HK.out _ ((Below.refl _ wc).drew.alloc (Nat.le_refl _) (.cells (ξ ax.x ax.An ax.cn ax.Ac ax.cc ax.Au ax.cu) 48))
           go_region_held (fun W'=>W'.cell? ⟨p,1,none⟩=some (.map (some mi))∧W'.cell? ⟨yM,1,none⟩=some (ι y.inc)) (assumption) (fail)
           clear HK K0 K1 K2
           all_goals (go_wp2_with fail)
           all_goals go_meet
           all_goals exact ⟨_,rfl,(zP.out.alloc _ _).drew⟩
          case rest=>
           obtain ⟨EE,rfl,ho⟩:=hcut
           have qm:=ħ ho
           clear p0 b00 b10 b20
           clear ho zP
           have p0:=qm.out.pw.al
           have b00:=qm.out.f0
           have b10:=qm.out.f1
           have b20:=qm.out.f2
           have Qv:=qm.out.f3
           go_wp2_with (go_at_call 56;((with_reducible refine (YC.out _).mono ?_);rintro e w6 ⟨rfl,hb⟩;have yS:=ħ (qm.out.below hb);clear hb;clear p0 b00 b10 b20 Qv;have p0:=yS.out.pw.al;have b00:=yS.out.f0;have b10:=yS.out.f1;have b20:=yS.out.f2;have Qv:=yS.out.f3))
           go_ret
           exact HFin.out 8 _ _ _ yS.out HE.out
        | true=>
         by_cases hl:ax.x.calls.length<2
         ·have HE:=ħ (Be H0.out U0.out ou.out AR.out CW.out XB.out (.inr hl))
          have YC:=ħ (yB ax true ho)
          have hl2:(ax.x.calls.length:Int)<2:=by omega
          clear ho hw hl
          go_enter Tryz.func16,Tryz.ntmps16
          have p0:=zD.out.pw.al
          go_upto_region 4 with ((go_at_call 55;((with_reducible refine (JC.out _).mono ?_);rintro e w5 ⟨rfl,Vg⟩;rw[Vg];clear Vg)))
          have zu:=ħ (zD.out.alloc 34 (χ y Ay ky))
          obtain ⟨yM,hq11⟩:∃ q,q=w.heap.size:=⟨_,rfl⟩
          rw[←hq11] at zu⊢
          clear p0
          clear hq11 zD
          generalize w.alloc _=W1 at *
          have p0:=zu.out.pw.al
          have b00:=zu.out.f0
          go_upto_region 5 with (fail)
          have zk:=ħ (zu.out.alloc 48 (ξ a.x a.An a.cn a.Ac a.cc a.Au a.cu))
          obtain ⟨Kv,jO⟩:∃ q,q=W1.heap.size:=⟨_,rfl⟩
          rw[←jO] at zk⊢
          clear p0 b00
          clear jO zu
          generalize W1.alloc _=W2 at *
          have p0:=zk.out.pw.al
          have b00:=zk.out.f0
          have b10:=zk.out.f1
          go_upto_region 7 with (fail)
          go_upto_region 8 with (fail)
          have zC:=ħ (zk.out.alloc 48 ζ)
          obtain ⟨Ea,Qw⟩:∃ q,q=W2.heap.size:=⟨_,rfl⟩
          rw[←Qw] at zC⊢
          clear p0 b00 b10
          clear Qw zk
          generalize W2.alloc _=W3 at *
          have p0:=zC.out.pw.al
          have b00:=zC.out.f0
          have b10:=zC.out.f1
          have b20:=zC.out.f2
          go_upto_region 10 with (fail)
          go_cut [68] (fun v wx=>v=.bool false∧OW w wx p mc mi mh kc ki kh [(Ea,48,ζ),(Kv,48,(ξ a.x a.An a.cn a.Ac a.cc a.Au a.cu)),(yM,34,(χ y Ay ky))] [])
          case first=>
           have HK:=ħ fun (W':World) (hb:Below W3.heap.size W3 W')=>(show W'.cell? ⟨yM,1,none⟩=some (ι y.inc) from (zb.below (zC.out.box (g:=yM) (t:=34) (cs:=(χ y Ay ky)) (.tail _ (.tail _ (.head _)))) hb (zC.out.box (g:=yM) (t:=34) (cs:=(χ y Ay ky)) (.tail _ (.tail _ (.head _)))).lt).cell 1)
           have B0:=(show Below W3.heap.size W3 W3.drew from (Below.refl _ W3).drew)
           have K0:=HK.out _ B0
           have uq:=ħ (mQ.out W3.drew (OW.same (zC.out.below B0) HCM.out QS.out VN.out))
           clear p0 b00 b10 b20
           go_region_held (fun W'=>W'.cell? ⟨yM,1,none⟩=some (ι y.inc)) (with_reducible assumption) (((with_reducible refine uq.out.mono ?_);rintro e w18 ⟨rfl,hb⟩;have Ag:=(show Below W3.heap.size W3 w18 from B0.trans hb);have Ch:=HK.out _ Ag;clear hb))
           all_goals (go_wp2_with fail)
           all_goals go_meet
           all_goals exact ⟨by first | rfl | rw[d2] | simp,zC.out.below Ag⟩
          case rest=>
           obtain ⟨rfl,ho⟩:=hcut
           have zP:=ħ ho
           clear p0 b00 b10 b20
           clear ho zC
           have p0:=zP.out.pw.al
           have b00:=zP.out.f0
           have b10:=zP.out.f1
           have b20:=zP.out.f2
           go_upto_region 12 with (fail)
           go_cut [17] (fun v0 wx=>∃ EE:Nat,v0=.pointer (some ⟨EE,0,none⟩)∧OW w wx p mc mi mh kc ki kh [(EE,48,(ξ ax.x ax.An ax.cn ax.Ac ax.cc ax.Au ax.cu)),(Ea,48,ζ),(Kv,48,(ξ a.x a.An a.cn a.Ac a.cc a.Au a.cu)),(yM,34,(χ y Ay ky))] [])
           case first=>
            have HK:=ħ fun (W':World) (hb:Below wc.heap.size wc W')=>(show W'.cell? ⟨p,1,none⟩=some (.map (some mi))∧W'.cell? ⟨yM,1,none⟩=some (ι y.inc) from ⟨(zb.below zP.out.pw.P hb zP.out.pw.P.lt).cell 1,(zb.below zP.out.b2 hb zP.out.b2.lt).cell 1⟩)
            have K0:=HK.out _ (Below.refl _ wc).drew
            have K1:=HK.out _ ((Below.refl _ wc).drew.alloc (Nat.le_refl _) (.cells ζ 48))
            have K2:=HK.out _ ((Below.refl _ wc).drew.alloc (Nat.le_refl _) (.cells (ξ ax.x ax.An ax.cn ax.Ac ax.cc ax.Au ax.cu) 48))
            go_region_held (fun W'=>W'.cell? ⟨p,1,none⟩=some (.map (some mi))∧W'.cell? ⟨yM,1,none⟩=some (ι y.inc)) (assumption) (fail)
            clear HK K0 K1 K2
            all_goals (go_wp2_with fail)
            all_goals go_meet
            all_goals exact ⟨_,rfl,(zP.out.alloc _ _).drew⟩
           case rest=>
            obtain ⟨EE,rfl,ho⟩:=hcut
            have qm:=ħ ho
            clear p0 b00 b10 b20
            clear ho zP
            have p0:=qm.out.pw.al
            have b00:=qm.out.f0
            have b10:=qm.out.f1
            have b20:=qm.out.f2
            have Qv:=qm.out.f3
            go_wp2_with (go_at_call 56;((with_reducible refine (YC.out _).mono ?_);rintro e w6 ⟨rfl,hb⟩;have yS:=ħ (qm.out.below hb);clear hb;clear p0 b00 b10 b20 Qv;have p0:=yS.out.pw.al;have b00:=yS.out.f0;have b10:=yS.out.f1;have b20:=yS.out.f2;have Qv:=yS.out.f3))
            go_ret
            exact HFin.out 8 _ _ _ yS.out HE.out
         ·have HE:=ħ (gM H0.out U0.out ou.out AR.out CW.out XB.out (by rintro (h | h);(rw[ho] at h;cases h);exact hl h))
          have YC:=ħ (yB ax true ho)
          have hl2:¬ (ax.x.calls.length:Int)<2:=by omega
          have Nc:=ħ fun (W:World) (L:List (Nat × TypeId × Array Value)) (R:List (Option Addr × List Int)) (h:OW w W p mc mi mh kc ki kh L R)=>(show Calls Tryz.prog 57 #[.pointer (some ⟨p,0,none⟩),.agg (χ y Ay ky),.agg (ξ ax.x ax.An ax.cn ax.Ac ax.cc ax.Au ax.cu),ι id] W (oo p mc mi mh ⟨zz b.L (zt id { y with inc:=id }),zG b.C { y with inc:=id }⟩ y.inc W) from
           pI p mc mi mh kc ki kh b ⟨y,Ay,ky⟩ ax id n W h.pw (HCM.out.fr h.fr (fun k hk=>qh hk)) (QS.out.fr h.fr (fun k hk=>qh hk)) VN.out HG.out hn (h.tab2 Yi.out FW.out) (h.keep Ja.out) (yC U0.out).1 (h.keepX OH.out) XB.out AR.out mD.out ho (by omega))
          clear ho hl
          go_enter Tryz.func16,Tryz.ntmps16
          have p0:=zD.out.pw.al
          go_upto_region 4 with ((go_at_call 55;((with_reducible refine (JC.out _).mono ?_);rintro e w5 ⟨rfl,Vg⟩;rw[Vg];clear Vg)))
          have zu:=ħ (zD.out.alloc 34 (χ y Ay ky))
          obtain ⟨yM,hq11⟩:∃ q,q=w.heap.size:=⟨_,rfl⟩
          rw[←hq11] at zu⊢
          clear p0
          clear hq11 zD
          generalize w.alloc _=W1 at *
          have p0:=zu.out.pw.al
          have b00:=zu.out.f0
          go_upto_region 5 with (fail)
          have zk:=ħ (zu.out.alloc 48 (ξ a.x a.An a.cn a.Ac a.cc a.Au a.cu))
          obtain ⟨Kv,jO⟩:∃ q,q=W1.heap.size:=⟨_,rfl⟩
          rw[←jO] at zk⊢
          clear p0 b00
          clear jO zu
          generalize W1.alloc _=W2 at *
          have p0:=zk.out.pw.al
          have b00:=zk.out.f0
          have b10:=zk.out.f1
          go_upto_region 7 with (fail)
          go_upto_region 8 with (fail)
          have zC:=ħ (zk.out.alloc 48 ζ)
          obtain ⟨Ea,Qw⟩:∃ q,q=W2.heap.size:=⟨_,rfl⟩
          rw[←Qw] at zC⊢
          clear p0 b00 b10
          clear Qw zk
          generalize W2.alloc _=W3 at *
          have p0:=zC.out.pw.al
          have b00:=zC.out.f0
          have b10:=zC.out.f1
          have b20:=zC.out.f2
          go_upto_region 10 with (fail)
          go_cut [68] (fun v wx=>v=.bool false∧OW w wx p mc mi mh kc ki kh [(Ea,48,ζ),(Kv,48,(ξ a.x a.An a.cn a.Ac a.cc a.Au a.cu)),(yM,34,(χ y Ay ky))] [])
          case first=>
           have HK:=ħ fun (W':World) (hb:Below W3.heap.size W3 W')=>(show W'.cell? ⟨yM,1,none⟩=some (ι y.inc) from (zb.below (zC.out.box (g:=yM) (t:=34) (cs:=(χ y Ay ky)) (.tail _ (.tail _ (.head _)))) hb (zC.out.box (g:=yM) (t:=34) (cs:=(χ y Ay ky)) (.tail _ (.tail _ (.head _)))).lt).cell 1)
           have B0:=(show Below W3.heap.size W3 W3.drew from (Below.refl _ W3).drew)
           have K0:=HK.out _ B0
           have uq:=ħ (mQ.out W3.drew (OW.same (zC.out.below B0) HCM.out QS.out VN.out))
           clear p0 b00 b10 b20
           go_region_held (fun W'=>W'.cell? ⟨yM,1,none⟩=some (ι y.inc)) (with_reducible assumption) (((with_reducible refine uq.out.mono ?_);rintro e w18 ⟨rfl,hb⟩;have Ag:=(show Below W3.heap.size W3 w18 from B0.trans hb);have Ch:=HK.out _ Ag;clear hb))
           all_goals (go_wp2_with fail)
           all_goals go_meet
           all_goals exact ⟨by first | rfl | rw[d2] | simp,zC.out.below Ag⟩
          case rest=>
           obtain ⟨rfl,ho⟩:=hcut
           have zP:=ħ ho
           clear p0 b00 b10 b20
           clear ho zC
           have p0:=zP.out.pw.al
           have b00:=zP.out.f0
           have b10:=zP.out.f1
           have b20:=zP.out.f2
           go_upto_region 12 with (fail)
           go_cut [17] (fun v0 wx=>∃ EE:Nat,v0=.pointer (some ⟨EE,0,none⟩)∧OW w wx p mc mi mh kc ki kh [(EE,48,(ξ ax.x ax.An ax.cn ax.Ac ax.cc ax.Au ax.cu)),(Ea,48,ζ),(Kv,48,(ξ a.x a.An a.cn a.Ac a.cc a.Au a.cu)),(yM,34,(χ y Ay ky))] [])
           case first=>
            have HK:=ħ fun (W':World) (hb:Below wc.heap.size wc W')=>(show W'.cell? ⟨p,1,none⟩=some (.map (some mi))∧W'.cell? ⟨yM,1,none⟩=some (ι y.inc) from ⟨(zb.below zP.out.pw.P hb zP.out.pw.P.lt).cell 1,(zb.below zP.out.b2 hb zP.out.b2.lt).cell 1⟩)
            have K0:=HK.out _ (Below.refl _ wc).drew
            have K1:=HK.out _ ((Below.refl _ wc).drew.alloc (Nat.le_refl _) (.cells ζ 48))
            have K2:=HK.out _ ((Below.refl _ wc).drew.alloc (Nat.le_refl _) (.cells (ξ ax.x ax.An ax.cn ax.Ac ax.cc ax.Au ax.cu) 48))
            go_region_held (fun W'=>W'.cell? ⟨p,1,none⟩=some (.map (some mi))∧W'.cell? ⟨yM,1,none⟩=some (ι y.inc)) (assumption) (fail)
            clear HK K0 K1 K2
            all_goals (go_wp2_with fail)
            all_goals go_meet
            all_goals exact ⟨_,rfl,(zP.out.alloc _ _).drew⟩
           case rest=>
            obtain ⟨EE,rfl,ho⟩:=hcut
            have qm:=ħ ho
            clear p0 b00 b10 b20
            clear ho zP
            have p0:=qm.out.pw.al
            have b00:=qm.out.f0
            have b10:=qm.out.f1
            have b20:=qm.out.f2
            have Qv:=qm.out.f3
            go_wp2_with (first | (go_at_call 56;((with_reducible refine (YC.out _).mono ?_);rintro e w6 ⟨rfl,hb⟩;have yS:=ħ (qm.out.below hb);clear hb;clear p0 b00 b10 b20 Qv;have p0:=yS.out.pw.al;have b00:=yS.out.f0;have b10:=yS.out.f1;have b20:=yS.out.f2;have Qv:=yS.out.f3)) | (go_at_call 57;((with_reducible refine (Nc.out _ _ _ yS.out).mono ?_);rintro e w9 ⟨rfl,lw,YS⟩;have eu:=ħ lw;have Yn:=ħ (yS.out.fr.trans YS);clear lw YS)))
            go_ret
            rw[HE.out]
            exact ⟨rfl,eu.out,Yn.out⟩
       ·have HE:=ħ (dA H0.out U0.out ou.out AR.out (by rw[←BL.out];exact hroot))
        have d2:(y.inc != rt)=true:=by simpa using hroot
        clear hw
        go_enter Tryz.func16,Tryz.ntmps16
        have p0:=zD.out.pw.al
        go_upto_region 4 with ((go_at_call 55;((with_reducible refine (JC.out _).mono ?_);rintro e w5 ⟨rfl,Vg⟩;rw[Vg];clear Vg)))
        have zu:=ħ (zD.out.alloc 34 (χ y Ay ky))
        obtain ⟨yM,hq11⟩:∃ q,q=w.heap.size:=⟨_,rfl⟩
        rw[←hq11] at zu⊢
        clear p0
        clear hq11 zD
        generalize w.alloc _=W1 at *
        have p0:=zu.out.pw.al
        have b00:=zu.out.f0
        go_upto_region 5 with (fail)
        have zk:=ħ (zu.out.alloc 48 (ξ a.x a.An a.cn a.Ac a.cc a.Au a.cu))
        obtain ⟨Kv,jO⟩:∃ q,q=W1.heap.size:=⟨_,rfl⟩
        rw[←jO] at zk⊢
        clear p0 b00
        clear jO zu
        generalize W1.alloc _=W2 at *
        have p0:=zk.out.pw.al
        have b00:=zk.out.f0
        have b10:=zk.out.f1
        go_upto_region 7 with (fail)
        go_upto_region 8 with (fail)
        have zC:=ħ (zk.out.alloc 48 ζ)
        obtain ⟨Ea,Qw⟩:∃ q,q=W2.heap.size:=⟨_,rfl⟩
        rw[←Qw] at zC⊢
        clear p0 b00 b10
        clear Qw zk
        generalize W2.alloc _=W3 at *
        have p0:=zC.out.pw.al
        have b00:=zC.out.f0
        have b10:=zC.out.f1
        have b20:=zC.out.f2
        go_upto_region 10 with (fail)
        go_cut [68] (fun v wx=>v=.bool true∧OW w wx p mc mi mh kc ki kh [(Ea,48,ζ),(Kv,48,(ξ a.x a.An a.cn a.Ac a.cc a.Au a.cu)),(yM,34,(χ y Ay ky))] [])
        case first=>
         have HK:=ħ fun (W':World) (hb:Below W3.heap.size W3 W')=>(show W'.cell? ⟨yM,1,none⟩=some (ι y.inc) from (zb.below (zC.out.box (g:=yM) (t:=34) (cs:=(χ y Ay ky)) (.tail _ (.tail _ (.head _)))) hb (zC.out.box (g:=yM) (t:=34) (cs:=(χ y Ay ky)) (.tail _ (.tail _ (.head _)))).lt).cell 1)
         have B0:=(show Below W3.heap.size W3 W3.drew from (Below.refl _ W3).drew)
         have K0:=HK.out _ B0
         have uq:=ħ (mQ.out W3.drew (OW.same (zC.out.below B0) HCM.out QS.out VN.out))
         clear p0 b00 b10 b20
         go_region_held (fun W'=>W'.cell? ⟨yM,1,none⟩=some (ι y.inc)) (with_reducible assumption) (((with_reducible refine uq.out.mono ?_);rintro e w18 ⟨rfl,hb⟩;have Ag:=(show Below W3.heap.size W3 w18 from B0.trans hb);have Ch:=HK.out _ Ag;clear hb))
         all_goals (go_wp2_with fail)
         all_goals go_meet
         all_goals exact ⟨by first | rfl | rw[d2] | simp,zC.out.below Ag⟩
        case rest=>
         obtain ⟨rfl,ho⟩:=hcut
         have zP:=ħ ho
         clear p0 b00 b10 b20
         clear ho zC
         have p0:=zP.out.pw.al
         have b00:=zP.out.f0
         have b10:=zP.out.f1
         have b20:=zP.out.f2
         go_wp2_with fail
         go_ret
         exact HFin.out 14 _ _ _ zP.out HE.out
     ·have HE:=ħ (bg H0.out U0.out hg)
      have KU:=yG (w:=w) (mi:=mi) inc (show (zn ki inc).getD (.agg ζ)=.agg ζ by rw[hk];rfl) (show (zn ki inc).isSome=false by simp[hk])
      clear hg hk hw
      go_enter Tryz.func16,Tryz.ntmps16
      have p0:=zD.out.pw.al
      go_upto_region 4 with ((go_at_call 55;((with_reducible refine (JC.out _).mono ?_);rintro e w5 ⟨rfl,Vg⟩;rw[Vg];clear Vg)))
      have zu:=ħ (zD.out.alloc 34 (χ y Ay ky))
      obtain ⟨yM,hq11⟩:∃ q,q=w.heap.size:=⟨_,rfl⟩
      rw[←hq11] at zu⊢
      clear p0
      clear hq11 zD
      generalize w.alloc _=W1 at *
      have p0:=zu.out.pw.al
      have b00:=zu.out.f0
      go_upto_region 5 with (fail)
      have zk:=ħ (zu.out.alloc 48 ζ)
      obtain ⟨Kv,jO⟩:∃ q,q=W1.heap.size:=⟨_,rfl⟩
      rw[←jO] at zk⊢
      clear p0 b00
      clear jO zu
      generalize W1.alloc _=W2 at *
      have p0:=zk.out.pw.al
      have b00:=zk.out.f0
      have b10:=zk.out.f1
      go_wp2_with fail
      go_ret
      exact HFin.out 4 _ _ _ zk.out HE.out
    ·have HE:=ħ (aj (inc:=inc) H0.out hg)
     have hlc:=QA (w:=w) (mc:=mc) call (show (zn kc call).getD (.agg κ)=.agg κ by rw[hk];rfl) (show (zn kc call).isSome=false by simp[hk])
     clear hg hk
     rcases qU QS.out inc with ⟨a,hg,hk,hr⟩ | ⟨hg,hk⟩
     ·have KU:=yG (w:=w) (mi:=mi) inc (show (zn ki inc).getD (.agg ζ)=.agg (ξ a.x a.An a.cn a.Ac a.cc a.Au a.cu) by rw[hk];rfl) (show (zn ki inc).isSome=true by simp[hk])
      clear hg hk hw
      go_enter Tryz.func16,Tryz.ntmps16
      have p0:=zD.out.pw.al
      go_upto_region 4 with ((go_at_call 55;((with_reducible refine (JC.out _).mono ?_);rintro e w5 ⟨rfl,Vg⟩;rw[Vg];clear Vg)))
      have zu:=ħ (zD.out.alloc 34 κ)
      obtain ⟨yM,hq11⟩:∃ q,q=w.heap.size:=⟨_,rfl⟩
      rw[←hq11] at zu⊢
      clear p0
      clear hq11 zD
      generalize w.alloc _=W1 at *
      have p0:=zu.out.pw.al
      have b00:=zu.out.f0
      go_upto_region 5 with (fail)
      have zk:=ħ (zu.out.alloc 48 (ξ a.x a.An a.cn a.Ac a.cc a.Au a.cu))
      obtain ⟨Kv,jO⟩:∃ q,q=W1.heap.size:=⟨_,rfl⟩
      rw[←jO] at zk⊢
      clear p0 b00
      clear jO zu
      generalize W1.alloc _=W2 at *
      have p0:=zk.out.pw.al
      have b00:=zk.out.f0
      have b10:=zk.out.f1
      go_wp2_with fail
      go_ret
      exact HFin.out 4 _ _ _ zk.out HE.out
     ·have KU:=yG (w:=w) (mi:=mi) inc (show (zn ki inc).getD (.agg ζ)=.agg ζ by rw[hk];rfl) (show (zn ki inc).isSome=false by simp[hk])
      clear hg hk hw
      go_enter Tryz.func16,Tryz.ntmps16
      have p0:=zD.out.pw.al
      go_upto_region 4 with ((go_at_call 55;((with_reducible refine (JC.out _).mono ?_);rintro e w5 ⟨rfl,Vg⟩;rw[Vg];clear Vg)))
      have zu:=ħ (zD.out.alloc 34 κ)
      obtain ⟨yM,hq11⟩:∃ q,q=w.heap.size:=⟨_,rfl⟩
      rw[←hq11] at zu⊢
      clear p0
      clear hq11 zD
      generalize w.alloc _=W1 at *
      have p0:=zu.out.pw.al
      have b00:=zu.out.f0
      go_upto_region 5 with (fail)
      have zk:=ħ (zu.out.alloc 48 ζ)
      obtain ⟨Kv,jO⟩:∃ q,q=W1.heap.size:=⟨_,rfl⟩
      rw[←jO] at zk⊢
      clear p0 b00
      clear jO zu
      generalize W1.alloc _=W2 at *
      have p0:=zk.out.pw.al
      have b00:=zk.out.f0
      have b10:=zk.out.f1
      go_wp2_with fail
      go_ret
      exact HFin.out 4 _ _ _ zk.out HE.out
end Go.Proofs.YtdhcjhfgibmhfaaGreatDoor

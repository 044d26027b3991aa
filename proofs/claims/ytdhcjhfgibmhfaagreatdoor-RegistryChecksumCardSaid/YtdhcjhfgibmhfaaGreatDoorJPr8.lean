import Derived.Test.YtdhcjhfgibmhfaaGreatDoorJG22
import Derived.Test.YtdhcjhfgibmhfaaGreatDoorJG23
set_option linter.unusedVariables false
set_option linter.unusedSimpArgs false
set_option maxRecDepth 10000
set_option maxHeartbeats 8000000
namespace Go.Proofs.YtdhcjhfgibmhfaaGreatDoor
open Go.RowKit Go.Own Go.Quo Go.Inc
@[go_sem] theorem mpd (w:World)(m:Nat)(q:IntKind)(k:Int)(v:Value):mput w.drew m q k v=(mput w m q k v).drew:=rfl
@[go_sem] theorem mdd (w:World)(m:Nat)(q:IntKind)(k:Int):mdel w.drew m q k=(mdel w m q k).drew:=rfl
@[go_sem] theorem mpn (w:World)(m:Nat)(q:IntKind)(k:Int)(v:Value)(j:Nat):mput (w.drewN j) m q k v=(mput w m q k v).drewN j:=rfl
@[go_sem] theorem mdn (w:World)(m:Nat)(q:IntKind)(k:Int)(j:Nat):mdel (w.drewN j) m q k=(mdel w m q k).drewN j:=rfl
@[go_sem] theorem sdn (w:World)(a:Addr)(v:Value)(j:Nat):(w.drewN j).setCell a v=(w.setCell a v).drewN j:=rfl
@[go_sem] theorem adn (w:World)(o:Obj)(j:Nat):(w.drewN j).alloc o=(w.alloc o).drewN j:=rfl
theorem Ba {kh:List (Int × Value)}{L:List Ic}(h:HM kh L){x:Ic}(hx:∀ y∈L,y.id≠x.id)(hu:x.units=[]):HM kh (zz L x):=by
 refine ⟨h.nd,fun y hy u hu2=>?_,fun u hn=>h.no u (fun y hy hyu=>hn y (zK.2 (.inr ⟨hy,hx y hy⟩)) hyu)⟩
 rcases zK.1 hy with rfl | ⟨h1,_⟩
 ·rw[hu] at hu2;simp at hu2
 ·exact h.at_ y h1 u hu2
theorem QQ {w:World}{B:Nat→Prop}{kc:List (Int × Value)}{C:List Cr}(h:CM w B kc C)(k:Int):(∃ y A n,yP C k=some y∧zn kc k=some (uy ⟨y,A,n⟩)∧RI w B A y.nodes)∨(yP C k=none∧zn kc k=none):=by
 cases hg:yP C k with
 | none=>exact .inr ⟨rfl,h.no k ((qM Cr.call).1 hg)⟩
 | some y=>
  obtain ⟨hy,hk⟩:=yC hg
  obtain ⟨A,n,h1,h2⟩:=h.at_ y hy
  rw[hk] at h1
  exact .inl ⟨y,A,n,rfl,h1,h2⟩
theorem qU {w:World}{B:Nat→Prop}{ki:List (Int × Value)}{L:List Ic}(h:IM w B ki L)(k:Int):(∃ a:Xa,zw L k=some a.x∧zn ki k=some (BJ a)∧XR w B a)∨(zw L k=none∧zn ki k=none):=by
 cases hg:zw L k with
 | none=>exact .inr ⟨rfl,h.no k ((qM Ic.id).1 hg)⟩
 | some y=>
  obtain ⟨hy,hk⟩:=zi hg
  obtain ⟨a,h0,h1,h2⟩:=h.at_ y hy
  rw[hk] at h1
  exact .inl ⟨a,by rw[h0],h1,h2⟩
def dV (x:Cr)(f:Bool)(w:World)(e:Ending)(w':World):Prop:=∃ A k,e=.returned (.tuple #[.agg (χ x A k),.bool f])∧w'.ownsRow w.heap.size 3 1 (.slice A x.nodes.length k) x.nodes.length (x.nodes.map (Value.int .i64))∧Below w.heap.size w w'
theorem Ka (t:Ca)(cr:Cr)(hcr:cr = { t.c with inc:=0,closed:=false })(hr:z_ t.c=true)(B:Nat→Prop)(w W:World)(hb:Below w.heap.size w W)(h:RI w B t.A t.c.nodes)(hs:t.c.code.size≤100000)(hl:t.c.nodes.length≤100000) :
 Calls Tryz.prog 83 #[.agg (χ t.c t.A t.k)] W (dV cr true W):=by
 have:=fP t B W (zl h hb) hs hl
 rw[hr] at this
 have e:UT t.c=cr:=by unfold UT;rw[if_pos hr,hcr]
 rwa [e] at this
theorem uF (t:Ca)(z:Cr)(hz:z=Qf)(hr:z_ t.c=false)(B:Nat→Prop)(w W:World)(hb:Below w.heap.size w W)(h:RI w B t.A t.c.nodes)(hs:t.c.code.size≤100000)(hl:t.c.nodes.length≤100000) :
 Calls Tryz.prog 83 #[.agg (χ t.c t.A t.k)] W (dV z false W):=by
 have:=fP t B W (zl h hb) hs hl
 rw[hr] at this
 have e:UT t.c=z:=by unfold UT;rw[if_neg (by rw[hr];simp),hz]
 rwa [e] at this
theorem Jn (n:Int)(f:Bool)(h:zQ n 1=f)(W:World):Calls Tryz.prog 55 #[ι n] W (jr f W):=h ▸ z1A n W
theorem KQ (id:Int)(cr:Cr)(x:Ic)(hx:x=zt id cr)(hv:(zQ id 1 && yz cr)=true)(A:Option Addr)(k:Nat)(B:Nat→Prop)(W:World)(hs:cr.code.size≤100000)(h:RI W B A cr.nodes)(hl:cr.nodes.length≤100000) :
 Calls Tryz.prog 84 #[ι id,.agg (χ cr A k)] W (jX x 0 W):=by
 have:=EJ B id cr.call cr.inc cr.urg cr.dist cr.since cr.code A k cr.nodes cr.closed W hs h hl
 rw[show (⟨cr.call,cr.inc,cr.urg,cr.code,cr.nodes,cr.dist,cr.since,cr.closed⟩:Cr)=cr from rfl,if_pos hv,←hx] at this
 exact this
theorem kU (p mc mi mh:Nat)(b:Bk)(t:Ca)(id:Int)(Bt:Nat→Prop)(w:World)(h:PI w p mc mi mh b)(J2:Asc Cr.call b.C)(hsL:Asc Ic.id b.L)(ht:RI w Bt t.A t.c.nodes)(hs:t.c.code.size≤100000)(hl:t.c.nodes.length≤100000) :
 Calls Tryz.prog 37 #[.pointer (some ⟨p,0,none⟩),.agg (χ t.c t.A t.k),ι id] w (Ji (qQ b t.c id) p mc mi mh w):=by
 obtain ⟨kc,ki,kh,hw,hc,hi,hh⟩:=h
 have HCM:=ħ hc
 have QS:=ħ hi
 have VN:=ħ hh
 have FW:=ħ hw
 have HFin:=ħ fun (r:Int) (W:World) (L:List (Nat × TypeId × Array Value)) (R:List (Option Addr × List Int)) (ho:OW w W p mc mi mh kc ki kh L R) (hr:qQ b t.c id=(b,r))=>(show Ji (qQ b t.c id) p mc mi mh w (.returned (ι r)) W from ⟨by rw[hr],by rw[hr];exact ho.same hc hi hh,ho.fr⟩)
 have fK:=ħ ht
 have HL:=ħ (And.intro hs hl)
 have HB0:=ħ ((Below.refl w.heap.size w).alloc (Nat.le_refl _) (.cells (χ t.c t.A t.k) 34))
 have zD:=ħ ((OW.new hw).alloc 34 (χ t.c t.A t.k))
 clear ht hs hl hc hi hh
 cases hr:z_ t.c with
 | false=>
  have HE:=ħ (show qQ b t.c id=(b,1) by unfold qQ;rw[if_pos (by rw[hr];rfl)])
  obtain ⟨z,hz⟩:∃ z:Cr,z=Qf:=⟨_,rfl⟩
  have VJ:=ħ (uF t z hz hr _ w _ HB0.out fK.out HL.out.1 HL.out.2)
  clear hr hw hz
  go_enter Tryz.func37,Tryz.ntmps37
  go_upto_region 1 with fail
  generalize w.alloc _=W0 at *
  have p0:=zD.out.pw.al
  have b00:=zD.out.f0
  go_wp2_with (go_at_call 83;((with_reducible refine (VJ.out).mono ?_);rintro e w1 ⟨A,k,rfl,ho,hb⟩;have Z0:=zD.out.own hb ho;have zu:=ħ ((zD.out.below hb).row Z0);clear Z0 ho hb;clear p0 b00;have p0:=zu.out.pw.al;have b00:=zu.out.f0))
  go_ret
  exact HFin.out 1 _ _ _ (zu.out.alloc _ _) HE.out
 | true=>
  obtain ⟨cr,hcr⟩:∃ cr:Cr,cr = { t.c with inc:=0,closed:=false }:=⟨_,rfl⟩
  have VJ:=ħ (Ka t cr hcr hr _ w _ HB0.out fK.out HL.out.1 HL.out.2)
  cases hid:zQ id 1 with
  | false=>
   have HE:=ħ (show qQ b t.c id=(b,1) by unfold qQ;rw[if_pos (by rw[hr,hid];rfl)])
   have JC:=ħ fun W=>Jn id false hid W
   clear hr hid hcr hw
   go_enter Tryz.func37,Tryz.ntmps37
   go_upto_region 1 with fail
   generalize w.alloc _=W0 at *
   have p0:=zD.out.pw.al
   have b00:=zD.out.f0
   go_wp2_with (first | (go_at_call 83;((with_reducible refine (VJ.out).mono ?_);rintro e w1 ⟨A,k,rfl,ho,hb⟩;have Z0:=zD.out.own hb ho;have zu:=ħ ((zD.out.below hb).row Z0);clear Z0 ho hb;clear p0 b00;have p0:=zu.out.pw.al;have b00:=zu.out.f0)) | (go_at_call 55;((with_reducible refine (JC.out _).mono ?_);rintro e w5 ⟨rfl,rfl⟩)))
   go_ret
   exact HFin.out 1 _ _ _ (zu.out.alloc _ _) HE.out
  | true=>
   have JC:=ħ fun W=>Jn id true hid W
   have Ud:=ħ hcr
   have HV:=ħ (show (zQ id 1 && yz cr)=true by rw[hid,hcr];exact hr)
   have hcc:cr.call=t.c.call:=by rw[hcr]
   have ag:=ħ (show cr.code.size≤100000∧cr.nodes.length≤100000 by rw[hcr];exact ⟨HL.out.1,HL.out.2⟩)
   have Zr:=ħ (show ∀ r:Bk × Int,(match yP b.C cr.call with | some _=>(b,5) | none=>match zw b.L id with | some _=>(b,5) | none=>(⟨zz b.L (zt id (j6 t.c id)),zG b.C (j6 t.c id)⟩,0))=r→qQ b t.c id=r from fun r h=>by unfold qQ;rw[if_neg (by rw[hr,hid];simp),←hcc];exact h)
   clear hr hid hcr hcc
   rcases QQ HCM.out cr.call with ⟨y,Ay,ky,hg,hk,-⟩ | ⟨hg,hk⟩
   ·have HE:=ħ (Zr.out (b,5) (by rw[hg]))
    have hlc:=QA (w:=w) (mc:=mc) cr.call (show (zn kc cr.call).getD (.agg κ)=.agg (χ y Ay ky) by rw[hk];rfl) (show (zn kc cr.call).isSome=true by simp[hk])
    clear hg hk hw Zr Ud HV
    go_enter Tryz.func37,Tryz.ntmps37
    go_upto_region 1 with fail
    generalize w.alloc _=W0 at *
    have p0:=zD.out.pw.al
    have b00:=zD.out.f0
    go_upto_region 2 with ((go_at_call 83;((with_reducible refine (VJ.out).mono ?_);rintro e w1 ⟨A,k,rfl,ho,hb⟩;have Z0:=zD.out.own hb ho;have zu:=ħ ((zD.out.below hb).row Z0);clear Z0 ho hb;clear p0 b00;have p0:=zu.out.pw.al;have b00:=zu.out.f0)))
    have zk:=ħ (zu.out.alloc 34 (χ cr A k))
    obtain ⟨q7,yZ⟩:∃ q,q=w1.heap.size:=⟨_,rfl⟩
    rw[←yZ] at zk⊢
    clear p0 b00
    clear yZ zu
    generalize w1.alloc _=W2 at *
    have p0:=zk.out.pw.al
    have b00:=zk.out.f0
    have b10:=zk.out.f1
    go_upto_region 4 with ((go_at_call 55;((with_reducible refine (JC.out _).mono ?_);rintro e w5 ⟨rfl,rfl⟩)))
    go_cut [9,10] (fun v0 v1 wx=>∃ q9:Nat,v0=.pointer (some ⟨q9,0,none⟩)∧v1=.bool true∧OW w wx p mc mi mh kc ki kh [(q9,34,(χ y Ay ky)),(q7,34,(χ cr A k)),(w.heap.size,34,(χ t.c t.A t.k))] [(A,cr.nodes)])
    case first=>
     have HK:=ħ fun (W':World) (hb:Below w5.heap.size w5 W')=>(show W'.cell? ⟨p,0,none⟩=some (.map (some mc))∧W'.cell? ⟨q7,0,none⟩=some (ι cr.call) from ⟨(zb.below zk.out.pw.P hb zk.out.pw.P.lt).cell 0,(zb.below zk.out.b0 hb zk.out.b0.lt).cell 0⟩)
     have K0:=HK.out _ (Below.refl _ w5).drew
     have K1:=HK.out _ ((Below.refl _ w5).drew.alloc (Nat.le_refl _) (.cells κ 34))
     have K2:=HK.out _ ((Below.refl _ w5).drew.alloc (Nat.le_refl _) (.cells (χ y Ay ky) 34))
     go_region_held (fun W'=>W'.cell? ⟨p,0,none⟩=some (.map (some mc))∧W'.cell? ⟨q7,0,none⟩=some (ι cr.call)) (assumption) (fail)
     clear HK K0 K1 K2
     all_goals (go_wp2_with fail)
     all_goals go_meet
     all_goals exact ⟨_,rfl,rfl,(zk.out.alloc _ _).drew⟩
    case rest=>
     obtain ⟨q9,rfl,rfl,ho⟩:=hcut
     have zC:=ħ ho
     clear p0 b00 b10
     clear ho zk
     have p0:=zC.out.pw.al
     have b00:=zC.out.f0
     have b10:=zC.out.f1
     have b20:=zC.out.f2
     go_wp2_with fail
     go_ret
     exact HFin.out 5 _ _ _ zC.out HE.out
   ·have hlc:=QA (w:=w) (mc:=mc) cr.call (show (zn kc cr.call).getD (.agg κ)=.agg κ by rw[hk];rfl) (show (zn kc cr.call).isSome=false by simp[hk])
    have U0:=ħ hg
    clear hg hk
    rcases qU QS.out id with ⟨a,hg,hk,-⟩ | ⟨hg,hk⟩
    ·have HE:=ħ (Zr.out (b,5) (by rw[U0.out,hg]))
     have KU:=yG (w:=w) (mi:=mi) id (show (zn ki id).getD (.agg ζ)=.agg (ξ a.x a.An a.cn a.Ac a.cc a.Au a.cu) by rw[hk];rfl) (show (zn ki id).isSome=true by simp[hk])
     clear hg hk hw Zr Ud HV
     go_enter Tryz.func37,Tryz.ntmps37
     go_upto_region 1 with fail
     generalize w.alloc _=W0 at *
     have p0:=zD.out.pw.al
     have b00:=zD.out.f0
     go_upto_region 2 with ((go_at_call 83;((with_reducible refine (VJ.out).mono ?_);rintro e w1 ⟨A,k,rfl,ho,hb⟩;have Z0:=zD.out.own hb ho;have zu:=ħ ((zD.out.below hb).row Z0);clear Z0 ho hb;clear p0 b00;have p0:=zu.out.pw.al;have b00:=zu.out.f0)))
     have zk:=ħ (zu.out.alloc 34 (χ cr A k))
     obtain ⟨q7,yZ⟩:∃ q,q=w1.heap.size:=⟨_,rfl⟩
     rw[←yZ] at zk⊢
     clear p0 b00
     clear yZ zu
     generalize w1.alloc _=W2 at *
     have p0:=zk.out.pw.al
     have b00:=zk.out.f0
     have b10:=zk.out.f1
     go_upto_region 4 with ((go_at_call 55;((with_reducible refine (JC.out _).mono ?_);rintro e w5 ⟨rfl,rfl⟩)))
     go_cut [9,10] (fun v0 v1 wx=>∃ q9:Nat,v0=.pointer (some ⟨q9,0,none⟩)∧v1=.bool false∧OW w wx p mc mi mh kc ki kh [(q9,34,κ),(q7,34,(χ cr A k)),(w.heap.size,34,(χ t.c t.A t.k))] [(A,cr.nodes)])
     case first=>
      have HK:=ħ fun (W':World) (hb:Below w5.heap.size w5 W')=>(show W'.cell? ⟨p,0,none⟩=some (.map (some mc))∧W'.cell? ⟨q7,0,none⟩=some (ι cr.call) from ⟨(zb.below zk.out.pw.P hb zk.out.pw.P.lt).cell 0,(zb.below zk.out.b0 hb zk.out.b0.lt).cell 0⟩)
      have K0:=HK.out _ (Below.refl _ w5).drew
      have K1:=HK.out _ ((Below.refl _ w5).drew.alloc (Nat.le_refl _) (.cells κ 34))
      have K2:=HK.out _ ((Below.refl _ w5).drew.alloc (Nat.le_refl _) (.cells κ 34))
      go_region_held (fun W'=>W'.cell? ⟨p,0,none⟩=some (.map (some mc))∧W'.cell? ⟨q7,0,none⟩=some (ι cr.call)) (assumption) (fail)
      clear HK K0 K1 K2
      all_goals (go_wp2_with fail)
      all_goals go_meet
      all_goals exact ⟨_,rfl,rfl,(zk.out.alloc _ _).drew⟩
     case rest=>
      obtain ⟨q9,rfl,rfl,ho⟩:=hcut
      have zC:=ħ ho
      clear p0 b00 b10
      clear ho zk
      have p0:=zC.out.pw.al
      have b00:=zC.out.f0
      have b10:=zC.out.f1
      have b20:=zC.out.f2
      go_upto_region 5 with (fail)
      go_wp2_with fail
      go_ret
      exact HFin.out 5 _ _ _ (zC.out.alloc _ _) HE.out
    ·have HE:=ħ (Zr.out _ (by rw[U0.out,hg]))
     have QP:=ħ hg
     have KU:=yG (w:=w) (mi:=mi) id (show (zn ki id).getD (.agg ζ)=.agg ζ by rw[hk];rfl) (show (zn ki id).isSome=false by simp[hk])
     have hnm:∀ W:World,(binOp .eql 85 (.map (some mc)) (.map none)).run Tryz.prog W=.ok (.bool false) W:=fun _=>by rfl
     obtain ⟨x,hx⟩:∃ x:Ic,x=zt id cr:=⟨_,rfl⟩
     have HX:=ħ hx
     have sj:=ħ fun (W:World) (B:Nat→Prop) (A:Option Addr) (k:Nat) (hr:RI W B A cr.nodes)=>KQ id cr x HX.out HV.out A k B W ag.out.1 hr ag.out.2
     have Fa:=fun (W:World) (k:Int) (v:Value) (hW:zF W mc .i64 kc)=>zF.update (P:=Tryz.prog) hW Tryz.underlying85 Tryz.underlying2 k v
     have Hy:=fun (W:World) (k:Int) (v:Value) (hW:zF W mi .i64 ki)=>zF.update (P:=Tryz.prog) hW Tryz.underlying86 Tryz.underlying2 k v
     clear hg hk hw Zr hx
     go_enter Tryz.func37,Tryz.ntmps37
     go_upto_region 1 with fail
     generalize w.alloc _=W0 at *
     have p0:=zD.out.pw.al
     have b00:=zD.out.f0
     go_upto_region 2 with ((go_at_call 83;((with_reducible refine (VJ.out).mono ?_);rintro e w1 ⟨A,k,rfl,ho,hb⟩;have Z0:=zD.out.own hb ho;have zu:=ħ ((zD.out.below hb).row Z0);clear Z0 ho hb;clear p0 b00;have p0:=zu.out.pw.al;have b00:=zu.out.f0)))
     have zk:=ħ (zu.out.alloc 34 (χ cr A k))
     obtain ⟨q7,yZ⟩:∃ q,q=w1.heap.size:=⟨_,rfl⟩
     rw[←yZ] at zk⊢
     clear p0 b00
     clear yZ zu
     generalize w1.alloc _=W2 at *
     have p0:=zk.out.pw.al
     have b00:=zk.out.f0
     have b10:=zk.out.f1
     go_upto_region 4 with ((go_at_call 55;((with_reducible refine (JC.out _).mono ?_);rintro e w5 ⟨rfl,rfl⟩)))
     go_cut [9,10] (fun v0 v1 wx=>∃ q9:Nat,v0=.pointer (some ⟨q9,0,none⟩)∧v1=.bool false∧OW w wx p mc mi mh kc ki kh [(q9,34,κ),(q7,34,(χ cr A k)),(w.heap.size,34,(χ t.c t.A t.k))] [(A,cr.nodes)])
     case first=>
      have HK:=ħ fun (W':World) (hb:Below w5.heap.size w5 W')=>(show W'.cell? ⟨p,0,none⟩=some (.map (some mc))∧W'.cell? ⟨q7,0,none⟩=some (ι cr.call) from ⟨(zb.below zk.out.pw.P hb zk.out.pw.P.lt).cell 0,(zb.below zk.out.b0 hb zk.out.b0.lt).cell 0⟩)
      have K0:=HK.out _ (Below.refl _ w5).drew
      have K1:=HK.out _ ((Below.refl _ w5).drew.alloc (Nat.le_refl _) (.cells κ 34))
      have K2:=HK.out _ ((Below.refl _ w5).drew.alloc (Nat.le_refl _) (.cells κ 34))
      go_region_held (fun W'=>W'.cell? ⟨p,0,none⟩=some (.map (some mc))∧W'.cell? ⟨q7,0,none⟩=some (ι cr.call)) (assumption) (fail)
      clear HK K0 K1 K2
      all_goals (go_wp2_with fail)
      all_goals go_meet
      all_goals exact ⟨_,rfl,rfl,(zk.out.alloc _ _).drew⟩
     case rest=>
      obtain ⟨q9,rfl,rfl,ho⟩:=hcut
      have zC:=ħ ho
      clear p0 b00 b10
      clear ho zk
      have p0:=zC.out.pw.al
      have b00:=zC.out.f0
      have b10:=zC.out.f1
      have b20:=zC.out.f2
      go_upto_region 5 with (fail)
      go_upto_region 8 with (fail)
      have zP:=ħ (zC.out.alloc 48 ζ)
      obtain ⟨yM,hq11⟩:∃ q,q=wc.heap.size:=⟨_,rfl⟩
      rw[←hq11] at zP⊢
      clear p0 b00 b10 b20
      clear hq11 zC
      generalize wc.alloc _=W4 at *
      have p0:=zP.out.pw.al
      have b00:=zP.out.f0
      have b10:=zP.out.f1
      have b20:=zP.out.f2
      have Qv:=zP.out.f3
      go_upto_region 11 with ((go_at_call 84;((with_reducible refine (sj.out _ _ _ _ zP.out.r0).mono ?_);rintro e w5 ⟨An,Ac,Au,cn,cc,cu,rfl,h1,h2,h3,hb⟩;have MW:=zP.out.own hb h1;have M6:=zP.out.own hb h2;have Mv:=zP.out.own hb h3;have qm:=ħ ((((zP.out.below hb).row MW).row M6).row Mv);clear MW M6 Mv h1 h2 h3 hb;clear p0 b00 b10 b20 Qv;have p0:=qm.out.pw.al;have b00:=qm.out.f0;have b10:=qm.out.f1;have b20:=qm.out.f2;have Qv:=qm.out.f3)))
      have yS:=ħ (qm.out.alloc 48 (ξ x An cn Ac cc Au cu))
      obtain ⟨Kv,jO⟩:∃ q,q=w5.heap.size:=⟨_,rfl⟩
      rw[←jO] at yS⊢
      clear p0 b00 b10 b20 Qv
      clear jO qm
      generalize w5.alloc _=W6 at *
      have p0:=yS.out.pw.al
      have b00:=yS.out.f0
      have b10:=yS.out.f1
      have b20:=yS.out.f2
      have Qv:=yS.out.f3
      have om:=(yS.out.box (.tail _ (.tail _ (.tail _ (.tail _ (.head _)))))).facts
      go_upto_region 16 with (fail)
      have j_:=ħ (OW.setC_ (L1:=[(Kv,48,(ξ x An cn Ac cc Au cu)),(yM,48,ζ),(q9,34,κ)]) (L2:=[(w.heap.size,34,(χ t.c t.A t.k))]) yS.out 1 (ι id) (cs':=#[ι cr.call,ι id,ι cr.urg,.string cr.code,.slice A cr.nodes.length k,ι cr.dist,ι cr.since,.bool cr.closed]) (by simp))
      clear p0 b00 b10 b20 Qv om
      clear yS
      generalize World.setCell _ _ _=W7 at *
      have p0:=j_.out.pw.al
      have b00:=j_.out.f0
      have b10:=j_.out.f1
      have b20:=j_.out.f2
      have Qv:=j_.out.f3
      have om:=(j_.out.box (.tail _ (.tail _ (.tail _ (.tail _ (.head _)))))).facts
      refine yJ 7 (by kernel_rfl) (by kernel_rfl) (fun T hT=>?_)
      simp only[List.take_succ_cons,List.take_zero]
      repeat still_step
      refine wpStill_nil (hT _ ?_)
      clear hT T
      simp only[List.drop_succ_cons,List.drop_zero]
      go_upto_region 17 with (fail)
      have YY:=ħ (j_.out.putC (cr.call) (.agg #[ι cr.call,ι id,ι cr.urg,.string cr.code,.slice A cr.nodes.length k,ι cr.dist,ι cr.since,.bool cr.closed])).drew
      clear p0 b00 b10 b20 Qv om
      clear j_
      generalize (mput _ _ _ _ _).drew=W8 at *
      have p0:=YY.out.pw.al
      have b00:=YY.out.f0
      have b10:=YY.out.f1
      have b20:=YY.out.f2
      have Qv:=YY.out.f3
      have om:=(YY.out.box (.tail _ (.tail _ (.tail _ (.tail _ (.head _)))))).facts
      refine yJ 6 (by kernel_rfl) (by kernel_rfl) (fun T hT=>?_)
      simp only[List.take_succ_cons,List.take_zero]
      repeat still_step
      refine wpStill_nil (hT _ ?_)
      clear hT T
      simp only[List.drop_succ_cons,List.drop_zero]
      go_wp2
      go_ret
      have HN:=ħ (YY.out.putI id (.agg (ξ x An cn Ac cc Au cu))).drew
      clear p0 b00 b10 b20 Qv om
      rw[HE.out]
      generalize (mput _ _ _ _ _).drew=WF at *
      refine ⟨rfl,⟨_,_,_,HN.out.pw,?_,?_,?_⟩,HN.out.fr⟩
      ·have h1:=(HCM.out.fr HN.out.fr (fun k hk=>qh hk)).put J2 (j6 t.c id) A k (by have:=HN.out.rq (A:=A) (l:=cr.nodes) (.tail _ (.tail _ (.tail _ (.head _))));rw[Ud.out] at this;exact this)
       have e:=Ud.out
       subst e
       exact h1
      ·have h1:=(QS.out.fr HN.out.fr (fun k hk=>qh hk)).put hsL ⟨x,An,Ac,Au,cn,cc,cu⟩ ⟨HN.out.rq (.tail _ (.tail _ (.head _))),HN.out.rq (.tail _ (.head _)),HN.out.rq (.head _)⟩
       have e:=Ud.out
       have e2:=HX.out
       subst e e2
       exact h1
      ·have e:=Ud.out
       subst e
       exact Ba VN.out (fun y hy=>(Q8 QP.out) y hy) rfl
end Go.Proofs.YtdhcjhfgibmhfaaGreatDoor

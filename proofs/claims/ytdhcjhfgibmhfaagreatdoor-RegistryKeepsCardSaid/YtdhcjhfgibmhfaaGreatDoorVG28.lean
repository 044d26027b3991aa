import Derived.Test.YtdhcjhfgibmhfaaGreatDoorVG27
set_option linter.unusedVariables false
set_option linter.unusedSimpArgs false
set_option maxRecDepth 10000
set_option maxHeartbeats 8000000
namespace Go.Proofs.YtdhcjhfgibmhfaaGreatDoor
open Go.RowKit Go.Own Go.Quo Go.Inc
def Kp (C D:List Cr):Prop:=∀ t∈C,∃ u∈D,u.call=t.call∧u.since=t.since∧u.dist=t.dist∧(t.closed=true→u.closed=true)
theorem Kp.refl (C:List Cr):Kp C C:=fun t ht=>⟨t,ht,rfl,rfl,rfl,fun h=>h⟩
theorem Kp.trans {C D E:List Cr}(h:Kp C D)(k:Kp D E):Kp C E:=fun t ht=>by
 obtain ⟨u,hu,a1,a2,a3,a4⟩:=h t ht
 obtain ⟨v,hv,b1,b2,b3,b4⟩:=k u hu
 exact ⟨v,hv,b1.trans a1,b2.trans a2,b3.trans a3,fun h=>b4 (a4 h)⟩
theorem XP {C:List Cr}{t:Cr}(h:∀ y∈C,y.call=t.call→t.since=y.since∧t.dist=y.dist∧(y.closed=true→t.closed=true)):Kp C (zG C t):=fun y hy=>by
 by_cases e:y.call=t.call
 ·obtain ⟨h1,h2,h3⟩:=h y hy e
  exact ⟨t,qc.2 (.inl rfl),e.symm,h1,h2,h3⟩
 ·exact ⟨y,qc.2 (.inr ⟨hy,e⟩),rfl,rfl,rfl,fun h=>h⟩
theorem EW {C:List Cr}(f:Cr→Cr)(h:∀ y∈C,(f y).call=y.call∧(f y).since=y.since∧(f y).dist=y.dist∧(y.closed=true→(f y).closed=true)):Kp C (C.map f):=fun y hy=>by
 obtain ⟨h0,h1,h2,h3⟩:=h y hy
 exact ⟨f y,List.mem_map.2 ⟨y,hy,rfl⟩,h0,h1,h2,h3⟩
theorem XG (b:Bk)(id:Int){C:List Cr}(h:Kp C b.C):Kp C (qw b id).C:=by rw[kN];exact h
theorem oI {n:Nat}{b:Bk}(hG:Good n b)(a:Av):Kp b.C (jY b a).C:=by
 have hs:=zg.sC hG
 unfold jY
 split
 ·unfold qQ
  split
  ·exact Kp.refl _
  ·split
   ·exact Kp.refl _
   ·rename_i hc
    split
    ·exact Kp.refl _
    ·exact XP (fun y hy e=>absurd e (J4 hc y hy))
 ·split
  ·unfold qy
   split
   ·exact Kp.refl _
   ·split
    ·exact Kp.refl _
    ·rename_i hc
     split
     ·exact Kp.refl _
     ·split
      ·exact Kp.refl _
      ·split
       ·exact Kp.refl _
       ·exact XG _ _ (XP (fun y hy e=>absurd e (J4 hc y hy)))
  ·split
   ·unfold qR
    split
    ·exact Kp.refl _
    ·split
     ·exact Kp.refl _
     ·rename_i y hc
      split
      ·exact Kp.refl _
      ·split
       ·exact Kp.refl _
       ·refine XG _ _ (XP (fun z hz e=>?_))
        have e2:z=y:=qj Cr.call hs hz (yC hc).1 e
        rw[e2]
        exact ⟨rfl,rfl,fun h=>h⟩
   ·split
    ·unfold Z8
     split
     ·exact Kp.refl _
     ·rename_i y hc
      split
      ·exact Kp.refl _
      ·refine XP (fun z hz e=>?_)
       have e2:z=y:=qj Cr.call hs hz (yC hc).1 e
       rw[e2]
       exact ⟨rfl,rfl,fun h=>rfl⟩
    ·split
     ·unfold zM
      split
      ·exact Kp.refl _
      ·split
       ·split
        ·exact Kp.refl _
        ·split
         ·exact Kp.refl _
         ·exact XG _ _ (EW _ (fun y _=>⟨rfl,rfl,rfl,fun h=>h⟩))
       ·exact Kp.refl _
     ·split
      ·unfold zS
       split
       ·exact Kp.refl _
       ·split
        ·rename_i t _ hc _
         split
         ·exact Kp.refl _
         ·split
          ·exact Kp.refl _
          ·split
           ·exact Kp.refl _
           ·split
            ·exact Kp.refl _
            ·refine XG _ _ (XP (fun z hz e=>?_))
             have e2:z=t:=qj Cr.call hs hz (yC hc).1 e
             rw[e2]
             exact ⟨rfl,rfl,fun h=>h⟩
        ·exact Kp.refl _
      ·split
       ·unfold qN
        split
        ·exact Kp.refl _
        ·split
         ·exact Kp.refl _
         ·split
          ·exact Kp.refl _
          ·split
           ·split <;> exact Kp.refl _
           ·exact Kp.refl _
       ·split
        ·unfold qI
         split
         ·exact Kp.refl _
         ·split <;> exact Kp.refl _
        ·split
         ·unfold yI
          split
          ·exact Kp.refl _
          ·split
           ·exact Kp.refl _
           ·refine EW _ (fun y _=>⟨rfl,rfl,rfl,fun h=>?_⟩)
            exact V3 h
         ·exact Kp.refl _
theorem kP:∀ (l:List Av)(b:Bk)(n:Nat),Good n b→n+l.length+1≤1000→(∀ a∈l,a.t.c.nodes.length≤60)→Kp b.C (l.foldl jY b).C
 | [],b,n,_,_,_=>Kp.refl _
 | a :: l,b,n,h,hl,ha=>by
  simp only[List.length_cons] at hl
  exact (oI h a).trans (kP l (jY b a) (n+1) (kY h (by omega) (ha a (by simp))) (by omega) (fun x hx=>ha x (by simp[hx])))
theorem QK {l:List Av}(h:Qm l=true):(∀ a∈l,a.t.c.nodes.length≤60)∧l.length≤40:=by
 unfold Qm at h
 simp only[Bool.and_eq_true,decide_eq_true_eq,List.all_eq_true] at h
 refine ⟨fun a ha=>?_,h.2⟩
 have:=h.1 a ha
 unfold jU at this
 simp only[Bool.and_eq_true,decide_eq_true_eq] at this
 exact this.1
theorem AB {l:List Av}(h:Qm l=true):∀ a∈l,a.t.c.code.size≤100:=by
 unfold Qm at h
 simp only[Bool.and_eq_true,decide_eq_true_eq,List.all_eq_true] at h
 intro a ha
 have:=h.1 a ha
 unfold jU at this
 simp only[Bool.and_eq_true,decide_eq_true_eq] at this
 exact this.2
theorem keeps3 (l m:List Av)(A B:Option Addr)(c d:Nat)(w:World)(htb:jg w)(h1:Reads w (· < w.heap.size) 13 A l.length (l.flatMap Bd))(r1:∀ a∈l,RI w (· < w.heap.size) a.t.A a.t.c.nodes)(m1:l.length≤9223372036854775807)
 (h2:Reads w (· < w.heap.size) 13 B m.length (m.flatMap Bd)) (r2:∀ a∈m,RI w (· < w.heap.size) a.t.A a.t.c.nodes) (m2:m.length≤9223372036854775807) :
 Calls Tryz.prog 3 #[.slice A l.length c,.slice B m.length d] w (qX true w):=by
 have Yi:=ħ htb
 have rZ:=(h1.old (by omega)).more (B':=(· < w.heap.size)) (fun k hk=>hk.2)
 have Zt:=(h2.old (by omega)).more (B':=(· < w.heap.size)) (fun k hk=>hk.2)
 have LK:=ħ rZ
 have IG:=ħ Zt
 have Lf:=ħ (show ∀ a∈l,RI w (· < w.heap.size) a.t.A a.t.c.nodes from fun a ha=>((r1 a ha).old (by omega)).more (fun k hk=>hk.2))
 have wS:=ħ (show ∀ a∈m,RI w (· < w.heap.size) a.t.A a.t.c.nodes from fun a ha=>((r2 a ha).old (by omega)).more (fun k hk=>hk.2))
 have Pd:=Zt.plain (by omega)
 have Io:=ħ (And.intro m1 m2)
 clear h1 h2 r1 r2 htb rZ Zt
 cases hfm:Qm m with
 | false=>
  have fE:=ħ (show Calls Tryz.prog 11 #[.slice B m.length d] w (qX false w) from hfm ▸ uW _ B d m w IG.out Io.out.2)
  clear hfm m1 m2
  go_enter Tryz.func3,Tryz.ntmps3
  go_wp2_with (first
   | (go_at_call 12;((with_reducible refine pG.out.mono ?_);rintro e w2 ⟨rfl,hb⟩;have HB2:=ħ (HB1.out.trans (hb.mono HB1.out.size));clear hb))
   | (go_at_call 11;((with_reducible refine fE.out.mono ?_);rintro e w1 ⟨rfl,hb⟩;have HB1:=ħ hb;have pG:=ħ (UX w1 (Yi.out.below HB1.out Yi.out.lt));clear hb)))
  go_ret
  exact ⟨rfl,HB2.out⟩
 | true=>
  have fE:=ħ (show Calls Tryz.prog 11 #[.slice B m.length d] w (qX true w) from hfm ▸ uW _ B d m w IG.out Io.out.2)
  have CV:=ħ hfm
  clear hfm
  cases hfl:Qm l with
  | false=>
   have tF:=ħ fun (W:World) (hb:Below w.heap.size w W)=>FJ (· < w.heap.size) A c l W (LK.out.below hb (fun k hk=>hk)) Io.out.1 hfl
   clear hfl m1 m2
   go_enter Tryz.func3,Tryz.ntmps3
   go_upto_region 4 with (first
    | (go_at_call 11;((with_reducible refine fE.out.mono ?_);rintro e w1 ⟨rfl,hb⟩;have HB1:=ħ hb;have g_:=ħ (tF.out w1 hb);clear hb))
    | (go_at_call 13;((with_reducible refine g_.out.mono ?_);rintro e w2 ⟨rfl,hb⟩;have HB2:=ħ (HB1.out.trans (hb.mono HB1.out.size));clear hb)))
   have HB3:=ħ (HB2.out.alloc HB2.out.size (.cells #[.slice none 0 0,.slice none 0 0] 29))
   generalize w2.alloc _=W3 at *
   have pG:=ħ (UX W3 (Yi.out.below HB3.out Yi.out.lt))
   go_wp2_with (go_at_call 12;((with_reducible refine pG.out.mono ?_);rintro e w4 ⟨rfl,hb⟩;have Zp:=ħ (HB3.out.trans (hb.mono HB3.out.size));clear hb))
   go_ret
   exact ⟨rfl,Zp.out⟩
  | true=>
   have wy:=ħ hfl
   have tF:=ħ fun (W:World) (hb:Below w.heap.size w W)=>vM (· < w.heap.size) A c l W (LK.out.below hb (fun k hk=>hk)) (fun a ha=>(Lf.out a ha).below hb (fun k hk=>hk)) hfl (Yi.out.below hb Yi.out.lt)
   have sZ:=ħ (QK hfl)
   have iy:=ħ (QK CV.out)
   have O6:=(QK hfl).2
   have Og:=(QK CV.out).2
   clear hfl m1 m2
   go_enter Tryz.func3,Tryz.ntmps3
   go_upto_region 4 with (first
    | (go_at_call 11;((with_reducible refine fE.out.mono ?_);rintro e w1 ⟨rfl,hb⟩;have HB1:=ħ hb;have g_:=ħ (tF.out w1 hb);clear hb))
    | (go_at_call 13;((with_reducible refine g_.out.mono ?_);rintro e w2 ⟨p,mc,mi,mh,la,rfl,hbk,hpi,hbv,hpl,hb⟩;have HB2:=ħ (HB1.out.trans (hb.mono HB1.out.size));have o6:=ħ hbk;have oC:=ħ hpi;have oW:=ħ hbv;have hs1:=HB1.out.size;have XD:=ħ (show (w.heap.size≤p∧w.heap.size≤mc∧w.heap.size≤mi∧w.heap.size≤mh)∧(p<w2.heap.size∧mc<w2.heap.size∧mi<w2.heap.size∧mh<w2.heap.size) from ⟨by omega,hpi.lt⟩);clear hbk hpi hbv hpl hb hs1)))
   have qx:=ħ (zb.new w2 29 (β la))
   have HB3:=ħ (HB2.out.alloc HB2.out.size (.cells (β la) 29))
   have ah:=ħ (oC.out.alloc (.cells (β la) 29))
   obtain ⟨q6,dY⟩:∃ q,q=w2.heap.size:=⟨_,rfl⟩
   have oL:=ħ (show zX (w2.alloc (.cells (β la) 29)) (fun j=>Bq p mc mi mh j∧j≠q6) la from (oW.out.old.more (fun j hj=>⟨hj.1,by have:=hj.2;omega⟩)).alloc _)
   have Gy:=ħ (show w.heap.size≤q6 by rw[dY];exact HB2.out.size)
   rw[←dY] at qx XD⊢
   clear dY oC oW HB2
   generalize w2.alloc _=W3 at *
   go_wp2_with fail
   go_loopw [35] (fun vi wr=>∃ (k:Nat) (v:Bv),k≤m.length∧vi=ι (k:Int)∧v.bk=(m.take k).foldl jY (yU l)∧zb wr q6 29 (β v)∧PI wr p mc mi mh v.bk∧zX wr (fun j=>Bq p mc mi mh j∧j≠q6) v∧Below w.heap.size w wr) (fun vi _=>m.length - (intOf vi).toNat)
   case atStart=>exact ⟨0,la,Nat.zero_le _,rfl,o6.out,qx.out,by rw[o6.out];exact ah.out,oL.out,HB3.out⟩
   case round=>
    obtain ⟨k,v,hk,rfl,hbk,hx,hpi,hv,hb⟩:=hrel
    have Q0:=ħ hbk
    have HX:=ħ hx
    have YL:=ħ hpi
    have HV:=ħ hv
    have HB:=ħ hb
    clear hbk hx hpi hv hb qx ah oL HB3
    obtain ⟨x0,x1,x2⟩:=HX.out.facts
    by_cases hlt:k<m.length
    ·have hlt':(k:Int)<m.length:=by omega
     have hix:=fun W=>Aw Pd d k hlt W
     obtain ⟨a,ha⟩:∃ a,a=m[k]:=⟨_,rfl⟩
     have hr:wr.rangeAt (bk B) (qP B+k * 13) [ι a.kind,ι a.t.c.call,ι a.t.c.inc,ι a.t.c.urg,.string a.t.c.code,.slice a.t.A a.t.c.nodes.length a.t.k,ι a.t.c.dist,ι a.t.c.since,.bool a.t.c.closed,ι a.id,ι a.a,ι a.b,ι a.unit]:=by
      have:=Vh (IG.out.below HB.out (fun j hj=>hj)) hlt
      rw[←ha] at this;exact this
     have eU:a∈m:=by rw[ha];exact List.getElem_mem hlt
     have Xj:=ħ (show (m.take (k+1)).foldl jY (yU l)=jY ((m.take k).foldl jY (yU l)) a by rw[List.take_succ_eq_append_getElem hlt,List.foldl_append,ha];rfl)
     have Wx:=ħ (show Good (l.length+k) ((m.take k).foldl jY (yU l)) from by
      have h1:=Zj l (by omega) (fun a h=>(sZ.out.1 a h))
      have:=Qg (m.take k) (yU l) l.length h1 (by rw[List.length_take];omega) (fun a h=>(iy.out.1 a (List.mem_of_mem_take h)))
      rwa [List.length_take,Nat.min_eq_left hk] at this)
     have IV:=ħ (wS.out a eU)
     have bS:=ħ (And.intro (iy.out.1 a eU) (AB CV.out a eU))
     clear ha eU
     go_upto_region 9 with (refine wpList_load_mid rfl 36 _ rfl (bk B) (qP B+k * 13) rfl [ι a.kind,ι a.t.c.call,ι a.t.c.inc,ι a.t.c.urg,.string a.t.c.code,.slice a.t.A a.t.c.nodes.length a.t.k,ι a.t.c.dist,ι a.t.c.since,.bool a.t.c.closed,ι a.id,ι a.a,ι a.b,ι a.unit] _ hr Tryz.underlying36 rfl uH ?_)
     have Yy:=ħ (zb.new wr 36 (φ a))
     have jv:=ħ (HX.out.alloc (.cells (φ a) 36))
     have ZL:=ħ (YL.out.alloc (.cells (φ a) 36))
     have fV:=ħ (HV.out.alloc (.cells (φ a) 36))
     have Zp:=ħ (HB.out.alloc HB.out.size (.cells (φ a) 36))
     obtain ⟨q9,YF⟩:∃ q,q=wr.heap.size:=⟨_,rfl⟩
     rw[←YF] at Yy⊢
     clear YF hr x0 x1 x2 HX YL HV HB
     generalize wr.alloc _=W4 at *
     obtain ⟨x0,x1,x2⟩:=jv.out.facts
     obtain ⟨y0,y1,y2⟩:=Yy.out.facts
     have GG:=ħ (show Calls Tryz.prog 14 #[.pointer (some ⟨p,0,none⟩),.agg (β v),.agg (φ a)] W4 (Ff (fun j=>Bq p mc mi mh j∧j≠q6) (jY ((m.take k).foldl jY (yU l)) a) p mc mi mh W4) from
      EL p mc mi mh _ v a (l.length+k) W4 (Q0.out ▸ ZL.out) Q0.out (fun j=>Bq p mc mi mh j∧j≠q6) (fun j hj=>hj.1) (fun j hj=>by have h1:=XD.out;have h2:=jv.out.lt;unfold Bq;omega) fV.out Wx.out (by omega) (Yi.out.below Zp.out Yi.out.lt) ((IV.out.below Zp.out (fun j hj=>hj)).more (fun j hj=>by have:=XD.out;have h2:j<w.heap.size:=hj;have h4:=Gy.out;unfold Bq;omega)) (by have:=bS.out;omega) bS.out.1)
     go_upto_region 10 with (go_at_call 14;((with_reducible refine GG.out.mono ?_);rintro e w5 ⟨⟨lT,AL,cL,lc,AC,cC⟩,rfl,Ak,hv5,AU,uC⟩;have E_:=ħ Ak;have HV5:=ħ hv5;have ZJ:=ħ AU;have wD:=ħ uC;have jq:=ħ (jv.out.fr uC (by have:=XD.out;unfold Sq;omega));clear Ak hv5 AU uC x0 x1 x2 y0 y1 y2;obtain ⟨x0,x1,x2⟩:=jq.out.facts))
     obtain ⟨w6,Y3⟩:∃ W,W=(w5.setCell ⟨q6,0,none⟩ (.slice AL lT.length cL)).setCell ⟨q6,1,none⟩ (.slice AC lc.length cC):=⟨_,rfl⟩
     have jK:=((Fr.refl (fun j=>j=q6) w5).setCell (p:=⟨q6,0,none⟩) (.inl rfl) (.slice AL lT.length cL)).setCell (p:=⟨q6,1,none⟩) (.inl rfl) (.slice AC lc.length cC)
     have hx6:zb ((w5.setCell ⟨q6,0,none⟩ (.slice AL lT.length cL)).setCell ⟨q6,1,none⟩ (.slice AC lc.length cC)) q6 29 #[.slice AL lT.length cL,.slice AC lc.length cC]:=by
      have:=(jq.out.set_ 0 (.slice AL lT.length cL)).set_ 1 (.slice AC lc.length cC)
      simpa using this
     rw[←Y3] at jK hx6⊢
     clear Y3 x0 x1 x2
     have ZI:=ħ hx6
     have ZR:=ħ jK
     clear jK hx6
     go_wp2_with fail
     refine ⟨⟨k+1,⟨lT,AL,cL,lc,AC,cC⟩,by omega,by go_num,by rw[Xj.out];exact E_.out,ZI.out,?_,HV5.out.fr ZR.out (fun j hj e=>hj.2 e),?_⟩,by simp[intOf];omega⟩
     ·have e:(⟨lT,AL,cL,lc,AC,cC⟩:Bv).bk=jY ((m.take k).foldl jY (yU l)) a:=E_.out
      rw[e]
      exact ZJ.out.box jq.out (by have:=XD.out;unfold Bq;omega) ZR.out
     ·have h1:=Zp.out.trans (wD.out.below Zp.out.size (fun j hj e=>by have:=XD.out;unfold Sq at e;omega))
      exact h1.trans (ZR.out.below h1.size (fun j hj e=>by have e2:j=q6:=e;have:=Gy.out;omega))
    ·have hlt':¬ (k:Int)<m.length:=by omega
     have hk3:k=m.length:=by omega
     subst hk3
     rw[List.take_length] at Q0
     clear x0 x1 x2
     obtain ⟨bF,tQ⟩:∃ b,b=m.foldl jY (yU l):=⟨_,rfl⟩
     have Od:=ħ (show PI wr p mc mi mh bF by rw[tQ,←Q0.out];exact YL.out)
     have MC:=ħ (show Good (l.length+m.length) bF from by
      rw[tQ]
      exact Qg m (yU l) l.length (Zj l (by omega) (fun a h=>(sZ.out.1 a h))) (by omega) (fun a h=>(iy.out.1 a h)))
     have Nq:=ħ (show Kp (yU l).C bF.C from by
      rw[tQ]
      exact kP m (yU l) l.length (Zj l (by omega) (fun a h=>(sZ.out.1 a h))) (by omega) (fun a h=>(iy.out.1 a h)))
     have IZ:=ħ (tF.out wr HB.out)
     clear tQ YL HV HX
     go_upto_region 12 with (go_at_call 13;((with_reducible refine IZ.out.mono ?_);rintro e w7 ⟨p2,Py,Po,Pz,v2,rfl,hbk,hpi,hbv,hpl,hb⟩;have Z7:=ħ (HB.out.trans (hb.mono HB.out.size));have o7:=ħ hbk;have Ld:=ħ (Od.out.below hb);have CY:=ħ hbv;clear hbk hpi hbv hpl hb))
     have BG:=ħ (zb.new w7 29 (β v2))
     have Jy:=ħ (Z7.out.alloc Z7.out.size (.cells (β v2) 29))
     have wH:=ħ (Ld.out.alloc (.cells (β v2) 29))
     have oz:=ħ (CY.out.alloc (.cells (β v2) 29))
     generalize w7.alloc _=W8 at *
     obtain ⟨x0,x1,x2⟩:=BG.out.facts
     have hpc:=oz.out.rc.plain (by omega)
     have tX:=ħ ((oz.out.rc.old (by omega)).more (B':=fun k=>k<W8.heap.size) (fun k hk=>hk.2))
     have hlc:v2.lc.length≤100:=by
      have h1:=zg.nC (Zj l (by omega) (fun a h=>(sZ.out.1 a h)))
      rw[←o7.out] at h1
      unfold Bv.bk at h1
      rw[List.length_map] at h1
      omega
     go_wp2_with fail
     clear x0 x1 x2
     go_loopw [58] (fun vi wr=>∃ (k:Nat),k≤v2.lc.length∧vi=ι (k:Int)∧PI wr p mc mi mh bF∧Below W8.heap.size W8 wr) (fun vi _=>v2.lc.length - (intOf vi).toNat)
     case atStart=>exact ⟨0,Nat.zero_le _,rfl,wH.out,Below.refl _ _⟩
     case round=>
      obtain ⟨k,hk,rfl,M0,hb⟩:=hrel
      have NJ:=ħ M0
      have XJ:=ħ hb
      clear M0 hb
      by_cases hlt2:k<v2.lc.length
      ·have rF:(k:Int)<v2.lc.length:=by omega
       have hix:=fun W=>UC hpc v2.cC k hlt2 W
       obtain ⟨⟨t,At,kt⟩,ht⟩:∃ t,t=v2.lc[k]:=⟨_,rfl⟩
       have hr:wr.rangeAt (bk v2.AC) (qP v2.AC+k * 8) [ι t.call,ι t.inc,ι t.urg,.string t.code,.slice At t.nodes.length kt,ι t.dist,ι t.since,.bool t.closed]:=by
        have:=QB (tX.out.below XJ.out (fun j hj=>hj)) hlt2
        rw[←ht] at this;exact this
       have Ko:t∈(yU l).C:=by
        rw[←o7.out]
        exact List.mem_map.2 ⟨⟨t,At,kt⟩,by rw[ht];exact List.getElem_mem hlt2,rfl⟩
       obtain ⟨u,hu,u1,u2,u3,u4⟩:=Nq.out t Ko
       have hcp:Jz bF t.call=(u,true):=by
        unfold Jz
        rw[←u1,show yP bF.C u.call=some u from yR Cr.call (zg.sC MC.out) hu]
       have tT:=ħ u4
       go_upto_region 17 with (refine wpList_load_mid rfl 34 _ rfl (bk v2.AC) (qP v2.AC+k * 8) rfl [ι t.call,ι t.inc,ι t.urg,.string t.code,.slice At t.nodes.length kt,ι t.dist,ι t.since,.bool t.closed] _ hr Tryz.underlying34 rfl jN ?_)
       have fM:=ħ (zb.new wr 34 (χ t At kt))
       have Z_:=ħ (XJ.out.alloc XJ.out.size (.cells (χ t At kt) 34))
       have eu:=ħ (NJ.out.alloc (.cells (χ t At kt) 34))
       obtain ⟨Ph,pV⟩:∃ q,q=wr.heap.size:=⟨_,rfl⟩
       rw[←pV] at fM⊢
       clear pV hr
       generalize wr.alloc _=W9 at *
       obtain ⟨x0,x1,x2⟩:=fM.out.facts
       have BU:=ħ (show Calls Tryz.prog 15 #[.pointer (some ⟨p,0,none⟩),ι t.call] W9 (fun e w'=>∃ (Au:Option Addr) (ku:Nat),e=.returned (.tuple #[.agg #[ι u.call,ι u.inc,ι u.urg,.string u.code,.slice Au u.nodes.length ku,ι t.dist,ι t.since,.bool u.closed],.bool true])∧Below W9.heap.size W9 w') from by
        have h1:=iT p mc mi mh bF t.call W9 eu.out (fun x hx=>(zg.vC MC.out x hx).2)
        rw[hcp] at h1
        refine h1.mono ?_
        rintro e w' ⟨Au,ku,rfl,ho,hb⟩
        refine ⟨Au,ku,?_,hb⟩
        rw[←u2,←u3]
        rfl)
       clear Ko hu u1 u2 u3 u4 hcp ht
       go_upto_region 18 with (go_at_call 15;((with_reducible refine BU.out.mono ?_);rintro e VT ⟨Au,ku,rfl,hb⟩;have vK:=ħ (fM.out.below hb fM.out.lt);have EI:=ħ (Z_.out.trans (hb.mono Z_.out.size));have mG:=ħ (eu.out.below hb);clear hb x0 x1 x2))
       have oF:=ħ (zb.new VT 34 #[ι u.call,ι u.inc,ι u.urg,.string u.code,.slice Au u.nodes.length ku,ι t.dist,ι t.since,.bool u.closed])
       have wU:=ħ (vK.out.alloc (.cells #[ι u.call,ι u.inc,ι u.urg,.string u.code,.slice Au u.nodes.length ku,ι t.dist,ι t.since,.bool u.closed] 34))
       have EA:=ħ (EI.out.alloc EI.out.size (.cells #[ι u.call,ι u.inc,ι u.urg,.string u.code,.slice Au u.nodes.length ku,ι t.dist,ι t.since,.bool u.closed] 34))
       have aM:=ħ (mG.out.alloc (.cells #[ι u.call,ι u.inc,ι u.urg,.string u.code,.slice Au u.nodes.length ku,ι t.dist,ι t.since,.bool u.closed] 34))
       obtain ⟨Ea,Qw⟩:∃ q,q=VT.heap.size:=⟨_,rfl⟩
       rw[←Qw] at oF⊢
       clear Qw
       generalize VT.alloc _=W11 at *
       obtain ⟨x0,x1,x2⟩:=wU.out.facts
       obtain ⟨y0,y1,y2⟩:=oF.out.facts
       cases htc:t.closed with
       | false=>
        unfold χ at x1
        rw[htc] at x1
        clear htc
        go_wp2_with fail
        exact ⟨⟨k+1,by omega,by go_num,aM.out,EA.out⟩,by simp[intOf];omega⟩
       | true=>
        have huc:=tT.out htc
        unfold χ at x1
        rw[htc] at x1
        rw[huc] at y1
        clear htc huc
        go_wp2_with fail
        exact ⟨⟨k+1,by omega,by go_num,aM.out,EA.out⟩,by simp[intOf];omega⟩
      ·have rF:¬ (k:Int)<v2.lc.length:=by omega
       have mW:=ħ (Jy.out.trans (XJ.out.mono Jy.out.size))
       have pG:=ħ (UX wr (Yi.out.below mW.out Yi.out.lt))
       go_wp2_with (go_at_call 12;((with_reducible refine pG.out.mono ?_);rintro e w12 ⟨rfl,hb⟩;have aJ:=ħ (mW.out.trans (hb.mono mW.out.size));clear hb))
       go_ret
       exact ⟨rfl,aJ.out⟩
end Go.Proofs.YtdhcjhfgibmhfaaGreatDoor

import Derived.Test.YtdhcjhfgibmhfaaGreatDoorJPr16
set_option linter.unusedVariables false
set_option linter.unusedSimpArgs false
set_option maxRecDepth 10000
set_option maxHeartbeats 8000000
namespace Go.Proofs.YtdhcjhfgibmhfaaGreatDoor
open Go.RowKit Go.Own Go.Quo Go.Inc
def jS (kh:List (Int × Value))(us:List Int)(v:Value):List (Int × Value):=us.foldl (fun kh u=>yg kh u v) kh
theorem xg (kh:List (Int × Value))(us:List Int)(v:Value){k:Nat}(hk:k<us.length):jS kh (us.take (k+1)) v=yg (jS kh (us.take k) v) us[k] v:=by
 unfold jS
 rw[List.take_succ_eq_append_getElem hk,List.foldl_append]
 rfl
theorem VA:∀ (us:List Int)(kh:List (Int × Value))(v:Value),(kh.map (·.1)).Nodup→((jS kh us v).map (·.1)).Nodup∧∀ u,zn (jS kh us v) u=if u∈us then some v else zn kh u
 | [],kh,v,h=>⟨h,fun u=>by simp[jS]⟩
 | a :: us,kh,v,h=>by
  obtain ⟨h1,h2⟩:=VA us (yg kh a v) v (Qc h a v)
  refine ⟨h1,fun u=>?_⟩
  show zn (jS (yg kh a v) us v) u=_
  rw[h2,Zk]
  by_cases e1:u∈us
  ·rw[if_pos e1,if_pos (List.mem_cons_of_mem _ e1)]
  ·rw[if_neg e1]
   by_cases e2:u=a
   ·rw[if_pos e2,if_pos (by rw[e2];exact List.mem_cons_self)]
   ·rw[if_neg e2,if_neg (by rw[List.mem_cons];exact fun h=>h.elim e2 e1)]
theorem Em {kh:List (Int × Value)}{L:List Ic}(h:HM kh L)(hs:Asc Ic.id L){x y y2:Ic}{into:Int}(hx:x∈L)(hy:y∈L)(hyi:y.id=into)(hne:x.id≠into)(h2:y2.id=into)(hm:∀ u,u∈y2.units↔(u∈x.units∨u∈y.units))
 (hun:∀ z∈L,∀ u,u∈x.units→u∈z.units→x.id=z.id):HM (jS kh x.units (ι into)) (zz (zz L (qz x into)) y2):=by
 obtain ⟨k1,k2⟩:=VA x.units kh (ι into) h.nd
 refine ⟨k1,fun z hz u hu=>?_,fun u hu=>?_⟩
 ·rw[k2]
  rcases zK.1 hz with rfl | ⟨g1,g2⟩
  ·rw[h2]
   by_cases e:u∈x.units
   ·rw[if_pos e]
   ·rw[if_neg e]
    rcases (hm u).1 hu with e2 | e2
    ·exact absurd e2 e
    ·rw[h.at_ y hy u e2,hyi]
  ·rcases zK.1 g1 with rfl | ⟨g3,g4⟩
   ·have:u∈([]:List Int):=hu
    simp at this
   ·have g5:z.id≠x.id:=g4
    rw[if_neg (fun e=>g5 (hun z g3 u e hu).symm)]
    exact h.at_ z g3 u hu
 ·have hin:y2∈zz (zz L (qz x into)) y2:=zK.2 (.inl rfl)
  have hnx:u∉x.units:=fun e=>hu y2 hin ((hm u).2 (.inl e))
  rw[k2,if_neg hnx]
  refine h.no u (fun z hz hzu=>?_)
  by_cases e:z.id=into
  ·have e2:z=y:=qj Ic.id hs hz hy (by rw[e,hyi])
   exact hu y2 hin ((hm u).2 (.inr (e2 ▸ hzu)))
  ·by_cases e3:z.id=x.id
   ·have e4:z=x:=qj Ic.id hs hz hx e3
    exact hnx (e4 ▸ hzu)
   ·exact hu z (zK.2 (.inr ⟨zK.2 (.inr ⟨hz,e3⟩),by rw[h2];exact e⟩)) hzu
theorem D_ {C:List Cr}(h:Asc Cr.call C){id into:Int}(hne:id≠into):(qB C into ++ (qB C id).map (fun t:Cr=>{ t with inc:=into })).Perm (qB (C.map (moveC id into)) into):=by
 have hm:Asc Cr.call (C.map (moveC id into)):=Qe Cr.call h _ (fun x _=>rfl)
 have nA:∀ {l:List Cr},Asc Cr.call l→l.Nodup:=fun h=>h.imp (fun h e=>by rw[e] at h;omega)
 have n2:((qB C id).map (fun t:Cr=>{ t with inc:=into })).Nodup:=nA (Qe Cr.call (qi h id) _ (fun x _=>rfl))
 have n1:(qB C into ++ (qB C id).map (fun t:Cr=>{ t with inc:=into })).Nodup:=by
  rw[List.nodup_append]
  refine ⟨nA (qi h into),n2,fun a ha c hc e=>?_⟩
  obtain ⟨t,ht,rfl⟩:=List.mem_map.1 hc
  obtain ⟨h1,h2⟩:=zo.1 ha
  obtain ⟨h3,h4⟩:=zo.1 ht
  have e2:a=t:=qj Cr.call h h1 h3 (by rw[e])
  exact hne (by rw[←h4,←e2];exact h2)
 rw[List.perm_ext_iff_of_nodup n1 (nA (qi hm into))]
 intro u
 rw[List.mem_append,List.mem_map,zo,zo,List.mem_map]
 constructor
 ·rintro (⟨h1,h2⟩ | ⟨t,ht,rfl⟩)
  ·exact ⟨⟨u,h1,ym (by rw[h2];exact fun e=>hne e.symm)⟩,h2⟩
  ·obtain ⟨h1,h2⟩:=zo.1 ht
   refine ⟨⟨t,h1,?_⟩,rfl⟩
   unfold moveC Zv
   simp[h2]
 ·rintro ⟨⟨t,ht,rfl⟩,hi⟩
  by_cases e:t.inc=id
  ·refine .inr ⟨t,zo.2 ⟨ht,e⟩,?_⟩
   unfold moveC Zv
   simp[e]
  ·rw[ym e] at hi⊢
   exact .inl ⟨ht,hi⟩
theorem ut {L:List Ic}(h:Asc Ic.id L){y z:Ic}(e:y.id=z.id):zz (zz L y) z=zz L z:=by
 refine QW Ic.id (zN Ic.id (zN Ic.id h y) z) (zN Ic.id h z) (fun u=>?_)
 show u∈zz (zz L y) z↔u∈zz L z
 rw[zK,zK,zK]
 constructor
 ·rintro (h1 | ⟨h1 | ⟨h1,h2⟩,h3⟩)
  ·exact .inl h1
  ·rw[h1] at h3;exact absurd e h3
  ·exact .inr ⟨h1,h3⟩
 ·rintro (h1 | ⟨h1,h2⟩)
  ·exact .inl h1
  ·exact .inr ⟨.inr ⟨h1,by rw[e];exact h2⟩,h2⟩
theorem EN {p mc mi mh:Nat}{kc ki kh:List (Int × Value)}{w W w2:World}{L:List (Nat × TypeId × Array Value)}{R:List (Option Addr × List Int)}{e:Ending}(ho:OW w W p mc mi mh kc ki kh L R){C:List Cr}{Li:List Ic}(hcm:CM W (Bq p mc mi mh) kc C)(him:IM W (Bq p mc mi mh) ki Li)(hs:Asc Ic.id Li)
 {x z:Ic} {cs:List Cr} (hr:Qk p mc mi mh kc ki kh x cs W e w2) (ha:qF x cs=(qD x z,0)) (hhm:HM kh (zz Li (qD x z))) :
 PI w2 p mc mi mh ⟨zz Li (qD x z),C⟩∧Fr (Sq p mc mi mh) w w2:=by
 obtain ⟨rfl,hf,hif⟩:=hr
 rw[ha,if_pos rfl] at hif
 obtain ⟨a,hax,hpw,mI⟩:=hif
 have hax:a.x=qD x z:=hax
 have hne:∀ k,Bq p mc mi mh k→¬ k=mi:=fun k hk=>hk.2.2.1
 refine ⟨⟨_,_,_,hpw,hcm.fr hf hne,?_,hhm⟩,ho.fr.trans (hf.mono (fun k _ e=>.inr (.inr (.inl e))))⟩
 have h1:=(him.fr hf hne).put hs a (mI.more (fun k hk=>ho.pw.fresh hk))
 rw[hax] at h1
 exact h1
section
variable {b:Bk} {id into:Int} {x y:Ic}
theorem aK (h:id=into):zM b id into=(b,1):=by unfold zM;rw[if_pos h]
theorem Bj (h:¬ id=into)(h1:zw b.L id=none):zM b id into=(b,4):=by unfold zM;rw[if_neg h,h1]
theorem Bi (h:¬ id=into)(h1:zw b.L id=some x)(h2:zw b.L into=none):zM b id into=(b,4):=by unfold zM;rw[if_neg h,h1,h2]
theorem uM (h:¬ id=into)(h1:zw b.L id=some x)(h2:zw b.L into=some y)(h3:zx x=false∨zx y=false):zM b id into=(b,8):=by unfold zM;rw[if_neg h,h1,h2];dsimp only;rw[if_pos h3]
theorem bD (h:¬ id=into)(h1:zw b.L id=some x)(h2:zw b.L into=some y)(h3:¬ (zx x=false∨zx y=false))(h4:1000<x.calls.length+y.calls.length):zM b id into=(b,3):=by unfold zM;rw[if_neg h,h1,h2];dsimp only;rw[if_neg h3,if_pos h4]
theorem az (h:¬ id=into)(h1:zw b.L id=some x)(h2:zw b.L into=some y)(h3:¬ (zx x=false∨zx y=false))(h4:¬ 1000<x.calls.length+y.calls.length):zM b id into=(qw ⟨zz (zz b.L (qz x into)) { y with units:=qp x.units y.units },b.C.map (moveC id into)⟩ into,0):=by unfold zM;rw[if_neg h,h1,h2];dsimp only;rw[if_neg h3,if_neg h4]
end
theorem xE (p mc mi mh:Nat)(b:Bk)(id into:Int)(n:Nat)(w:World)(h:PI w p mc mi mh b)(hG:Good n b)(hn:n≤1000)(htb:jg w) :
 Calls Tryz.prog 17 #[.pointer (some ⟨p,0,none⟩),ι id,ι into] w (Ji (zM b id into) p mc mi mh w):=by
 have J2:=zg.sC hG
 have hsL:=zg.sL hG
 obtain ⟨kc,ki,kh,hw,hc,hi,hh⟩:=h
 have HCM:=ħ hc
 have QS:=ħ hi
 have VN:=ħ hh
 have FW:=ħ hw
 have HFin:=ħ fun (r:Int) (W:World) (L:List (Nat × TypeId × Array Value)) (R:List (Option Addr × List Int)) (ho:OW w W p mc mi mh kc ki kh L R) (hr:zM b id into=(b,r))=>(show Ji (zM b id into) p mc mi mh w (.returned (ι r)) W from ⟨by rw[hr],by rw[hr];exact ho.same hc hi hh,ho.fr⟩)
 have HG:=ħ hG
 have Yi:=ħ htb
 have zD:=ħ (OW.new hw)
 clear hc hi hh hG htb
 by_cases hne:id=into
 ·have HE:=ħ (aK (b:=b) hne)
  subst hne
  clear hw
  go_enter Tryz.func17,Tryz.ntmps17
  have p0:=zD.out.pw.al
  go_wp2_with fail
  go_ret
  exact HFin.out 1 _ _ _ zD.out HE.out
 ·have VV:=ħ hne
  have d1:(id == into)=false:=by simpa using hne
  clear hne
  rcases qU QS.out id with ⟨a,hg,hk,hr⟩ | ⟨hg,hk⟩
  ·have XB:=ħ hg
   have HR:=ħ hr
   have KU:=yG (w:=w) (mi:=mi) id (show (zn ki id).getD (.agg ζ)=.agg (ξ a.x a.An a.cn a.Ac a.cc a.Au a.cu) by rw[hk];rfl) (show (zn ki id).isSome=true by simp[hk])
   clear hg hk hr
   rcases qU QS.out into with ⟨d,hg,hk,hr⟩ | ⟨hg,hk⟩
   ·have xY:=ħ hg
    have tq:=ħ hr
    have hlj:=yG (w:=w) (mi:=mi) into (show (zn ki into).getD (.agg ζ)=.agg (ξ d.x d.An d.cn d.Ac d.cc d.Au d.cu) by rw[hk];rfl) (show (zn ki into).isSome=true by simp[hk])
    have hlx:=(yO (zg.vL HG.out a.x (zi XB.out).1).1)
    have wR:=(yO (zg.vL HG.out d.x (zi hg).1).1)
    have wK:=hlx.2.1
    have IE:=wR.2.1
    have OX:=hlx.2.2
    have NR:=wR.2.2
    clear hg hk hr hlx wR
    cases ho:zx a.x with
    | false=>
     have HE:=ħ (uM VV.out XB.out xY.out (.inl ho))
     have YC:=ħ (yB a false ho)
     clear ho hw
     go_enter Tryz.func17,Tryz.ntmps17
     have p0:=zD.out.pw.al
     go_upto_region 4 with (fail)
     have zu:=ħ (zD.out.alloc 48 (ξ a.x a.An a.cn a.Ac a.cc a.Au a.cu))
     obtain ⟨q7,yZ⟩:∃ q,q=w.heap.size:=⟨_,rfl⟩
     rw[←yZ] at zu⊢
     clear p0
     clear yZ zD
     generalize w.alloc _=W1 at *
     have p0:=zu.out.pw.al
     have b00:=zu.out.f0
     go_upto_region 5 with (fail)
     have zk:=ħ (zu.out.alloc 48 (ξ d.x d.An d.cn d.Ac d.cc d.Au d.cu))
     obtain ⟨q9,YF⟩:∃ q,q=W1.heap.size:=⟨_,rfl⟩
     rw[←YF] at zk⊢
     clear p0 b00
     clear YF zu
     generalize W1.alloc _=W2 at *
     have p0:=zk.out.pw.al
     have b00:=zk.out.f0
     have b10:=zk.out.f1
     go_wp2_with (go_at_call 56;((with_reducible refine (YC.out _).mono ?_);rintro e w3 ⟨rfl,hb⟩;have zC:=ħ (zk.out.below hb);clear hb;clear p0 b00 b10;have p0:=zC.out.pw.al;have b00:=zC.out.f0;have b10:=zC.out.f1))
     go_ret
     exact HFin.out 8 _ _ _ zC.out HE.out
    | true=>
     cases hp:zx d.x with
     | false=>
      have HE:=ħ (uM VV.out XB.out xY.out (.inr hp))
      have YC:=ħ (yB a true ho)
      have TZ:=ħ (yB d false hp)
      clear ho hp hw
      go_enter Tryz.func17,Tryz.ntmps17
      have p0:=zD.out.pw.al
      go_upto_region 4 with (fail)
      have zu:=ħ (zD.out.alloc 48 (ξ a.x a.An a.cn a.Ac a.cc a.Au a.cu))
      obtain ⟨q7,yZ⟩:∃ q,q=w.heap.size:=⟨_,rfl⟩
      rw[←yZ] at zu⊢
      clear p0
      clear yZ zD
      generalize w.alloc _=W1 at *
      have p0:=zu.out.pw.al
      have b00:=zu.out.f0
      go_upto_region 5 with (fail)
      have zk:=ħ (zu.out.alloc 48 (ξ d.x d.An d.cn d.Ac d.cc d.Au d.cu))
      obtain ⟨q9,YF⟩:∃ q,q=W1.heap.size:=⟨_,rfl⟩
      rw[←YF] at zk⊢
      clear p0 b00
      clear YF zu
      generalize W1.alloc _=W2 at *
      have p0:=zk.out.pw.al
      have b00:=zk.out.f0
      have b10:=zk.out.f1
      go_wp2_with (first | (go_at_call 56;((with_reducible refine (YC.out _).mono ?_);rintro e w3 ⟨rfl,hb⟩;have zC:=ħ (zk.out.below hb);clear hb;clear p0 b00 b10;have p0:=zC.out.pw.al;have b00:=zC.out.f0;have b10:=zC.out.f1)) | (go_at_call 56;((with_reducible refine (TZ.out _).mono ?_);rintro e w4 ⟨rfl,hb⟩;have zP:=ħ (zC.out.below hb);clear hb;clear p0 b00 b10;have p0:=zP.out.pw.al;have b00:=zP.out.f0;have b10:=zP.out.f1)))
      go_ret
      exact HFin.out 8 _ _ _ zP.out HE.out
     | true=>
      have kI:=ħ (show ¬ (zx a.x=false∨zx d.x=false) from by rw[ho,hp];simp)
      have YC:=ħ (yB a true ho)
      have TZ:=ħ (yB d true hp)
      have Br:=ħ (And.intro ho hp)
      clear ho hp
      by_cases hl:1000<a.x.calls.length+d.x.calls.length
      ·have HE:=ħ (bD VV.out XB.out xY.out kI.out hl)
       have hl2:(a.x.calls.length:Int)+(d.x.calls.length:Int) > 1000:=by omega
       clear hl hw
       go_enter Tryz.func17,Tryz.ntmps17
       have p0:=zD.out.pw.al
       go_upto_region 4 with (fail)
       have zu:=ħ (zD.out.alloc 48 (ξ a.x a.An a.cn a.Ac a.cc a.Au a.cu))
       obtain ⟨q7,yZ⟩:∃ q,q=w.heap.size:=⟨_,rfl⟩
       rw[←yZ] at zu⊢
       clear p0
       clear yZ zD
       generalize w.alloc _=W1 at *
       have p0:=zu.out.pw.al
       have b00:=zu.out.f0
       go_upto_region 5 with (fail)
       have zk:=ħ (zu.out.alloc 48 (ξ d.x d.An d.cn d.Ac d.cc d.Au d.cu))
       obtain ⟨q9,YF⟩:∃ q,q=W1.heap.size:=⟨_,rfl⟩
       rw[←YF] at zk⊢
       clear p0 b00
       clear YF zu
       generalize W1.alloc _=W2 at *
       have p0:=zk.out.pw.al
       have b00:=zk.out.f0
       have b10:=zk.out.f1
       go_wp2_with (first | (go_at_call 56;((with_reducible refine (YC.out _).mono ?_);rintro e w3 ⟨rfl,hb⟩;have zC:=ħ (zk.out.below hb);clear hb;clear p0 b00 b10;have p0:=zC.out.pw.al;have b00:=zC.out.f0;have b10:=zC.out.f1)) | (go_at_call 56;((with_reducible refine (TZ.out _).mono ?_);rintro e w4 ⟨rfl,hb⟩;have zP:=ħ (zC.out.below hb);clear hb;clear p0 b00 b10;have p0:=zP.out.pw.al;have b00:=zP.out.f0;have b10:=zP.out.f1)))
       go_ret
       exact HFin.out 3 _ _ _ zP.out HE.out
      ·have HE:=ħ (az VV.out XB.out xY.out kI.out hl)
       have hl2:¬ (a.x.calls.length:Int)+(d.x.calls.length:Int) > 1000:=by omega
       have P5:=ħ hl
       obtain ⟨O,hO⟩:∃ O,O=qB b.C id:=⟨_,rfl⟩
       have mM:=ħ hO
       have UR:=ħ (show a.x.calls=O.map Cr.call by rw[hO,←(zi XB.out).2];exact Good.cs HG.out a.x (zi XB.out).1)
       have NH:=ħ (show d.x.calls=(qB b.C into).map Cr.call by rw[←(zi xY.out).2];exact Good.cs HG.out d.x (zi xY.out).1)
       have r9:=ħ (show a.x.calls.length=O.length by rw[UR.out,List.length_map])
       have bL:=ħ (show ∀ t∈O,t∈b.C by rw[hO];exact fun t ht=>(zo.1 ht).1)
       have aA:=ħ (show (O.map Cr.call).Nodup by rw[hO];exact jm Cr.call (qi J2 id))
       have hpc:=HR.out.c.plain (by omega)
       have mJ:=HR.out.u.plain (by omega)
       obtain ⟨U,hU⟩:∃ U,U=d.x.units ++ a.x.units:=⟨_,rfl⟩
       obtain ⟨NC,MN⟩:∃ N,N=d.x.calls ++ a.x.calls:=⟨_,rfl⟩
       have O5:=ħ hU
       have gL:=ħ MN
       have PH:U.length≤600:=by rw[hU,List.length_append];omega
       have MV:=ħ (show Ya U=qp a.x.units d.x.units from by
        have k1:=yE (zg.vL HG.out a.x (zi XB.out).1).1
        have k2:=yE (zg.vL HG.out d.x (zi xY.out).1).1
        refine DR ?_ (fun v=>by rw[hU,List.mem_append];exact Or.comm) (fun v hv=>?_)
        ·rw[hU,List.nodup_append]
         refine ⟨k2.1.imp (fun h=>by omega),k1.1.imp (fun h=>by omega),fun x hx y hy e=>?_⟩
         have:=zg.un HG.out a.x (zi XB.out).1 d.x (zi xY.out).1 x (by rw[e];exact hy) hx
         rw[(zi XB.out).2,(zi xY.out).2] at this
         exact VV.out this
        ·rw[hU] at hv
         rcases List.mem_append.1 hv with h | h
         ·exact k2.2 v h
         ·exact k1.2 v h)
       have mK:=ħ (show ∃ z,qF { d.x with units:=qp a.x.units d.x.units } (qB (b.C.map (moveC id into)) into)=(qD { d.x with units:=qp a.x.units d.x.units } z,0)∧jC { d.x with units:=qp a.x.units d.x.units }=true from by
        obtain ⟨k1,k2,k3⟩:=Yr HG.out VV.out XB.out xY.out Br.out.1 Br.out.2
        obtain ⟨z,-,hz,-⟩:=jH (id:=into) k1 hn k2 Br.out.2 k3
        exact ⟨z,hz,(zg.vL k1 _ (zi k2).1).1⟩)
       clear hl hO hU MN
       go_enter Tryz.func17,Tryz.ntmps17
       have p0:=zD.out.pw.al
       go_upto_region 4 with (fail)
       have zu:=ħ (zD.out.alloc 48 (ξ a.x a.An a.cn a.Ac a.cc a.Au a.cu))
       obtain ⟨q7,yZ⟩:∃ q,q=w.heap.size:=⟨_,rfl⟩
       rw[←yZ] at zu⊢
       clear p0
       clear yZ zD
       generalize w.alloc _=W1 at *
       have p0:=zu.out.pw.al
       have b00:=zu.out.f0
       go_upto_region 5 with (fail)
       have zk:=ħ (zu.out.alloc 48 (ξ d.x d.An d.cn d.Ac d.cc d.Au d.cu))
       obtain ⟨q9,YF⟩:∃ q,q=W1.heap.size:=⟨_,rfl⟩
       rw[←YF] at zk⊢
       clear p0 b00
       clear YF zu
       generalize W1.alloc _=W2 at *
       have p0:=zk.out.pw.al
       have b00:=zk.out.f0
       have b10:=zk.out.f1
       go_upto_region 11 with (first | (go_at_call 56;((with_reducible refine (YC.out _).mono ?_);rintro e w3 ⟨rfl,hb⟩;have zC:=ħ (zk.out.below hb);clear hb;clear p0 b00 b10;have p0:=zC.out.pw.al;have b00:=zC.out.f0;have b10:=zC.out.f1)) | (go_at_call 56;((with_reducible refine (TZ.out _).mono ?_);rintro e w4 ⟨rfl,hb⟩;have zP:=ħ (zC.out.below hb);clear hb;clear p0 b00 b10;have p0:=zP.out.pw.al;have b00:=zP.out.f0;have b10:=zP.out.f1)))
       go_wp2_with fail
       clear p0 b00 b10
       go_loopw [63] (fun vi wr=>∃ (k:Nat) (Uc:List (Int × Value)),k≤O.length∧vi=ι (k:Int)∧OW w wr p mc mi mh Uc ki kh [(q9,48,(ξ d.x d.An d.cn d.Ac d.cc d.Au d.cu)),(q7,48,(ξ a.x a.An a.cn a.Ac a.cc a.Au a.cu))] []∧CM w (Bq p mc mi mh) Uc (y_ (fun t:Cr=>{ t with inc:=into }) b.C (O.take k))) (fun vi _=>O.length - (intOf vi).toNat)
       case atStart=>exact ⟨0,kc,Nat.zero_le _,rfl,zP.out,HCM.out⟩
       case round=>
        clear zP
        obtain ⟨k,Uc,hk,rfl,ho,hcm⟩:=hrel
        have ja:=ħ ho
        have aI:=ħ hcm
        clear ho hcm
        by_cases hlt:k<O.length
        ·have hka:k<a.x.calls.length:=by rw[r9.out];exact hlt
         have hlt':(k:Int)<a.x.calls.length:=by omega
         have hix:=fun W=>Ki hpc a.cc k hka W
         have hcl:=qJ (ja.out.keepX HR.out).c (k:=k) hka
         obtain ⟨t,ht⟩:∃ t,t=O[k]:=⟨_,rfl⟩
         have hgd:gd a.x.calls k=t.call:=by rw[qd hka,ht];simp[UR.out]
         rw[hgd] at hcl
         have rD:=ħ (show t∈O by rw[ht];exact List.getElem_mem hlt)
         have hmem:t∈y_ (fun t:Cr=>{ t with inc:=into }) b.C (O.take k):=by
          rw[QO (fun t:Cr=>{ t with inc:=into }) (fun _=>rfl) _ _ (aA.out.sublist ((List.take_sublist _ _).map _))]
          refine .inr ⟨bL.out t rD.out,fun s hs e=>?_⟩
          obtain ⟨j,hj,hjs⟩:=List.mem_take_iff_getElem.1 hs
          have hjk:j<k:=by omega
          have h2:=(List.pairwise_iff_getElem.1 aA.out) j k (by rw[List.length_map];omega) (by rw[List.length_map];exact hlt) hjk
          rw[List.getElem_map,List.getElem_map,hjs,←ht] at h2
          exact h2 e.symm
         obtain ⟨At,kt,hkt,hrt⟩:=aI.out.at_ t hmem
         have Kk:=ħ hrt
         have hlk:=u6 (w:=w) (mc:=mc) t.call (show (zn Uc t.call).getD (.agg κ)=.agg (χ t At kt) by rw[hkt];rfl)
         have HS:=ħ (show y_ (fun t:Cr=>{ t with inc:=into }) b.C (O.take (k+1))=zG (y_ (fun t:Cr=>{ t with inc:=into }) b.C (O.take k)) { t with inc:=into } by rw[Qj _ _ _ hlt,ht])
         have Fa:=fun (W:World) (k:Int) (v:Value) (hW:zF W mc .i64 Uc)=>zF.update (P:=Tryz.prog) hW Tryz.underlying85 Tryz.underlying2 k v
         clear hgd hmem hkt hrt ht
         have p0:=ja.out.pw.al
         have b00:=ja.out.f0
         have b10:=ja.out.f1
         go_upto_region 15 with (fail)
         have qm:=ħ (ja.out.alloc 34 (χ t At kt))
         obtain ⟨Kv,jO⟩:∃ q,q=wr.heap.size:=⟨_,rfl⟩
         rw[←jO] at qm⊢
         clear p0 b00 b10
         clear jO ja
         generalize wr.alloc _=W5 at *
         have p0:=qm.out.pw.al
         have b00:=qm.out.f0
         have b10:=qm.out.f1
         have b20:=qm.out.f2
         go_upto_region 16 with (fail)
         have yS:=ħ (OW.setC_ (L1:=[]) (L2:=[(q9,48,(ξ d.x d.An d.cn d.Ac d.cc d.Au d.cu)),(q7,48,(ξ a.x a.An a.cn a.Ac a.cc a.Au a.cu))]) qm.out 1 (ι into) (cs':=#[ι t.call,ι into,ι t.urg,.string t.code,.slice At t.nodes.length kt,ι t.dist,ι t.since,.bool t.closed]) (by simp))
         clear p0 b00 b10 b20
         clear qm
         generalize World.setCell _ _ _=W6 at *
         have p0:=yS.out.pw.al
         have b00:=yS.out.f0
         have b10:=yS.out.f1
         have b20:=yS.out.f2
         refine yJ 6 (by kernel_rfl) (by kernel_rfl) (fun T hT=>?_)
         simp only[List.take_succ_cons,List.take_zero]
         repeat still_step
         refine wpStill_nil (hT _ ?_)
         clear hT T
         simp only[List.drop_succ_cons,List.drop_zero]
         go_upto_region 17 with (fail)
         have j_:=ħ (yS.out.putC (t.call) (.agg #[ι t.call,ι into,ι t.urg,.string t.code,.slice At t.nodes.length kt,ι t.dist,ι t.since,.bool t.closed])).drew
         clear p0 b00 b10 b20
         clear yS
         generalize (mput _ _ _ _ _).drew=W7 at *
         have p0:=j_.out.pw.al
         have b00:=j_.out.f0
         have b10:=j_.out.f1
         have b20:=j_.out.f2
         go_wp2_with fail
         exact ⟨⟨k+1,_,by omega,by go_num,j_.out.drop (List.sublist_cons_self _ _),by rw[HS.out];exact aI.out.put (Ze _ _ _ J2) { t with inc:=into } At kt Kk.out⟩,by simp[intOf];omega⟩
        ·have hlt':¬ (k:Int)<a.x.calls.length:=by rw[r9.out];omega
         have hk3:k=O.length:=by omega
         subst hk3
         rw[List.take_length] at aI
         have p0:=ja.out.pw.al
         have b00:=ja.out.f0
         have b10:=ja.out.f1
         go_upto_region 18 with (fail)
         go_wp2_with fail
         clear p0 b00 b10
         go_loopw [85] (fun vi wr=>∃ (k:Nat),k≤a.x.units.length∧vi=ι (k:Int)∧OW w wr p mc mi mh Uc ki (jS kh (a.x.units.take k) (ι into)) [(q9,48,(ξ d.x d.An d.cn d.Ac d.cc d.Au d.cu)),(q7,48,(ξ a.x a.An a.cn a.Ac a.cc a.Au a.cu))] []) (fun vi _=>a.x.units.length - (intOf vi).toNat)
         case atStart=>exact ⟨0,Nat.zero_le _,rfl,ja.out⟩
         case round=>
          obtain ⟨k,hk2,rfl,ho⟩:=hrel
          clear ja
          have ja:=ħ ho
          clear ho
          by_cases Gv:k<a.x.units.length
          ·have gq:(k:Int)<a.x.units.length:=by omega
           have hix:=fun W=>JI mJ a.cu k Gv W
           have hcl:=qJ (ja.out.keepX HR.out).u Gv
           have HD:=ħ (xg kh a.x.units (ι into) Gv)
           have Wx:=ħ (qd Gv)
           generalize gd a.x.units k=v at *
           have CB:=fun (W:World) (k':Int) (v':Value) (hW:zF W mh .i64 (jS kh (a.x.units.take k) (ι into)))=>zF.update (P:=Tryz.prog) hW Tryz.underlying87 Tryz.underlying3 k' v'
           have p0:=ja.out.pw.al
           have b00:=ja.out.f0
           have b10:=ja.out.f1
           go_wp2_with fail
           exact ⟨⟨k+1,by omega,by go_num,by rw[HD.out,←Wx.out];exact ja.out.putH v _⟩,by simp[intOf];omega⟩
          ·have gq:¬ (k:Int)<a.x.units.length:=by omega
           have hk4:k=a.x.units.length:=by omega
           subst hk4
           rw[List.take_length] at ja
           have Hy:=fun (W:World) (k:Int) (v:Value) (hW:zF W mi .i64 ki)=>zF.update (P:=Tryz.prog) hW Tryz.underlying86 Tryz.underlying2 k v
           have p0:=ja.out.pw.al
           have b00:=ja.out.f0
           have b10:=ja.out.f1
           go_upto_region 23 with (fail)
           have O4:=ħ (show Calls Tryz.prog 58 #[.slice (some ⟨wr.heap.size,0,none⟩) 2 2] (wr.alloc (.cells #[.slice d.Ac d.x.calls.length d.cc,.slice a.Ac a.x.calls.length a.cc] 46)) (qL NC 2 (wr.alloc (.cells #[.slice d.Ac d.x.calls.length d.cc,.slice a.Ac a.x.calls.length a.cc] 46))) from by
            rw[gL.out]
            exact rJ (Bq p mc mi mh) d.Ac a.Ac d.cc a.cc d.x.calls a.x.calls wr.heap.size _ (zb.new wr 46 _) (zl (ja.out.keepX tq.out).c ((Below.refl _ _).alloc (Nat.le_refl _) _)) (zl (ja.out.keepX HR.out).c ((Below.refl _ _).alloc (Nat.le_refl _) _)) IE wK)
           have Ce:=ħ (ja.out.alloc 46 #[.slice d.Ac d.x.calls.length d.cc,.slice a.Ac a.x.calls.length a.cc])
           go_upto_region 24 with ((go_at_call 58;((with_reducible refine O4.out.mono ?_);rintro e w50 ⟨sO,c16,rfl,ho,hb⟩;have VY:=ħ (((Ce.out.below hb).row (Ce.out.own hb ho)).drop (List.sublist_cons_self _ _));clear ho hb Ce;clear p0 b00 b10;have p0:=VY.out.pw.al;have b00:=VY.out.f0;have b10:=VY.out.f1)))
           have tX:=ħ (VY.out.ri (A:=sO) (l:=NC) (.head _))
           have IU:=ħ (VY.out.box (g:=q9) (t:=48) (cs:=(ξ d.x d.An d.cn d.Ac d.cc d.Au d.cu)) (.head _)).lt
           have Gc:=ħ (VY.out.box (g:=q7) (t:=48) (cs:=(ξ a.x a.An a.cn a.Ac a.cc a.Au a.cu)) (.tail _ (.head _))).lt
           have nZ:=ħ (show w.heap.size≤w50.heap.size from VY.out.fr.size)
           have N8:=ħ (show Calls Tryz.prog 59 #[.slice (some ⟨w50.heap.size,0,none⟩) 2 2] (w50.alloc (.cells #[.slice d.Au d.x.units.length d.cu,.slice a.Au a.x.units.length a.cu] 32)) (qL U 3 (w50.alloc (.cells #[.slice d.Au d.x.units.length d.cu,.slice a.Au a.x.units.length a.cu] 32))) from by
            rw[O5.out]
            exact sJ (Bq p mc mi mh) d.Au a.Au d.cu a.cu d.x.units a.x.units w50.heap.size _ (zb.new w50 32 _) (zl (VY.out.keepX tq.out).u ((Below.refl _ _).alloc (Nat.le_refl _) _)) (zl (VY.out.keepX HR.out).u ((Below.refl _ _).alloc (Nat.le_refl _) _)) (by omega) (by omega))
           go_upto_region 25 with ((go_at_call 59;((with_reducible refine N8.out.mono ?_);rintro e w51 ⟨Gh,c24,rfl,ho,hb⟩;have Ls:=ħ (show w51.ownsRow w50.heap.size 3 1 (.slice Gh U.length c24) U.length (U.map (Value.int .i64)) from World.ownsRow.mono ho (by simp));have oG:=ħ (show Below w50.heap.size w50 w51 from ((Below.refl _ w50).alloc (Nat.le_refl _) _).trans (hb.mono (by simp)));have UA:=ħ (VY.out.below oG.out);clear ho hb;clear p0 b00 b10;have p0:=UA.out.pw.al;have b00:=UA.out.f0;have b10:=UA.out.f1)))
           have I6:=ħ (Reads.setCell (tX.out.below oG.out (fun k hk=>hk.2.1)) (p:=⟨q9,7,none⟩) (fun hk=>hk.2.2 (q9,48,(ξ d.x d.An d.cn d.Ac d.cc d.Au d.cu)) (.head _) rfl) (.slice Gh U.length c24))
           have il:=ħ (ownsRow_setCell_below Ls.out (a:=⟨q9,7,none⟩) (by have:=IU.out;simp;omega) (.slice Gh U.length c24))
           clear tX Ls
           have ed:=ħ (show OW w w51 p mc mi mh Uc ki (jS kh a.x.units (ι into)) [(q9,48,(ξ d.x d.An d.cn d.Ac d.cc d.Au d.cu)),(q7,48,(ξ a.x a.An a.cn a.Ac a.cc a.Au a.cu))] [] from ⟨UA.out.pl,UA.out.pw,UA.out.fr,UA.out.bx,UA.out.nd,fun r hr=>by simp at hr⟩)
           clear UA
           have dQ:=ħ (OW.setC_ (L1:=[]) (L2:=[(q7,48,(ξ a.x a.An a.cn a.Ac a.cc a.Au a.cu))]) ed.out 7 ((.slice Gh U.length c24)) (cs':=#[ι d.x.id,ι d.x.urg,.string d.x.code,.slice d.An d.x.nodes.length d.cn,ι d.x.dist,ι d.x.since,.slice d.Ac d.x.calls.length d.cc,.slice Gh U.length c24,ι d.x.merged,.bool d.x.closed]) (by simp))
           clear p0 b00 b10
           clear ed
           generalize World.setCell _ _ _=W52 at *
           have p0:=dQ.out.pw.al
           have b00:=dQ.out.f0
           have b10:=dQ.out.f1
           have wO:=ħ (H8 _ Gh U.length c24 U W52 il.out (by omega))
           go_upto_region 26 with ((go_at_call 60;((with_reducible refine wO.out.mono ?_);rintro e w53 ⟨rfl,ho,hgr⟩;have Gu:=ħ ho;have CE:=ħ (I6.out.grown hgr (fun k hk e=>by have h1:=(il.out.lt k e.symm).1;have h2:=hk.2.1;omega));have FM:=ħ (OW.frs (S:=fun k=>(Value.slice Gh U.length c24).ownBlock=some k) dQ.out ((Fr.refl _ _).grown hgr (fun k hk=>.inl hk)) (fun k hk=>by have h1:=(il.out.lt k hk).1;have h2:=IU.out;have h3:=nZ.out;have h4:=Gc.out;exact ⟨by omega,fun b hb=>by (rcases List.mem_cons.1 hb with rfl | hb;(show k≠q9;omega);have e:b.1=q7:=(by simp at hb;rw[hb]);omega)⟩));clear ho hgr;clear p0 b00 b10;have p0:=FM.out.pw.al;have b00:=FM.out.f0;have b10:=FM.out.f1)))
           have MJ:=ħ (show (qp a.x.units d.x.units).length=U.length from by rw[←MV.out,jE])
           have P8:=FM.out.fr.size
           have sM:=ħ ((FM.out.row (A:=sO) (l:=NC) ((CE.out.old (by omega)).more (fun k hk=>⟨hk.1.1,hk.2,fun b hb=>by
            have h1:=hk.1.2.2
            rcases List.mem_cons.1 hb with rfl | hb
            ·exact h1 (q9,48,(ξ d.x d.An d.cn d.Ac d.cc d.Au d.cu)) (.head _)
            ·rcases List.mem_cons.1 hb with rfl | hb
             ·exact h1 (q7,48,(ξ a.x a.An a.cn a.Ac a.cc a.Au a.cu)) (.tail _ (.head _))
             ·simp at hb⟩))).row (A:=Gh) (l:=qp a.x.units d.x.units) (by
            have h1:=Gu.out
            rw[MV.out,←MJ.out] at h1
            exact ((qK h1).old (by omega)).more (fun k hk=>⟨Nat.le_trans nZ.out hk.1,hk.2,fun b hb=>by
             have h2:=IU.out;have h4:=Gc.out;have h3:=hk.1
             rcases List.mem_cons.1 hb with rfl | hb
             ·show k≠q9;omega
             ·have e:b.1=q7:=(by simp at hb;rw[hb])
              omega⟩)))
           clear FM P8
           go_upto_region 27 with (fail)
           have og:=ħ (OW.setC_ (L1:=[(q9,48,#[ι d.x.id,ι d.x.urg,.string d.x.code,.slice d.An d.x.nodes.length d.cn,ι d.x.dist,ι d.x.since,.slice d.Ac d.x.calls.length d.cc,.slice Gh U.length c24,ι d.x.merged,.bool d.x.closed])]) (L2:=[]) sM.out 6 (.slice none 0 0) (cs':=#[ι a.x.id,ι a.x.urg,.string a.x.code,.slice a.An a.x.nodes.length a.cn,ι a.x.dist,ι a.x.since,.slice none 0 0,.slice a.Au a.x.units.length a.cu,ι a.x.merged,.bool a.x.closed]) (by simp))
           clear p0 b00 b10
           clear sM
           have nX:=ħ (OW.setC_ (L1:=[(q9,48,#[ι d.x.id,ι d.x.urg,.string d.x.code,.slice d.An d.x.nodes.length d.cn,ι d.x.dist,ι d.x.since,.slice d.Ac d.x.calls.length d.cc,.slice Gh U.length c24,ι d.x.merged,.bool d.x.closed])]) (L2:=[]) og.out 7 (.slice none 0 0) (cs':=#[ι a.x.id,ι a.x.urg,.string a.x.code,.slice a.An a.x.nodes.length a.cn,ι a.x.dist,ι a.x.since,.slice none 0 0,.slice none 0 0,ι a.x.merged,.bool a.x.closed]) (by simp))
           clear og
           have Af:=ħ (OW.setC_ (L1:=[(q9,48,#[ι d.x.id,ι d.x.urg,.string d.x.code,.slice d.An d.x.nodes.length d.cn,ι d.x.dist,ι d.x.since,.slice d.Ac d.x.calls.length d.cc,.slice Gh U.length c24,ι d.x.merged,.bool d.x.closed])]) (L2:=[]) nX.out 8 (ι into) (cs':=#[ι a.x.id,ι a.x.urg,.string a.x.code,.slice a.An a.x.nodes.length a.cn,ι a.x.dist,ι a.x.since,.slice none 0 0,.slice none 0 0,ι into,.bool a.x.closed]) (by simp))
           clear nX
           generalize World.setCell _ _ _=W57 at *
           have p0:=Af.out.pw.al
           have b00:=Af.out.f0
           have b10:=Af.out.f1
           refine yJ 6 (by kernel_rfl) (by kernel_rfl) (fun T hT=>?_)
           simp only[List.take_succ_cons,List.take_zero]
           repeat still_step
           refine wpStill_nil (hT _ ?_)
           clear hT T
           simp only[List.drop_succ_cons,List.drop_zero]
           go_upto_region 28 with (fail)
           have Jk:=ħ (Af.out.putI (id) (.agg #[ι a.x.id,ι a.x.urg,.string a.x.code,.slice a.An a.x.nodes.length a.cn,ι a.x.dist,ι a.x.since,.slice none 0 0,.slice none 0 0,ι into,.bool a.x.closed])).drew
           clear p0 b00 b10
           clear Af
           generalize (mput _ _ _ _ _).drew=W58 at *
           have p0:=Jk.out.pw.al
           have b00:=Jk.out.f0
           have b10:=Jk.out.f1
           have V9:=ħ (show CM W58 (Bq p mc mi mh) Uc (b.C.map (moveC id into)) from by
            have h1:=aI.out.fr Jk.out.fr (fun k hk=>qh hk)
            rw[mM.out,Vq J2] at h1
            exact h1)
           have z1m:=ħ (show IM W58 (Bq p mc mi mh) (yg ki id (.agg #[ι a.x.id,ι a.x.urg,.string a.x.code,.slice a.An a.x.nodes.length a.cn,ι a.x.dist,ι a.x.since,.slice none 0 0,.slice none 0 0,ι into,.bool a.x.closed])) (zz b.L (qz a.x into)) from by
            have hid:=(zi XB.out).2
            have h1:=(QS.out.fr Jk.out.fr (fun k hk=>qh hk)).put hsL ⟨qz a.x into,a.An,none,none,a.cn,0,0⟩ ⟨(Jk.out.keepX HR.out).n,Reads.none_,Reads.none_⟩
            unfold BJ ξ qz at h1
            dsimp only at h1
            rw[hid] at h1
            unfold qz
            rw[hid]
            exact h1)
           have aV:=ħ (D_ (C:=b.C) J2 VV.out)
           have rH:=ħ (show (qB b.C into ++ O.map (fun t:Cr=>{ t with inc:=into })).map Cr.call=NC from by
            rw[gL.out,List.map_append,UR.out,NH.out,List.map_map]
            rfl)
           have ag:=ħ (show (qB b.C into ++ O.map (fun t:Cr=>{ t with inc:=into })).length=NC.length from by rw[←rH.out,List.length_map])
           have OV:=ħ (show ((qB b.C into ++ O.map (fun t:Cr=>{ t with inc:=into })).map Cr.call).Nodup from by
            have h1:=(aV.out.map Cr.call).nodup_iff.2 (jm Cr.call (qi (Qe Cr.call J2 (moveC id into) (fun x _=>rfl)) into))
            rw[←mM.out] at h1
            exact h1)
           have uh:=ħ fun (w2:World) (e:Ending) (hr:Qk p mc mi mh Uc (yg ki id (.agg #[ι a.x.id,ι a.x.urg,.string a.x.code,.slice a.An a.x.nodes.length a.cn,ι a.x.dist,ι a.x.since,.slice none 0 0,.slice none 0 0,ι into,.bool a.x.closed])) (jS kh a.x.units (ι into)) { d.x with units:=qp a.x.units d.x.units } (qB b.C into ++ O.map (fun t:Cr=>{ t with inc:=into })) W58 e w2)=>(show PI w2 p mc mi mh (qw ⟨zz (zz b.L (qz a.x into)) { d.x with units:=qp a.x.units d.x.units },b.C.map (moveC id into)⟩ into)∧Fr (Sq p mc mi mh) w w2 from by
            obtain ⟨z,hz,-⟩:=mK.out
            have mg:=(zi xY.out).2
            have lX:Asc Ic.id (zz b.L (qz a.x into)):=zN Ic.id hsL _
            have OQ:zw (zz (zz b.L (qz a.x into)) { d.x with units:=qp a.x.units d.x.units }) into=some { d.x with units:=qp a.x.units d.x.units }:=by
             rw[jb lX,if_pos mg.symm]
            have hN:qw ⟨zz (zz b.L (qz a.x into)) { d.x with units:=qp a.x.units d.x.units },b.C.map (moveC id into)⟩ into=⟨zz (zz b.L (qz a.x into)) (qD { d.x with units:=qp a.x.units d.x.units } z),b.C.map (moveC id into)⟩:=by
             unfold qw
             rw[OQ]
             dsimp only
             rw[hz]
             dsimp only
             rw[ut (y:={ d.x with units:=qp a.x.units d.x.units }) (z:=qD { d.x with units:=qp a.x.units d.x.units } z) lX rfl]
            rw[hN]
            have hP:=aV.out
            rw[←mM.out] at hP
            refine EN Jk.out V9.out z1m.out lX hr (by rw[Ky hP OV.out];exact hz) ?_
            have Lg:=(zi XB.out).2
            exact Em VN.out hsL (zi XB.out).1 (zi xY.out).1 mg (by rw[Lg];exact VV.out) mg (fun u=>by
             show u∈qp a.x.units d.x.units↔_
             rw[ZU]
             have k1:=yE (zg.vL HG.out a.x (zi XB.out).1).1
             have k2:=yE (zg.vL HG.out d.x (zi xY.out).1).1
             exact ⟨fun h=>h.2,fun h=>⟨h.elim (k1.2 u) (k2.2 u),h⟩⟩) (fun z hz u h1 h2=>zg.un HG.out a.x (zi XB.out).1 z hz u h1 h2))
           have fo:=ħ (show Calls Tryz.prog 61 #[.pointer (some ⟨p,0,none⟩),.agg #[ι d.x.id,ι d.x.urg,.string d.x.code,.slice d.An d.x.nodes.length d.cn,ι d.x.dist,ι d.x.since,.slice d.Ac d.x.calls.length d.cc,.slice Gh U.length c24,ι d.x.merged,.bool d.x.closed],.slice sO NC.length c16] W58 (Qk p mc mi mh Uc (yg ki id (.agg #[ι a.x.id,ι a.x.urg,.string a.x.code,.slice a.An a.x.nodes.length a.cn,ι a.x.dist,ι a.x.since,.slice none 0 0,.slice none 0 0,ι into,.bool a.x.closed])) (jS kh a.x.units (ι into)) { d.x with units:=qp a.x.units d.x.units } (qB b.C into ++ O.map (fun t:Cr=>{ t with inc:=into })) W58) from by
            obtain ⟨-,-,hic⟩:=mK.out
            have h1:=J6 ⟨{ d.x with units:=qp a.x.units d.x.units },d.An,d.Ac,Gh,d.cn,d.cc,c24⟩ (qB b.C into ++ O.map (fun t:Cr=>{ t with inc:=into })) (b.C.map (moveC id into)) sO c16 (Bq p mc mi mh) _ _ W58 Jk.out.pw (Jk.out.tab2 Yi.out FW.out) ⟨(Jk.out.keepX tq.out).n,(Jk.out.keepX tq.out).c,Jk.out.rq (.head _)⟩ (by rw[rH.out];exact Jk.out.rq (.tail _ (.head _))) V9.out (fun u hu=>by
             have hP:=aV.out
             rw[←mM.out] at hP
             exact (zo.1 (hP.mem_iff.1 hu)).1) (by rw[ag.out,gL.out,List.length_append];have:=P5.out;omega) ⟨hic,(zg.vL HG.out d.x (zi xY.out).1).2⟩ (fun u hu=>by
             obtain ⟨t,ht,rfl⟩:=List.mem_map.1 hu
             have hv:=zg.vC HG.out t ht
             have r_:=Va (zg.vL HG.out d.x (zi xY.out).1).1
             rw[(zi xY.out).2] at r_
             by_cases e:t.inc=id
             ·refine ⟨?_,hv.2⟩
              unfold moveC Zv
              simp only[e,if_true]
              exact Zx hv.1 (Zu (uf r_)) t.closed
             ·rw[ym e];exact hv)
            dsimp only[ξ] at h1
            rw[MJ.out,ag.out] at h1
            exact h1)
           go_wp2_with (go_at_call 61;((with_reducible refine fo.out.mono ?_);rintro e w9 hr;obtain ⟨hre,hr2⟩:=(⟨hr.1,hr⟩:_∧_);subst hre;have Yn:=ħ (uh.out _ _ hr2);clear hr hr2))
           go_ret
           rw[HE.out]
           exact ⟨rfl,Yn.out.1,Yn.out.2⟩
   ·have HE:=ħ (Bi VV.out XB.out hg)
    have hlj:=yG (w:=w) (mi:=mi) into (show (zn ki into).getD (.agg ζ)=.agg ζ by rw[hk];rfl) (show (zn ki into).isSome=false by simp[hk])
    clear hg hk hw
    go_enter Tryz.func17,Tryz.ntmps17
    have p0:=zD.out.pw.al
    go_upto_region 4 with (fail)
    have zu:=ħ (zD.out.alloc 48 (ξ a.x a.An a.cn a.Ac a.cc a.Au a.cu))
    obtain ⟨q7,yZ⟩:∃ q,q=w.heap.size:=⟨_,rfl⟩
    rw[←yZ] at zu⊢
    clear p0
    clear yZ zD
    generalize w.alloc _=W1 at *
    have p0:=zu.out.pw.al
    have b00:=zu.out.f0
    go_upto_region 5 with (fail)
    have zk:=ħ (zu.out.alloc 48 ζ)
    obtain ⟨q9,YF⟩:∃ q,q=W1.heap.size:=⟨_,rfl⟩
    rw[←YF] at zk⊢
    clear p0 b00
    clear YF zu
    generalize W1.alloc _=W2 at *
    have p0:=zk.out.pw.al
    have b00:=zk.out.f0
    have b10:=zk.out.f1
    go_wp2_with fail
    go_ret
    exact HFin.out 4 _ _ _ zk.out HE.out
  ·have HE:=ħ (Bj (into:=into) VV.out hg)
   have KU:=yG (w:=w) (mi:=mi) id (show (zn ki id).getD (.agg ζ)=.agg ζ by rw[hk];rfl) (show (zn ki id).isSome=false by simp[hk])
   clear hg hk
   rcases qU QS.out into with ⟨d,hg,hk,hr⟩ | ⟨hg,hk⟩
   ·have hlj:=yG (w:=w) (mi:=mi) into (show (zn ki into).getD (.agg ζ)=.agg (ξ d.x d.An d.cn d.Ac d.cc d.Au d.cu) by rw[hk];rfl) (show (zn ki into).isSome=true by simp[hk])
    clear hg hk hw
    go_enter Tryz.func17,Tryz.ntmps17
    have p0:=zD.out.pw.al
    go_upto_region 4 with (fail)
    have zu:=ħ (zD.out.alloc 48 ζ)
    obtain ⟨q7,yZ⟩:∃ q,q=w.heap.size:=⟨_,rfl⟩
    rw[←yZ] at zu⊢
    clear p0
    clear yZ zD
    generalize w.alloc _=W1 at *
    have p0:=zu.out.pw.al
    have b00:=zu.out.f0
    go_upto_region 5 with (fail)
    have zk:=ħ (zu.out.alloc 48 (ξ d.x d.An d.cn d.Ac d.cc d.Au d.cu))
    obtain ⟨q9,YF⟩:∃ q,q=W1.heap.size:=⟨_,rfl⟩
    rw[←YF] at zk⊢
    clear p0 b00
    clear YF zu
    generalize W1.alloc _=W2 at *
    have p0:=zk.out.pw.al
    have b00:=zk.out.f0
    have b10:=zk.out.f1
    go_wp2_with fail
    go_ret
    exact HFin.out 4 _ _ _ zk.out HE.out
   ·have hlj:=yG (w:=w) (mi:=mi) into (show (zn ki into).getD (.agg ζ)=.agg ζ by rw[hk];rfl) (show (zn ki into).isSome=false by simp[hk])
    clear hg hk hw
    go_enter Tryz.func17,Tryz.ntmps17
    have p0:=zD.out.pw.al
    go_upto_region 4 with (fail)
    have zu:=ħ (zD.out.alloc 48 ζ)
    obtain ⟨q7,yZ⟩:∃ q,q=w.heap.size:=⟨_,rfl⟩
    rw[←yZ] at zu⊢
    clear p0
    clear yZ zD
    generalize w.alloc _=W1 at *
    have p0:=zu.out.pw.al
    have b00:=zu.out.f0
    go_upto_region 5 with (fail)
    have zk:=ħ (zu.out.alloc 48 ζ)
    obtain ⟨q9,YF⟩:∃ q,q=W1.heap.size:=⟨_,rfl⟩
    rw[←YF] at zk⊢
    clear p0 b00
    clear YF zu
    generalize W1.alloc _=W2 at *
    have p0:=zk.out.pw.al
    have b00:=zk.out.f0
    have b10:=zk.out.f1
    go_wp2_with fail
    go_ret
    exact HFin.out 4 _ _ _ zk.out HE.out
end Go.Proofs.YtdhcjhfgibmhfaaGreatDoor

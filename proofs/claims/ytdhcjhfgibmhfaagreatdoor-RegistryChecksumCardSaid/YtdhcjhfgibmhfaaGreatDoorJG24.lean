import Derived.Test.YtdhcjhfgibmhfaaGreatDoorJPr9
import Derived.Test.YtdhcjhfgibmhfaaGreatDoorJG19
import Derived.Test.YtdhcjhfgibmhfaaGreatDoorJG21
import Derived.Deep.RegionHeldLaw
set_option linter.unusedVariables false
set_option linter.unusedSimpArgs false
set_option maxRecDepth 10000
set_option maxHeartbeats 8000000
namespace Go.Proofs.YtdhcjhfgibmhfaaGreatDoor
open Go.RowKit Go.Own Go.Quo Go.Inc
theorem aD (p mc mi mh:Nat)(b:Bk)(id:Int)(w:World)(h:PI w p mc mi mh b)(J2:Asc Cr.call b.C)(hsL:Asc Ic.id b.L)(hv:∀ x∈b.L,jC x=true)(hun:∀ x∈b.L,∀ y∈b.L,∀ u,u∈x.units→u∈y.units→x.id=y.id)(hcs:∀ x∈b.L,x.calls=(qB b.C x.id).map Cr.call) :
 Calls Tryz.prog 52 #[.pointer (some ⟨p,0,none⟩),ι id] w (Ji (yI b id) p mc mi mh w):=by
 obtain ⟨kc,ki,kh,hw,hc,hi,hh⟩:=h
 have HCM:=ħ hc
 have QS:=ħ hi
 have VN:=ħ hh
 have FW:=ħ hw
 have HFin:=ħ fun (r:Int) (W:World) (L:List (Nat × TypeId × Array Value)) (R:List (Option Addr × List Int)) (ho:OW w W p mc mi mh kc ki kh L R) (hr:yI b id=(b,r))=>(show Ji (yI b id) p mc mi mh w (.returned (ι r)) W from ⟨by rw[hr],by rw[hr];exact ho.same hc hi hh,ho.fr⟩)
 have zD:=ħ (OW.new hw)
 clear hc hi hh
 rcases qU QS.out id with ⟨a,hg,hk,hr⟩ | ⟨hg,hk⟩
 ·have QP:=ħ hg
  have HR:=ħ hr
  have KU:=yG (w:=w) (mi:=mi) id (show (zn ki id).getD (.agg ζ)=.agg (ξ a.x a.An a.cn a.Ac a.cc a.Au a.cu) by rw[hk];rfl) (show (zn ki id).isSome=true by simp[hk])
  have BN:=ħ (hv a.x (zi hg).1)
  have z0L:=yO (hv a.x (zi hg).1)
  clear hg hk hr
  cases ho:zx a.x with
  | false=>
   have HE:=ħ (show yI b id=(b,8) by unfold yI;rw[QP.out];dsimp only;rw[if_pos ho])
   have YC:=ħ (yB a false ho)
   clear ho hw
   go_enter Tryz.func52,Tryz.ntmps52
   have p0:=zD.out.pw.al
   go_upto_region 2 with (fail)
   have zu:=ħ (zD.out.alloc 48 (ξ a.x a.An a.cn a.Ac a.cc a.Au a.cu))
   obtain ⟨q5,KN⟩:∃ q,q=w.heap.size:=⟨_,rfl⟩
   rw[←KN] at zu⊢
   clear p0
   clear KN zD
   generalize w.alloc _=W1 at *
   have p0:=zu.out.pw.al
   have b00:=zu.out.f0
   go_wp2_with (go_at_call 56;((with_reducible refine (YC.out _).mono ?_);rintro e w2 ⟨rfl,hb⟩;have zk:=ħ (zu.out.below hb);clear hb;clear p0 b00;have p0:=zk.out.pw.al;have b00:=zk.out.f0))
   go_ret
   exact HFin.out 8 _ _ _ zk.out HE.out
  | true=>
   have HE:=ħ (show yI b id=(⟨zz b.L { a.x with closed:=true,units:=[] },b.C.map (Zv (fun t=>t.inc) (fun t=>if t.inc=id then true else t.closed))⟩,0) by unfold yI;rw[QP.out];dsimp only;rw[if_neg (by rw[ho];simp)])
   have YC:=ħ (yB a true ho)
   obtain ⟨O,hO⟩:∃ O,O=qB b.C id:=⟨_,rfl⟩
   have mM:=ħ hO
   have UR:=ħ (show a.x.calls=O.map Cr.call by rw[hO,←(zi QP.out).2];exact hcs a.x (zi QP.out).1)
   have kI:=ħ (show a.x.calls.length=O.length by rw[UR.out,List.length_map])
   have bL:=ħ (show ∀ t∈O,t∈b.C by rw[hO];exact fun t ht=>(zo.1 ht).1)
   have aA:=ħ (show (O.map Cr.call).Nodup by rw[hO];exact jm Cr.call (qi J2 id))
   have hpc:=HR.out.c.plain (by omega)
   have mJ:=HR.out.u.plain (by omega)
   clear ho hw hO
   go_enter Tryz.func52,Tryz.ntmps52
   have p0:=zD.out.pw.al
   go_upto_region 2 with (fail)
   have zu:=ħ (zD.out.alloc 48 (ξ a.x a.An a.cn a.Ac a.cc a.Au a.cu))
   obtain ⟨q5,KN⟩:∃ q,q=w.heap.size:=⟨_,rfl⟩
   rw[←KN] at zu⊢
   clear p0
   clear KN zD
   generalize w.alloc _=W1 at *
   have p0:=zu.out.pw.al
   have b00:=zu.out.f0
   go_upto_region 6 with ((go_at_call 56;((with_reducible refine (YC.out _).mono ?_);rintro e w2 ⟨rfl,hb⟩;have zk:=ħ (zu.out.below hb);clear hb;clear p0 b00;have p0:=zk.out.pw.al;have b00:=zk.out.f0)))
   go_wp2_with fail
   clear p0 b00
   go_loopw [29] (fun vi wr=>∃ (k:Nat) (Uc:List (Int × Value)),k≤O.length∧vi=ι (k:Int)∧OW w wr p mc mi mh Uc ki kh [(q5,48,(ξ a.x a.An a.cn a.Ac a.cc a.Au a.cu))] []∧CM w (Bq p mc mi mh) Uc (y_ (fun t:Cr=>{ t with closed:=true }) b.C (O.take k))) (fun vi _=>O.length - (intOf vi).toNat)
   case atStart=>exact ⟨0,kc,Nat.zero_le _,rfl,zk.out,HCM.out⟩
   case round=>
    obtain ⟨k,Uc,hk,rfl,ho,hcm⟩:=hrel
    have ja:=ħ ho
    have aI:=ħ hcm
    clear ho hcm
    by_cases hlt:k<O.length
    ·have hka:k<a.x.calls.length:=by rw[kI.out];exact hlt
     have hlt':(k:Int)<a.x.calls.length:=by omega
     have hix:=fun W=>Ki hpc a.cc k hka W
     have hcl:=qJ (ja.out.keepX HR.out).c (k:=k) hka
     obtain ⟨t,ht⟩:∃ t,t=O[k]:=⟨_,rfl⟩
     have hgd:gd a.x.calls k=t.call:=by rw[qd hka,ht];simp[UR.out]
     rw[hgd] at hcl
     have rD:=ħ (show t∈O by rw[ht];exact List.getElem_mem hlt)
     have hmem:t∈y_ (fun t:Cr=>{ t with closed:=true }) b.C (O.take k):=by
      rw[QO (fun t:Cr=>{ t with closed:=true }) (fun _=>rfl) _ _ (aA.out.sublist ((List.take_sublist _ _).map _))]
      refine .inr ⟨bL.out t rD.out,fun s hs e=>?_⟩
      obtain ⟨j,hj,hjs⟩:=List.mem_take_iff_getElem.1 hs
      have hjk:j<k:=by omega
      have h2:=(List.pairwise_iff_getElem.1 aA.out) j k (by rw[List.length_map];omega) (by rw[List.length_map];exact hlt) hjk
      rw[List.getElem_map,List.getElem_map,hjs,←ht] at h2
      exact h2 e.symm
     obtain ⟨At,kt,hkt,hrt⟩:=aI.out.at_ t hmem
     have Kk:=ħ hrt
     have hlk:=u6 (w:=w) (mc:=mc) t.call (show (zn Uc t.call).getD (.agg κ)=.agg (χ t At kt) by rw[hkt];rfl)
     have HS:=ħ (show y_ (fun t:Cr=>{ t with closed:=true }) b.C (O.take (k+1))=zG (y_ (fun t:Cr=>{ t with closed:=true }) b.C (O.take k)) { t with closed:=true } by rw[Qj _ _ _ hlt,ht])
     have Fa:=fun (W:World) (k:Int) (v:Value) (hW:zF W mc .i64 Uc)=>zF.update (P:=Tryz.prog) hW Tryz.underlying85 Tryz.underlying2 k v
     clear hgd hmem hkt hrt ht
     have p0:=ja.out.pw.al
     have b00:=ja.out.f0
     go_upto_region 10 with (fail)
     have zC:=ħ (ja.out.alloc 34 (χ t At kt))
     obtain ⟨q9,YF⟩:∃ q,q=wr.heap.size:=⟨_,rfl⟩
     rw[←YF] at zC⊢
     clear p0 b00
     clear YF ja
     generalize wr.alloc _=W3 at *
     have p0:=zC.out.pw.al
     have b00:=zC.out.f0
     have b10:=zC.out.f1
     go_upto_region 11 with (fail)
     have zP:=ħ (OW.setC_ (L1:=[]) (L2:=[(q5,48,(ξ a.x a.An a.cn a.Ac a.cc a.Au a.cu))]) zC.out 7 (.bool true) (cs':=#[ι t.call,ι t.inc,ι t.urg,.string t.code,.slice At t.nodes.length kt,ι t.dist,ι t.since,.bool true]) (by simp))
     clear p0 b00 b10
     clear zC
     generalize World.setCell _ _ _=W4 at *
     have p0:=zP.out.pw.al
     have b00:=zP.out.f0
     have b10:=zP.out.f1
     refine yJ 6 (by kernel_rfl) (by kernel_rfl) (fun T hT=>?_)
     simp only[List.take_succ_cons,List.take_zero]
     repeat still_step
     refine wpStill_nil (hT _ ?_)
     clear hT T
     simp only[List.drop_succ_cons,List.drop_zero]
     go_upto_region 12 with (fail)
     have qm:=ħ (zP.out.putC (t.call) (.agg #[ι t.call,ι t.inc,ι t.urg,.string t.code,.slice At t.nodes.length kt,ι t.dist,ι t.since,.bool true])).drew
     clear p0 b00 b10
     clear zP
     generalize (mput _ _ _ _ _).drew=W5 at *
     have p0:=qm.out.pw.al
     have b00:=qm.out.f0
     have b10:=qm.out.f1
     go_wp2_with fail
     exact ⟨⟨k+1,_,by omega,by go_num,qm.out.drop (List.sublist_cons_self _ _),by rw[HS.out];exact aI.out.put (Ze _ _ _ J2) { t with closed:=true } At kt Kk.out⟩,by simp[intOf];omega⟩
    ·have hlt':¬ (k:Int)<a.x.calls.length:=by rw[kI.out];omega
     have hk3:k=O.length:=by omega
     subst hk3
     rw[List.take_length] at aI
     have PD:=kI
     have p0:=ja.out.pw.al
     have b00:=ja.out.f0
     go_upto_region 13 with (fail)
     go_wp2_with fail
     clear p0 b00
     go_loopw [50] (fun vi wr=>∃ (k:Nat),k≤a.x.units.length∧vi=ι (k:Int)∧OW w wr p mc mi mh Uc ki (ZE kh (a.x.units.take k)) [(q5,48,(ξ a.x a.An a.cn a.Ac a.cc a.Au a.cu))] []) (fun vi _=>a.x.units.length - (intOf vi).toNat)
     case atStart=>exact ⟨0,Nat.zero_le _,rfl,ja.out⟩
     case round=>
      obtain ⟨k,hk2,rfl,ho⟩:=hrel
      clear ja
      have ja:=ħ ho
      clear ho
      by_cases Gv:k<a.x.units.length
      ·have gq:(k:Int)<a.x.units.length:=by omega
       have hix:=fun W=>JI mJ a.cu k Gv W
       have hcl:=qJ (ja.out.keepX HR.out).u Gv
       have HD:=ħ (KP kh a.x.units Gv)
       have Wx:=ħ (qd Gv)
       generalize gd a.x.units k=v at *
       have hdl:=fun (W:World) (ty K':TypeId) (h:zF W mh .i64 (ZE kh (a.x.units.take k)))=>zF.delete (P:=Tryz.prog) h Tryz.underlying87 Tryz.underlying3 v ty K'
       have p0:=ja.out.pw.al
       have b00:=ja.out.f0
       go_wp2_with fail
       exact ⟨⟨k+1,by omega,by go_num,by rw[HD.out,←Wx.out];exact ja.out.delH v⟩,by simp[intOf];omega⟩
      ·have gq:¬ (k:Int)<a.x.units.length:=by omega
       have hk4:k=a.x.units.length:=by omega
       subst hk4
       rw[List.take_length] at ja
       have Hy:=fun (W:World) (k:Int) (v:Value) (hW:zF W mi .i64 ki)=>zF.update (P:=Tryz.prog) hW Tryz.underlying86 Tryz.underlying2 k v
       have p0:=ja.out.pw.al
       have b00:=ja.out.f0
       go_upto_region 19 with (fail)
       have zC:=ħ (OW.setC_ (L1:=[]) (L2:=[]) ja.out 7 (.slice none 0 0) (cs':=#[ι a.x.id,ι a.x.urg,.string a.x.code,.slice a.An a.x.nodes.length a.cn,ι a.x.dist,ι a.x.since,.slice a.Ac a.x.calls.length a.cc,.slice none 0 0,ι a.x.merged,.bool a.x.closed]) (by simp))
       clear p0 b00
       clear ja
       generalize World.setCell _ _ _=W3 at *
       have p0:=zC.out.pw.al
       have b00:=zC.out.f0
       go_upto_region 20 with (fail)
       have zP:=ħ (OW.setC_ (L1:=[]) (L2:=[]) zC.out 9 (.bool true) (cs':=#[ι a.x.id,ι a.x.urg,.string a.x.code,.slice a.An a.x.nodes.length a.cn,ι a.x.dist,ι a.x.since,.slice a.Ac a.x.calls.length a.cc,.slice none 0 0,ι a.x.merged,.bool true]) (by simp))
       clear p0 b00
       clear zC
       generalize World.setCell _ _ _=W4 at *
       have p0:=zP.out.pw.al
       have b00:=zP.out.f0
       refine yJ 6 (by kernel_rfl) (by kernel_rfl) (fun T hT=>?_)
       simp only[List.take_succ_cons,List.take_zero]
       repeat still_step
       refine wpStill_nil (hT _ ?_)
       clear hT T
       simp only[List.drop_succ_cons,List.drop_zero]
       go_wp2
       go_ret
       have HN:=ħ (zP.out.putI id (.agg #[ι a.x.id,ι a.x.urg,.string a.x.code,.slice a.An a.x.nodes.length a.cn,ι a.x.dist,ι a.x.since,.slice a.Ac a.x.calls.length a.cc,.slice none 0 0,ι a.x.merged,.bool true])).drew
       clear p0 b00
       rw[HE.out]
       generalize (mput _ _ _ _ _).drew=WF at *
       have hid:=(zi QP.out).2
       refine ⟨rfl,⟨_,_,_,HN.out.pw,?_,?_,?_⟩,HN.out.fr⟩
       ·have h1:=aI.out.fr HN.out.fr (fun k hk=>qh hk)
        rw[mM.out,JB J2] at h1
        exact h1
       ·have h1:=(QS.out.fr HN.out.fr (fun k hk=>qh hk)).put hsL ⟨{ a.x with closed:=true,units:=[] },a.An,a.Ac,none,a.cn,a.cc,0⟩ ⟨(HN.out.keepX HR.out).n,(HN.out.keepX HR.out).c,Reads.none_⟩
        unfold BJ ξ at h1
        dsimp only at h1
        rw[hid] at h1
        rw[hid]
        exact h1
       ·exact U4 (x':={ a.x with closed:=true,units:=[] }) VN.out hsL (zi QP.out).1 rfl a.x.units (fun v hv=>hv) (fun v=>by
         constructor
         ·intro h
          have h:v∈([]:List Int):=h
          simp at h
         ·rintro ⟨h1,h2⟩
          exact absurd h1 h2) (fun y hy v hv1 hv2=>hun a.x (zi QP.out).1 y hy v hv1 hv2)
 ·have HE:=ħ (show yI b id=(b,4) by unfold yI;rw[hg])
  have KU:=yG (w:=w) (mi:=mi) id (show (zn ki id).getD (.agg ζ)=.agg ζ by rw[hk];rfl) (show (zn ki id).isSome=false by simp[hk])
  clear hg hk hw
  go_enter Tryz.func52,Tryz.ntmps52
  have p0:=zD.out.pw.al
  go_upto_region 2 with (fail)
  have zu:=ħ (zD.out.alloc 48 ζ)
  obtain ⟨q7,yZ⟩:∃ q,q=w.heap.size:=⟨_,rfl⟩
  rw[←yZ] at zu⊢
  clear p0
  clear yZ zD
  generalize w.alloc _=W1 at *
  have p0:=zu.out.pw.al
  have b00:=zu.out.f0
  go_wp2_with fail
  go_ret
  exact HFin.out 4 _ _ _ zu.out HE.out
theorem EK (p mc mi mh:Nat)(b:Bk)(id u:Int)(w:World)(h:PI w p mc mi mh b)(hsL:Asc Ic.id b.L)(hv:∀ x∈b.L,jC x=true)(hun:∀ x∈b.L,∀ y∈b.L,∀ u,u∈x.units→u∈y.units→x.id=y.id) :
 Calls Tryz.prog 50 #[.pointer (some ⟨p,0,none⟩),ι id,ι u] w (Ji (qI b id u) p mc mi mh w):=by
 obtain ⟨kc,ki,kh,hw,hc,hi,hh⟩:=h
 have HCM:=ħ hc
 have QS:=ħ hi
 have VN:=ħ hh
 have FW:=ħ hw
 have HFin:=ħ fun (r:Int) (W:World) (L:List (Nat × TypeId × Array Value)) (R:List (Option Addr × List Int)) (ho:OW w W p mc mi mh kc ki kh L R) (hr:qI b id u=(b,r))=>(show Ji (qI b id u) p mc mi mh w (.returned (ι r)) W from ⟨by rw[hr],by rw[hr];exact ho.same hc hi hh,ho.fr⟩)
 have zD:=ħ ((OW.new hw).alloc 3 #[ι u])
 clear hc hi hh
 rcases qU QS.out id with ⟨a,hg,hk,hr⟩ | ⟨hg,hk⟩
 ·have QP:=ħ hg
  have HR:=ħ hr
  have KU:=yG (w:=w) (mi:=mi) id (show (zn ki id).getD (.agg ζ)=.agg (ξ a.x a.An a.cn a.Ac a.cc a.Au a.cu) by rw[hk];rfl) (show (zn ki id).isSome=true by simp[hk])
  have BN:=ħ (hv a.x (zi hg).1)
  have hlen:=(yO (hv a.x (zi hg).1)).2.2
  clear hg hk hr
  cases ho:hasB a.x.units u with
  | false=>
   have HE:=ħ (show qI b id u=(b,4) by unfold qI;rw[QP.out];dsimp only;rw[if_pos ho])
   have Ii:=ħ fun (W:World) (B:Nat→Prop) (h:RI W B a.Au a.x.units)=>(show Calls Tryz.prog 97 #[.slice a.Au a.x.units.length a.cu,ι u] W (jr false W) from ho ▸ XX B a.Au a.cu a.x.units u W h (by omega))
   clear ho hw
   go_enter Tryz.func50,Tryz.ntmps50
   go_upto_region 1 with fail
   generalize w.alloc _=W0 at *
   have p0:=zD.out.pw.al
   have b00:=zD.out.f0
   go_upto_region 2 with (fail)
   have zu:=ħ (zD.out.alloc 48 (ξ a.x a.An a.cn a.Ac a.cc a.Au a.cu))
   obtain ⟨q7,yZ⟩:∃ q,q=W0.heap.size:=⟨_,rfl⟩
   rw[←yZ] at zu⊢
   clear p0 b00
   clear yZ zD
   generalize W0.alloc _=W1 at *
   have p0:=zu.out.pw.al
   have b00:=zu.out.f0
   have b10:=zu.out.f1
   go_wp2_with (go_at_call 97;((with_reducible refine (Ii.out _ _ (zu.out.keepX HR.out).u).mono ?_);rintro e w5 ⟨rfl,rfl⟩))
   go_ret
   exact HFin.out 4 _ _ _ zu.out HE.out
  | true=>
   have HE:=ħ (show qI b id u=(⟨zz b.L { a.x with units:=a.x.units.filter (fun v=>v != u) },b.C⟩,0) by unfold qI;rw[QP.out];dsimp only;rw[if_neg (by rw[ho];simp)])
   have MH:=ħ (Uq.1 ho)
   have Ii:=ħ fun (W:World) (B:Nat→Prop) (h:RI W B a.Au a.x.units)=>(show Calls Tryz.prog 97 #[.slice a.Au a.x.units.length a.cu,ι u] W (jr true W) from ho ▸ XX B a.Au a.cu a.x.units u W h (by omega))
   clear ho hw
   go_enter Tryz.func50,Tryz.ntmps50
   go_upto_region 1 with fail
   generalize w.alloc _=W0 at *
   have p0:=zD.out.pw.al
   have b00:=zD.out.f0
   go_upto_region 2 with (fail)
   have zu:=ħ (zD.out.alloc 48 (ξ a.x a.An a.cn a.Ac a.cc a.Au a.cu))
   obtain ⟨q7,yZ⟩:∃ q,q=W0.heap.size:=⟨_,rfl⟩
   rw[←yZ] at zu⊢
   clear p0 b00
   clear yZ zD
   generalize W0.alloc _=W1 at *
   have p0:=zu.out.pw.al
   have b00:=zu.out.f0
   have b10:=zu.out.f1
   go_upto_region 4 with ((go_at_call 97;((with_reducible refine (Ii.out _ _ (zu.out.keepX HR.out).u).mono ?_);rintro e w5 ⟨rfl,rfl⟩)))
   have Ow:∀ (fn:Fn) (first cap:Array Value) (w:World),(Instr.makeFunc fn first cap).run Tryz.prog w=.ok (.func fn first cap) w:=fun _ _ _ _=>rfl
   have Hy:=fun (W:World) (k:Int) (v:Value) (hW:zF W mi .i64 ki)=>zF.update (P:=Tryz.prog) hW Tryz.underlying86 Tryz.underlying2 k v
   have hdl:=fun (W:World) (ty K':TypeId) (h:zF W mh .i64 kh)=>zF.delete (P:=Tryz.prog) h Tryz.underlying87 Tryz.underlying3 u ty K'
   have Gc:=ħ (show q7<w5.heap.size from (zu.out.box (g:=q7) (t:=48) (cs:=(ξ a.x a.An a.cn a.Ac a.cc a.Au a.cu)) (.head _)).lt)
   have sS:=ħ (show w.heap.size<w5.heap.size from (zu.out.box (g:=w.heap.size) (t:=3) (cs:=#[ι u]) (.tail _ (.head _))).lt)
   have NM:=ħ ((zu.out.box (g:=w.heap.size) (t:=3) (cs:=#[ι u]) (.tail _ (.head _))))
   have sI:=ħ (show w.heap.size≤w5.heap.size from zu.out.fr.size)
   have gD:=ħ (Zd _ a.Au a.cu a.x.units w5 (zu.out.keep HR.out.u) (by omega))
   have N_:=ħ fun (A2:Option Addr) (c2:Nat) (W:World) (hb:Below w5.heap.size w5 W) (ho:W.ownsRow w5.heap.size 3 1 (.slice A2 a.x.units.length c2) a.x.units.length (a.x.units.map (Value.int .i64)))=>oO w5.heap.size A2 c2 a.x.units u w.heap.size W ho (List.length_pos_of_mem MH.out) (Nat.lt_of_lt_of_le sS.out hb.size) (fun g hg e=>by have:=(ho.lt g hg).1;have:=sS.out;omega) ((hb.cell (p:=⟨w.heap.size,0,none⟩) sS.out).trans (NM.out.cell 0))
   go_upto_region 5 with (first | (go_at_call 54;((with_reducible refine gD.out.mono ?_);rintro e w20 ⟨A2,c2,rfl,ho,hb⟩;have ja:=ħ ho;have XJ:=ħ hb;have IA:=ħ (N_.out A2 c2 _ hb ho);clear ho hb;clear p0 b00 b10)) | (go_at_call 98;((with_reducible refine IA.out.mono ?_);rintro e Me ⟨rfl,ho,hgr⟩;have aA:=ħ ho;have wG:=ħ (Below.grown XJ.out hgr XJ.out.size (fun j hj=>(ho.lt j hj).1));have Yx:=ħ (zu.out.below wG.out);clear ho hgr;have p0:=Yx.out.pw.al;have b00:=Yx.out.f0;have b10:=Yx.out.f1)))
   have Fb:=ħ (Yx.out.row (A:=A2) (l:=JD a.x.units u) (((qK aA.out).old (by omega)).more (fun k hk=>⟨Nat.le_trans sI.out hk.1,hk.2,fun b hb=>by
    have h1:=Gc.out;have h2:=sS.out;have h3:=hk.1
    rcases List.mem_cons.1 hb with rfl | hb
    ·show k≠q7;omega
    ·have e:b.1=w.heap.size:=(by simp at hb;rw[hb])
     omega⟩)))
   clear Yx
   have EF:=ħ (OW.setC_ (L1:=[]) (L2:=[(w.heap.size,3,#[ι u])]) Fb.out 7 ((.slice A2 (JD a.x.units u).length c2)) (cs':=#[ι a.x.id,ι a.x.urg,.string a.x.code,.slice a.An a.x.nodes.length a.cn,ι a.x.dist,ι a.x.since,.slice a.Ac a.x.calls.length a.cc,.slice A2 (JD a.x.units u).length c2,ι a.x.merged,.bool a.x.closed]) (by simp))
   clear p0 b00 b10
   clear Fb
   generalize World.setCell _ _ _=W23 at *
   have p0:=EF.out.pw.al
   have b00:=EF.out.f0
   have b10:=EF.out.f1
   refine yJ 6 (by kernel_rfl) (by kernel_rfl) (fun T hT=>?_)
   simp only[List.take_succ_cons,List.take_zero]
   repeat still_step
   refine wpStill_nil (hT _ ?_)
   clear hT T
   simp only[List.drop_succ_cons,List.drop_zero]
   go_upto_region 6 with (fail)
   have aU:=ħ (EF.out.putI (id) (.agg #[ι a.x.id,ι a.x.urg,.string a.x.code,.slice a.An a.x.nodes.length a.cn,ι a.x.dist,ι a.x.since,.slice a.Ac a.x.calls.length a.cc,.slice A2 (JD a.x.units u).length c2,ι a.x.merged,.bool a.x.closed])).drew
   clear p0 b00 b10
   clear EF
   generalize (mput _ _ _ _ _).drew=W24 at *
   have p0:=aU.out.pw.al
   have b00:=aU.out.f0
   have b10:=aU.out.f1
   refine yJ 5 (by kernel_rfl) (by kernel_rfl) (fun T hT=>?_)
   simp only[List.take_succ_cons,List.take_zero]
   repeat still_step
   refine wpStill_nil (hT _ ?_)
   clear hT T
   simp only[List.drop_succ_cons,List.drop_zero]
   go_wp2
   go_ret
   have HN:=ħ (aU.out.delH u).drew
   clear p0 b00 b10
   rw[HE.out]
   generalize (mdel _ _ _ _).drew=WF at *
   have hid:=(zi QP.out).2
   have hnx:a.x.units.filter (fun v=>v != u)=JD a.x.units u:=rfl
   rw[hnx]
   refine ⟨rfl,⟨_,_,_,HN.out.pw,HCM.out.fr HN.out.fr (fun k hk=>qh hk),?_,?_⟩,HN.out.fr⟩
   ·have h1:=(QS.out.fr HN.out.fr (fun k hk=>qh hk)).put hsL ⟨{ a.x with units:=JD a.x.units u },a.An,a.Ac,A2,a.cn,a.cc,c2⟩ ⟨(HN.out.keepX HR.out).n,(HN.out.keepX HR.out).c,HN.out.rq (.head _)⟩
    unfold BJ ξ at h1
    dsimp only at h1
    rw[hid] at h1
    rw[hid]
    exact h1
   ·have h1:=U4 (x':={ a.x with units:=JD a.x.units u }) VN.out hsL (zi QP.out).1 rfl [u] (fun v hv=>by have e:v=u:=(by simpa using hv);rw[e];exact MH.out) (fun v=>by
     show v∈JD a.x.units u↔_
     unfold JD
     rw[List.mem_filter]
     simp) (fun y hy v hv1 hv2=>hun a.x (zi QP.out).1 y hy v hv1 hv2)
    exact h1
 ·have HE:=ħ (show qI b id u=(b,4) by unfold qI;rw[hg])
  have KU:=yG (w:=w) (mi:=mi) id (show (zn ki id).getD (.agg ζ)=.agg ζ by rw[hk];rfl) (show (zn ki id).isSome=false by simp[hk])
  clear hg hk hw
  go_enter Tryz.func50,Tryz.ntmps50
  go_upto_region 1 with fail
  generalize w.alloc _=W0 at *
  have p0:=zD.out.pw.al
  have b00:=zD.out.f0
  go_upto_region 2 with (fail)
  have zu:=ħ (zD.out.alloc 48 ζ)
  obtain ⟨q7,yZ⟩:∃ q,q=W0.heap.size:=⟨_,rfl⟩
  rw[←yZ] at zu⊢
  clear p0 b00
  clear yZ zD
  generalize W0.alloc _=W1 at *
  have p0:=zu.out.pw.al
  have b00:=zu.out.f0
  have b10:=zu.out.f1
  go_wp2_with fail
  go_ret
  exact HFin.out 4 _ _ _ zu.out HE.out
theorem uV {P:Cr→Option Addr→Nat→Prop}:∀ (cs:List Cr),(∀ t∈cs,∃ A k,P t A k)→∃ ts:List Ca,ts.map (·.c)=cs∧∀ u∈ts,P u.c u.A u.k
 | [],_=>⟨[],rfl,fun u hu=>by simp at hu⟩
 | t :: cs,h=>by
  obtain ⟨A,k,h1⟩:=h t (by simp)
  obtain ⟨ts,h2,h3⟩:=uV cs (fun s hs=>h s (by simp[hs]))
  refine ⟨⟨t,A,k⟩ :: ts,by simp[h2],fun u hu=>?_⟩
  rcases List.mem_cons.1 hu with rfl | hu
  ·exact h1
  ·exact h3 u hu
theorem Dr {t:Cr}(h:yz t=true):t.code.size≤100000:=by
 have h2:=(vT h).2.1
 unfold qZ at h2
 simp only[Bool.and_eq_true,decide_eq_true_eq] at h2
 omega
theorem J6 {p mc mi mh:Nat}{kc ki kh:List (Int × Value)}(a:Xa)(cs C:List Cr)(Am:Option Addr)(cm:Nat)(B1 B2 B3:Nat→Prop)(W:World)(hw:PW W p mc mi mh kc ki kh)(ht:jg W)(hx:XR W B1 a)(hm:RI W B2 Am (cs.map Cr.call))(hcm:CM W B3 kc C)(hcs:∀ t∈cs,t∈C)(hl:cs.length≤1000)(hxv:jC a.x=true∧a.x.nodes.length≤60)(hv:∀ t∈C,yz t=true∧t.nodes.length≤60) :
 Calls Tryz.prog 61 #[.pointer (some ⟨p,0,none⟩),.agg (ξ a.x a.An a.cn a.Ac a.cc a.Au a.cu),.slice Am cs.length cm] W (Qk p mc mi mh kc ki kh a.x cs W):=by
 obtain ⟨ts,rfl,hts⟩:=uV (P:=fun t A k=>zn kc t.call=some (uy ⟨t,A,k⟩)∧RI W B3 A t.nodes) cs (fun t h=>hcm.at_ t (hcs t h))
 rw[List.length_map] at hl
 have hlx:=yO hxv.1
 have h:=Gl p mc mi mh kc ki kh a.x a.An a.Ac a.Au a.cn a.cc a.cu ts Am cm (fun _=>True) W hw ht ⟨hx.n.more (fun _ _=>trivial),hx.c.more (fun _ _=>trivial),hx.u.more (fun _ _=>trivial)⟩
  (by rw[List.map_map] at hm;exact hm.more (fun _ _=>trivial)) (fun t h=>⟨(hts t h).1,(hts t h).2.more (fun _ _=>trivial)⟩) hl ⟨hlx.1,by omega,hlx.2.1,by omega⟩ (fun t h=>by
   have h1:=hv t.c (hcs t.c (List.mem_map.2 ⟨t,h,rfl⟩))
   exact ⟨Dr h1.1,by omega⟩)
 rw[List.length_map]
 exact h
theorem dw {kh:List (Int × Value)}{L:List Ic}(h:HM kh L)(hs:Asc Ic.id L){x y:Ic}(hx:x∈L)(hid:y.id=x.id)(hu:y.units=x.units):HM kh (zz L y):=by
 refine ⟨h.nd,fun z hz v hv=>?_,fun v hv=>?_⟩
 ·rcases zK.1 hz with rfl | ⟨h1,h2⟩
  ·rw[hid];rw[hu] at hv;exact h.at_ x hx v hv
  ·exact h.at_ z h1 v hv
 ·refine h.no v (fun z hz hzv=>?_)
  by_cases e:z.id=y.id
  ·have e2:z=x:=qj Ic.id hs hz hx (by rw[e,hid])
   exact hv y (zK.2 (.inl rfl)) (by rw[hu,←e2];exact hzv)
  ·exact hv z (zK.2 (.inr ⟨hz,e⟩)) hzv
theorem UB {p mc mi mh:Nat}{kc ki kh:List (Int × Value)}{w W w2:World}{L:List (Nat × TypeId × Array Value)}{R:List (Option Addr × List Int)}{e:Ending}(ho:OW w W p mc mi mh kc ki kh L R){C:List Cr}{Li:List Ic}(hcm:CM W (Bq p mc mi mh) kc C)(him:IM W (Bq p mc mi mh) ki Li)(hhm:HM kh Li)(hs:Asc Ic.id Li)
 {x:Ic} {id:Int} (hx:zw Li id=some x) {cs:List Cr} (hr:Qk p mc mi mh kc ki kh x cs W e w2) {z:Ic} (ha:qF x (qB C id)=(qD x z,0)) (hp:cs.Perm (qB C id)) (hd:(cs.map Cr.call).Nodup) :
 PI w2 p mc mi mh (qw ⟨Li,C⟩ id)∧Fr (Sq p mc mi mh) w w2:=by
 obtain ⟨hxl,hxi⟩:=zi hx
 obtain ⟨rfl,hf,hif⟩:=hr
 have Ni:qF x cs=(qD x z,0):=by rw[Ky hp hd,ha]
 rw[Ni,if_pos rfl] at hif
 obtain ⟨a,hax,hpw,mI⟩:=hif
 have hax:a.x=qD x z:=hax
 have hN:qw ⟨Li,C⟩ id=⟨zz Li (qD x z),C⟩:=by unfold qw;rw[hx];dsimp only;rw[ha]
 rw[hN]
 have hne:∀ k,Bq p mc mi mh k→¬ k=mi:=fun k hk=>hk.2.2.1
 refine ⟨⟨_,_,_,hpw,hcm.fr hf hne,?_,dw hhm hs hxl rfl rfl⟩,ho.fr.trans (hf.mono (fun k _ e=>.inr (.inr (.inl e))))⟩
 have h1:=(him.fr hf hne).put hs a (mI.more (fun k hk=>ho.pw.fresh hk))
 rw[hax] at h1
 exact h1
theorem DU {l k:List Int}(hl:l.Pairwise (fun a b=>a<b))(hk:k.Pairwise (fun a b=>a<b))(h:∀ n,n∈l↔n∈k):l=k:=
 QW (fun n:Int=>n) hl hk h
theorem QR {C:List Cr}(h:Asc Cr.call C):(C.map Cr.call).Pairwise (fun a b=>a<b):=by
 rw[List.pairwise_map];exact h
theorem En {C:List Cr}(h:Asc Cr.call C){y t:Cr}(hy:y∈C)(hc:t.call=y.call)(hi:t.inc=y.inc)(id:Int):(qB (zG C t) id).map Cr.call=(qB C id).map Cr.call:=by
 refine DU (QR (qi (zN Cr.call h t) id)) (QR (qi h id)) (fun n=>?_)
 rw[List.mem_map,List.mem_map]
 constructor
 ·rintro ⟨u,hu,rfl⟩
  obtain ⟨h1,h2⟩:=zo.1 hu
  rcases qc.1 h1 with rfl | ⟨h3,h4⟩
  ·exact ⟨y,zo.2 ⟨hy,by rw[←hi];exact h2⟩,hc.symm⟩
  ·exact ⟨u,zo.2 ⟨h3,h2⟩,rfl⟩
 ·rintro ⟨u,hu,rfl⟩
  obtain ⟨h1,h2⟩:=zo.1 hu
  by_cases e:u.call=t.call
  ·have e2:u=y:=qj Cr.call h h1 hy (by rw[e,hc])
   exact ⟨t,zo.2 ⟨qc.2 (.inl rfl),by rw[hi,←e2];exact h2⟩,e.symm⟩
  ·exact ⟨u,zo.2 ⟨qc.2 (.inr ⟨h1,e⟩),h2⟩,rfl⟩
theorem Bg {C:List Cr}(h:Asc Cr.call C){t:Cr}{id:Int}(hi:t.inc=id)(hn:∀ u∈C,u.call≠t.call):(qB C id ++ [t]).Perm (qB (zG C t) id):=by
 have n1:(qB C id ++ [t]).Nodup:=by
  rw[List.nodup_append]
  refine ⟨(qi h id).imp (fun h e=>by rw[e] at h;omega),by simp,fun a ha b hb e=>?_⟩
  have e2:b=t:=by simpa using hb
  exact hn a (zo.1 ha).1 (by rw[e,e2])
 rw[List.perm_ext_iff_of_nodup n1 (show (qB (zG C t) id).Nodup from (qi (zN Cr.call h t) id).imp (fun h e=>by rw[e] at h;omega))]
 intro u
 rw[List.mem_append,zo,zo,qc,List.mem_singleton]
 constructor
 ·rintro (⟨h1,h2⟩ | rfl)
  ·exact ⟨.inr ⟨h1,hn u h1⟩,h2⟩
  ·exact ⟨.inl rfl,hi⟩
 ·rintro ⟨h1 | ⟨h1,_⟩,h2⟩
  ·exact .inr h1
  ·exact .inl ⟨h1,h2⟩
theorem Bf {C:List Cr}(h:Asc Cr.call C){t:Cr}(ht:t∈C){id:Int}(hi:id≠t.inc):(qB (zG C { t with inc:=id }) t.inc).map Cr.call=JD ((qB C t.inc).map Cr.call) t.call:=by
 have a1:=QR (qi h t.inc)
 refine DU (QR (qi (zN Cr.call h _) _)) (a1.sublist List.filter_sublist) (fun n=>?_)
 unfold JD
 rw[List.mem_map,List.mem_filter,List.mem_map]
 constructor
 ·rintro ⟨u,hu,rfl⟩
  obtain ⟨h1,h2⟩:=zo.1 hu
  rcases qc.1 h1 with rfl | ⟨h3,h4⟩
  ·exact absurd h2 hi
  ·exact ⟨⟨u,zo.2 ⟨h3,h2⟩,rfl⟩,by simpa using h4⟩
 ·rintro ⟨⟨u,hu,rfl⟩,h5⟩
  obtain ⟨h1,h2⟩:=zo.1 hu
  exact ⟨u,zo.2 ⟨qc.2 (.inr ⟨h1,by simpa using h5⟩),h2⟩,rfl⟩
end Go.Proofs.YtdhcjhfgibmhfaaGreatDoor

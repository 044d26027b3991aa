import Derived.Test.YtdhcjhfgibmhfaaGreatDoorJPr14
set_option linter.unusedVariables false
set_option linter.unusedSimpArgs false
set_option maxRecDepth 10000
set_option maxHeartbeats 8000000
namespace Go.Proofs.YtdhcjhfgibmhfaaGreatDoor
open Go.RowKit Go.Own Go.Quo Go.Inc
def oo (p mc mi mh:Nat)(b:Bk)(id:Int)(w:World)(e:Ending)(w':World):Prop:=e=.returned (.tuple #[])∧PI w' p mc mi mh (qw b id)∧Fr (Sq p mc mi mh) w w'
theorem pI (p mc mi mh:Nat)(kc ki kh:List (Int × Value))(b:Bk)(t:Ca)(a:Xa)(id:Int)(n:Nat)(w:World)(hw:PW w p mc mi mh kc ki kh)(hc:CM w (Bq p mc mi mh) kc b.C)(hi:IM w (Bq p mc mi mh) ki b.L)(hh:HM kh b.L)(hG:Good n b)(hn:n+1≤1000)(htb:jg w)(ht:RI w (Bq p mc mi mh) t.A t.c.nodes)(Ko:t.c∈b.C)(hx:XR w (Bq p mc mi mh) a)(hgi:zw b.L t.c.inc=some a.x)(hni:zw b.L id=none)(hid:zQ id 1=true)(hop:zx a.x=true)(h2:2≤a.x.calls.length) :
 Calls Tryz.prog 57 #[.pointer (some ⟨p,0,none⟩),.agg (χ t.c t.A t.k),.agg (ξ a.x a.An a.cn a.Ac a.cc a.Au a.cu),ι id] w (oo p mc mi mh ⟨zz b.L (zt id { t.c with inc:=id }),zG b.C { t.c with inc:=id }⟩ t.c.inc w):=by
 have J2:=zg.sC hG
 have hsL:=zg.sL hG
 have HCM:=ħ hc
 have QS:=ħ hi
 have VN:=ħ hh
 have FW:=ħ hw
 have HG:=ħ hG
 have Yi:=ħ htb
 have Kk:=ħ ht
 have HR:=ħ hx
 have rD:=ħ Ko
 have QP:=ħ hgi
 have AR:=ħ hni
 have hne:id≠t.c.inc:=fun e=>by rw[←e,hni] at hgi;cases hgi
 have VV:=ħ hne
 have hv:=zg.vC hG t.c Ko
 have Lp:=ħ hv
 have mD:=ħ hid
 have BN:=ħ (zg.vL hG a.x (zi hgi).1)
 have UR:=ħ (show a.x.calls=(qB b.C t.c.inc).map Cr.call by rw[←(zi hgi).2];exact Good.cs hG a.x (zi hgi).1)
 have NS:=ħ (show t.c.call∈a.x.calls by rw[UR.out];exact List.mem_map.2 ⟨t.c,zo.2 ⟨Ko,rfl⟩,rfl⟩)
 have hlx:=(yO (zg.vL hG a.x (zi hgi).1).1).2.1
 have mK:=ħ (show ∃ z,qF a.x (qB (zG b.C { t.c with inc:=id }) t.c.inc)=(qD a.x z,0) from by
  obtain ⟨g3,g4⟩:=zi hgi
  have kn:=J8 hG hid hni (t:={ t.c with inc:=id }) rfl ⟨Zx hv.1 (Zu hid) t.c.closed,hv.2⟩ t.c.inc (fun u hu e=>by
   have:u=t.c:=qj Cr.call J2 hu Ko e
   subst this
   exact ⟨rfl,fun y hy hyi=>by rw[qj Ic.id hsL hy g3 (by rw[hyi,g4])];exact hop⟩)
  have hgx:zw (zz b.L (zt id { t.c with inc:=id })) t.c.inc=some a.x:=by
   rw[jb hsL,if_neg (fun e=>hne (by exact e.symm))];exact hgi
  have hsome:qB (zG b.C { t.c with inc:=id }) t.c.inc≠[]:=by
   have hcs:=UR.out
   have hlen:2≤(qB b.C t.c.inc).length:=by rw[hcs,List.length_map] at h2;exact h2
   have hex:∃ u∈qB b.C t.c.inc,u.call≠t.c.call:=by
    match hq:qB b.C t.c.inc,hlen with
    | u :: v :: r,_=>
     have ha:=qi J2 t.c.inc
     rw[hq] at ha
     have h12:u.call<v.call:=(List.pairwise_cons.1 ha).1 v (by simp)
     by_cases e:u.call=t.c.call
     ·exact ⟨v,by simp,by omega⟩
     ·exact ⟨u,by simp,e⟩
   obtain ⟨u,hu,hue⟩:=hex
   intro e
   have:u∈qB (zG b.C { t.c with inc:=id }) t.c.inc:=zo.2 ⟨qc.2 (.inr ⟨(zo.1 hu).1,hue⟩),(zo.1 hu).2⟩
   rw[e] at this;simp at this
  obtain ⟨z,-,hz,-⟩:=jH (id:=t.c.inc) kn hn hgx hop hsome
  exact ⟨z,hz⟩)
 have zD:=ħ (((OW.new hw).alloc 34 (χ t.c t.A t.k)).alloc 48 (ξ a.x a.An a.cn a.Ac a.cc a.Au a.cu))
 have e1:(w.alloc (.cells (χ t.c t.A t.k) 34)).heap.size=w.heap.size+1:=by simp
 rw[e1] at zD
 clear e1
 obtain ⟨x,hx2⟩:∃ x:Ic,x=zt id t.c:=⟨_,rfl⟩
 have HX:=ħ hx2
 have sj:=ħ fun (W:World) (hr:RI W (Bq p mc mi mh) t.A t.c.nodes)=>KQ id t.c x hx2 (by rw[hid];exact hv.1) t.A t.k _ W (Dr hv.1) hr (by omega)
 have Fa:=fun (W:World) (k:Int) (v:Value) (hW:zF W mc .i64 kc)=>zF.update (P:=Tryz.prog) hW Tryz.underlying85 Tryz.underlying2 k v
 have Hy:=fun (W:World) (k:Int) (v:Value) (hW:zF W mi .i64 ki)=>zF.update (P:=Tryz.prog) hW Tryz.underlying86 Tryz.underlying2 k v
 have Ow:∀ (fn:Fn) (first cap:Array Value) (w:World),(Instr.makeFunc fn first cap).run Tryz.prog w=.ok (.func fn first cap) w:=fun _ _ _ _=>rfl
 clear hc hi hh hG htb ht hx Ko hgi hni hne hv hid hop hx2 hw h2
 go_enter Tryz.func57,Tryz.ntmps57
 go_upto_region 1 with fail
 generalize (w.alloc _).alloc _=W0 at *
 have p0:=zD.out.pw.al
 have b00:=zD.out.f0
 have b10:=zD.out.f1
 go_upto_region 2 with ((go_at_call 84;((with_reducible refine (sj.out _ (zD.out.keep Kk.out)).mono ?_);rintro e w1 ⟨eO,eZ,fF,eD,fZ,dZ,rfl,h1,h2,h3,hb⟩;have Z0:=zD.out.own hb h1;have MB:=zD.out.own hb h2;have Ll:=zD.out.own hb h3;have zu:=ħ ((((zD.out.below hb).row Z0).row MB).row Ll);clear Z0 MB Ll h1 h2 h3 hb;clear p0 b00 b10;have p0:=zu.out.pw.al;have b00:=zu.out.f0;have b10:=zu.out.f1)))
 have zk:=ħ (zu.out.alloc 48 (ξ x eO eD eZ fZ fF dZ))
 obtain ⟨q8,hq8⟩:∃ q,q=w1.heap.size:=⟨_,rfl⟩
 rw[←hq8] at zk⊢
 clear p0 b00 b10
 clear hq8 zu
 generalize w1.alloc _=W2 at *
 have p0:=zk.out.pw.al
 have b00:=zk.out.f0
 have b10:=zk.out.f1
 have b20:=zk.out.f2
 go_upto_region 4 with (fail)
 have zC:=ħ (OW.setC_ (L1:=[(q8,48,(ξ x eO eD eZ fZ fF dZ)),((w.heap.size+1),48,(ξ a.x a.An a.cn a.Ac a.cc a.Au a.cu))]) (L2:=[]) zk.out 1 (ι id) (cs':=#[ι t.c.call,ι id,ι t.c.urg,.string t.c.code,.slice t.A t.c.nodes.length t.k,ι t.c.dist,ι t.c.since,.bool t.c.closed]) (by simp))
 clear p0 b00 b10 b20
 clear zk
 generalize World.setCell _ _ _=W3 at *
 have p0:=zC.out.pw.al
 have b00:=zC.out.f0
 have b10:=zC.out.f1
 have b20:=zC.out.f2
 refine yJ 7 (by kernel_rfl) (by kernel_rfl) (fun T hT=>?_)
 simp only[List.take_succ_cons,List.take_zero]
 repeat still_step
 refine wpStill_nil (hT _ ?_)
 clear hT T
 simp only[List.drop_succ_cons,List.drop_zero]
 go_upto_region 5 with (fail)
 have zP:=ħ (zC.out.putC (t.c.call) (.agg #[ι t.c.call,ι id,ι t.c.urg,.string t.c.code,.slice t.A t.c.nodes.length t.k,ι t.c.dist,ι t.c.since,.bool t.c.closed])).drew
 clear p0 b00 b10 b20
 clear zC
 generalize (mput _ _ _ _ _).drew=W4 at *
 have p0:=zP.out.pw.al
 have b00:=zP.out.f0
 have b10:=zP.out.f1
 have b20:=zP.out.f2
 refine yJ 6 (by kernel_rfl) (by kernel_rfl) (fun T hT=>?_)
 simp only[List.take_succ_cons,List.take_zero]
 repeat still_step
 refine wpStill_nil (hT _ ?_)
 clear hT T
 simp only[List.drop_succ_cons,List.drop_zero]
 go_upto_region 6 with (fail)
 have qm:=ħ (zP.out.putI (id) (.agg (ξ x eO eD eZ fZ fF dZ))).drew
 clear p0 b00 b10 b20
 clear zP
 generalize (mput _ _ _ _ _).drew=W5 at *
 have p0:=qm.out.pw.al
 have b00:=qm.out.f0
 have b10:=qm.out.f1
 have b20:=qm.out.f2
 have Az:=ħ (qm.out.box (g:=w.heap.size) (t:=34) (cs:=#[ι t.c.call,ι id,ι t.c.urg,.string t.c.code,.slice t.A t.c.nodes.length t.k,ι t.c.dist,ι t.c.since,.bool t.c.closed]) (.tail _ (.tail _ (.head _))))
 have Gy:=ħ (qm.out.box (g:=(w.heap.size+1)) (t:=48) (cs:=(ξ a.x a.An a.cn a.Ac a.cc a.Au a.cu)) (.tail _ (.head _)))
 have sI:=ħ (qm.out.box (g:=q8) (t:=48) (cs:=(ξ x eO eD eZ fZ fF dZ)) (.head _))
 have IY:=ħ (XM _ a.Ac a.cc a.x.calls W5 (qm.out.keepX HR.out).c hlx)
 have Cu:=ħ fun (A2:Option Addr) (c2:Nat) (W':World) (hb:Below W5.heap.size W5 W') (ho:W'.ownsRow W5.heap.size 2 1 (.slice A2 a.x.calls.length c2) a.x.calls.length (a.x.calls.map (Value.int .i64)))=>iU W5.heap.size A2 c2 a.x.calls t.c.call w.heap.size W' ho (List.length_pos_of_mem NS.out) (Nat.lt_of_lt_of_le Az.out.lt hb.size) (fun g hg e=>by have:=(ho.lt g hg).1;have:=Az.out.lt;omega) ((hb.cell (p:=⟨w.heap.size,0,none⟩) Az.out.lt).trans (Az.out.cell 0))
 have V9:=ħ (show CM W5 (Bq p mc mi mh) (yg kc t.c.call (.agg #[ι t.c.call,ι id,ι t.c.urg,.string t.c.code,.slice t.A t.c.nodes.length t.k,ι t.c.dist,ι t.c.since,.bool t.c.closed])) (zG b.C { t.c with inc:=id }) from
  (HCM.out.fr qm.out.fr (fun k hk=>qh hk)).put J2 { t.c with inc:=id } t.A t.k (qm.out.keep Kk.out))
 have z1m:=ħ (show IM W5 (Bq p mc mi mh) (yg ki id (.agg (ξ x eO eD eZ fZ fF dZ))) (zz b.L (zt id { t.c with inc:=id })) from by
  have h1:=(QS.out.fr qm.out.fr (fun k hk=>qh hk)).put hsL ⟨x,eO,eZ,fF,eD,fZ,dZ⟩ ⟨qm.out.rq (.tail _ (.tail _ (.head _))),qm.out.rq (.tail _ (.head _)),qm.out.rq (.head _)⟩
  have e:=HX.out
  subst e
  exact h1)
 have Ig:=ħ (show HM kh (zz b.L (zt id { t.c with inc:=id })) from Ba VN.out (fun y hy=>(Q8 AR.out) y hy) rfl)
 have XB:=ħ (show zw (zz b.L (zt id { t.c with inc:=id })) t.c.inc=some a.x from by
  rw[jb hsL,if_neg (fun e=>VV.out (by exact e.symm))];exact QP.out)
 have gB:=ħ (show (qB (zG b.C { t.c with inc:=id }) t.c.inc).map Cr.call=JD a.x.calls t.c.call from by rw[Bf J2 rD.out VV.out,UR.out])
 have ag:=ħ (show (qB (zG b.C { t.c with inc:=id }) t.c.inc).length=(JD a.x.calls t.c.call).length from by rw[←gB.out,List.length_map])
 have uh:=ħ fun (W':World) (hb:Below W5.heap.size W5 W') (w2:World) (e:Ending) (hr:Qk p mc mi mh (yg kc t.c.call (.agg #[ι t.c.call,ι id,ι t.c.urg,.string t.c.code,.slice t.A t.c.nodes.length t.k,ι t.c.dist,ι t.c.since,.bool t.c.closed])) (yg ki id (.agg (ξ x eO eD eZ fZ fF dZ))) kh a.x (qB (zG b.C { t.c with inc:=id }) t.c.inc) W' e w2)=>(show PI w2 p mc mi mh (qw ⟨zz b.L (zt id { t.c with inc:=id }),zG b.C { t.c with inc:=id }⟩ t.c.inc)∧Fr (Sq p mc mi mh) w w2 from by
  obtain ⟨z,hz⟩:=mK.out
  exact UB (qm.out.below hb) (V9.out.below hb) (z1m.out.below hb) Ig.out (zN Ic.id hsL _) XB.out hr hz (List.Perm.refl _) (by rw[gB.out,UR.out];exact (jm Cr.call (qi J2 _)).sublist List.filter_sublist))
 have fo:=ħ fun (W':World) (hb:Below W5.heap.size W5 W') (Am:Option Addr) (cm:Nat) (hr:RI W' (fun k=>W5.heap.size≤k) Am (JD a.x.calls t.c.call))=>(show Calls Tryz.prog 61 #[.pointer (some ⟨p,0,none⟩),.agg (ξ a.x a.An a.cn a.Ac a.cc a.Au a.cu),.slice Am (JD a.x.calls t.c.call).length cm] W' (Qk p mc mi mh (yg kc t.c.call (.agg #[ι t.c.call,ι id,ι t.c.urg,.string t.c.code,.slice t.A t.c.nodes.length t.k,ι t.c.dist,ι t.c.since,.bool t.c.closed])) (yg ki id (.agg (ξ x eO eD eZ fZ fF dZ))) kh a.x (qB (zG b.C { t.c with inc:=id }) t.c.inc) W') from by
  have hcm:=V9.out.below hb
  rw[←gB.out] at hr
  have h1:=J6 a (qB (zG b.C { t.c with inc:=id }) t.c.inc) (zG b.C { t.c with inc:=id }) Am cm _ _ _ W' (qm.out.below hb).pw ((qm.out.below hb).tab2 Yi.out FW.out) ((qm.out.below hb).keepX HR.out) hr hcm (fun u hu=>(zo.1 hu).1) (by
   rw[ag.out]
   have h5:=Us a.x.calls t.c.call
   have h6:a.x.calls.length=(qB b.C t.c.inc).length:=by rw[UR.out,List.length_map]
   have h7:=UM b.C t.c.inc
   have h8:=zg.nC HG.out
   omega) BN.out (fun u hu=>by
   rcases qc.1 hu with rfl | ⟨h3,h4⟩
   ·exact ⟨Zx Lp.out.1 (Zu mD.out) t.c.closed,Lp.out.2⟩
   ·exact zg.vC HG.out u h3)
  rw[ag.out] at h1
  exact h1)
 go_wp2_with (first | (go_at_call 85;((with_reducible refine IY.out.mono ?_);rintro e w20 ⟨A2,c2,rfl,ho,hb⟩;have XJ:=ħ hb;have p8:=ħ (Cu.out A2 c2 _ hb ho);clear ho hb;clear p0 b00 b10 b20)) | (go_at_call 101;((with_reducible refine p8.out.mono ?_);rintro e Me ⟨rfl,ho,hgr⟩;have hbn:=Below.grown XJ.out hgr XJ.out.size (fun j hj=>(ho.lt j hj).1);have Yx:=ħ (qm.out.below hbn);have aL:=ħ (fo.out _ hbn A2 c2 (qK ho));have OO:=ħ (uh.out _ hbn);clear ho hgr hbn;have p0:=Yx.out.pw.al;have b00:=Yx.out.f0;have b10:=Yx.out.f1;have b20:=Yx.out.f2)) | (go_at_call 61;((with_reducible refine aL.out.mono ?_);rintro e w9 hr;obtain ⟨hre,hr2⟩:=(⟨hr.1,hr⟩:_∧_);subst hre;have Yn:=ħ (OO.out _ _ hr2);clear hr hr2)))
 refine bodyPost_ret (results_none rfl _ _ _) rfl ?_
 exact ⟨rfl,Yn.out.1,Yn.out.2⟩
end Go.Proofs.YtdhcjhfgibmhfaaGreatDoor

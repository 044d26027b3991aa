import Derived.Test.YtdhcjhfgibmhfaaGreatDoorJPr8
set_option linter.unusedVariables false
set_option linter.unusedSimpArgs false
set_option maxRecDepth 10000
set_option maxHeartbeats 8000000
namespace Go.Proofs.YtdhcjhfgibmhfaaGreatDoor
open Go.RowKit Go.Own Go.Quo Go.Inc
theorem rz:∀ w,(zeroValue 2).run Tryz.prog w=.ok (ι 0) w:=fun w=>by kernel_rfl
theorem Bh {w:World}{mh:Nat}{kh:List (Int × Value)}(k:Int){v:Value}{f:Bool}(hv:(zn kh k).getD (ι 0)=v)(hf:(zn kh k).isSome=f):∀ W:World,zF W mh .i64 kh→(Instr.lookup 87 (.map (some mh)) (ι k) true).run Tryz.prog W=.ok (.tuple #[v,.bool f]) W:=fun W hW=>by
 have:=zF.lookup (P:=Tryz.prog) hW Tryz.underlying87 Tryz.underlying3 rz k true
 rw[hv,hf] at this
 simpa using this
theorem Uq {l:List Int}{u:Int}:hasB l u=true↔u∈l:=by unfold hasB;simp
theorem bT {kh:List (Int × Value)}{L:List Ic}(h:HM kh L)(u:Int):(∃ y,L.find? (fun y=>hasB y.units u)=some y∧zn kh u=some (ι y.id))∨(L.find? (fun y=>hasB y.units u)=none∧zn kh u=none∧∀ y∈L,u∉y.units):=by
 cases hf:L.find? (fun y=>hasB y.units u) with
 | none=>
  right
  rw[List.find?_eq_none] at hf
  have h1:∀ y∈L,u∉y.units:=fun y hy hu=>hf y hy (Uq.2 hu)
  exact ⟨rfl,h.no u h1,h1⟩
 | some y=>
  left
  have h1:=List.mem_of_find?_eq_some hf
  have h2:=List.find?_some hf
  exact ⟨y,rfl,h.at_ y h1 u (Uq.1 h2)⟩
theorem bV {kh:List (Int × Value)}{L:List Ic}(h:HM kh L)(hs:Asc Ic.id L){x x':Ic}{u:Int}(hx:x∈L)(hu:∀ y∈L,u∉y.units)(hid:x'.id=x.id)(hm:∀ v,v∈x'.units↔v∈x.units∨v=u):HM (yg kh u (ι x.id)) (zz L x'):=by
 refine ⟨Qc h.nd _ _,fun y hy v hv=>?_,fun v hv=>?_⟩
 ·rw[Zk]
  rcases zK.1 hy with rfl | ⟨h1,h2⟩
  ·rcases (hm v).1 hv with h3 | h3
   ·rw[if_neg (fun e:v=u=>hu x hx (e ▸ h3)),hid];exact h.at_ x hx v h3
   ·rw[if_pos h3,hid]
  ·rw[if_neg (fun e:v=u=>hu y h1 (e ▸ hv))];exact h.at_ y h1 v hv
 ·have h1:v≠u:=fun e=>hv x' (zK.2 (.inl rfl)) ((hm v).2 (.inr e))
  rw[Zk,if_neg h1]
  refine h.no v (fun y hy hyv=>?_)
  by_cases e:y.id=x'.id
  ·have e2:y=x:=qj Ic.id hs hy hx (by rw[e,hid])
   exact hv x' (zK.2 (.inl rfl)) ((hm v).2 (.inl (e2 ▸ hyv)))
  ·exact hv y (zK.2 (.inr ⟨hy,e⟩)) hyv
theorem DR {l a b:List Int}(hl:l.Nodup)(hm:∀ u,u∈l↔(u∈a∨u∈b))(hr:∀ u∈l,0≤u∧u≤255):Ya l=qp a b:=by
 have h1:=j4.1 (Vn a b)
 refine Hz ?_ (h1.1.imp (fun h=>by omega))
 rw[List.perm_ext_iff_of_nodup hl (h1.1.imp (fun h=>by omega))]
 intro u
 rw[ZU,hm]
 exact ⟨fun h=>⟨hr u ((hm u).2 h),h⟩,fun h=>h.2⟩
theorem OW.frs {w wr w2:World}{p mc mi mh:Nat}{kc ki kh:List (Int × Value)}{L:List (Nat × TypeId × Array Value)}{S:Nat→Prop}(h:OW w wr p mc mi mh kc ki kh L [])(hf:Fr S wr w2)(hS:∀ k,S k→w.heap.size≤k∧∀ b∈L,k≠b.1):OW w w2 p mc mi mh kc ki kh L []:=by
 have hpl:=h.pl
 have hn:∀ k,k<w.heap.size→¬ S k:=fun k hk e=>by have:=(hS k e).1;omega
 refine ⟨h.pl,⟨h.pw.P.fr hf (hn _ hpl.1),h.pw.bc.fr hf (hn _ hpl.2.1),h.pw.bi.fr hf (hn _ hpl.2.2.1),h.pw.bh.fr hf (hn _ hpl.2.2.2),h.pw.ne⟩,?_,fun b hb=>⟨(h.bx b hb).1,(h.bx b hb).2.fr hf (fun e=>(hS _ e).2 b hb rfl)⟩,h.nd,fun r hr=>by simp at hr⟩
 exact ⟨hf.os.trans h.fr.os,hf.tape.trans h.fr.tape,hf.output.trans h.fr.output,Nat.le_trans h.fr.size hf.size,fun k hk hk2=>(hf.block k (Nat.lt_of_lt_of_le hk h.fr.size) (hn k hk)).trans (h.fr.block k hk hk2)⟩
theorem yB (a:Xa)(f:Bool)(ho:zx a.x=f)(W:World):Calls Tryz.prog 56 #[.agg (ξ a.x a.An a.cn a.Ac a.cc a.Au a.cu)] W (qX f W):=ho ▸ He a W
theorem yE {x:Ic}(h:jC x=true):x.units.Pairwise (fun a b=>a<b)∧∀ u∈x.units,0≤u∧u≤255:=by
 unfold jC at h
 simp only[Bool.and_eq_true] at h
 exact j4.1 (by first | exact h.1.2 | exact h.2.1)
theorem aB (p mc mi mh:Nat)(b:Bk)(id u:Int)(w:World)(h:PI w p mc mi mh b)(hsL:Asc Ic.id b.L)(hv:∀ x∈b.L,jC x=true) :
 Calls Tryz.prog 48 #[.pointer (some ⟨p,0,none⟩),ι id,ι u] w (Ji (qN b id u) p mc mi mh w):=by
 obtain ⟨kc,ki,kh,hw,hc,hi,hh⟩:=h
 have HCM:=ħ hc
 have QS:=ħ hi
 have VN:=ħ hh
 have FW:=ħ hw
 have HFin:=ħ fun (r:Int) (W:World) (L:List (Nat × TypeId × Array Value)) (R:List (Option Addr × List Int)) (ho:OW w W p mc mi mh kc ki kh L R) (hr:qN b id u=(b,r))=>(show Ji (qN b id u) p mc mi mh w (.returned (ι r)) W from ⟨by rw[hr],by rw[hr];exact ho.same hc hi hh,ho.fr⟩)
 have zD:=ħ (OW.new hw)
 clear hc hi hh
 by_cases hu:u<0∨255<u
 ·have HE:=ħ (show qN b id u=(b,1) by unfold qN;rw[if_pos hu])
  clear hw
  rcases hu with hu | hu
  ·go_enter Tryz.func48,Tryz.ntmps48
   have p0:=zD.out.pw.al
   go_wp2_with fail
   go_ret
   exact HFin.out 1 _ _ _ zD.out HE.out
  ·have hu1:¬ u<0:=by omega
   have hu2:u≥256:=by omega
   clear hu
   go_enter Tryz.func48,Tryz.ntmps48
   have p0:=zD.out.pw.al
   go_wp2_with fail
   go_ret
   exact HFin.out 1 _ _ _ zD.out HE.out
 ·have hu1:¬ u<0:=by omega
  have hu2:¬ u≥256:=by omega
  have HU:=ħ (show 0≤u∧u≤255 by omega)
  have Zr:=ħ (show ∀ r,(match zw b.L id with | none=>(b,4) | some x=>if zx x=false then (b,8) else match b.L.find? (fun y=>hasB y.units u) with | some y=>if y.id=id then (b,5) else (b,10) | none=>(⟨zz b.L { x with units:=qp x.units [u] },b.C⟩,0))=r→qN b id u=r from fun r h=>by unfold qN;rw[if_neg hu];exact h)
  clear hu
  rcases qU QS.out id with ⟨a,hg,hk,hr⟩ | ⟨hg,hk⟩
  ·have QP:=ħ hg
   have HR:=ħ hr
   have KU:=yG (w:=w) (mi:=mi) id (show (zn ki id).getD (.agg ζ)=.agg (ξ a.x a.An a.cn a.Ac a.cc a.Au a.cu) by rw[hk];rfl) (show (zn ki id).isSome=true by simp[hk])
   have BN:=ħ (hv a.x (zi hg).1)
   have hlen:=(yO (hv a.x (zi hg).1)).2.2
   clear hg hk hr
   cases ho:zx a.x with
   | false=>
    have HE:=ħ (Zr.out (b,8) (by rw[QP.out];dsimp only;rw[if_pos ho]))
    have YC:=ħ (yB a false ho)
    clear ho hw
    go_enter Tryz.func48,Tryz.ntmps48
    have p0:=zD.out.pw.al
    go_upto_region 4 with (fail)
    have zu:=ħ (zD.out.alloc 48 (ξ a.x a.An a.cn a.Ac a.cc a.Au a.cu))
    obtain ⟨q7,yZ⟩:∃ q,q=w.heap.size:=⟨_,rfl⟩
    rw[←yZ] at zu⊢
    clear p0
    clear yZ zD
    generalize w.alloc _=W1 at *
    have p0:=zu.out.pw.al
    have b00:=zu.out.f0
    go_wp2_with (go_at_call 56;((with_reducible refine (YC.out _).mono ?_);rintro e w2 ⟨rfl,hb⟩;have zk:=ħ (zu.out.below hb);clear hb;clear p0 b00;have p0:=zk.out.pw.al;have b00:=zk.out.f0))
    go_ret
    exact HFin.out 8 _ _ _ zk.out HE.out
   | true=>
    have YC:=ħ (yB a true ho)
    have Xi:=ħ (show ∀ r,(match b.L.find? (fun y=>hasB y.units u) with | some y=>if y.id=id then (b,5) else (b,10) | none=>(⟨zz b.L { a.x with units:=qp a.x.units [u] },b.C⟩,0))=r→qN b id u=r from fun r h=>Zr.out r (by rw[QP.out];dsimp only;rw[if_neg (by rw[ho];simp)];exact h))
    clear ho
    rcases bT VN.out u with ⟨y,hf,hk⟩ | ⟨hf,hk,hno⟩
    ·by_cases he:y.id=id
     ·have HE:=ħ (Xi.out (b,5) (by rw[hf];dsimp only;rw[if_pos he]))
      have hlh:=Bh (w:=w) (mh:=mh) u (show (zn kh u).getD (ι 0)=ι id by rw[hk,he];rfl) (show (zn kh u).isSome=true by simp[hk])
      clear hf hk he hw
      go_enter Tryz.func48,Tryz.ntmps48
      have p0:=zD.out.pw.al
      go_upto_region 4 with (fail)
      have zu:=ħ (zD.out.alloc 48 (ξ a.x a.An a.cn a.Ac a.cc a.Au a.cu))
      obtain ⟨q7,yZ⟩:∃ q,q=w.heap.size:=⟨_,rfl⟩
      rw[←yZ] at zu⊢
      clear p0
      clear yZ zD
      generalize w.alloc _=W1 at *
      have p0:=zu.out.pw.al
      have b00:=zu.out.f0
      go_upto_region 8 with ((go_at_call 56;((with_reducible refine (YC.out _).mono ?_);rintro e w2 ⟨rfl,hb⟩;have zk:=ħ (zu.out.below hb);clear hb;clear p0 b00;have p0:=zk.out.pw.al;have b00:=zk.out.f0)))
      go_wp2_with fail
      go_ret
      exact HFin.out 5 _ _ _ zk.out HE.out
     ·have HE:=ħ (Xi.out (b,10) (by rw[hf];dsimp only;rw[if_neg he]))
      have hlh:=Bh (w:=w) (mh:=mh) u (show (zn kh u).getD (ι 0)=ι y.id by rw[hk];rfl) (show (zn kh u).isSome=true by simp[hk])
      have hd:(y.id == id)=false:=by simpa using he
      clear hf hk he hw
      go_enter Tryz.func48,Tryz.ntmps48
      have p0:=zD.out.pw.al
      go_upto_region 4 with (fail)
      have zu:=ħ (zD.out.alloc 48 (ξ a.x a.An a.cn a.Ac a.cc a.Au a.cu))
      obtain ⟨q7,yZ⟩:∃ q,q=w.heap.size:=⟨_,rfl⟩
      rw[←yZ] at zu⊢
      clear p0
      clear yZ zD
      generalize w.alloc _=W1 at *
      have p0:=zu.out.pw.al
      have b00:=zu.out.f0
      go_upto_region 8 with ((go_at_call 56;((with_reducible refine (YC.out _).mono ?_);rintro e w2 ⟨rfl,hb⟩;have zk:=ħ (zu.out.below hb);clear hb;clear p0 b00;have p0:=zk.out.pw.al;have b00:=zk.out.f0)))
      go_wp2_with fail
      go_ret
      exact HFin.out 10 _ _ _ zk.out HE.out
    ·have HE:=ħ (Xi.out _ (by rw[hf]))
     have kI:=ħ hno
     have hlh:=Bh (w:=w) (mh:=mh) u (show (zn kh u).getD (ι 0)=ι 0 by rw[hk];rfl) (show (zn kh u).isSome=false by simp[hk])
     have HI:=ħ (show (Tryz.prog.info? 3).map (fun i=>(i.zero,i.size,i.bytes))=some (some (ι 0),1,8) by kernel_rfl)
     have Hy:=fun (W:World) (k:Int) (v:Value) (hW:zF W mi .i64 ki)=>zF.update (P:=Tryz.prog) hW Tryz.underlying86 Tryz.underlying2 k v
     have CB:=fun (W:World) (k:Int) (v:Value) (hW:zF W mh .i64 kh)=>zF.update (P:=Tryz.prog) hW Tryz.underlying87 Tryz.underlying3 k v
     have HS:=ħ (show Ya (a.x.units ++ [u])=qp a.x.units [u] from by
      have h1:=yE BN.out
      refine DR ?_ (fun v=>by rw[List.mem_append]) (fun v hv=>?_)
      ·rw[List.nodup_append]
       refine ⟨h1.1.imp (fun h=>by omega),by simp,fun x hx y hy e=>?_⟩
       have e2:y=u:=by simpa using hy
       exact kI.out a.x (zi QP.out).1 (by rw[←e2,←e];exact hx)
      ·rcases List.mem_append.1 hv with h | h
       ·exact h1.2 v h
       ·have e2:v=u:=by simpa using h
        rw[e2];exact HU.out)
     clear hf hk hw hno
     go_enter Tryz.func48,Tryz.ntmps48
     have p0:=zD.out.pw.al
     go_upto_region 4 with (fail)
     have zu:=ħ (zD.out.alloc 48 (ξ a.x a.An a.cn a.Ac a.cc a.Au a.cu))
     obtain ⟨q7,yZ⟩:∃ q,q=w.heap.size:=⟨_,rfl⟩
     rw[←yZ] at zu⊢
     clear p0
     clear yZ zD
     generalize w.alloc _=W1 at *
     have p0:=zu.out.pw.al
     have b00:=zu.out.f0
     go_upto_region 8 with ((go_at_call 56;((with_reducible refine (YC.out _).mono ?_);rintro e w2 ⟨rfl,hb⟩;have zk:=ħ (zu.out.below hb);clear hb;clear p0 b00;have p0:=zk.out.pw.al;have b00:=zk.out.f0)))
     go_upto_region 13 with (fail)
     have Gc:=ħ (show q7<w2.heap.size from (zk.out.box (g:=q7) (t:=48) (cs:=(ξ a.x a.An a.cn a.Ac a.cc a.Au a.cu)) (.head _)).lt)
     have sI:=ħ (show w.heap.size≤w2.heap.size from zk.out.fr.size)
     have gD:=ħ (Zd _ a.Au a.cu a.x.units w2 (zk.out.keep HR.out.u) (by omega))
     go_upto_region 14 with (first | (go_at_call 54;((with_reducible refine gD.out.mono ?_);rintro e w20 ⟨A2,c2,rfl,ho,hb⟩;have ja:=ħ ho;have XJ:=ħ hb;clear ho hb;clear p0 b00)) | (at_builtin;refine ze _ rfl _ _ _ rfl w2.heap.size 3 _ 1 8 Tryz.underlying32 HI.out rfl (by omega) (.slice A2 a.x.units.length c2) a.x.units.length (a.x.units.map (Value.int .i64)) rfl (ja.out.alloc _) _ (some ⟨w20.heap.size,0,none⟩) 1 1 [ι u] rfl (Reads.newS _ [ι u] 3 (0,0) 1 1 rfl _ (by simp)) (by intro v hv;have e:v=ι u:=(by simpa using hv);rw[e];rfl) (by simp only[maxLen];omega) (by omega) (by have:=XJ.out.size;simp;omega) ?_;intro A5 c5 Me hown hgr hat;have aA:=ħ hown;have wG:=ħ (Below.grown (XJ.out.alloc XJ.out.size (.cells #[ι u] 3)) hgr (by have:=XJ.out.size;simp;omega) (fun j hj=>(ja.out.lt j hj).1));clear hown hgr hat;have Yx:=ħ (zk.out.below wG.out);have p0:=Yx.out.pw.al;have b00:=Yx.out.f0))
     have iO:=ħ (ownsRow_setCell_below aA.out (a:=⟨q7,7,none⟩) (by have:=Gc.out;simp;omega) (.slice A5 (a.x.units.length+1) c5))
     have Fb:=ħ (OW.setC_ (L1:=[]) (L2:=[]) Yx.out 7 ((.slice A5 (a.x.units.length+1) c5)) (cs':=#[ι a.x.id,ι a.x.urg,.string a.x.code,.slice a.An a.x.nodes.length a.cn,ι a.x.dist,ι a.x.since,.slice a.Ac a.x.calls.length a.cc,.slice A5 (a.x.units.length+1) c5,ι a.x.merged,.bool a.x.closed]) (by simp))
     clear p0 b00
     clear Yx
     generalize World.setCell _ _ _=W22 at *
     have p0:=Fb.out.pw.al
     have b00:=Fb.out.f0
     have wO:=ħ (H8 _ A5 (a.x.units.length+1) c5 (a.x.units ++ [u]) W22 (by have:=iO.out;rw[List.map_append];exact this) (by omega))
     go_upto_region 15 with ((go_at_call 60;((with_reducible refine wO.out.mono ?_);rintro e w30 ⟨rfl,ho,hgr⟩;have Gu:=ħ ho;have cO:=ħ (OW.frs (S:=fun k=>(Value.slice A5 (a.x.units.length+1) c5).ownBlock=some k) Fb.out ((Fr.refl _ _).grown hgr (fun k hk=>.inl hk)) (fun k hk=>by have h1:=(iO.out.lt k hk).1;have h2:=Gc.out;have h3:=sI.out;exact ⟨by omega,fun b hb=>by have e:b.1=q7:=(by simp at hb;rw[hb]);omega⟩));clear ho hgr;clear p0 b00;have p0:=cO.out.pw.al;have b00:=cO.out.f0)))
     have sD:=ħ (cO.out.row (A:=A5) (l:=qp a.x.units [u]) (by
      have h1:=Gu.out
      rw[HS.out] at h1
      have hl2:(qp a.x.units [u]).length=a.x.units.length+1:=by have:=h1.1;simpa using this
      rw[←hl2] at h1
      exact ((qK h1).old (by omega)).more (fun k hk=>⟨Nat.le_trans sI.out hk.1,hk.2,fun b hb=>by have e:b.1=q7:=(by simp at hb;rw[hb]);have h2:=Gc.out;have h3:=hk.1;omega⟩)))
     have NI:=ħ (show (qp a.x.units [u]).length=a.x.units.length+1 from by have h1:=Gu.out.1;rw[HS.out] at h1;simpa using h1)
     clear cO Gu
     refine yJ 6 (by kernel_rfl) (by kernel_rfl) (fun T hT=>?_)
     simp only[List.take_succ_cons,List.take_zero]
     repeat still_step
     refine wpStill_nil (hT _ ?_)
     clear hT T
     simp only[List.drop_succ_cons,List.drop_zero]
     go_upto_region 16 with (fail)
     have ma:=ħ (sD.out.putI (id) (.agg #[ι a.x.id,ι a.x.urg,.string a.x.code,.slice a.An a.x.nodes.length a.cn,ι a.x.dist,ι a.x.since,.slice a.Ac a.x.calls.length a.cc,.slice A5 (a.x.units.length+1) c5,ι a.x.merged,.bool a.x.closed])).drew
     clear p0 b00
     clear sD
     generalize (mput _ _ _ _ _).drew=W41 at *
     have p0:=ma.out.pw.al
     have b00:=ma.out.f0
     go_wp2_with fail
     go_ret
     have HN:=ħ (ma.out.putH u (ι id))
     clear p0 b00
     rw[HE.out]
     generalize mput _ _ _ _ _=WF at *
     have hid:=(zi QP.out).2
     refine ⟨rfl,⟨_,_,_,HN.out.pw,HCM.out.fr HN.out.fr (fun k hk=>qh hk),?_,?_⟩,HN.out.fr⟩
     ·have h1:=(QS.out.fr HN.out.fr (fun k hk=>qh hk)).put hsL ⟨{ a.x with units:=qp a.x.units [u] },a.An,a.Ac,A5,a.cn,a.cc,c5⟩ ⟨(HN.out.keepX HR.out).n,(HN.out.keepX HR.out).c,HN.out.rq (.head _)⟩
      unfold BJ ξ at h1
      dsimp only at h1
      rw[NI.out,hid] at h1
      rw[hid]
      exact h1
     ·have h1:=bV (x':={ a.x with units:=qp a.x.units [u] }) VN.out hsL (zi QP.out).1 kI.out rfl (fun v=>by
       show v∈qp a.x.units [u]↔_
       rw[ZU]
       have h2:=yE BN.out
       constructor
       ·rintro ⟨_,h | h⟩
        ·exact .inl h
        ·exact .inr (by simpa using h)
       ·rintro (h | h)
        ·exact ⟨h2.2 v h,.inl h⟩
        ·exact ⟨by rw[h];exact HU.out,.inr (by simpa using h)⟩)
      rw[hid] at h1
      exact h1
  ·have HE:=ħ (Zr.out (b,4) (by rw[hg]))
   have KU:=yG (w:=w) (mi:=mi) id (show (zn ki id).getD (.agg ζ)=.agg ζ by rw[hk];rfl) (show (zn ki id).isSome=false by simp[hk])
   clear hg hk hw
   go_enter Tryz.func48,Tryz.ntmps48
   have p0:=zD.out.pw.al
   go_upto_region 4 with (fail)
   have zu:=ħ (zD.out.alloc 48 ζ)
   obtain ⟨q7,yZ⟩:∃ q,q=w.heap.size:=⟨_,rfl⟩
   rw[←yZ] at zu⊢
   clear p0
   clear yZ zD
   generalize w.alloc _=W1 at *
   have p0:=zu.out.pw.al
   have b00:=zu.out.f0
   go_wp2_with fail
   go_ret
   exact HFin.out 4 _ _ _ zu.out HE.out
end Go.Proofs.YtdhcjhfgibmhfaaGreatDoor

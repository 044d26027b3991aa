import Derived.Test.YtdhcjhfgibmhfaaGreatDoorJG19
set_option linter.unusedVariables false
set_option linter.unusedSimpArgs false
set_option maxRecDepth 10000
set_option maxHeartbeats 8000000
namespace Go.Proofs.YtdhcjhfgibmhfaaGreatDoor
open Go.RowKit Go.Own Go.Quo Go.Inc
theorem h_ (v:Bv)(id u:Int)(n:Nat)(B:Nat→Prop)(w:World)(hG:OkG w B v n) :
 Calls Tryz.prog 49 #[YW v,ι id,ι u] w (Je (qN v.bk id u) B w):=by
 have h:=hG.toOk
 have HG:=ħ hG
 have HV:=ħ h
 have y8:=ħ (B2.new w (β v))
 have HFin:=ħ fun (r:Int) (W:World) (hb:Below w.heap.size w W) (hr:qN v.bk id u=(v.bk,r))=>(show Je (qN v.bk id u) B w (.returned (.tuple #[YW v,ι r])) W from ⟨v,by rw[hr],HV.out.ok.below0 hb,by rw[hr],hb⟩)
 have ZX:=ħ fun (W:World) (hb:Below w.heap.size w W)=>Z4 v (fun k=>B k) id W (HV.out.ok.below0 hb) (by have:=HV.out.nL;omega)
 clear h hG
 go_enter Tryz.func49,Tryz.ntmps49
 go_upto_region 1 with fail
 generalize (w.alloc _).alloc _=W1 at *
 have x0:=y8.out.b.facts
 by_cases h1:u<0
 ·have h1d:decide (u<0)=true:=by simpa using h1
  have HE:=ħ (show qN v.bk id u=(v.bk,1) by unfold qN;rw[if_pos (.inl h1)])
  go_wp2_with ((refine z8 rfl (.tmp 6) (.tmp 18) 29 rfl (w.heap.size+1) 29 _ (β v) _ 2 48 zy rfl rfl rfl y8.out.z rfl zq ?_;intro w8 zW zI yL))
  refine bodyPost_ret (za (p:=6) (u:=7) (ty:=29) Tryz.results49 _ _ (w.heap.size+1) 29 (β v) (0,0) _ rfl zW Tryz.underlying29 rfl zm) rfl ?_
  exact HFin.out 1 _ (y8.out.be.trans (zI.below y8.out.be.size (fun j hj e=>by have e2:j=w.heap.size+1:=e;omega))) HE.out
 ·have h1d:decide (u<0)=false:=by simpa using h1
  by_cases h2:255<u
  ·have LM:decide (255<u)=true:=by simpa using h2
   have HE:=ħ (show qN v.bk id u=(v.bk,1) by unfold qN;rw[if_pos (.inr h2)])
   go_wp2_with ((refine z8 rfl (.tmp 6) (.tmp 18) 29 rfl (w.heap.size+1) 29 _ (β v) _ 2 48 zy rfl rfl rfl y8.out.z rfl zq ?_;intro w8 zW zI yL))
   refine bodyPost_ret (za (p:=6) (u:=7) (ty:=29) Tryz.results49 _ _ (w.heap.size+1) 29 (β v) (0,0) _ rfl zW Tryz.underlying29 rfl zm) rfl ?_
   exact HFin.out 1 _ (y8.out.be.trans (zI.below y8.out.be.size (fun j hj e=>by have e2:j=w.heap.size+1:=e;omega))) HE.out
  ·have LM:decide (255<u)=false:=by simpa using h2
   have nI:=ħ (show ¬ (u<0∨255<u) from fun h=>h.elim h1 h2)
   have h20:=ZX.out _ y8.out.be
   rcases qH (fun a:Xa=>a.x.id) v.la id with ⟨i,hi,hlt,hg⟩ | ⟨hi,hg⟩
   ·rw[hi] at h20
    have Qr:=ħ h20
    obtain ⟨y,hy⟩:∃ y,y=v.la[i]:=⟨_,rfl⟩
    have HI:=ħ (show zw v.bk.L id=some y.x by rw[hy];exact QD hlt hg)
    have Jm:=ħ fun (W':World) (hb:Below w.heap.size w W')=>jA (HV.out.ok.below0 hb).rl hlt hy
    have Ja:=ħ (HV.out.ok.xl y (by rw[hy];exact List.getElem_mem hlt))
    have hyl:y.x.units.length≤256:=(yO (zg.vL HG.out.g y.x (zi HI.out).1).1).2.2
    have hp:=HV.out.ok.rl.plain (by omega)
    have hnl:=HV.out.nL
    have hix:=fun W=>JZ hp v.cL i hlt W
    have VK:=ħ fun (W:World)=>Jc y W
    clear h20 hi hg hy hlt
    go_upto_region 6 with ((go_at_call 20;((with_reducible refine Qr.out.mono ?_);rintro e w3 ⟨rfl,hb⟩;have qa:=ħ (y8.out.below hb);clear hb x0;have x0:=qa.out.b.facts)))
    obtain ⟨e0,e1,e2,e3,e4,e5,e6,e7,e8,e9⟩:=Jm.out _ qa.out.be
    go_upto_region 7 with fail
    obtain ⟨px,hpx⟩:∃ p,p=w3.heap.size:=⟨_,rfl⟩
    have Z6:=ħ (qa.out.alloc (.cells (ξ y.x y.An y.cn y.Ac y.cc y.Au y.cu) 48))
    have qx:=ħ (show zb (w3.alloc (.cells (ξ y.x y.An y.cn y.Ac y.cc y.Au y.cu) 48)) px 48 (ξ y.x y.An y.cn y.Ac y.cc y.Au y.cu) by rw[hpx];exact zb.new w3 48 _)
    have hzx:w.heap.size+2≤px:=by have:=qa.out.sz;omega
    rw[←hpx]
    clear e0 e1 e2 e3 e4 e5 e6 e7 e8 e9 hpx x0 ZX Qr Jm hix qa
    generalize w3.alloc _=W3 at *
    have x0:=Z6.out.b.facts
    have z0:=qx.out.facts
    cases ho:zx y.x with
    | false=>
     have HE:=ħ (show qN v.bk id u=(v.bk,8) by unfold qN;rw[if_neg nI.out,HI.out];dsimp only;rw[if_pos ho])
     rw[ho] at VK
     clear ho
     go_wp2_with (first | (go_at_call 68;((with_reducible refine (VK.out _).mono ?_);rintro e w4 ⟨rfl,hb⟩;have jv:=ħ (qx.out.below hb qx.out.lt);clear z0;have z0:=jv.out.facts;have qA:=ħ (Z6.out.below hb);clear hb x0;have x0:=qA.out.b.facts)) | (refine z8 rfl (.tmp 6) (.tmp 33) 29 rfl (w.heap.size+1) 29 _ (β v) _ 2 48 zy rfl rfl rfl qA.out.z rfl zq ?_;intro w8 zW zI yL))
     refine bodyPost_ret (za (p:=6) (u:=7) (ty:=29) Tryz.results49 _ _ (w.heap.size+1) 29 (β v) (0,0) _ rfl zW Tryz.underlying29 rfl zm) rfl ?_
     exact HFin.out 8 _ (qA.out.be.trans (zI.below qA.out.be.size (fun j hj e=>by have e2:j=w.heap.size+1:=e;omega))) HE.out
    | true=>
     have Br:=ħ ho
     rw[ho] at VK
     clear ho
     go_upto_region 9 with ((go_at_call 68;((with_reducible refine (VK.out _).mono ?_);rintro e W4 ⟨rfl,hb⟩;have jv:=ħ (qx.out.below hb qx.out.lt);clear z0;have z0:=jv.out.facts;have qA:=ħ (Z6.out.below hb);clear hb x0;have x0:=qA.out.b.facts)))
     clear qx Z6
     go_wp2_with fail
     go_loopw [37] (fun vi wr=>∃ (k:Nat),k≤v.la.length∧vi=ι (k:Int)∧(∀ j,∀ hj:j<v.la.length,j<k→hasB v.la[j].x.units u=false)∧Below W4.heap.size W4 wr) (fun vi _=>v.la.length - (intOf vi).toNat)
     case atStart=>exact ⟨0,Nat.zero_le _,rfl,fun j hj h=>absurd h (Nat.not_lt_zero _),Below.refl _ _⟩
     case round=>
      obtain ⟨k,hk,rfl,hno,hb⟩:=hrel
      have kI:=ħ hno
      have HB:=ħ hb
      have XN:=ħ (qA.out.below hb)
      have hsz:=hb.size
      clear hno hb x0 z0
      have x0:=XN.out.b.facts
      by_cases hlt:k<v.la.length
      ·have hlt':(k:Int)<v.la.length:=by omega
       have hix:=fun W=>JZ hp v.cL k hlt W
       obtain ⟨q,hq⟩:∃ q,q=v.la[k]:=⟨_,rfl⟩
       obtain ⟨e0,e1,e2,e3,e4,e5,e6,e7,e8,e9⟩:=jA (HV.out.ok.below0 XN.out.be).rl hlt hq
       have hbl:=((HV.out.ok.below0 XN.out.be).rl).bk_lt (by omega) (by omega)
       have hqm:q∈v.la:=by rw[hq];exact List.getElem_mem hlt
       have ML:=ħ ((HV.out.ok.xl q hqm).below (w':=wr) XN.out.be)
       have OY:q.x.units.length≤256:=(yO (zg.vL HG.out.g q.x (List.mem_map.2 ⟨q,hqm,rfl⟩)).1).2.2
       have M8:=ħ hq
       clear hq
       go_upto_region 12 with fail
       have ZN:=ħ (HB.out.alloc HB.out.size (.cells (ξ q.x q.An q.cn q.Ac q.cc q.Au q.cu) 48))
       have y9:=ħ (XN.out.alloc (.cells (ξ q.x q.An q.cn q.Ac q.cc q.Au q.cu) 48))
       have Az:=ħ (zb.new wr 48 (ξ q.x q.An q.cn q.Ac q.cc q.Au q.cu))
       have nZ:=ħ (ML.out.below (w':=wr.alloc (.cells (ξ q.x q.An q.cn q.Ac q.cc q.Au q.cu) 48)) ((Below.refl _ _).alloc (Nat.le_refl _) _))
       clear e0 e1 e2 e3 e4 e5 e6 e7 e8 e9 hbl x0 XN ML hqm hix
       obtain ⟨pq,hpq⟩:∃ p,p=wr.heap.size:=⟨_,rfl⟩
       rw[←hpq] at Az⊢
       clear hpq
       generalize wr.alloc _=W5 at *
       have x0:=y9.out.b.facts
       have z0:=Az.out.facts
       have Hd:=ħ (show Calls Tryz.prog 96 #[.slice (some ⟨W5.heap.size,0,none⟩) 1 1,.slice q.Au q.x.units.length q.cu] (W5.alloc (.cells #[ι u] 3)) (qL (zT [u] q.x.units) 3 (W5.alloc (.cells #[ι u] 3))) from Jl (fun _=>True) (some ⟨W5.heap.size,0,none⟩) q.Au 1 q.cu [u] q.x.units _ ((Reads.newS W5 [ι u] 3 (0,0) 1 1 rfl _ rfl).more (fun _ _=>trivial)) (((nZ.out.u).alloc _).more (fun _ _=>trivial)) (by simp) (by omega))
       have xJ:=QM u q.x.units
       obtain ⟨lb,hlb⟩:∃ lb,lb=zT [u] q.x.units:=⟨_,rfl⟩
       rw[←hlb] at Hd xJ
       have FK:=Hd
       by_cases hu:hasB q.x.units u=true
       ·rw[if_pos hu] at xJ
        have bP:decide ((lb.length:Int) > 0)=true:=by rw[xJ];rfl
        have Fg:(0:Int)<lb.length:=by rw[xJ];decide
        have ve:=ħ (show v.bk.L.find? (fun y:Ic=>hasB y.units u)=some q.x by
         show (v.la.map (fun a=>a.x)).find? _=_
         rw[List.find?_map,show v.la.find? ((fun y:Ic=>hasB y.units u) ∘ (fun a=>a.x))=some q from by
          rw[List.find?_eq_some_iff_getElem]
          exact ⟨hu,k,hlt,M8.out.symm,fun j hj=>by have:=kI.out j (by omega) hj;simp[this]⟩]
         rfl)
        clear hlb xJ hu Hd
        go_upto_region 13 with ((go_at_call 96;((with_reducible refine FK.out.mono ?_);rintro e w6 ⟨A6,c6,rfl,aQ,hb6⟩;have hb:=((Below.refl W5.heap.size W5).alloc (Nat.le_refl _) (.cells #[ι u] 3)).trans (hb6.mono (by simp));clear aQ hb6;have Gy:=ħ (Az.out.below hb Az.out.lt);have Qq:=ħ (ZN.out.trans (hb.mono ZN.out.size));have yx:=ħ (y9.out.below hb);clear hb x0 z0;have x0:=yx.out.b.facts;have z0:=Gy.out.facts)))
        by_cases hid:q.x.id=id
        ·have Cz:(q.x.id == id)=true:=by simpa using hid
         have HE:=ħ (show qN v.bk id u=(v.bk,5) by unfold qN;rw[if_neg nI.out,HI.out];dsimp only;rw[if_neg (by rw[Br.out];simp),ve.out];dsimp only;rw[if_pos hid])
         go_wp2_with ((refine z8 rfl (.tmp 6) (.tmp 52) 29 rfl (w.heap.size+1) 29 _ (β v) _ 2 48 zy rfl rfl rfl yx.out.z rfl zq ?_;intro w8 zW zI yL))
         refine bodyPost_ret (za (p:=6) (u:=7) (ty:=29) Tryz.results49 _ _ (w.heap.size+1) 29 (β v) (0,0) _ rfl zW Tryz.underlying29 rfl zm) rfl ?_
         exact HFin.out 5 _ (yx.out.be.trans (zI.below yx.out.be.size (fun j hj e=>by have e2:j=w.heap.size+1:=e;omega))) HE.out
        ·have Cz:(q.x.id == id)=false:=by simpa using hid
         have HE:=ħ (show qN v.bk id u=(v.bk,10) by unfold qN;rw[if_neg nI.out,HI.out];dsimp only;rw[if_neg (by rw[Br.out];simp),ve.out];dsimp only;rw[if_neg hid])
         go_wp2_with ((refine z8 rfl (.tmp 6) (.tmp 53) 29 rfl (w.heap.size+1) 29 _ (β v) _ 2 48 zy rfl rfl rfl yx.out.z rfl zq ?_;intro w8 zW zI yL))
         refine bodyPost_ret (za (p:=6) (u:=7) (ty:=29) Tryz.results49 _ _ (w.heap.size+1) 29 (β v) (0,0) _ rfl zW Tryz.underlying29 rfl zm) rfl ?_
         exact HFin.out 10 _ (yx.out.be.trans (zI.below yx.out.be.size (fun j hj e=>by have e2:j=w.heap.size+1:=e;omega))) HE.out
       ·rw[if_neg hu] at xJ
        have bP:decide ((lb.length:Int) > 0)=false:=by rw[xJ];rfl
        have Fg:¬ (0:Int)<lb.length:=by rw[xJ];decide
        clear hlb xJ Hd
        go_wp2_with ((go_at_call 96;((with_reducible refine FK.out.mono ?_);rintro e w6 ⟨A6,c6,rfl,aQ,hb6⟩;have hb:=((Below.refl W5.heap.size W5).alloc (Nat.le_refl _) (.cells #[ι u] 3)).trans (hb6.mono (by simp));clear aQ hb6;have Gy:=ħ (Az.out.below hb Az.out.lt);have Qq:=ħ (ZN.out.trans (hb.mono ZN.out.size));have yx:=ħ (y9.out.below hb);clear hb x0 z0;have x0:=yx.out.b.facts;have z0:=Gy.out.facts)))
        refine ⟨⟨k+1,by omega,by go_num,fun j hj h=>?_,Qq.out⟩,by simp[intOf];omega⟩
        by_cases e:j=k
        ·subst e;rw[←M8.out];simpa using hu
        ·exact kI.out j hj (by omega)
      ·have hlt':¬ (k:Int)<v.la.length:=by omega
       have ve:=ħ (show v.bk.L.find? (fun y:Ic=>hasB y.units u)=none by
        show (v.la.map (fun a=>a.x)).find? _=_
        rw[List.find?_eq_none]
        intro x hx
        obtain ⟨a,ha,rfl⟩:=List.mem_map.1 hx
        obtain ⟨j,hj,rfl⟩:=List.getElem_of_mem ha
        have:=kI.out j hj (by omega)
        simp[this])
       have HE:=ħ (show qN v.bk id u=(⟨zz v.bk.L { y.x with units:=qp y.x.units [u] },v.bk.C⟩,0) by unfold qN;rw[if_neg nI.out,HI.out];dsimp only;rw[if_neg (by rw[Br.out];simp),ve.out])
       clear ve kI HFin
       have Xx:=ħ (jv.out.below HB.out jv.out.lt)
       have z0:=Xx.out.facts
       have mP:=ħ (show Calls Tryz.prog 95 #[.slice y.Au y.x.units.length y.cu,.slice (some ⟨wr.heap.size,0,none⟩) 1 1] (wr.alloc (.cells #[ι u] 3)) (qL (qp y.x.units [u]) 3 (wr.alloc (.cells #[ι u] 3))) from kD B (·=wr.heap.size) y.Au (some ⟨wr.heap.size,0,none⟩) y.cu 1 y.x.units [u] _ ((zl Ja.out.u XN.out.be).alloc _) (Reads.newS wr [ι u] 3 (0,0) 1 1 rfl _ rfl) (by omega) (by simp))
       obtain ⟨U,hU⟩:∃ U,U=qp y.x.units [u]:=⟨_,rfl⟩
       rw[←hU] at mP HE
       clear hU
       go_upto_region 18 with (go_at_call 95;((with_reducible refine mP.out.mono ?_);rintro e w6 ⟨A9,c9,rfl,rR,ZK⟩;have hb:=((Below.refl wr.heap.size wr).alloc (Nat.le_refl _) (.cells #[ι u] 3)).trans (ZK.mono (by simp));have Z5:=ħ rR;have ZI:=ħ (Xx.out.below hb Xx.out.lt);have yx:=ħ (XN.out.below hb);clear rR hb ZK x0 z0;have x0:=yx.out.b.facts;have z0:=ZI.out.facts))
       have ZM:=ħ (yx.out.set_ (p:=⟨px,7,none⟩) hzx (.slice A9 U.length c9))
       have Kn:=ħ (show zb (w6.setCell ⟨px,7,none⟩ (.slice A9 U.length c9)) px 48 #[ι y.x.id,ι y.x.urg,.string y.x.code,.slice y.An y.x.nodes.length y.cn,ι y.x.dist,ι y.x.since,.slice y.Ac y.x.calls.length y.cc,.slice A9 U.length c9,ι y.x.merged,.bool y.x.closed] by
        have:=ZI.out.set_ 7 (.slice A9 U.length c9);simpa using this)
       have hpl:=Xx.out.lt
       have VM:=ħ (show XR (w6.setCell ⟨px,7,none⟩ (.slice A9 U.length c9)) (fun k=>B k∧k≠w.heap.size+1) ⟨{ y.x with units:=U },y.An,y.Ac,A9,y.cn,y.cc,c9⟩ from by
        have ZK:=yx.out.be
        have k1:=(((Ja.out.n.old (by omega)).below ZK (fun k hk=>hk.2)).setCell (p:=⟨px,7,none⟩) (fun hh=>by have h9:px<w.heap.size:=hh.2;omega) (.slice A9 U.length c9)).more (B':=(fun k=>B k∧k≠w.heap.size+1)) (fun k hk=>⟨hk.1,by have:=hk.2;omega⟩)
        have k2:=(((Ja.out.c.old (by omega)).below ZK (fun k hk=>hk.2)).setCell (p:=⟨px,7,none⟩) (fun hh=>by have h9:px<w.heap.size:=hh.2;omega) (.slice A9 U.length c9)).more (B':=(fun k=>B k∧k≠w.heap.size+1)) (fun k hk=>⟨hk.1,by have:=hk.2;omega⟩)
        have k3:=((qK Z5.out).setCell (p:=⟨px,7,none⟩) (fun hh=>by have h2:(wr.alloc (.cells #[ι u] 3)).heap.size≤px:=hh;simp at h2;omega) (.slice A9 U.length c9)).more (B':=(fun k=>B k∧k≠w.heap.size+1)) (fun k hk=>by
         have h2:(wr.alloc (.cells #[ι u] 3)).heap.size≤k:=hk
         simp at h2
         have h3:=XN.out.sz
         exact ⟨HV.out.up k (by omega),by omega⟩)
        exact ⟨k1,k2,k3⟩)
       clear z0 ZI yx Xx XN Z5 x0
       generalize World.setCell _ _ _=W6 at *
       have x0:=ZM.out.b.facts
       have z0:=Kn.out.facts
       have kM:=ħ (HV.out.ok.old.more (B':=(fun k=>B k∧k≠w.heap.size+1)) (fun k hk=>⟨hk.1,by have:=hk.2;omega⟩))
       have FQ:=ħ (show Calls Tryz.prog 90 #[.agg (β v),.agg #[ι y.x.id,ι y.x.urg,.string y.x.code,.slice y.An y.x.nodes.length y.cn,ι y.x.dist,ι y.x.since,.slice y.Ac y.x.calls.length y.cc,.slice A9 U.length c9,ι y.x.merged,.bool y.x.closed]] W6 (dh v.la v.lc v.AC v.cC { y.x with units:=U } (fun k=>B k∧k≠w.heap.size+1) W6) from jZ v.la v.AL v.cL v.lc v.AC v.cC ⟨{ y.x with units:=U },y.An,y.Ac,A9,y.cn,y.cc,c9⟩ (fun k=>B k∧k≠w.heap.size+1) W6 (kM.out.below0 ZM.out.be) VM.out (fun j hj=>⟨HV.out.up j (Nat.le_trans ZM.out.be.size hj),by have h1:=ZM.out.sz;omega⟩) HV.out.sL (by have:=HV.out.nL;omega))
       go_wp2_with (first | (go_at_call 90;((with_reducible refine FQ.out.mono ?_);rintro e w7 ⟨L1,A1,c1,rfl,hv2,hm2,hn2,hb⟩;have BK:=ħ hv2;have iF:=ħ hm2;clear hv2 hm2;have V6:=ħ (ZM.out.below hb);clear hb x0;have x0:=V6.out.b.facts)) | (refine z8 rfl (.tmp 6) (.tmp 63) 29 rfl (w.heap.size+1) 29 _ #[.slice A1 L1.length c1,.slice v.AC v.lc.length v.cC] _ 2 48 zy rfl rfl rfl V6.out.z rfl zq ?_;intro w8 zW zI yL))
       refine bodyPost_ret (za (p:=6) (u:=7) (ty:=29) Tryz.results49 _ _ (w.heap.size+1) 29 #[.slice A1 L1.length c1,.slice v.AC v.lc.length v.cC] (0,0) _ rfl zW Tryz.underlying29 rfl zm) rfl ?_
       rw[HE.out]
       refine ⟨⟨L1,A1,c1,v.lc,v.AC,v.cC⟩,rfl,(BK.out.fr zI (fun j hj e=>hj.2 e)).more (fun j hj=>hj.1),?_,(V6.out.be.trans (zI.below V6.out.be.size (fun j hj e=>by have e2:j=w.heap.size+1:=e;omega)))⟩
       show (⟨L1.map (fun a=>a.x),v.lc.map (fun a=>a.c)⟩:Bk)=_
       rw[iF.out]
       rfl
   ·rw[hi] at h20
    have Qr:=ħ h20
    have HE:=ħ (show qN v.bk id u=(v.bk,4) by unfold qN;rw[if_neg nI.out,jw hg])
    clear h20 hi hg
    go_wp2_with (first | (go_at_call 20;((with_reducible refine Qr.out.mono ?_);rintro e w3 ⟨rfl,hb⟩;have qa:=ħ (y8.out.below hb);clear hb x0;have x0:=qa.out.b.facts)) | (refine z8 rfl (.tmp 6) (.tmp 24) 29 rfl (w.heap.size+1) 29 _ (β v) _ 2 48 zy rfl rfl rfl qa.out.z rfl zq ?_;intro w8 zW zI yL))
    refine bodyPost_ret (za (p:=6) (u:=7) (ty:=29) Tryz.results49 _ _ (w.heap.size+1) 29 (β v) (0,0) _ rfl zW Tryz.underlying29 rfl zm) rfl ?_
    exact HFin.out 4 _ (qa.out.be.trans (zI.below qa.out.be.size (fun j hj e=>by have e2:j=w.heap.size+1:=e;omega))) HE.out
def xz (b:Bk)(id:Int)(w:World)(e:Ending)(w':World):Prop:=e=.returned (ι (jd b id))∧Below w.heap.size w w'
theorem vH (L:List Ic)(n:Nat)(id:Int):Yg L (n+1) id=match zw L id with | none=>0 | some x=>if x.merged=0 then id else Yg L n x.merged:=rfl
theorem gU (v:Bv)(Vw:Int)(B:Nat→Prop)(w:World)(h:zX w B v)(hl:v.la.length≤1000) :
 Calls Tryz.prog 25 #[YW v,ι Vw] w (xz v.bk Vw w):=by
 have HV:=ħ h
 have lV:=ħ (show v.bk.L.length=v.la.length from List.length_map ..)
 have HX0:=ħ (zb.new w 29 (β v))
 have HB0:=ħ ((Below.refl w.heap.size w).alloc (Nat.le_refl _) (.cells (β v) 29))
 clear h
 go_enter Tryz.func25,Tryz.ntmps25
 go_upto_region 1 with fail
 generalize w.alloc _=W1 at *
 go_wp2_with fail
 go_loopw [5,1] (fun vi vd wr=>∃ (k:Nat) (id:Int),k≤v.la.length+1∧vi=ι (k:Int)∧vd=ι id∧jd v.bk Vw=Yg v.bk.L (v.la.length+1 - k) id∧Below w.heap.size w wr∧zb wr w.heap.size 29 (β v)) (fun vi _ _=>v.la.length+1 - (intOf vi).toNat)
 case atStart=>exact ⟨0,Vw,Nat.zero_le _,rfl,rfl,by unfold jd;rw[lV.out];rfl,HB0.out,HX0.out⟩
 case round=>
  obtain ⟨k,id,hk,rfl,rfl,hr,hb,hx⟩:=hrel
  have HR:=ħ hr
  have HB:=ħ hb
  have HX:=ħ hx
  clear hr hb hx
  have x0:=HX.out.facts
  have ZX:=ħ (Z4 v (fun k=>B k) id wr (HV.out.below0 HB.out) (by omega))
  by_cases hlt:k<v.la.length+1
  ·have hlt':(k:Int)≤v.la.length:=by omega
   obtain ⟨m,hm⟩:∃ m,v.la.length+1 - k=m+1:=⟨v.la.length - k,by omega⟩
   have HM:=ħ hm
   rw[hm,vH] at HR
   clear hm
   rcases qH (fun a:Xa=>a.x.id) v.la id with ⟨i,hi,bU,hg⟩ | ⟨hi,hg⟩
   ·rw[hi] at ZX
    have Qr:=ħ ZX.out
    obtain ⟨y,hy⟩:∃ y,y=v.la[i]:=⟨_,rfl⟩
    have HI:=ħ (show zw v.bk.L id=some y.x by rw[hy];exact QD bU hg)
    have Jm:=ħ fun (W':World) (hb:Below w.heap.size w W')=>jA (HV.out.below0 hb).rl bU hy
    have hp:=HV.out.rl.plain (by omega)
    have hix:=fun W=>JZ hp v.cL i bU W
    clear hi hg hy bU ZX
    rw[HI.out] at HR
    go_upto_region 7 with ((go_at_call 20;((with_reducible refine Qr.out.mono ?_);rintro e w3 ⟨rfl,hb⟩;have HB3:=ħ (HB.out.trans (hb.mono HB.out.size));have qx:=ħ (HX.out.below hb HX.out.lt);clear hb x0;have x0:=qx.out.facts)))
    obtain ⟨e0,e1,e2,e3,e4,e5,e6,e7,e8,e9⟩:=Jm.out _ HB3.out
    by_cases hmz:y.x.merged=0
    ·have hm1:(y.x.merged == 0)=true:=by simpa using hmz
     have JL:=ħ (show jd v.bk Vw=id by have:=HR.out;rw[if_pos hmz] at this;exact this)
     clear HR
     go_wp2_with fail
     go_ret
     exact ⟨by rw[JL.out];rfl,HB3.out⟩
    ·have hm1:(y.x.merged == 0)=false:=by simpa using hmz
     have JL:=ħ (show jd v.bk Vw=Yg v.bk.L m y.x.merged by have:=HR.out;rw[if_neg hmz] at this;exact this)
     clear HR
     go_wp2_with fail
     refine ⟨⟨k+1,y.x.merged,by omega,by go_num,rfl,?_,HB3.out,qx.out⟩,by simp[intOf];omega⟩
     rw[JL.out]
     have:=HM.out
     rw[show v.la.length+1 - (k+1)=m by omega]
   ·rw[hi] at ZX
    have Qr:=ħ ZX.out
    have JL:=ħ (show jd v.bk Vw=0 by have:=HR.out;rw[jw hg] at this;exact this)
    clear hi hg HR ZX
    go_wp2_with ((go_at_call 20;((with_reducible refine Qr.out.mono ?_);rintro e w3 ⟨rfl,hb⟩;have HB3:=ħ (HB.out.trans (hb.mono HB.out.size));have qx:=ħ (HX.out.below hb HX.out.lt);clear hb x0;have x0:=qx.out.facts)))
    go_ret
    exact ⟨by rw[JL.out];rfl,HB3.out⟩
  ·have hlt':¬ (k:Int)≤v.la.length:=by omega
   have hk3:v.la.length+1 - k=0:=by omega
   have JL:=ħ (show jd v.bk Vw=0 by have:=HR.out;rw[hk3] at this;exact this)
   clear HR
   go_wp2_with fail
   go_ret
   exact ⟨by rw[JL.out];rfl,HB.out⟩
end Go.Proofs.YtdhcjhfgibmhfaaGreatDoor

import Derived.Test.YtdhcjhfgibmhfaaGreatDoorJG18
import Derived.Test.YtdhcjhfgibmhfaaGreatDoorJG13
set_option linter.unusedVariables false
set_option linter.unusedSimpArgs false
set_option maxRecDepth 10000
set_option maxHeartbeats 8000000
namespace Go.Proofs.YtdhcjhfgibmhfaaGreatDoor
open Go.RowKit Go.Own Go.Quo Go.Inc
theorem z1g (l:List Int)(p:Int→Bool){k:Nat}(hk:k<l.length):(l.take (k+1)).filter p=if p (gd l k)=true then (l.take k).filter p ++ [gd l k] else (l.take k).filter p:=by
 rw[List.take_succ_eq_append_getElem hk,List.filter_append,List.filter_cons,qd hk]
 by_cases h:p l[k]=true
 ·rw[if_pos h,if_pos h];rfl
 ·rw[if_neg h,if_neg h];simp
theorem bQ (v:Bv)(id u:Int)(n:Nat)(B:Nat→Prop)(w:World)(hG:OkG w B v n) :
 Calls Tryz.prog 51 #[YW v,ι id,ι u] w (Je (qI v.bk id u) B w):=by
 have h:=hG.toOk
 have HG:=ħ hG
 have HV:=ħ h
 have y8:=ħ (B2.new w (β v))
 have HFin:=ħ fun (r:Int) (W:World) (hb:Below w.heap.size w W) (hr:qI v.bk id u=(v.bk,r))=>(show Je (qI v.bk id u) B w (.returned (.tuple #[YW v,ι r])) W from ⟨v,by rw[hr],HV.out.ok.below0 hb,by rw[hr],hb⟩)
 have ZX:=ħ fun (W:World) (hb:Below w.heap.size w W)=>Z4 v (fun k=>B k) id W (HV.out.ok.below0 hb) (by have:=HV.out.nL;omega)
 clear h hG
 go_enter Tryz.func51,Tryz.ntmps51
 go_upto_region 1 with fail
 generalize (w.alloc _).alloc _=W1 at *
 have x0:=y8.out.b.facts
 have h20:=ZX.out _ y8.out.be
 rcases qH (fun a:Xa=>a.x.id) v.la id with ⟨i,hi,hlt,hg⟩ | ⟨hi,hg⟩
 ·rw[hi] at h20
  have Qr:=ħ h20
  obtain ⟨y,hy⟩:∃ y,y=v.la[i]:=⟨_,rfl⟩
  have HI:=ħ (show zw v.bk.L id=some y.x by rw[hy];exact QD hlt hg)
  have Jm:=ħ fun (W':World) (hb:Below w.heap.size w W')=>jA (HV.out.ok.below0 hb).rl hlt hy
  have Ja:=ħ (HV.out.ok.xl y (by rw[hy];exact List.getElem_mem hlt))
  have hyv:=zg.vL HG.out.g y.x (zi HI.out).1
  have OY:y.x.units.length≤256:=(yO hyv.1).2.2
  have hp:=HV.out.ok.rl.plain (by omega)
  have hix:=fun W=>JZ hp v.cL i hlt W
  have LD:=ħ fun (W':World) (hb:Below w.heap.size w W')=>((HV.out.ok.below0 hb).rl).bk_lt (by omega) (by omega)
  clear h20 hi hg hy hlt hyv
  go_upto_region 2 with ((go_at_call 20;((with_reducible refine Qr.out.mono ?_);rintro e w3 ⟨rfl,hb⟩;have qa:=ħ (y8.out.below hb);clear hb x0;have x0:=qa.out.b.facts)))
  obtain ⟨e0,e1,e2,e3,e4,e5,e6,e7,e8,e9⟩:=Jm.out _ qa.out.be
  have hbl:=LD.out _ qa.out.be
  have Hd:=ħ (show Calls Tryz.prog 96 #[.slice (some ⟨w3.heap.size,0,none⟩) 1 1,.slice y.Au y.x.units.length y.cu] (w3.alloc (.cells #[ι u] 3)) (qL (zT [u] y.x.units) 3 (w3.alloc (.cells #[ι u] 3))) from Jl (fun _=>True) (some ⟨w3.heap.size,0,none⟩) y.Au 1 y.cu [u] y.x.units _ ((Reads.newS w3 [ι u] 3 (0,0) 1 1 rfl _ rfl).more (fun _ _=>trivial)) (((zl Ja.out.u qa.out.be).alloc _).more (fun _ _=>trivial)) (by simp) (by omega))
  have xJ:=QM u y.x.units
  obtain ⟨lb,hlb⟩:∃ lb,lb=zT [u] y.x.units:=⟨_,rfl⟩
  rw[←hlb] at Hd xJ
  have FK:=Hd
  by_cases hu:hasB y.x.units u=true
  ·rw[if_pos hu] at xJ
   have HE:=ħ (show qI v.bk id u=(⟨zz v.bk.L { y.x with units:=y.x.units.filter (fun v:Int=>v != u) },v.bk.C⟩,0) by unfold qI;rw[HI.out];dsimp only;rw[if_neg (by rw[hu];simp)])
   have bP:((lb.length:Int) == 0)=false:=by rw[xJ];rfl
   clear hlb xJ hu HFin Hd
   go_upto_region 4 with ((go_at_call 96;((with_reducible refine FK.out.mono ?_);rintro e w4 ⟨A4,c4,rfl,jW,hb4⟩;have hb:=((Below.refl w3.heap.size w3).alloc (Nat.le_refl _) (.cells #[ι u] 3)).trans (hb4.mono (by simp));clear jW hb4;have y5:=ħ (qa.out.below hb);clear hb x0;have x0:=y5.out.b.facts)))
   obtain ⟨e0,e1,e2,e3,e4,e5,e6,e7,e8,e9⟩:=Jm.out _ y5.out.be
   go_upto_region 5 with fail
   obtain ⟨px,hpx⟩:∃ p,p=w4.heap.size:=⟨_,rfl⟩
   have qA:=ħ (y5.out.alloc (.cells (ξ y.x y.An y.cn y.Ac y.cc y.Au y.cu) 48))
   have jv:=ħ (show zb (w4.alloc (.cells (ξ y.x y.An y.cn y.Ac y.cc y.Au y.cu) 48)) px 48 (ξ y.x y.An y.cn y.Ac y.cc y.Au y.cu) by rw[hpx];exact zb.new w4 48 _)
   have hzx:w.heap.size+2≤px:=by have:=y5.out.sz;omega
   rw[←hpx]
   clear e0 e1 e2 e3 e4 e5 e6 e7 e8 e9 hpx x0 ZX Qr Jm hix qa y5 FK bP hbl LD
   generalize w4.alloc _=W4 at *
   have tT:=ħ ((Ja.out.u.old (by omega)).more (B':=fun k=>B k∧k<w.heap.size) (fun k hk=>hk))
   have C9:=ħ (zl tT.out qA.out.be)
   have mJ:=C9.out.plain (by omega)
   have x0:=qA.out.b.facts
   have z0:=jv.out.facts
   go_wp2_with fail
   go_loopw [10,40] (fun vo vi wr=>∃ (k m:Nat) (A:Option Addr) (c:Nat),k≤y.x.units.length∧vi=ι (k:Int)∧vo=.slice A m c∧m=((y.x.units.take k).filter (fun v:Int=>v != u)).length∧wr.ownsRow W4.heap.size 3 1 (.slice A m c) m (((y.x.units.take k).filter (fun v:Int=>v != u)).map (Value.int .i64))∧Below W4.heap.size W4 wr) (fun _ vi _=>y.x.units.length - (intOf vi).toNat)
   case atStart=>exact ⟨0,0,none,0,Nat.zero_le _,rfl,rfl,rfl,World.ownsRow_nil _ _ _ _,Below.refl _ _⟩
   case round=>
    obtain ⟨k,m,A,c,hk,rfl,rfl,hm,ho,hb⟩:=hrel
    have HM:=ħ hm
    have HO:=ħ ho
    have HB:=ħ hb
    have uY:m≤256:=by
     have h1:=List.length_filter_le (fun v:Int=>v != u) (y.x.units.take k)
     have h2:(y.x.units.take k).length≤y.x.units.length:=List.length_take_le' _ _
     omega
    have hsz:=hb.size
    clear hm ho hb x0 z0
    by_cases hlt:k<y.x.units.length
    ·have hlt':(k:Int)<y.x.units.length:=by omega
     have hix:=fun W=>JI mJ y.cu k hlt W
     have hc:=qJ (zl C9.out HB.out) hlt
     have HS:=ħ (z1g y.x.units (fun v:Int=>v != u) hlt)
     obtain ⟨q,hq⟩:∃ q,q=gd y.x.units k:=⟨_,rfl⟩
     rw[←hq] at hc HS
     clear hq
     by_cases hqu:q=u
     ·have hq1:(q != u)=false:=by simp[hqu]
      have J5:=ħ (show (y.x.units.take (k+1)).filter (fun v:Int=>v != u)=(y.x.units.take k).filter (fun v:Int=>v != u) by rw[HS.out,if_neg (by rw[hqu];simp)])
      clear HS hqu
      go_wp2_with fail
      refine ⟨⟨k+1,m,A,c,by omega,by go_num,rfl,by rw[J5.out];exact HM.out,by rw[J5.out];exact HO.out,HB.out⟩,by simp[intOf];omega⟩
     ·have hq1:(q != u)=true:=by simpa using hqu
      have J5:=ħ (show (y.x.units.take (k+1)).filter (fun v:Int=>v != u)=(y.x.units.take k).filter (fun v:Int=>v != u) ++ [q] by rw[HS.out,if_pos hq1])
      clear HS hqu
      go_wp2_with (at_builtin;refine ze _ rfl _ _ _ rfl W4.heap.size 3 _ 1 8 Tryz.underlying32 info3' rfl (by omega) (.slice A m c) m (((y.x.units.take k).filter (fun v:Int=>v != u)).map (Value.int .i64)) rfl (HO.out.alloc _) _ (some ⟨wr.heap.size,0,none⟩) 1 1 [ι q] rfl (Reads.newS wr [ι q] 3 (0,0) 1 1 rfl _ rfl) (by simp[Value.oneCell']) (by simp only[maxLen];omega) (by omega) (by simp;omega) ?_;intro A5 c5 w5 hown hgr hat;have qm:=ħ hown;have ZN:=ħ (Below.grown (HB.out.alloc HB.out.size (.cells #[ι q] 3)) hgr (by simp;omega) (fun j hj=>(HO.out.lt j hj).1));clear hown hgr hat)
      refine ⟨⟨k+1,m+1,A5,c5,by omega,by go_num,rfl,by rw[J5.out,List.length_append,HM.out];rfl,by rw[J5.out,List.map_append];exact qm.out,ZN.out⟩,by simp[intOf];omega⟩
    ·have hlt':¬ (k:Int)<y.x.units.length:=by omega
     have hk3:k=y.x.units.length:=by omega
     subst hk3
     rw[List.take_length] at HM HO
     obtain ⟨U,hU⟩:∃ U,U=y.x.units.filter (fun v:Int=>v != u):=⟨_,rfl⟩
     rw[←hU] at HM HO HE
     have hm:=HM.out
     subst hm
     clear HM hU
     have yx:=ħ ((qA.out.below HB.out).set_ (p:=⟨px,7,none⟩) hzx (.slice A U.length c))
     have ZI:=ħ (show zb (wr.setCell ⟨px,7,none⟩ (.slice A U.length c)) px 48 #[ι y.x.id,ι y.x.urg,.string y.x.code,.slice y.An y.x.nodes.length y.cn,ι y.x.dist,ι y.x.since,.slice y.Ac y.x.calls.length y.cc,.slice A U.length c,ι y.x.merged,.bool y.x.closed] by
      have:=(jv.out.below HB.out jv.out.lt).set_ 7 (.slice A U.length c);simpa using this)
     have hpl:=jv.out.lt
     have Xx:=ħ (show XR (wr.setCell ⟨px,7,none⟩ (.slice A U.length c)) (fun k=>B k∧k≠w.heap.size+1) ⟨{ y.x with units:=U },y.An,y.Ac,A,y.cn,y.cc,c⟩ from by
      have ZK:=qA.out.be.trans (HB.out.mono qA.out.be.size)
      have k1:=(((Ja.out.n.old (by omega)).below ZK (fun k hk=>hk.2)).setCell (p:=⟨px,7,none⟩) (fun hh=>by have h9:px<w.heap.size:=hh.2;omega) (.slice A U.length c)).more (B':=(fun k=>B k∧k≠w.heap.size+1)) (fun k hk=>⟨hk.1,by have:=hk.2;omega⟩)
      have k2:=(((Ja.out.c.old (by omega)).below ZK (fun k hk=>hk.2)).setCell (p:=⟨px,7,none⟩) (fun hh=>by have h9:px<w.heap.size:=hh.2;omega) (.slice A U.length c)).more (B':=(fun k=>B k∧k≠w.heap.size+1)) (fun k hk=>⟨hk.1,by have:=hk.2;omega⟩)
      have k3:=((qK HO.out).setCell (p:=⟨px,7,none⟩) (fun hh=>by have h2:W4.heap.size≤px:=hh;omega) (.slice A U.length c)).more (B':=(fun k=>B k∧k≠w.heap.size+1)) (fun k hk=>⟨HV.out.up k (Nat.le_trans qA.out.be.size hk),by have h2:W4.heap.size≤k:=hk;omega⟩)
      exact ⟨k1,k2,k3⟩)
     have hx4:=jv.out.below HB.out jv.out.lt
     have z0:=hx4.facts
     go_upto_region 13 with fail
     clear z0 hx4 jv qA HO tT C9 mJ hlt hlt'
     generalize wr.setCell _ _=W6 at *
     have x0:=yx.out.b.facts
     have z0:=ZI.out.facts
     have kM:=ħ (HV.out.ok.old.more (B':=(fun k=>B k∧k≠w.heap.size+1)) (fun k hk=>⟨hk.1,by have:=hk.2;omega⟩))
     have FQ:=ħ (show Calls Tryz.prog 90 #[.agg (β v),.agg #[ι y.x.id,ι y.x.urg,.string y.x.code,.slice y.An y.x.nodes.length y.cn,ι y.x.dist,ι y.x.since,.slice y.Ac y.x.calls.length y.cc,.slice A U.length c,ι y.x.merged,.bool y.x.closed]] W6 (dh v.la v.lc v.AC v.cC { y.x with units:=U } (fun k=>B k∧k≠w.heap.size+1) W6) from jZ v.la v.AL v.cL v.lc v.AC v.cC ⟨{ y.x with units:=U },y.An,y.Ac,A,y.cn,y.cc,c⟩ (fun k=>B k∧k≠w.heap.size+1) W6 (kM.out.below0 yx.out.be) Xx.out (fun j hj=>⟨HV.out.up j (Nat.le_trans yx.out.be.size hj),by have h1:=yx.out.sz;omega⟩) HV.out.sL (by have:=HV.out.nL;omega))
     go_wp2_with (first | (go_at_call 90;((with_reducible refine FQ.out.mono ?_);rintro e w7 ⟨L1,A1,c1,rfl,hv2,hm2,hn2,hb⟩;have BK:=ħ hv2;have iF:=ħ hm2;clear hv2 hm2;have ZM:=ħ (yx.out.below hb);clear hb x0;have x0:=ZM.out.b.facts)) | (refine z8 rfl (.tmp 6) (.tmp 56) 29 rfl (w.heap.size+1) 29 _ #[.slice A1 L1.length c1,.slice v.AC v.lc.length v.cC] _ 2 48 zy rfl rfl rfl ZM.out.z rfl zq ?_;intro w8 zW zI yL))
     refine bodyPost_ret (za (p:=6) (u:=7) (ty:=29) Tryz.results51 _ _ (w.heap.size+1) 29 #[.slice A1 L1.length c1,.slice v.AC v.lc.length v.cC] (0,0) _ rfl zW Tryz.underlying29 rfl zm) rfl ?_
     rw[HE.out]
     refine ⟨⟨L1,A1,c1,v.lc,v.AC,v.cC⟩,rfl,(BK.out.fr zI (fun j hj e=>hj.2 e)).more (fun j hj=>hj.1),?_,(ZM.out.be.trans (zI.below ZM.out.be.size (fun j hj e=>by have e2:j=w.heap.size+1:=e;omega)))⟩
     show (⟨L1.map (fun a=>a.x),v.lc.map (fun a=>a.c)⟩:Bk)=_
     rw[iF.out]
     rfl
  ·have HE:=ħ (show qI v.bk id u=(v.bk,4) by unfold qI;rw[HI.out];dsimp only;rw[if_pos (by simpa using hu)])
   rw[if_neg hu] at xJ
   have bP:((lb.length:Int) == 0)=true:=by rw[xJ];rfl
   clear hlb xJ hu Hd
   go_wp2_with (first | (go_at_call 96;((with_reducible refine FK.out.mono ?_);rintro e w4 ⟨A4,c4,rfl,jW,hb4⟩;have hb:=((Below.refl w3.heap.size w3).alloc (Nat.le_refl _) (.cells #[ι u] 3)).trans (hb4.mono (by simp));clear jW hb4;have y5:=ħ (qa.out.below hb);clear hb x0;have x0:=y5.out.b.facts)) | (refine z8 rfl (.tmp 6) (.tmp 31) 29 rfl (w.heap.size+1) 29 _ (β v) _ 2 48 zy rfl rfl rfl y5.out.z rfl zq ?_;intro w8 zW zI yL))
   refine bodyPost_ret (za (p:=6) (u:=7) (ty:=29) Tryz.results51 _ _ (w.heap.size+1) 29 (β v) (0,0) _ rfl zW Tryz.underlying29 rfl zm) rfl ?_
   exact HFin.out 4 _ (y5.out.be.trans (zI.below y5.out.be.size (fun j hj e=>by have e2:j=w.heap.size+1:=e;omega))) HE.out
 ·rw[hi] at h20
  have Qr:=ħ h20
  have HE:=ħ (show qI v.bk id u=(v.bk,4) by unfold qI;rw[jw hg])
  clear h20 hi hg
  go_wp2_with (first | (go_at_call 20;((with_reducible refine Qr.out.mono ?_);rintro e w3 ⟨rfl,hb⟩;have qa:=ħ (y8.out.below hb);clear hb x0;have x0:=qa.out.b.facts)) | (refine z8 rfl (.tmp 6) (.tmp 31) 29 rfl (w.heap.size+1) 29 _ (β v) _ 2 48 zy rfl rfl rfl qa.out.z rfl zq ?_;intro w8 zW zI yL))
  refine bodyPost_ret (za (p:=6) (u:=7) (ty:=29) Tryz.results51 _ _ (w.heap.size+1) 29 (β v) (0,0) _ rfl zW Tryz.underlying29 rfl zm) rfl ?_
  exact HFin.out 4 _ (qa.out.be.trans (zI.below qa.out.be.size (fun j hj e=>by have e2:j=w.heap.size+1:=e;omega))) HE.out
def y_ (g:Cr→Cr)(C O:List Cr):List Cr:=O.foldl (fun C t=>zG C (g t)) C
theorem Qj (g:Cr→Cr)(C O:List Cr){k:Nat}(hk:k<O.length):y_ g C (O.take (k+1))=zG (y_ g C (O.take k)) (g O[k]):=by
 unfold y_
 rw[List.take_succ_eq_append_getElem hk,List.foldl_append]
 rfl
theorem Ze (g:Cr→Cr):∀ (O C:List Cr),Asc Cr.call C→Asc Cr.call (y_ g C O)
 | [],C,h=>h
 | t :: O,C,h=>Ze g O _ (zN Cr.call h (g t))
theorem QO (g:Cr→Cr)(hg:∀ t,(g t).call=t.call):∀ (O C:List Cr),(O.map Cr.call).Nodup→∀ u,u∈y_ g C O↔(∃ t∈O,u=g t)∨(u∈C∧∀ t∈O,u.call≠t.call)
 | [],C,_,u=>by simp[y_]
 | t :: O,C,hn,u=>by
  obtain ⟨h1,h2⟩:=List.nodup_cons.1 hn
  have ih:=QO g hg O (zG C (g t)) h2 u
  show u∈y_ g (zG C (g t)) O↔_
  rw[ih,qc]
  constructor
  ·rintro (⟨s,hs,e⟩ | ⟨e | ⟨h3,h4⟩,h5⟩)
   ·exact .inl ⟨s,by simp[hs],e⟩
   ·exact .inl ⟨t,by simp,e⟩
   ·refine .inr ⟨h3,fun s hs=>?_⟩
    rcases List.mem_cons.1 hs with rfl | hs
    ·rw[hg] at h4;exact h4
    ·exact h5 s hs
  ·rintro (⟨s,hs,e⟩ | ⟨h3,h5⟩)
   ·rcases List.mem_cons.1 hs with rfl | hs
    ·refine .inr ⟨.inl e,fun r hr q=>h1 ?_⟩
     rw[e,hg] at q
     exact List.mem_map.2 ⟨r,hr,q.symm⟩
    ·exact .inl ⟨s,hs,e⟩
   ·exact .inr ⟨.inr ⟨h3,by rw[hg];exact h5 t (by simp)⟩,fun s hs=>h5 s (by simp[hs])⟩
theorem xD (g:Cr→Cr)(hg:∀ t,(g t).call=t.call){C:List Cr}(h:Asc Cr.call C)(id:Int):y_ g C (qB C id)=C.map (fun t=>if t.inc=id then g t else t):=by
 refine QW Cr.call (Ze g _ _ h) (Qe Cr.call h _ (fun x hx=>by split;exact hg x;rfl)) (fun u=>?_)
 rw[QO g hg _ _ (jm Cr.call (qi h id)),List.mem_map]
 constructor
 ·rintro (⟨t,ht,e⟩ | ⟨h3,h5⟩)
  ·obtain ⟨a,b⟩:=zo.1 ht
   exact ⟨t,a,by rw[if_pos b];exact e.symm⟩
  ·refine ⟨u,h3,?_⟩
   rw[if_neg (fun e=>h5 u (zo.2 ⟨h3,e⟩) rfl)]
 ·rintro ⟨t,ht,e⟩
  by_cases hi:t.inc=id
  ·rw[if_pos hi] at e
   exact .inl ⟨t,zo.2 ⟨ht,hi⟩,e.symm⟩
  ·rw[if_neg hi] at e
   subst e
   refine .inr ⟨ht,fun s hs q=>hi ?_⟩
   obtain ⟨a,b⟩:=zo.1 hs
   rw[qj Cr.call h ht a q];exact b
theorem JB {C:List Cr}(h:Asc Cr.call C)(id:Int):y_ (fun t=>{ t with closed:=true }) C (qB C id)=C.map (Zv (fun t=>t.inc) (fun t=>if t.inc=id then true else t.closed)):=by
 rw[xD (fun t:Cr=>{ t with closed:=true }) (fun t=>rfl) h]
 refine List.map_congr_left (fun t _=>?_)
 unfold Zv
 dsimp only
 by_cases e:t.inc=id <;> simp only[e,if_true,if_false]
theorem Vq {C:List Cr}(h:Asc Cr.call C)(id into:Int):y_ (fun t=>{ t with inc:=into }) C (qB C id)=C.map (Zv (fun t=>if t.inc=id then into else t.inc) (fun t=>t.closed)):=by
 rw[xD (fun t:Cr=>{ t with inc:=into }) (fun t=>rfl) h]
 refine List.map_congr_left (fun t _=>?_)
 unfold Zv
 dsimp only
 by_cases e:t.inc=id <;> simp only[e,if_true,if_false]
theorem lS (v:Bv)(id:Int)(n:Nat)(B:Nat→Prop)(w:World)(hG:OkG w B v n) :
 Calls Tryz.prog 53 #[YW v,ι id] w (Je (yI v.bk id) B w):=by
 have h:=hG.toOk
 have HG:=ħ hG
 have HV:=ħ h
 have y8:=ħ (B2.new w (β v))
 have HFin:=ħ fun (r:Int) (W:World) (hb:Below w.heap.size w W) (hr:yI v.bk id=(v.bk,r))=>(show Je (yI v.bk id) B w (.returned (.tuple #[YW v,ι r])) W from ⟨v,by rw[hr],HV.out.ok.below0 hb,by rw[hr],hb⟩)
 have ZX:=ħ fun (W:World) (hb:Below w.heap.size w W)=>Z4 v (fun k=>B k) id W (HV.out.ok.below0 hb) (by have:=HV.out.nL;omega)
 clear h hG
 go_enter Tryz.func53,Tryz.ntmps53
 go_upto_region 1 with fail
 generalize (w.alloc _).alloc _=W1 at *
 have x0:=y8.out.b.facts
 have h20:=ZX.out _ y8.out.be
 rcases qH (fun a:Xa=>a.x.id) v.la id with ⟨i,hi,hlt,hg⟩ | ⟨hi,hg⟩
 ·rw[hi] at h20
  have Qr:=ħ h20
  obtain ⟨y,hy⟩:∃ y,y=v.la[i]:=⟨_,rfl⟩
  have HI:=ħ (show zw v.bk.L id=some y.x by rw[hy];exact QD hlt hg)
  have Jm:=ħ fun (W':World) (hb:Below w.heap.size w W')=>jA (HV.out.ok.below0 hb).rl hlt hy
  have Ja:=ħ (HV.out.ok.xl y (by rw[hy];exact List.getElem_mem hlt))
  have hp:=HV.out.ok.rl.plain (by omega)
  have hix:=fun W=>JZ hp v.cL i hlt W
  have VK:=ħ fun (W:World)=>Jc y W
  clear h20 hi hg hy hlt
  go_upto_region 4 with ((go_at_call 20;((with_reducible refine Qr.out.mono ?_);rintro e w3 ⟨rfl,hb⟩;have qa:=ħ (y8.out.below hb);clear hb x0;have x0:=qa.out.b.facts)))
  obtain ⟨e0,e1,e2,e3,e4,e5,e6,e7,e8,e9⟩:=Jm.out _ qa.out.be
  go_upto_region 5 with fail
  obtain ⟨px,hpx⟩:∃ p,p=w3.heap.size:=⟨_,rfl⟩
  have Z6:=ħ (qa.out.alloc (.cells (ξ y.x y.An y.cn y.Ac y.cc y.Au y.cu) 48))
  have qx:=ħ (show zb (w3.alloc (.cells (ξ y.x y.An y.cn y.Ac y.cc y.Au y.cu) 48)) px 48 (ξ y.x y.An y.cn y.Ac y.cc y.Au y.cu) by rw[hpx];exact zb.new w3 48 _)
  have hzx:w.heap.size+2≤px:=by have:=qa.out.sz;omega
  rw[←hpx]
  clear e0 e1 e2 e3 e4 e5 e6 e7 e8 e9 hpx x0 ZX Qr Jm hix qa
  generalize w3.alloc _=W3 at *
  have x0:=Z6.out.b.facts
  have z0:=qx.out.facts
  cases ho:zx y.x with
  | false=>
   have HE:=ħ (show yI v.bk id=(v.bk,8) by unfold yI;rw[HI.out];dsimp only;rw[if_pos ho])
   rw[ho] at VK
   clear ho
   go_wp2_with (first | (go_at_call 68;((with_reducible refine (VK.out _).mono ?_);rintro e w4 ⟨rfl,hb⟩;have jv:=ħ (qx.out.below hb qx.out.lt);clear z0;have z0:=jv.out.facts;have qA:=ħ (Z6.out.below hb);clear hb x0;have x0:=qA.out.b.facts)) | (refine z8 rfl (.tmp 4) (.tmp 24) 29 rfl (w.heap.size+1) 29 _ (β v) _ 2 48 zy rfl rfl rfl qA.out.z rfl zq ?_;intro w8 zW zI yL))
   refine bodyPost_ret (za (p:=4) (u:=5) (ty:=29) Tryz.results53 _ _ (w.heap.size+1) 29 (β v) (0,0) _ rfl zW Tryz.underlying29 rfl zm) rfl ?_
   exact HFin.out 8 _ (qA.out.be.trans (zI.below qA.out.be.size (fun j hj e=>by have e2:j=w.heap.size+1:=e;omega))) HE.out
  | true=>
   have HE:=ħ (show yI v.bk id=(⟨zz v.bk.L { y.x with closed:=true,units:=[] },v.bk.C.map (Zv (fun t=>t.inc) (fun t=>if t.inc=id then true else t.closed))⟩,0) by unfold yI;rw[HI.out];dsimp only;rw[if_neg (by rw[ho];simp)])
   rw[ho] at VK
   clear ho HFin
   go_upto_region 7 with ((go_at_call 68;((with_reducible refine (VK.out _).mono ?_);rintro e w4 ⟨rfl,hb⟩;have jv:=ħ (qx.out.below hb qx.out.lt);clear z0;have z0:=jv.out.facts;have qA:=ħ (Z6.out.below hb);clear hb x0;have x0:=qA.out.b.facts)))
   have y9:=ħ ((qA.out.set_ (p:=⟨px,9,none⟩) hzx (.bool true)).set_ (p:=⟨px,7,none⟩) hzx (.slice none 0 0))
   have jq:=ħ (show zb ((w4.setCell ⟨px,9,none⟩ (.bool true)).setCell ⟨px,7,none⟩ (.slice none 0 0)) px 48 #[ι y.x.id,ι y.x.urg,.string y.x.code,.slice y.An y.x.nodes.length y.cn,ι y.x.dist,ι y.x.since,.slice y.Ac y.x.calls.length y.cc,.slice none 0 0,ι y.x.merged,.bool true] by
    have:=(jv.out.set_ 9 (.bool true)).set_ 7 (.slice none 0 0);simpa using this)
   go_upto_region 8 with fail
   clear x0 z0 qA jv Z6 qx
   generalize World.setCell _ _ _=W5 at *
   have x0:=y9.out.b.facts
   have z0:=jq.out.facts
   have HV5:=ħ ((HV.out.ok.old.more (B':=(fun j=>B j∧j≠w.heap.size∧j≠w.heap.size+1)) (fun j hj=>⟨hj.1,by have:=hj.2;omega,by have:=hj.2;omega⟩)).below0 y9.out.be)
   have Ef:=ħ (show XR W5 (fun j=>B j∧j≠w.heap.size∧j≠w.heap.size+1) ⟨{ y.x with closed:=true,units:=[] },y.An,y.Ac,none,y.cn,y.cc,0⟩ from by
    have k1:=((Ja.out.n.old (by omega)).below y9.out.be (fun k hk=>hk.2)).more (B':=(fun j=>B j∧j≠w.heap.size∧j≠w.heap.size+1)) (fun j hj=>⟨hj.1,by have:=hj.2;omega,by have:=hj.2;omega⟩)
    have k2:=((Ja.out.c.old (by omega)).below y9.out.be (fun k hk=>hk.2)).more (B':=(fun j=>B j∧j≠w.heap.size∧j≠w.heap.size+1)) (fun j hj=>⟨hj.1,by have:=hj.2;omega,by have:=hj.2;omega⟩)
    exact ⟨k1,k2,Reads.none_⟩)
   have Ei:=ħ (lN v (fun j=>B j∧j≠w.heap.size∧j≠w.heap.size+1) id W5 HV5.out (fun j hj=>⟨HV.out.up j (Nat.le_trans y9.out.be.size hj),by have:=y9.out.sz;omega,by have:=y9.out.sz;omega⟩) (by have:=HV.out.nC;omega))
   go_wp2_with (go_at_call 94;((with_reducible refine Ei.out.mono ?_);rintro e W4 ⟨Ao,co,rfl,jW,hor,hb⟩;have yS:=ħ jW;have vZ:=ħ hor;have yx:=ħ (y9.out.below hb);have ZI:=ħ (jq.out.below hb jq.out.lt);have X8:=ħ (HV5.out.below0 hb);have E8:=ħ (Ef.out.below hb);clear jW hor hb x0 z0 y9 jq HV5 Ef Ei;have x0:=yx.out.b.facts))
   have bL:=ħ (show (Xw v.lc id).map (fun a=>a.c)=qB v.bk.C id from UG v.lc id)
   have hol:(Xw v.lc id).length≤1000:=Nat.le_trans (XK _ _) HV.out.nC
   obtain ⟨O,hO⟩:∃ O,O=Xw v.lc id:=⟨_,rfl⟩
   rw[←hO] at yS vZ bL hol⊢
   clear hO x0
   have zP:=yS
   have ja:=vZ
   have Zp:=ħ yx.out.b
   have GH:=ħ yx.out.z
   have fV:=X8
   have jq:=ZI
   have Ef:=E8
   have tN:=ħ yx.out.be
   have hs4:w.heap.size+2≤W4.heap.size:=yx.out.sz
   clear yS vZ X8 ZI E8 yx
   have hpo:=zP.out.plain (by omega)
   have x0:=Zp.out.facts
   go_loopw [31] (fun vi wr=>∃ (k:Nat) (C1:List Ca) (A1:Option Addr) (c1:Nat),k≤O.length∧vi=ι (k:Int)∧Fr (fun j=>j=w.heap.size) W4 wr∧zb wr w.heap.size 29 #[.slice v.AL v.la.length v.cL,.slice A1 C1.length c1]∧zX wr (fun j=>B j∧j≠w.heap.size∧j≠w.heap.size+1) ⟨v.la,v.AL,v.cL,C1,A1,c1⟩∧C1.map (fun a=>a.c)=y_ (fun t:Cr=>{ t with closed:=true }) v.bk.C ((O.map (fun a=>a.c)).take k)∧C1.length≤v.lc.length+k) (fun vi _=>O.length - (intOf vi).toNat)
   case atStart=>exact ⟨0,v.lc,v.AC,v.cC,Nat.zero_le _,rfl,Fr.refl _ _,Zp.out,fV.out,rfl,Nat.le_refl _⟩
   case round=>
    obtain ⟨k,C1,A1,c1,hk,rfl,hf,hb,hv,hm,hl⟩:=hrel
    have HF:=ħ hf
    have Eb:=ħ hb
    have eF:=ħ hv
    have ES:=ħ hm
    have eH:=ħ hl
    have hsz:=hf.size
    clear hf hb hv hm hl x0
    by_cases hlt:k<O.length
    ·have hlt':(k:Int)<O.length:=by omega
     have hix:=fun W=>UC hpo co k hlt W
     have qm:=ħ (zP.out.fr HF.out (fun j hj e=>hj.2.1 e))
     obtain ⟨t,ht⟩:∃ t,t=O[k]:=⟨_,rfl⟩
     have Kk:=ħ ((ja.out t (by rw[ht];exact List.getElem_mem hlt)).fr HF.out (fun j hj e=>hj.2.1 e))
     obtain ⟨e0,e1,e2,e3,e4,e5,e6,e7⟩:=Qz qm.out hlt ht
     have hbl:=qm.out.bk_lt (by omega) (by omega)
     have HS:=ħ (show y_ (fun t:Cr=>{ t with closed:=true }) v.bk.C ((O.map (fun a=>a.c)).take (k+1))=zG (y_ (fun t:Cr=>{ t with closed:=true }) v.bk.C ((O.map (fun a=>a.c)).take k)) { t.c with closed:=true } by rw[Qj _ _ _ (by rw[List.length_map];exact hlt),List.getElem_map,ht])
     have bS:=ħ (show Asc Cr.call (C1.map (fun a=>a.c)) by rw[ES.out];exact Ze _ _ _ HV.out.sC)
     clear ht
     have x0:=Eb.out.facts
     go_upto_region 12 with fail
     have HW:=ħ (show zX (wr.alloc (.cells #[ι t.c.call,ι t.c.inc,ι t.c.urg,.string t.c.code,.slice t.A t.c.nodes.length t.k,ι t.c.dist,ι t.c.since,.bool true] 34)) (fun j=>B j∧j≠w.heap.size∧j≠w.heap.size+1) ⟨v.la,v.AL,v.cL,C1,A1,c1⟩ from eF.out.alloc _)
     have Qp:=ħ (show zb (wr.alloc (.cells #[ι t.c.call,ι t.c.inc,ι t.c.urg,.string t.c.code,.slice t.A t.c.nodes.length t.k,ι t.c.dist,ι t.c.since,.bool true] 34)) w.heap.size 29 #[.slice v.AL v.la.length v.cL,.slice A1 C1.length c1] from Eb.out.alloc _)
     have pQ:=ħ (HF.out.alloc (.cells #[ι t.c.call,ι t.c.inc,ι t.c.urg,.string t.c.code,.slice t.A t.c.nodes.length t.k,ι t.c.dist,ι t.c.since,.bool true] 34))
     have Cs:=ħ (Kk.out.alloc (.cells #[ι t.c.call,ι t.c.inc,ι t.c.urg,.string t.c.code,.slice t.A t.c.nodes.length t.k,ι t.c.dist,ι t.c.since,.bool true] 34))
     have rP:=ħ (zb.new wr 34 #[ι t.c.call,ι t.c.inc,ι t.c.urg,.string t.c.code,.slice t.A t.c.nodes.length t.k,ι t.c.dist,ι t.c.since,.bool true])
     clear e0 e1 e2 e3 e4 e5 e6 e7 hbl x0 HF Eb eF Kk qm hix
     obtain ⟨pn,hpn⟩:∃ p,p=wr.heap.size:=⟨_,rfl⟩
     rw[←hpn] at rP⊢
     clear hpn hsz
     have hsz:=pQ.out.size
     generalize wr.alloc _=W5 at *
     have x0:=Qp.out.facts
     have y0:=rP.out.facts
     have FP:=ħ (show Calls Tryz.prog 89 #[.agg #[.slice v.AL v.la.length v.cL,.slice A1 C1.length c1],.agg #[ι t.c.call,ι t.c.inc,ι t.c.urg,.string t.c.code,.slice t.A t.c.nodes.length t.k,ι t.c.dist,ι t.c.since,.bool true]] W5 (eP v.la v.AL v.cL C1 { t.c with closed:=true } (fun j=>B j∧j≠w.heap.size∧j≠w.heap.size+1) W5) from Zg v.la v.AL v.cL C1 A1 c1 ⟨{ t.c with closed:=true },t.A,t.k⟩ (fun j=>B j∧j≠w.heap.size∧j≠w.heap.size+1) W5 HW.out Cs.out (fun j hj=>⟨HV.out.up j (by omega),by omega,by omega⟩) bS.out (by have:=eH.out;have:=HV.out.nC;omega))
     go_wp2_with (first | (go_at_call 89;((with_reducible refine FP.out.mono ?_);rintro e w6 ⟨C2,A2,c2,rfl,hv2,hm2,hn2,hb⟩;have vg:=ħ hv2;have VW:=ħ hm2;have ZR:=ħ (pQ.out.trans_ (Fr.of_below (S:=fun _=>False) hb) (fun _ e=>e.elim));have Qq:=ħ (Qp.out.below hb Qp.out.lt);clear hb hv2 hm2 x0 y0;have x0:=Qq.out.facts)) | (refine z8 rfl (.tmp 2) (.tmp 38) 29 rfl (w.heap.size) 29 _ #[.slice v.AL v.la.length v.cL,.slice A2 C2.length c2] _ 2 48 zy rfl rfl rfl Qq.out rfl zq ?_;intro w8 zW zI yL))
     refine ⟨⟨k+1,C2,A2,c2,by omega,by go_num,ZR.out.trans zI,zW,vg.out.fr zI (fun j hj e=>hj.2.1 e),by rw[VW.out,HS.out,ES.out],by have:=eH.out;omega⟩,by simp[intOf];omega⟩
    ·have hlt':¬ (k:Int)<O.length:=by omega
     have hk3:k=O.length:=by omega
     subst hk3
     rw[List.take_of_length_le (by rw[List.length_map];omega)] at ES
     have x0:=Eb.out.facts
     have ZI:=ħ (jq.out.fr HF.out (by show ¬ (px=w.heap.size);omega))
     have Zm:=ħ (GH.out.fr HF.out (by show ¬ (w.heap.size+1=w.heap.size);omega))
     have E8:=ħ (Ef.out.fr HF.out (fun j hj e=>hj.2.1 e))
     have z0:=ZI.out.facts
     have FQ:=ħ (show Calls Tryz.prog 90 #[.agg #[.slice v.AL v.la.length v.cL,.slice A1 C1.length c1],.agg #[ι y.x.id,ι y.x.urg,.string y.x.code,.slice y.An y.x.nodes.length y.cn,ι y.x.dist,ι y.x.since,.slice y.Ac y.x.calls.length y.cc,.slice none 0 0,ι y.x.merged,.bool true]] wr (dh v.la C1 A1 c1 { y.x with closed:=true,units:=[] } (fun j=>B j∧j≠w.heap.size∧j≠w.heap.size+1) wr) from jZ v.la v.AL v.cL C1 A1 c1 ⟨{ y.x with closed:=true,units:=[] },y.An,y.Ac,none,y.cn,y.cc,0⟩ (fun j=>B j∧j≠w.heap.size∧j≠w.heap.size+1) wr eF.out E8.out (fun j hj=>⟨HV.out.up j (by omega),by omega,by omega⟩) HV.out.sL (by have:=HV.out.nL;omega))
     go_wp2_with (first | (go_at_call 90;((with_reducible refine FQ.out.mono ?_);rintro e w7 ⟨L2,A2,c2,rfl,hv2,hm2,hn2,hb⟩;have BK:=ħ hv2;have iF:=ħ hm2;have lQ:=ħ (Zm.out.below hb Zm.out.lt);have Z7:=ħ (tN.out.trans ((HF.out.below tN.out.size (fun j hj e=>by have e2:j=w.heap.size:=e;omega)).trans (hb.mono (by omega))));clear hv2 hm2 hb x0;have x0:=lQ.out.facts)) | (refine z8 rfl (.tmp 4) (.tmp 42) 29 rfl (w.heap.size+1) 29 _ #[.slice A2 L2.length c2,.slice A1 C1.length c1] _ 2 48 zy rfl rfl rfl lQ.out rfl zq ?_;intro w8 zW zI yL))
     refine bodyPost_ret (za (p:=4) (u:=5) (ty:=29) Tryz.results53 _ _ (w.heap.size+1) 29 #[.slice A2 L2.length c2,.slice A1 C1.length c1] (0,0) _ rfl zW Tryz.underlying29 rfl zm) rfl ?_
     rw[HE.out]
     refine ⟨⟨L2,A2,c2,C1,A1,c1⟩,rfl,(BK.out.fr zI (fun j hj e=>hj.2.2 e)).more (fun j hj=>hj.1),?_,Z7.out.trans (zI.below Z7.out.size (fun j hj e=>by have e2:j=w.heap.size+1:=e;omega))⟩
     show (⟨L2.map (fun a=>a.x),C1.map (fun a=>a.c)⟩:Bk)=_
     rw[iF.out,ES.out,bL.out,JB HV.out.sC]
     rfl
 ·rw[hi] at h20
  have Qr:=ħ h20
  have HE:=ħ (show yI v.bk id=(v.bk,4) by unfold yI;rw[jw hg])
  clear h20 hi hg
  go_wp2_with (first | (go_at_call 20;((with_reducible refine Qr.out.mono ?_);rintro e w3 ⟨rfl,hb⟩;have qa:=ħ (y8.out.below hb);clear hb x0;have x0:=qa.out.b.facts)) | (refine z8 rfl (.tmp 4) (.tmp 15) 29 rfl (w.heap.size+1) 29 _ (β v) _ 2 48 zy rfl rfl rfl qa.out.z rfl zq ?_;intro w8 zW zI yL))
  refine bodyPost_ret (za (p:=4) (u:=5) (ty:=29) Tryz.results53 _ _ (w.heap.size+1) 29 (β v) (0,0) _ rfl zW Tryz.underlying29 rfl zm) rfl ?_
  exact HFin.out 4 _ (qa.out.be.trans (zI.below qa.out.be.size (fun j hj e=>by have e2:j=w.heap.size+1:=e;omega))) HE.out
end Go.Proofs.YtdhcjhfgibmhfaaGreatDoor

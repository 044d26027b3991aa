import Derived.Test.YtdhcjhfgibmhfaaGreatDoorVG15
import Derived.Test.YtdhcjhfgibmhfaaGreatDoorVG30
set_option linter.unusedVariables false
set_option linter.unusedSimpArgs false
set_option maxRecDepth 10000
set_option maxHeartbeats 8000000
namespace Go.Proofs.YtdhcjhfgibmhfaaGreatDoor
open Go.RowKit Go.Own Go.Quo Go.Inc
def z02 (L:List Ic):List (Int × Value):=L.flatMap (fun x=>x.calls.map (fun c=>(c,ι x.id)))
def z04 (L:List Ic):List (Int × Value):=L.flatMap (fun x=>x.units.map (fun u=>(u,Value.bool true)))
theorem z09 {qg:List (Int × Value)}{k:Int}(v:Value)(h:zn qg k=none):yg qg k v=qg ++ [(k,v)]:=by
 rw[YU]
 have hk:=T9 h
 have:qg.findIdx? (·.1 == k)=none:=by
  rw[List.findIdx?_eq_none_iff]
  intro x hx
  have:x.1≠k:=fun e=>hk (e ▸ List.mem_map_of_mem hx)
  simpa using this
 rw[this]
theorem z0b {qg:List (Int × Value)}{k:Int}(h:k∉qg.map (·.1)):zn qg k=none:=by
 cases hg:zn qg k with
 | none=>rfl
 | some v=>exact absurd (G8 hg) h
theorem z06 (L:List Ic):(z02 L).map (·.1)=L.flatMap (fun x=>x.calls):=by
 unfold z02
 rw[List.map_flatMap]
 congr 1
 funext x
 rw[List.map_map]
 show x.calls.map (fun c=>c)=_
 simp
theorem z0e (L:List Ic):(z04 L).map (·.1)=L.flatMap (fun x=>x.units):=by
 unfold z04
 rw[List.map_flatMap]
 congr 1
 funext x
 rw[List.map_map]
 show x.units.map (fun c=>c)=_
 simp
theorem z0g {l:List Int}{lo hi:Int}(h:qf l lo hi=true):l.Nodup:=(j4.1 h).1.imp (fun h e=>by omega)
section
variable {n:Nat} {b:Bk}
theorem z03 (h:Good n b){x:Ic}(hx:x∈b.L){c:Int}:c∈x.calls↔∃ t∈b.C,t.inc=x.id∧t.call=c:=by
 rw[Good.cs h x hx,List.mem_map]
 constructor
 ·rintro ⟨t,ht,rfl⟩
  exact ⟨t,(zo.1 ht).1,(zo.1 ht).2,rfl⟩
 ·rintro ⟨t,ht,e,rfl⟩
  exact ⟨t,zo.2 ⟨ht,e⟩,rfl⟩
theorem z05 (h:Good n b):(b.L.flatMap (fun x=>x.calls)).Nodup:=by
 unfold List.Nodup
 rw[List.pairwise_flatMap]
 refine ⟨fun x hx=>?_,(zg.sL h).imp_of_mem (fun {x y} hx hy hlt c hc d hd e=>?_)⟩
 ·rw[Good.cs h x hx,List.pairwise_map]
  exact (qi (zg.sC h) x.id).imp (fun h e=>by omega)
 ·subst e
  obtain ⟨t,ht,e1,e2⟩:=(z03 h hx).1 hc
  obtain ⟨u,hu,e3,e4⟩:=(z03 h hy).1 hd
  have:=qj Cr.call (zg.sC h) ht hu (by rw[e2,e4])
  subst this
  omega
theorem z0a (h:Good n b):(b.L.flatMap (fun x=>x.units)).Nodup:=by
 unfold List.Nodup
 rw[List.pairwise_flatMap]
 refine ⟨fun x hx=>?_,(zg.sL h).imp_of_mem (fun {x y} hx hy hlt c hc d hd e=>?_)⟩
 ·have h1:=(zg.vL h x hx).1
  unfold jC at h1
  simp only[Bool.and_eq_true] at h1
  exact z0g h1.1.2
 ·subst e
  have:=zg.un h x hx y hy c hc hd
  omega
theorem z07 {f:Ic→List Int}{L:List Ic}(h:(L.flatMap f).Nodup){k j:Nat}(hk:k<L.length)(hj:j<(f L[k]).length):(f L[k])[j]∉(L.take k).flatMap f ++ (f L[k]).take j:=by
 have e:L.flatMap f=((L.take k).flatMap f ++ (f L[k]).take j) ++ ((f L[k]).drop j ++ (L.drop (k+1)).flatMap f):=by
  conv=>lhs;rw[←List.take_append_drop k L,List.drop_eq_getElem_cons hk]
  rw[List.flatMap_append,List.flatMap_cons]
  conv=>lhs;rw[←List.take_append_drop j (f L[k])]
  simp only[List.append_assoc]
 rw[e,List.nodup_append] at h
 intro hm
 exact h.2.2 _ hm _ (List.mem_append_left _ (by rw[List.drop_eq_getElem_cons hj];exact List.mem_cons_self)) rfl
theorem z0t (h:Good n b){t:Cr}(ht:t∈b.C):zn (z02 b.L) t.call=some (ι t.inc):=by
 obtain ⟨x,hx,hxi,-⟩:=zg.lk h t ht
 have hc:t.call∈x.calls:=(z03 h hx).2 ⟨t,ht,hxi.symm,rfl⟩
 have hm:(t.call,ι t.inc)∈z02 b.L:=by
  unfold z02
  rw[List.mem_flatMap]
  exact ⟨x,hx,List.mem_map.2 ⟨t.call,hc,by rw[hxi]⟩⟩
 cases hg:zn (z02 b.L) t.call with
 | none=>exact absurd (List.mem_map_of_mem (f:=(·.1)) hm) (T9 hg)
 | some v=>
  unfold zn at hg
  rw[Option.map_eq_some_iff] at hg
  obtain ⟨p,hp,rfl⟩:=hg
  have h1:=List.mem_of_find?_eq_some hp
  have h2:p.1=t.call:=by simpa using List.find?_some hp
  unfold z02 at h1
  obtain ⟨y,hy,h3⟩:=List.mem_flatMap.1 h1
  obtain ⟨c,hcy,rfl⟩:=List.mem_map.1 h3
  obtain ⟨u,hu,e3,e4⟩:=(z03 h hy).1 hcy
  have:u=t:=qj Cr.call (zg.sC h) hu ht (by rw[e4];exact h2)
  subst this
  rw[e3]
theorem z0r (h:Good n b):(z02 b.L).length=b.C.length:=by
 have h1:(z02 b.L).length=((z02 b.L).map (·.1)).length:=by rw[List.length_map]
 rw[h1,z06,show b.C.length=(b.C.map Cr.call).length by rw[List.length_map]]
 refine List.Perm.length_eq ?_
 rw[List.perm_ext_iff_of_nodup (z05 h) (by unfold List.Nodup;rw[List.pairwise_map];exact (zg.sC h).imp (fun h e=>by omega))]
 intro c
 rw[List.mem_flatMap,List.mem_map]
 constructor
 ·rintro ⟨x,hx,hc⟩
  obtain ⟨t,ht,-,e⟩:=(z03 h hx).1 hc
  exact ⟨t,ht,e⟩
 ·rintro ⟨t,ht,rfl⟩
  obtain ⟨x,hx,hxi,-⟩:=zg.lk h t ht
  exact ⟨x,hx,(z03 h hx).2 ⟨t,ht,hxi.symm,rfl⟩⟩
end
structure CS (W4 wr:World) (mu mc:Nat) (kc ku:List (Int × Value)):Prop where
 hf:Fr (fun j=>j=mu∨j=mc) W4 wr
 hc:zF wr mc .i64 kc
 hu:zF wr mu .i64 ku
 ne:mu≠mc
section
variable {W4 wr w2:World} {mu mc:Nat} {kc ku:List (Int × Value)}
theorem CS.below (h:CS W4 wr mu mc kc ku)(hb:Below wr.heap.size wr w2):CS W4 w2 mu mc kc ku:=
 ⟨h.hf.trans_ (Fr.of_below (S:=fun _=>False) hb) (fun i e=>False.elim e),h.hc.below hb h.hc.lt,h.hu.below hb h.hu.lt,h.ne⟩
theorem CS.putC (h:CS W4 wr mu mc kc ku){k:Int}(v:Value)(hk:zn kc k=none):CS W4 (mput wr mc .i64 k v) mu mc (kc ++ [(k,v)]) ku:=
 ⟨h.hf.mput (.inl (.inr rfl)) .i64 k v,z09 v hk ▸ h.hc.put k v,h.hu.mput_far h.ne k v,h.ne⟩
theorem CS.putU (h:CS W4 wr mu mc kc ku){k:Int}(v:Value)(hk:zn ku k=none):CS W4 (mput wr mu .i64 k v) mu mc kc (ku ++ [(k,v)]):=
 ⟨h.hf.mput (.inl (.inl rfl)) .i64 k v,h.hc.mput_far h.ne.symm k v,z09 v hk ▸ h.hu.put k v,h.ne⟩
end
theorem zr2 (w:World):(zeroValue 2).run Tryz.prog w=.ok (ι 0) w:=by kernel_rfl
theorem zr4 (w:World):(zeroValue 4).run Tryz.prog w=.ok (.bool false) w:=by kernel_rfl
theorem z0n (L:List Ic){k:Nat}(hk:k<L.length):z02 (L.take (k+1))=z02 (L.take k) ++ L[k].calls.map (fun c=>(c,ι L[k].id)):=by
 unfold z02
 rw[List.take_succ_eq_append_getElem hk,List.flatMap_append];simp
theorem z0h (L:List Ic){k:Nat}(hk:k<L.length):z04 (L.take (k+1))=z04 (L.take k) ++ L[k].units.map (fun u=>(u,Value.bool true)):=by
 unfold z04
 rw[List.take_succ_eq_append_getElem hk,List.flatMap_append];simp
theorem z0x {n:Nat}{b:Bk}(h:Good n b){k j:Nat}(hk:k<b.L.length)(hj:j<b.L[k].calls.length):zn (z02 (b.L.take k) ++ (b.L[k].calls.take j).map (fun c=>(c,ι b.L[k].id))) (gd b.L[k].calls j)=none:=by
 refine z0b ?_
 rw[List.map_append,z06,List.map_map,qd hj]
 have:=z07 (f:=fun x=>x.calls) (z05 h) hk hj
 simpa [Function.comp_def] using this
theorem z0v {n:Nat}{b:Bk}(h:Good n b){k j:Nat}(hk:k<b.L.length)(hj:j<b.L[k].units.length):zn (z04 (b.L.take k) ++ (b.L[k].units.take j).map (fun u=>(u,Value.bool true))) (gd b.L[k].units j)=none:=by
 refine z0b ?_
 rw[List.map_append,z0e,List.map_map,qd hj]
 have:=z07 (f:=fun x=>x.units) (z0a h) hk hj
 simpa [Function.comp_def] using this
theorem z0k {n:Nat}{b:Bk}(h:Good n b){t:Cr}(ht:t∈b.C):jd b t.inc=t.inc:=by
 obtain ⟨x,hx,hxi,hm⟩:=zg.lk h t ht
 have hg:=Vl (zg.sL h) hx
 rw[hxi] at hg
 exact uw (j3.here hg hm)
theorem z08 {x:Ic}(h:jC x=true)(hm:x.merged≠0):x.calls.length=0∧x.units.length=0:=by
 unfold jC at h
 simp at h
 rcases h.2 with h1 | h1
 ·exact absurd h1 hm
 ·exact ⟨by simp[h1.1.2],by simp[h1.2]⟩
theorem z0G {w:World}{mc:Nat}{kc:List (Int × Value)}{k:Int}(h:zn kc k=none):∀ W:World,zF W mc .i64 kc→(Instr.lookup 65 (.map (some mc)) (ι k) true).run Tryz.prog W=.ok (.tuple #[ι 0,.bool false]) W:=fun W hW=>by
 have:=zF.lookup (P:=Tryz.prog) hW Tryz.underlying65 Tryz.underlying2 zr2 k true
 rw[h] at this
 exact this
theorem z0K {mc:Nat}{kc:List (Int × Value)}{k:Int}{v:Value}(h:zn kc k=some v):∀ W:World,zF W mc .i64 kc→(Instr.lookup 65 (.map (some mc)) (ι k) false).run Tryz.prog W=.ok v W:=fun W hW=>by
 have:=zF.lookup (P:=Tryz.prog) hW Tryz.underlying65 Tryz.underlying2 zr2 k false
 rw[h] at this
 exact this
theorem z0I {mu:Nat}{ku:List (Int × Value)}{k:Int}(h:zn ku k=none):∀ W:World,zF W mu .i64 ku→(Instr.lookup 64 (.map (some mu)) (ι k) false).run Tryz.prog W=.ok (.bool false) W:=fun W hW=>by
 have:=zF.lookup (P:=Tryz.prog) hW Tryz.underlying64 Tryz.underlying3 zr4 k false
 rw[h] at this
 exact this
theorem consistent8 (l:List Av)(A:Option Addr)(c:Nat)(w:World)(htb:jg w)(h1:Reads w (· < w.heap.size) 13 A l.length (l.flatMap Bd))(r1:∀ a∈l,RI w (· < w.heap.size) a.t.A a.t.c.nodes)(m1:l.length≤9223372036854775807) :
 Calls Tryz.prog 8 #[.slice A l.length c] w (qX true w):=by
 have Yi:=ħ htb
 cases hf:Qm l with
 | false=>
  have tF:=ħ (FJ _ A c l w h1 m1 hf)
  clear h1 r1 m1 htb hf
  go_enter Tryz.func8,Tryz.ntmps8
  go_upto_region 2 with (go_at_call 13;((with_reducible refine tF.out.mono ?_);rintro e w2 ⟨rfl,hb⟩;have HB2:=ħ hb;clear hb))
  have HB3:=ħ (HB2.out.alloc HB2.out.size (.cells #[.slice none 0 0,.slice none 0 0] 29))
  generalize w2.alloc _=W3 at *
  have pG:=ħ (UX W3 (Yi.out.below HB3.out Yi.out.lt))
  go_wp2_with (go_at_call 12;((with_reducible refine pG.out.mono ?_);rintro e w4 ⟨rfl,hb⟩;have Zp:=ħ (HB3.out.trans (hb.mono HB3.out.size));clear hb))
  go_ret
  exact ⟨rfl,Zp.out⟩
 | true=>
  have tF:=ħ (vM _ A c l w h1 r1 hf htb)
  have HG:=ħ (show Good 40 (yU l) from zg.mono (Zj l (by have:=(P_ hf).2;omega) (P_ hf).1) (P_ hf).2)
  clear h1 r1 m1 htb hf
  unfold nH at tF
  generalize yU l=b at *
  go_enter Tryz.func8,Tryz.ntmps8
  go_upto_region 2 with (go_at_call 13;((with_reducible refine tF.out.mono ?_);rintro e w2 ⟨p,mc,mi,mh,v,rfl,hbk,hpi,hbv,hpl,hb⟩;have HS2:=ħ (LP.new hbk hpi hbv hpl hb HG.out Yi.out);have HV:=ħ hbk;clear hbk hpi hbv hpl hb))
  obtain ⟨q,hq⟩:∃ q,q=w2.heap.size:=⟨_,rfl⟩
  rw[←hq] at HS2⊢
  clear hq tF Yi
  generalize w2.alloc _=W3 at *
  have x0:=HS2.out.x.facts
  have hmm:=@run_makeMap Tryz.prog
  have hb5:=((Below.refl W3.heap.size W3).alloc (Nat.le_refl _) (.map #[] 0)).alloc (by simp) (.map #[] 0)
  have QE:=ħ (HS2.out.below hb5)
  have MH:=ħ ((zF.new W3 .i64).alloc (.map #[] 0))
  have NS:=ħ (show zF ((W3.alloc (.map #[] 0)).alloc (.map #[] 0)) (W3.heap.size+1) .i64 [] by
   have:=zF.new (W3.alloc (.map #[] 0)) .i64
   simpa using this)
  go_upto_region 6 with fail
  obtain ⟨mu,hmu⟩:∃ q,q=W3.heap.size:=⟨_,rfl⟩
  obtain ⟨mc,hmc⟩:∃ q,q=W3.heap.size+1:=⟨_,rfl⟩
  have VV:=ħ (show mu≠mc by omega)
  have HLo:=ħ (show W3.heap.size≤mu∧W3.heap.size≤mc by omega)
  rw[←hmc] at NS⊢
  rw[←hmu] at MH⊢
  have ZN:=ħ hb5
  clear hmc hmu hb5 hmm x0
  generalize (W3.alloc _).alloc _=W5 at *
  have gT:=ħ QE.out.incs
  go_upto_region 7 with (go_at_call 31;((with_reducible refine gT.out.mono ?_);rintro e W4 ⟨A1,c1,xs,rfl,hm,hx⟩;have HM:=ħ hm;have jv:=ħ hx;clear hm hx))
  have hxl:xs.length≤40:=by
   have h1:=congrArg List.length HM.out
   rw[List.length_map] at h1
   rw[h1];exact zg.nL HG.out
  have Zp:=ħ (ZN.out.trans (jv.out.be.mono ZN.out.size))
  have HRd:=ħ ((WP jv.out).more (B':=fun k=>W5.heap.size≤k) (fun k hk=>(jv.out.ow.lt k hk).1))
  have OH:=ħ (show ∀ y∈xs,XR W4 (fun k=>W5.heap.size≤k) y from fun y hy=>⟨(jv.out.rw y hy (y.An,y.x.nodes) (by simp[PR])).more (fun k hk=>hk.1),(jv.out.rw y hy (y.Ac,y.x.calls) (by simp[PR])).more (fun k hk=>hk.1),(jv.out.rw y hy (y.Au,y.x.units) (by simp[PR])).more (fun k hk=>hk.1)⟩)
  have tZ:=ħ (show mu<W5.heap.size∧mc<W5.heap.size from ⟨MH.out.lt,NS.out.lt⟩)
  have hpx:=HRd.out.plain (by omega)
  have wh:=ħ (show CS W4 W4 mu mc (z02 (b.L.take 0)) (z04 (b.L.take 0)) from ⟨Fr.refl _ _,NS.out.below jv.out.be NS.out.lt,MH.out.below jv.out.be MH.out.lt,VV.out⟩)
  have mW:=ħ fun (W:World) (h:Fr (fun j=>j=mu∨j=mc) W4 W)=>Zp.out.trans (h.below Zp.out.size (fun k hk e=>by have:=HLo.out;omega))
  have lV:=ħ (show xs.length=b.L.length by have:=congrArg List.length HM.out;rwa [List.length_map] at this)
  clear gT QE MH NS jv ZN
  go_loopw [36] (fun vi wr=>∃ k:Nat,k≤xs.length∧vi=ι (k:Int)∧CS W4 wr mu mc (z02 (b.L.take k)) (z04 (b.L.take k))) (fun vi _=>xs.length - (intOf vi).toNat)
  case atStart=>exact ⟨0,Nat.zero_le _,rfl,wh.out⟩
  case round=>
   obtain ⟨k,hk,rfl,hcs⟩:=hrel
   have HC:=ħ hcs
   clear hcs wh
   by_cases hlt:k<xs.length
   ·have hlt':(k:Int)<xs.length:=by omega
    have hkL:k<b.L.length:=by have:=lV.out;omega
    have hix:=fun W=>JZ hpx c1 k hlt W
    obtain ⟨y,hy⟩:∃ y,y=xs[k]:=⟨_,rfl⟩
    have hyx:y∈xs:=by rw[hy];exact List.getElem_mem hlt
    have hyL:y.x=b.L[k]:=by
     have h1:(xs.map (fun a=>a.x))[k]?=b.L[k]?:=by rw[HM.out]
     rw[List.getElem?_map,List.getElem?_eq_getElem hlt,List.getElem?_eq_getElem hkL,←hy] at h1
     exact Option.some.inj h1
    have hr:wr.rangeAt (bk A1) (qP A1+k * 10) [ι y.x.id,ι y.x.urg,.string y.x.code,.slice y.An y.x.nodes.length y.cn,ι y.x.dist,ι y.x.since,.slice y.Ac y.x.calls.length y.cc,.slice y.Au y.x.units.length y.cu,ι y.x.merged,.bool y.x.closed]:=by
     have:=XQ (HRd.out.fr HC.out.hf (fun j hj e=>by have:=tZ.out;omega)) hlt
     rw[←hy] at this;exact this
    have HR:=ħ (show XR wr (fun k=>W5.heap.size≤k) y from ⟨(OH.out y hyx).n.fr HC.out.hf (fun j hj e=>by have:=tZ.out;omega),(OH.out y hyx).c.fr HC.out.hf (fun j hj e=>by have:=tZ.out;omega),(OH.out y hyx).u.fr HC.out.hf (fun j hj e=>by have:=tZ.out;omega)⟩)
    have HYv:=ħ (show jC y.x=true by rw[hyL];exact (zg.vL HG.out _ (List.getElem_mem hkL)).1)
    have WQ:=ħ (show ∀ j,j<y.x.calls.length→zn (z02 (b.L.take k) ++ (y.x.calls.take j).map (fun c=>(c,ι y.x.id))) (gd y.x.calls j)=none from fun j hj=>by rw[hyL] at hj⊢;exact z0x HG.out hkL hj)
    have HFu:=ħ (show ∀ j,j<y.x.units.length→zn (z04 (b.L.take k) ++ (y.x.units.take j).map (fun u=>(u,Value.bool true))) (gd y.x.units j)=none from fun j hj=>by rw[hyL] at hj⊢;exact z0v HG.out hkL hj)
    have Ma:=ħ (show z02 (b.L.take (k+1))=z02 (b.L.take k) ++ y.x.calls.map (fun c=>(c,ι y.x.id)) by rw[hyL];exact z0n b.L hkL)
    have HTu:=ħ (show z04 (b.L.take (k+1))=z04 (b.L.take k) ++ y.x.units.map (fun u=>(u,Value.bool true)) by rw[hyL];exact z0h b.L hkL)
    have HYx:=ħ hyx
    clear hy hyx hyL hkL
    go_upto_region 9 with (refine wpList_load_mid rfl 48 _ rfl (bk A1) (qP A1+k * 10) rfl [ι y.x.id,ι y.x.urg,.string y.x.code,.slice y.An y.x.nodes.length y.cn,ι y.x.dist,ι y.x.since,.slice y.Ac y.x.calls.length y.cc,.slice y.Au y.x.units.length y.cu,ι y.x.merged,.bool y.x.closed] _ hr Tryz.underlying48 rfl qo ?_)
    have TI:=ħ (zb.new wr 48 (ξ y.x y.An y.cn y.Ac y.cc y.Au y.cu))
    have hb5:=(Below.refl _ wr).alloc (Nat.le_refl _) (.cells (ξ y.x y.An y.cn y.Ac y.cc y.Au y.cu) 48)
    have BD:=ħ (HC.out.below hb5)
    have Ef:=ħ (HR.out.below hb5)
    obtain ⟨s,hs⟩:∃ s,s=wr.heap.size:=⟨_,rfl⟩
    have HSn:=ħ (show mu≠s∧mc≠s from ⟨by have:=HC.out.hu.lt;omega,by have:=HC.out.hc.lt;omega⟩)
    rw[←hs] at TI⊢
    clear hs hb5 HC HR hr hix
    generalize wr.alloc _=W6 at *
    have y0:=TI.out.facts
    have hpc:=Ef.out.c.plain (by omega)
    have mJ:=Ef.out.u.plain (by omega)
    have hcl:y.x.calls.length≤100000:=(yO HYv.out).2.1
    have OY:y.x.units.length≤256:=(yO HYv.out).2.2
    have HMe:=ħ (z08 HYv.out)
    have NA:=ħ (show XR W4 (fun k=>W5.heap.size≤k) y from OH.out y HYx.out)
    go_cut [52] (fun v wx=>wx=W6∧v=.bool false)
    case first=>
     by_cases Ol:y.x.merged=0
     ·have e1:(y.x.merged != 0)=false:=by rw[Ol];rfl
      clear Ol
      go_wp2_with fail
      all_goals go_meet
      all_goals exact ⟨rfl,rfl⟩
     ·have e1:(y.x.merged != 0)=true:=by simpa using Ol
      obtain ⟨h1,h2⟩:=HMe.out Ol
      have hgt:decide ((0:Int)<(y.x.calls.length:Int)+(y.x.units.length:Int))=false:=decide_eq_false (by omega)
      clear Ol h1 h2
      go_wp2_with fail
      all_goals go_meet
      all_goals exact ⟨rfl,rfl⟩
    case rest=>
     obtain ⟨hw,rfl⟩:=hcut
     subst hw
     go_upto_region 12 with fail
     clear y0
     go_loopw [56] (fun vi wr=>∃ j:Nat,j≤y.x.calls.length∧vi=ι (j:Int)∧CS W4 wr mu mc (z02 (b.L.take k) ++ (y.x.calls.take j).map (fun c=>(c,ι y.x.id))) (z04 (b.L.take k))∧zb wr s 48 (ξ y.x y.An y.cn y.Ac y.cc y.Au y.cu)) (fun vi _=>y.x.calls.length - (intOf vi).toNat)
     case atStart=>exact ⟨0,Nat.zero_le _,rfl,by simpa using BD.out,TI.out⟩
     case round=>
      obtain ⟨j,hj,rfl,hcs,hbx⟩:=hrel
      have HC:=ħ hcs
      have HI:=ħ hbx
      clear hcs hbx
      have y0:=HI.out.facts
      by_cases hjl:j<y.x.calls.length
      ·have z0q:(j:Int)<y.x.calls.length:=by omega
       have hix:=fun W=>Ki hpc y.cc j hjl W
       have hcell:=qJ (NA.out.c.fr HC.out.hf (fun i hi e=>by have:=tZ.out;omega)) hjl
       have hfr:=WQ.out j hjl
       have Xj:=ħ (show (y.x.calls.take (j+1)).map (fun c=>(c,ι y.x.id))=(y.x.calls.take j).map (fun c=>(c,ι y.x.id)) ++ [(fun c=>(c,ι y.x.id)) (gd y.x.calls j)] by rw[List.take_succ_eq_append_getElem hjl,List.map_append,qd hjl];rfl)
       have HPt:=ħ (HC.out.putC (ι y.x.id) hfr)
       have hbm:=HC.out.hc
       obtain ⟨kv,hkv⟩:∃ kv,kv=(z02 (b.L.take k) ++ (y.x.calls.take j).map (fun c=>(c,ι y.x.id))):=⟨_,rfl⟩
       rw[←hkv] at hfr hbm
       have hlk:=z0G (w:=wr) (mc:=mc) hfr
       have hup:=fun (W:World) (v:Value) (hW:zF W mc .i64 kv)=>zF.update (P:=Tryz.prog) hW Tryz.underlying65 Tryz.underlying2 (gd y.x.calls j) v
       clear hfr hkv
       generalize gd y.x.calls j=u at *
       go_wp2_with fail
       refine ⟨⟨j+1,by omega,by go_num,?_,HI.out.mput _ _ _ _⟩,by simp[intOf];omega⟩
       rw[Xj.out,←List.append_assoc]
       exact HPt.out
      ·have z0q:¬ (j:Int)<y.x.calls.length:=by omega
       have hje:y.x.calls.take j=y.x.calls:=List.take_of_length_le (by omega)
       rw[hje,←Ma.out] at HC
       have iG:=ħ HC.out
       have TF:=ħ HI.out
       clear HC HI hje
       go_upto_region 20 with fail
       clear y0
       go_loopw [75] (fun vi wr=>∃ j:Nat,j≤y.x.units.length∧vi=ι (j:Int)∧CS W4 wr mu mc (z02 (b.L.take (k+1))) (z04 (b.L.take k) ++ (y.x.units.take j).map (fun u=>(u,Value.bool true)))∧zb wr s 48 (ξ y.x y.An y.cn y.Ac y.cc y.Au y.cu)) (fun vi _=>y.x.units.length - (intOf vi).toNat)
       case atStart=>exact ⟨0,Nat.zero_le _,rfl,by simpa using iG.out,TF.out⟩
       case round=>
        obtain ⟨j,hj,rfl,hcs,hbx⟩:=hrel
        have HC:=ħ hcs
        have HI:=ħ hbx
        clear hcs hbx
        have y0:=HI.out.facts
        by_cases hjl:j<y.x.units.length
        ·have z0q:(j:Int)<y.x.units.length:=by omega
         have hix:=fun W=>JI mJ y.cu j hjl W
         have hcell:=qJ (NA.out.u.fr HC.out.hf (fun i hi e=>by have:=tZ.out;omega)) hjl
         have hfr:=HFu.out j hjl
         have Xj:=ħ (show (y.x.units.take (j+1)).map (fun u=>(u,Value.bool true))=(y.x.units.take j).map (fun u=>(u,Value.bool true)) ++ [(fun u=>(u,Value.bool true)) (gd y.x.units j)] by rw[List.take_succ_eq_append_getElem hjl,List.map_append,qd hjl];rfl)
         have HPt:=ħ (HC.out.putU (.bool true) hfr)
         have hbm:=HC.out.hu
         obtain ⟨kv,hkv⟩:∃ kv,kv=(z04 (b.L.take k) ++ (y.x.units.take j).map (fun u=>(u,Value.bool true))):=⟨_,rfl⟩
         rw[←hkv] at hfr hbm
         have hlk:=z0I (mu:=mu) hfr
         have hup:=fun (W:World) (v:Value) (hW:zF W mu .i64 kv)=>zF.update (P:=Tryz.prog) hW Tryz.underlying64 Tryz.underlying3 (gd y.x.units j) v
         clear hfr hkv
         generalize gd y.x.units j=u at *
         go_wp2_with fail
         refine ⟨⟨j+1,by omega,by go_num,?_,HI.out.mput _ _ _ _⟩,by simp[intOf];omega⟩
         rw[Xj.out,←List.append_assoc]
         exact HPt.out
        ·have z0q:¬ (j:Int)<y.x.units.length:=by omega
         have hje:y.x.units.take j=y.x.units:=List.take_of_length_le (by omega)
         rw[hje,←HTu.out] at HC
         go_wp2_with fail
         exact ⟨⟨k+1,by omega,by go_num,HC.out⟩,by simp[intOf];omega⟩
   ·have hlt':¬ (k:Int)<xs.length:=by omega
    have hke:b.L.take k=b.L:=List.take_of_length_le (by have:=lV.out;omega)
    rw[hke] at HC
    have xm:=ħ (HS2.out.below (mW.out _ HC.out.hf))
    go_upto_region 29 with (go_at_call 23;((with_reducible refine xm.out.calls.mono ?_);rintro e w5 ⟨A2,c2,ys,rfl,hm,hx⟩;have NS:=ħ hm;have HX:=ħ hx;have BD:=ħ (HC.out.below hx.be);have QE:=ħ (xm.out.below hx.be);clear hm hx))
    have hyl:ys.length≤40:=by
     have h1:=congrArg List.length NS.out
     rw[List.length_map] at h1
     rw[h1];exact zg.nC HG.out
    have hpy:=(WP HX.out).plain (by omega)
    have J9:=ħ ((WP HX.out).old (by omega))
    go_loopw [90] (fun vi wr=>∃ k:Nat,k≤ys.length∧vi=ι (k:Int)∧Below w5.heap.size w5 wr) (fun vi _=>ys.length - (intOf vi).toNat)
    case atStart=>exact ⟨0,Nat.zero_le _,rfl,Below.refl _ _⟩
    case round=>
     obtain ⟨i,hi,rfl,hbw⟩:=hrel
     have HB:=ħ hbw
     clear hbw
     by_cases hil:i<ys.length
     ·have z10:(i:Int)<ys.length:=by omega
      have hix:=fun W=>UC hpy c2 i hil W
      obtain ⟨z,hz⟩:∃ z,z=ys[i]:=⟨_,rfl⟩
      have hzC:z.c∈b.C:=by rw[←NS.out];exact List.mem_map_of_mem (by rw[hz];exact List.getElem_mem hil)
      have hr:wr.rangeAt (bk A2) (qP A2+i * 8) [ι z.c.call,ι z.c.inc,ι z.c.urg,.string z.c.code,.slice z.A z.c.nodes.length z.k,ι z.c.dist,ι z.c.since,.bool z.c.closed]:=by
       have:=QB (J9.out.below HB.out (fun k hk=>hk.2)) hil
       rw[←hz] at this;exact this
      have HZ:=ħ hzC
      clear hz hzC
      go_upto_region 31 with (refine wpList_load_mid rfl 34 _ rfl (bk A2) (qP A2+i * 8) rfl [ι z.c.call,ι z.c.inc,ι z.c.urg,.string z.c.code,.slice z.A z.c.nodes.length z.k,ι z.c.dist,ι z.c.since,.bool z.c.closed] _ hr Tryz.underlying34 rfl jN ?_)
      have HT:=ħ (zb.new wr 34 (χ z.c z.A z.k))
      have hb6:=(Below.refl _ wr).alloc (Nat.le_refl _) (.cells (χ z.c z.A z.k) 34)
      have Qq:=ħ (HB.out.trans (hb6.mono HB.out.size))
      obtain ⟨r,hr⟩:∃ r,r=wr.heap.size:=⟨_,rfl⟩
      rw[←hr] at HT⊢
      clear hr hb6 HB hix
      generalize wr.alloc _=W6 at *
      have GL:=ħ (QE.out.below Qq.out)
      have Dm:=ħ (BD.out.below Qq.out)
      have hbm:=Dm.out.hc
      have hlk:=z0K (mc:=mc) (z0t HG.out HZ.out)
      have hne:(z.c.inc != z.c.inc)=false:=by simp
      have HK:=ħ fun (W':World) (hb:Below W6.heap.size W6 W')=>(show W'.cell? ⟨r,0,none⟩=some (ι z.c.call)∧W'.cell? ⟨r,1,none⟩=some (ι z.c.inc) from ⟨(HT.out.below hb HT.out.lt).cell 0,(HT.out.below hb HT.out.lt).cell 1⟩)
      have K0:=HK.out _ (Below.refl _ W6).drew
      have h18:=(GL.out.below (Below.refl _ W6).drew).root z.c.inc
      rw[z0k HG.out HZ.out] at h18
      have mQ:=ħ h18
      clear h18
      generalize z02 b.L=KC at *
      go_region_held (fun W'=>W'.cell? ⟨r,0,none⟩=some (ι z.c.call)∧W'.cell? ⟨r,1,none⟩=some (ι z.c.inc)) (first | assumption | exact K0) (first
       | (go_at_call 18;((with_reducible refine mQ.out.mono ?_);rintro e w7 ⟨rfl,hb⟩;have Te:=ħ ((Below.refl _ W6).drew.trans hb);have K7:=HK.out _ Te.out;clear hb)))
      all_goals
       go_wp2_with fail
       exact ⟨⟨i+1,by omega,by go_num,Qq.out.trans (Te.out.mono Qq.out.size)⟩,by simp[intOf];omega⟩
     ·have z10:¬ (i:Int)<ys.length:=by omega
      have Dm:=ħ (BD.out.below HB.out)
      have GL:=ħ (QE.out.below HB.out)
      have hbm:=Dm.out.hc
      have hln:=zF.length (P:=Tryz.prog) hbm Tryz.underlying65 3
      have hle:(ys.length:Int)=((z02 b.L).length:Int):=by
       have h1:=congrArg List.length NS.out
       rw[List.length_map] at h1
       rw[h1,z0r HG.out]
      rw[←hle] at hln
      clear hle
      generalize z02 b.L=KC at *
      go_wp2_with (go_at_call 12;((with_reducible refine GL.out.awake.mono ?_);rintro e w7 ⟨rfl,hb⟩;have xm:=ħ (GL.out.below hb);clear hb))
      go_ret
      exact ⟨rfl,xm.out.be⟩
end Go.Proofs.YtdhcjhfgibmhfaaGreatDoor

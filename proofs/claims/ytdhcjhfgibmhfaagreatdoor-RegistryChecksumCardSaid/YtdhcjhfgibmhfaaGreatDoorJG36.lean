import Derived.Test.YtdhcjhfgibmhfaaGreatDoorJG33
import Derived.Test.YtdhcjhfgibmhfaaGreatDoorJG34
import Derived.Test.YtdhcjhfgibmhfaaGreatDoorJG29
import Derived.Test.YtdhcjhfgibmhfaaGreatDoorJG25
import Derived.Test.YtdhcjhfgibmhfaaGreatDoorJG30
set_option linter.unusedVariables false
set_option linter.unusedSimpArgs false
set_option maxRecDepth 10000
set_option maxHeartbeats 8000000
namespace Go.Proofs.YtdhcjhfgibmhfaaGreatDoor
open Go.RowKit Go.Own Go.Quo Go.Inc Go.Wire
def IcL (x:Ic):Prop:=x.code.size≤1000∧x.nodes.length≤1000∧x.calls.length≤1000∧x.units.length≤1000
theorem z0N (t:Cr):Bytes (TV t):=by
 unfold TV
 exact Bytes.app (Bytes.app (Bytes.app (Bytes.app (Bytes.app (Bytes.app (Bytes.app (PP _) (PP _)) (PP _)) (Sz _)) (Re _)) (PP _)) (PP _)) (SH _)
theorem z0E {t:Cr}(h:TA t):(TV t).length≤40000:=by
 have l0:=PM h.a
 have l1:=PM h.b
 have l2:=PM h.c
 have l3:=Wi h.d
 have l4:=Tx h.f h.e
 have l5:=PM h.g
 have l6:=PM h.h
 have l7:=TQ t.closed
 unfold TV
 simp only[List.length_append]
 omega
theorem CS {α:Type}(f:α→List Int)(m:Nat):∀ l:List α,(∀ x∈l,(f x).length≤m)→(l.flatMap f).length≤l.length * m
 | [],_=>by simp
 | a :: l,h=>by
  have h1:=h a (by simp)
  have h2:=CS f m l (fun x hx=>h x (by simp[hx]))
  rw[List.flatMap_cons,List.length_append,List.length_cons,Nat.succ_mul]
  omega
theorem Cg {α:Type}(f:α→List Int)(h:∀ x,Bytes (f x))(l:List α):Bytes (l.flatMap f):=by
 intro b hb
 obtain ⟨x,-,hx⟩:=List.mem_flatMap.1 hb
 exact h x b hx
theorem bF {α:Type}(f:α→List Int){l:List α}{k:Nat}(hk:k<l.length){a:α}(ha:a=l[k]):(l.take (k+1)).flatMap f=(l.take k).flatMap f ++ f a:=by
 rw[List.take_succ_eq_append_getElem hk,List.flatMap_append,←ha]
 simp
structure SS (w:World) (v:Bv) (o:List Int) (A:Option Addr) (c:Nat) (wr:World):Prop where
 be:Below w.heap.size w wr
 bx:zb wr w.heap.size 29 (β v)
 ow:wr.ownsRow w.heap.size 5 1 (.slice A o.length c) o.length (bys o)
theorem SS.step {w:World}{v:Bv}{o:List Int}{A:Option Addr}{c:Nat}{w1 w2:World}(h:SS w v o A c w1)(hb:Below w1.heap.size w1 w2):SS w v o A c w2:=
 ⟨h.be.trans (hb.mono h.be.size),h.bx.below hb h.bx.lt,own_below h.ow hb (fun g hg=>(h.ow.lt g hg).2)⟩
theorem SS.grow {w:World}{v:Bv}{o en:List Int}{A A2:Option Addr}{c c2:Nat}{w1 w2:World}(h:SS w v o A c w1)(hown:w2.ownsRow w.heap.size 5 1 (.slice A2 (o.length+en.length) c2) (o.length+en.length) (bys o ++ bys en))(hgr:w1.grownBy w2 (Value.slice A o.length c).ownBlock):SS w v (o ++ en) A2 c2 w2:=
 ⟨h.be.grown hgr h.be.size (fun g hg=>(h.ow.lt g hg).1),h.bx.grown hgr (fun e=>zR h.ow h.bx (by decide) _ e.symm rfl),R4 hown⟩
theorem z1p (B:Nat→Prop)(v:Bv)(w:World)(h:zX w B v)(hL:v.la.length≤1000)(hC:v.lc.length≤1000)(hi:∀ a∈v.la,IcL a.x)(hc:∀ t∈v.lc,TA t.c) :
 Calls Tryz.prog 34 #[YW v] w fun e w'=>e=.returned (.int .u64 (XL vk ((v.la.flatMap fun a=>enc1 a.x) ++ v.lc.flatMap fun t=>TV t.c)))∧Below w.heap.size w w':=by
 have HI1:=ħ ((h.rl.old (by omega)).more (B':=(· < w.heap.size)) (fun k hk=>hk.2))
 have HI2:=ħ ((h.rc.old (by omega)).more (B':=(· < w.heap.size)) (fun k hk=>hk.2))
 have hp1:=HI1.out.plain (by omega)
 have hp2:=HI2.out.plain (by omega)
 have HR1:=ħ fun t ht=>(h.xl t ht).old
 have HR2:=ħ fun t ht=>(h.xc t ht).old_
 have qa:=ħ hi
 have y5:=ħ hc
 have mU:=ħ (show SS w v [] none 0 (w.alloc (.cells (β v) 29)) from ⟨(Below.refl w.heap.size w).alloc (Nat.le_refl _) _,zb.new w 29 _,World.ownsRow_nil _ _ _ _⟩)
 have Ps:=ħ hL
 have HLC:=ħ hC
 clear h hi hc hL hC
 obtain ⟨R,hR⟩:∃ R,R=XL vk ((v.la.flatMap fun a=>enc1 a.x) ++ v.lc.flatMap fun t=>TV t.c):=⟨_,rfl⟩
 rw[←hR]
 have HRR:=ħ hR
 clear hR
 have b0:=mU.out.bx.facts
 go_enter Tryz.func34,Tryz.ntmps34
 go_upto_region 3 with fail
 clear b0
 generalize w.alloc _=W0 at *
 go_loopw [3,11] (fun vo vi wr=>∃ (k:Nat) (o:List Int) (A:Option Addr) (c:Nat),k≤v.la.length∧vi=ι (k:Int)∧vo=.slice A o.length c∧o=(v.la.take k).flatMap (fun a=>enc1 a.x)∧SS w v o A c wr) (fun _ vi _=>v.la.length - (intOf vi).toNat)
 case atStart=>exact ⟨0,[],none,0,Nat.zero_le _,rfl,rfl,rfl,mU.out⟩
 case round=>
  obtain ⟨k,o,A,c,hk,rfl,rfl,ho,hs⟩:=hrel
  have HS:=ħ hs
  have HO:=ħ ho
  have hol:o.length≤40000000:=by
   have h1:=CS (fun a:Xa=>enc1 a.x) 40000 (v.la.take k) (fun a ha=>by
    obtain ⟨h1,h2,h3,h4⟩:=qa.out a (List.mem_of_mem_take ha)
    exact z0J h1 h2 h3 h4)
   rw[←ho,List.length_take] at h1
   have:=Ps.out
   omega
  clear hs ho mU
  have hnl:v.la.length≤1000:=Ps.out
  by_cases hlt:k<v.la.length
  ·have hlt':(k:Int)<v.la.length:=by omega
   have hix:=fun W=>JZ hp1 v.cL k hlt W
   obtain ⟨a,ha⟩:∃ a,a=v.la[k]:=⟨_,rfl⟩
   have hT:=ħ (show (v.la.take (k+1)).flatMap (fun a=>enc1 a.x)=(v.la.take k).flatMap (fun a=>enc1 a.x) ++ enc1 a.x from bF (fun a:Xa=>enc1 a.x) hlt ha)
   have ra:=HR1.out a (by rw[ha];exact List.getElem_mem hlt)
   obtain ⟨n1,n2,n3,n4⟩:=qa.out a (by rw[ha];exact List.getElem_mem hlt)
   have hel:(enc1 a.x).length≤40000:=z0J n1 n2 n3 n4
   have hcl:=jA (HI1.out.below HS.out.be (fun j hj=>hj)) hlt ha
   have HX:=ħ fun (W:World) (hb:Below w.heap.size w W)=>z1f _ a.x a.An a.Ac a.Au a.cn a.cc a.cu W (ra.below_ hb).n (ra.below_ hb).c (ra.below_ hb).u n1 n2 n3 n4
   clear ra ha n1 n2 n3 n4
   generalize enc1 a.x=en at *
   go_upto_region 5 with fail
   have KI:=ħ (zb.new wr 48 (ξ a.x a.An a.cn a.Ac a.cc a.Au a.cu))
   have M7:=ħ (HS.out.step ((Below.refl _ wr).alloc (Nat.le_refl _) (.cells (ξ a.x a.An a.cn a.Ac a.cc a.Au a.cu) 48)))
   clear hcl HS
   generalize wr.alloc _=W1 at *
   have x0:=KI.out.facts
   go_wp2_with (first
    | (go_at_call 81;((with_reducible refine (HX.out _ M7.out.be).mono ?_);rintro e w2 ⟨A9,c9,rfl,hY,hb⟩;have HS2:=ħ (M7.out.step hb);have HY:=ħ hY;clear hY hb x0))
    | (at_builtin;refine ze _ rfl _ _ _ rfl w.heap.size 5 _ 1 1 Tryz.underlying99 info5 rfl (by omega) (.slice A o.length c) o.length (bys o) rfl HS2.out.ow _ A9 en.length c9 (bys en) rfl HY.out (PU _) (by simp only[maxLen];omega) (by omega) HS2.out.be.size ?_;intro A2 c2 w3 hown hgr hat;have Mk:=ħ (HS2.out.grow hown hgr);clear hown hgr hat HS2 HY))
   exact ⟨⟨k+1,o ++ en,A2,c2,by omega,by go_num,by rw[List.length_append],by rw[hT.out,←HO.out],Mk.out⟩,by simp[intOf];omega⟩
  ·have hlt':¬ (k:Int)<v.la.length:=by omega
   have hkl:k=v.la.length:=by omega
   subst hkl
   have HO:=ħ (show o=v.la.flatMap (fun a=>enc1 a.x) by rw[HO.out,List.take_of_length_le (Nat.le_refl _)])
   have b0:=HS.out.bx.facts
   go_upto_region 8 with fail
   clear b0 hlt hlt' hk
   obtain ⟨o1,ho1⟩:∃ o1,o1=o:=⟨_,rfl⟩
   have zu:=ħ (show o1=v.la.flatMap (fun a=>enc1 a.x) by rw[ho1];exact HO.out)
   have z2V:o1.length≤40000000:=by rw[ho1];exact hol
   clear HO hol
   go_loopw [3,23] (fun vo vi wr=>∃ (k:Nat) (o:List Int) (A:Option Addr) (c:Nat),k≤v.lc.length∧vi=ι (k:Int)∧vo=.slice A o.length c∧o=o1 ++ (v.lc.take k).flatMap (fun t=>TV t.c)∧SS w v o A c wr) (fun _ vi _=>v.lc.length - (intOf vi).toNat)
   case atStart=>exact ⟨0,o,A,c,Nat.zero_le _,rfl,rfl,by rw[ho1];simp,HS.out⟩
   case round=>
    clear HS ho1
    obtain ⟨k,o,A,c,hk,rfl,rfl,ho,hs⟩:=hrel
    have HS:=ħ hs
    have HO:=ħ ho
    have hol:o.length≤80000000:=by
     have h1:=CS (fun a:Ca=>TV a.c) 40000 (v.lc.take k) (fun a ha=>z0E (y5.out a (List.mem_of_mem_take ha)))
     rw[List.length_take] at h1
     have:=HLC.out
     rw[ho,List.length_append]
     omega
    clear hs ho
    have z2c:v.lc.length≤1000:=HLC.out
    by_cases hlt:k<v.lc.length
    ·have hlt':(k:Int)<v.lc.length:=by omega
     have hix:=fun W=>UC hp2 v.cC k hlt W
     obtain ⟨a,ha⟩:∃ a,a=v.lc[k]:=⟨_,rfl⟩
     have hT:=ħ (show (v.lc.take (k+1)).flatMap (fun t=>TV t.c)=(v.lc.take k).flatMap (fun t=>TV t.c) ++ TV a.c from bF (fun a:Ca=>TV a.c) hlt ha)
     have ra:=HR2.out a (by rw[ha];exact List.getElem_mem hlt)
     have sa:=y5.out a (by rw[ha];exact List.getElem_mem hlt)
     have hel:(TV a.c).length≤40000:=z0E sa
     have hcl:=Qz (HI2.out.below HS.out.be (fun j hj=>hj)) hlt ha
     have HX:=ħ fun (W:World) (hb:Below w.heap.size w W)=>Tj _ a.c a.A a.k W (ra.below hb (fun k hk=>hk)) sa
     clear ra ha sa
     generalize TV a.c=en at *
     go_upto_region 10 with fail
     have KI:=ħ (zb.new wr 34 (χ a.c a.A a.k))
     have M7:=ħ (HS.out.step ((Below.refl _ wr).alloc (Nat.le_refl _) (.cells (χ a.c a.A a.k) 34)))
     clear hcl HS
     generalize wr.alloc _=W1 at *
     have x0:=KI.out.facts
     go_wp2_with (first
      | (go_at_call 66;((with_reducible refine (HX.out _ M7.out.be).mono ?_);rintro e w2 ⟨A9,c9,rfl,hY,hb⟩;have HS2:=ħ (M7.out.step hb);have HY:=ħ (Reads.of_own hY);clear hY hb x0))
      | (at_builtin;refine ze _ rfl _ _ _ rfl w.heap.size 5 _ 1 1 Tryz.underlying99 info5 rfl (by omega) (.slice A o.length c) o.length (bys o) rfl HS2.out.ow _ A9 en.length c9 (bys en) rfl HY.out (PU _) (by simp only[maxLen];omega) (by omega) HS2.out.be.size ?_;intro A2 c2 w3 hown hgr hat;have Mk:=ħ (HS2.out.grow hown hgr);clear hown hgr hat HS2 HY))
     exact ⟨⟨k+1,o ++ en,A2,c2,by omega,by go_num,by rw[List.length_append],by rw[hT.out,HO.out,List.append_assoc],Mk.out⟩,by simp[intOf];omega⟩
    ·have hlt':¬ (k:Int)<v.lc.length:=by omega
     have hkl:k=v.lc.length:=by omega
     subst hkl
     have HO:=ħ (show o=o1 ++ v.lc.flatMap (fun t=>TV t.c) by rw[HO.out,List.take_of_length_le (Nat.le_refl _)])
     have hby:Bytes o:=by
      rw[HO.out,zu.out]
      exact Bytes.app (Cg _ (fun a=>z0M _) _) (Cg _ (fun a=>z0N _) _)
     have H82:=ħ (z1U _ A c o wr (Reads.of_own HS.out.ow) hby (by omega))
     have HR2:=ħ (show R=XL vk o by rw[HRR.out,HO.out,zu.out])
     rw[←HR2.out] at H82
     go_wp2_with (go_at_call 82;((with_reducible refine H82.out.mono ?_);rintro e w2 ⟨rfl,hb⟩;have HB:=ħ (HS.out.be.trans (hb.mono HS.out.be.size));clear hb))
     go_ret
     exact ⟨rfl,HB.out⟩
end Go.Proofs.YtdhcjhfgibmhfaaGreatDoor
namespace Go.Proofs.YtdhcjhfgibmhfaaGreatDoor
open Go.RowKit Go.Own Go.Quo Go.Inc Go.Wire
open Wr (KL WrP Cx z0Y z11 z15)
theorem z0T (s:Int)(a b:List Int):XL (XL s a) b=XL s (a ++ b):=by
 unfold XL;rw[List.foldl_append]
theorem z1n {w:World}{base n c p:Nat}{A:Option Addr}{l:List Int}(h:w.ownsRow base 2 1 (.slice A n c) n (l.map (Value.int .i64)))(hn:n=l.length)(hp:p<base):∃ rs,KL w p rs∧∀ W,KL W p rs→RI W (base≤·) A l:=by
 subst hn
 rcases h.2 with ⟨h1,h2⟩ | ⟨g,cap,cur,h1,h2,h3,h4⟩
 ·refine ⟨[],⟨fun x hx=>by simp at hx⟩,fun W _=>?_⟩
  exact qK (w:=W) (base:=base) (t:=2) (c:=c) ⟨h.1,.inl ⟨h1,h2⟩⟩
 ·refine ⟨[(g,2,cur)],⟨fun x hx=>?_⟩,fun W hW=>?_⟩
  ·rcases List.mem_cons.1 hx with rfl | hx
   ·exact ⟨h3,by show (2:TypeId)≠5;decide,by show g≠p;omega⟩
   ·simp at hx
  ·have h5:=(hW.al _ (.head _)).1
   exact qK (w:=W) (base:=base) (t:=2) (c:=c) ⟨h.1,.inr ⟨g,cap,cur,h1,h2,h5,h4⟩⟩
theorem KL.cons {w:World}{p g:Nat}{t:TypeId}{cs:Array Value}{rs:List (Nat × TypeId × Array Value)}(h:KL w p rs)(hb:zb w g t cs)(ht:t≠5)(hg:g≠p):KL w p ((g,t,cs) :: rs):=
 ⟨fun x hx=>by
  rcases List.mem_cons.1 hx with rfl | hx
  ·exact ⟨hb,ht,hg⟩
  ·exact h.al x hx⟩
theorem KL.tail {w:World}{p:Nat}{x:Nat × TypeId × Array Value}{rs:List (Nat × TypeId × Array Value)}(h:KL w p (x :: rs)):KL w p rs:=⟨fun y hy=>h.al y (by simp[hy])⟩
theorem KL.alloc {w:World}{p:Nat}{rs:List (Nat × TypeId × Array Value)}(h:KL w p rs)(o:Obj):KL (w.alloc o) p rs:=
 ⟨fun x hx=>by
  obtain ⟨h1,h2,h3⟩:=h.al x hx
  exact ⟨h1.alloc _,h2,h3⟩⟩
theorem z1k (p mc mi mh:Nat)(b:Bk)(w:World)(h:PI w p mc mi mh b)(hs:Asc Ic.id b.L)(J2:Asc Cr.call b.C)(hl:b.L.length≤1000)(hC:b.C.length≤1000)(hv:∀ x∈b.L,jC x=true∧IcL x)(hvC:∀ t∈b.C,yz t=true∧TA t) :
 Calls Tryz.prog 33 #[.pointer (some ⟨p,0,none⟩)] w fun e w'=>e=.returned (.int .u64 (XL vk (b.L.flatMap enc1 ++ b.C.flatMap TV)))∧Below w.heap.size w w':=by
 obtain ⟨kc,ki,kh,hw,hc,hi,hh⟩:=h
 have FW:=ħ hw
 have HCM:=ħ hc
 have QS:=ħ hi
 have lV:=ħ hl
 have ag:=ħ hC
 have HV:=ħ hv
 have HVC:=ħ hvC
 have tu:=ħ fun (W:World)=>RL (some mi) W
 have WW:=ħ fun (W:World) (h:zF W mi .i64 ki)=>SN h hi hs hl (fun x hx=>(hv x hx).1)
 have OM:=ħ fun (W:World)=>Sy (some mc) W
 have z1S:=ħ fun (W:World) (h:zF W mc .i64 kc)=>TW h hc J2 hC (fun x hx=>(hvC x hx).1)
 have H73:=ħ fun (W:World)=>z1w W
 obtain ⟨R,hR⟩:∃ R,R=XL vk (b.L.flatMap enc1 ++ b.C.flatMap TV):=⟨_,rfl⟩
 rw[←hR]
 have HRR:=ħ hR
 clear hR hc hi hh hl hv hs hvC J2 hC hw
 generalize vk=s0 at *
 have p0:=FW.out.P.facts
 have hbc:=FW.out.bc
 have hbi:=FW.out.bi
 have hmc:=hbc.lt
 have Pm:=hbi.lt
 have Sj:=ħ (WW.out w FW.out.bi)
 go_enter Tryz.func33,Tryz.ntmps33
 go_wp2_with (first
  | (go_at_call 73;((with_reducible refine (H73.out _).mono ?_);rintro e w2 ⟨rfl,rfl⟩))
  | (go_at_call 67;((with_reducible refine (tu.out _).mono ?_);rintro e w2 ⟨rfl,hw2⟩;rw[hw2];clear hw2))
  | (go_at_call 64;((with_reducible refine Sj.out.mono ?_);rintro e w3 ⟨Ai,ci,rfl,ho,hb⟩;have HB3:=ħ (show Below w.heap.size w w3 from ((Below.refl _ w).alloc (Nat.le_refl _) _).trans (hb.mono (by simp)));have zC:=ħ (qK (show w3.ownsRow (w.heap.size+1) 2 1 (.slice Ai (b.L.map Ic.id).length ci) (b.L.map Ic.id).length ((b.L.map Ic.id).map (Value.int .i64)) by rw[List.length_map];exact ho));clear ho hb)))
 clear p0 hbc hbi hmc Pm Sj WW tu H73
 go_loopw [3,18] (fun vs vi wr=>∃ (k:Nat),k≤b.L.length∧vi=ι (k:Int)∧vs=.int .u64 (XL s0 ((b.L.take k).flatMap enc1))∧Below w.heap.size w wr∧RI wr (w.heap.size+1≤·) Ai (b.L.map Ic.id)) (fun _ vi _=>b.L.length - (intOf vi).toNat)
 case atStart=>exact ⟨0,Nat.zero_le _,rfl,rfl,HB3.out,zC.out⟩
 case round=>
  obtain ⟨k,hk,rfl,rfl,hbe,hri⟩:=hrel
  clear HB3 zC
  have hnl:b.L.length≤1000:=lV.out
  have HB:=ħ hbe
  have m_:=ħ hri
  have HP:=ħ (FW.out.below hbe)
  have hpi:Plain Ai b.L.length:=by have:=m_.out.plain (by omega);rwa [List.length_map] at this
  clear hbe hri
  by_cases hlt:k<b.L.length
  ·have hlt':(k:Int)<b.L.length:=by omega
   have hix:=fun W=>Ki hpi ci k hlt W
   have hcl:=qJ m_.out (k:=k) (by rw[List.length_map];exact hlt)
   obtain ⟨x,hx⟩:∃ x,x=b.L[k]:=⟨_,rfl⟩
   have hxm:x∈b.L:=by rw[hx];exact List.getElem_mem hlt
   have hgd:gd (b.L.map Ic.id) k=x.id:=by rw[qd (by rw[List.length_map];exact hlt),List.getElem_map,hx]
   rw[hgd] at hcl
   obtain ⟨a,hax,hkg,mI⟩:=QS.out.at_ x hxm
   have HT:=ħ (show XL (XL s0 ((b.L.take k).flatMap enc1)) (enc1 a.x)=XL s0 ((b.L.take (k+1)).flatMap enc1) by rw[z0T,bF enc1 hlt (a:=x) hx,hax])
   obtain ⟨-,n1,n2,n3,n4⟩:=HV.out x hxm
   rw[←hax] at hkg hcl n1 n2 n3 n4
   have hl0:=EY (w:=w) (mi:=mi) a.x.id (show (zn ki a.x.id).getD (.agg ζ)=.agg (ξ a.x a.An a.cn a.Ac a.cc a.Au a.cu) by rw[hkg];rfl)
   have hel:(enc1 a.x).length≤40000:=z0J n1 n2 n3 n4
   have heb:=ħ (z0M a.x)
   have ra:=mI.old
   have HX:=ħ fun (W:World) (hb:Below w.heap.size w W)=>z1B _ a.x a.An a.Ac a.Au a.cn a.cc a.cu W (ra.below_ hb).n (ra.below_ hb).c (ra.below_ hb).u n1 n2 n3 n4
   clear hx hxm hgd hkg mI hax ra n1 n2 n3 n4 x
   generalize enc1 a.x=en at *
   generalize XL s0 ((b.L.take k).flatMap enc1)=sk at *
   have p0:=HP.out.P.facts
   have hbc:=HP.out.bc
   have hbi:=HP.out.bi
   have hmc:=hbc.lt
   have Pm:=hbi.lt
   go_wp2_with (first
    | (go_at_call 75;((with_reducible refine (HX.out _ HB.out).mono ?_);rintro e w2 ⟨A9,c9,rfl,hY,hb⟩;have HB2:=ħ (HB.out.trans (hb.mono HB.out.size));have HR2:=ħ (zl m_.out hb);have H74:=ħ (z0u _ A9 c9 sk en w2 hY heb.out (by omega));clear hY hb p0 hbc hbi hmc Pm))
    | (go_at_call 74;((with_reducible refine H74.out.mono ?_);rintro e w3 ⟨rfl,rfl⟩)))
   exact ⟨⟨k+1,by omega,by go_num,by rw[HT.out],HB2.out,HR2.out⟩,by simp[intOf];omega⟩
  ·have hlt':¬ (k:Int)<b.L.length:=by omega
   have hkl:k=b.L.length:=by omega
   subst hkl
   have HE1:=ħ (show XL s0 ((b.L.take b.L.length).flatMap enc1)=XL s0 (b.L.flatMap enc1) by rw[List.take_of_length_le (Nat.le_refl _)])
   generalize XL s0 ((b.L.take b.L.length).flatMap enc1)=s1 at *
   go_upto_region 8 with fail
   have HW0:=ħ (WrP.new wr)
   have HB1:=ħ (HB.out.alloc HB.out.size (.cells #[.slice none 0 0] 112))
   have hsz:=HB.out.size
   obtain ⟨q,hq⟩:∃ q,q=wr.heap.size:=⟨_,rfl⟩
   have HQS:=ħ (show (wr.alloc (.cells #[.slice none 0 0] 112)).heap.size=q+1 by rw[hq];simp)
   rw[←hq] at HW0 hsz⊢
   clear m_ HP HB hpi hq
   generalize wr.alloc _=W1 at *
   have gP:=ħ (FW.out.below HB1.out)
   have Sj:=ħ (z1S.out W1 gP.out.bc)
   have p0:=gP.out.P.facts
   have hbc:=gP.out.bc
   have hbi:=gP.out.bi
   have hmc:=hbc.lt
   have Pm:=hbi.lt
   have hlt2:¬ (b.L.length:Int)<b.L.length:=by omega
   go_upto_region 9 with (first
    | (go_at_call 65;((with_reducible refine (OM.out _).mono ?_);rintro e w2 ⟨rfl,hw2⟩;rw[hw2];clear hw2))
    | (go_at_call 64;((with_reducible refine Sj.out.mono ?_);rintro e w3 ⟨Aj,cj,rfl,ho,hb⟩;have Kq:=ħ (show Below W1.heap.size W1 w3 from ((Below.refl _ W1).alloc (Nat.le_refl _) _).trans (hb.mono (by simp)));have zC:=ħ (show w3.ownsRow (q+1+1) 2 1 (.slice Aj b.C.length cj) b.C.length ((b.C.map Cr.call).map (Value.int .i64)) by rw[←HQS.out];exact ho);clear ho hb)))
   have HB3:=ħ (HB1.out.trans (Kq.out.mono HB1.out.size))
   have HW3:=ħ (HW0.out.below Kq.out)
   obtain ⟨rs,hK,hrs⟩:=z1n (p:=q) zC.out (by simp) (by omega)
   have HK3:=ħ hK
   have HRS:=ħ hrs
   clear p0 hbc hbi hmc Pm Sj gP HB1 HW0 Kq zC hK hrs hlt hlt' HQS
   go_loopw [39] (fun vi wr=>∃ (k:Nat) (o:List Int),k≤b.C.length∧vi=ι (k:Int)∧o=(b.C.take k).flatMap TV∧Below w.heap.size w wr∧WrP wr q o∧KL wr q rs) (fun vi _=>b.C.length - (intOf vi).toNat)
   case atStart=>exact ⟨0,[],Nat.zero_le _,rfl,rfl,HB3.out,HW3.out,HK3.out⟩
   case round=>
    obtain ⟨k,o,hk,rfl,ho,hbe,hwr,hkl⟩:=hrel
    clear HB3 HW3 HK3
    have z2c:b.C.length≤1000:=ag.out
    have HO:=ħ ho
    have hol:o.length≤40000000:=by
     have h1:=CS TV 40000 (b.C.take k) (fun a ha=>z0E (HVC.out a (List.mem_of_mem_take ha)).2)
     rw[←ho,List.length_take] at h1
     omega
    have HB:=ħ hbe
    have HW:=ħ hwr
    have HK:=ħ hkl
    have m_:=ħ (HRS.out wr hkl)
    have HP:=ħ (FW.out.below hbe)
    have hpi:Plain Aj b.C.length:=by have:=m_.out.plain (by omega);rwa [List.length_map] at this
    clear hbe hwr hkl ho
    by_cases hlt:k<b.C.length
    ·have hlt':(k:Int)<b.C.length:=by omega
     have hix:=fun W=>Ki hpi cj k hlt W
     have hcl:=qJ m_.out (k:=k) (by rw[List.length_map];exact hlt)
     obtain ⟨t,ht⟩:∃ x,x=b.C[k]:=⟨_,rfl⟩
     have Ko:t∈b.C:=by rw[ht];exact List.getElem_mem hlt
     have hgd:gd (b.C.map Cr.call) k=t.call:=by rw[qd (by rw[List.length_map];exact hlt),List.getElem_map,ht]
     rw[hgd] at hcl
     obtain ⟨At,kt,hkt,mI⟩:=HCM.out.at_ t Ko
     have HT:=ħ (show (b.C.take (k+1)).flatMap TV=(b.C.take k).flatMap TV ++ TV t from bF TV hlt ht)
     have HS:=ħ (HVC.out t Ko).2
     have hl0:=u6 (w:=w) (mc:=mc) t.call (show (zn kc t.call).getD (.agg κ)=.agg (χ t At kt) by rw[hkt];rfl)
     have HN:=ħ mI.old_
     clear ht Ko hgd hkt mI
     have p0:=HP.out.P.facts
     have hbc:=HP.out.bc
     have hbi:=HP.out.bi
     have hmc:=hbc.lt
     have Pm:=hbi.lt
     go_upto_region 12 with fail
     have hqw:q<wr.heap.size:=by obtain ⟨A5,c5,h5,-⟩:=HW.out;exact h5.lt
     have NQ:=ħ (KL.cons (KL.alloc HK.out (.cells (χ t At kt) 34)) (zb.new wr 34 (χ t At kt)) (by decide) (by omega))
     have HW1:=ħ (HW.out.alloc (.cells (χ t At kt) 34))
     have HB1:=ħ (HB.out.alloc HB.out.size (.cells (χ t At kt) 34))
     obtain ⟨g,hg⟩:∃ g,g=wr.heap.size:=⟨_,rfl⟩
     rw[←hg] at NQ⊢
     have HEC:=ħ (show TV t=Wire.z01 t.call ++ Wire.z01 t.inc ++ Wire.z01 t.urg ++ Inc.z0d t.code ++ encIs t.nodes ++ Wire.z01 t.dist ++ Wire.z01 t.since ++ encB t.closed from rfl)
     have l0:=PM HS.out.a
     have l1:=PM HS.out.b
     have l2:=PM HS.out.c
     have l3:=Wi HS.out.d
     have l4:=Tx HS.out.f HS.out.e
     have l5:=PM HS.out.g
     have l6:=PM HS.out.h
     have l7:=TQ t.closed
     clear p0 hbc hbi hmc Pm hcl hl0 HW HK HB HP m_ hg hqw hpi hix
     generalize wr.alloc _=W1 at *
     have H0:=ħ fun (W:World) (o':List Int) (hw:WrP W q o') (hk:KL W q ((g,34,χ t At kt) :: rs)) (hb:Below w.heap.size w W) (hl:o'.length≤100000000)=>Cx q t.call o' W hw _ hk HS.out.a.1 HS.out.a.2 (by omega)
     have H1:=ħ fun (W:World) (o':List Int) (hw:WrP W q o') (hk:KL W q ((g,34,χ t At kt) :: rs)) (hb:Below w.heap.size w W) (hl:o'.length≤100000000)=>Cx q t.inc o' W hw _ hk HS.out.b.1 HS.out.b.2 (by omega)
     have H2:=ħ fun (W:World) (o':List Int) (hw:WrP W q o') (hk:KL W q ((g,34,χ t At kt) :: rs)) (hb:Below w.heap.size w W) (hl:o'.length≤100000000)=>Cx q t.urg o' W hw _ hk HS.out.c.1 HS.out.c.2 (by omega)
     have H3:=ħ fun (W:World) (o':List Int) (hw:WrP W q o') (hk:KL W q ((g,34,χ t At kt) :: rs)) (hb:Below w.heap.size w W) (hl:o'.length≤100000000)=>z15 q t.code o' W hw _ hk (by omega) (by have:=HS.out.d;omega)
     have H4:=ħ fun (W:World) (o':List Int) (hw:WrP W q o') (hk:KL W q ((g,34,χ t At kt) :: rs)) (hb:Below w.heap.size w W) (hl:o'.length≤100000000)=>z0Y q At kt t.nodes o' W hw _ hk ((HN.out.below hb (fun _ h=>h)).more (fun j hj=>by have:j<w.heap.size:=hj;show j<q;omega)) HS.out.f HS.out.e (by omega)
     have H5:=ħ fun (W:World) (o':List Int) (hw:WrP W q o') (hk:KL W q ((g,34,χ t At kt) :: rs)) (hb:Below w.heap.size w W) (hl:o'.length≤100000000)=>Cx q t.dist o' W hw _ hk HS.out.g.1 HS.out.g.2 (by omega)
     have H6:=ħ fun (W:World) (o':List Int) (hw:WrP W q o') (hk:KL W q ((g,34,χ t At kt) :: rs)) (hb:Below w.heap.size w W) (hl:o'.length≤100000000)=>Cx q t.since o' W hw _ hk HS.out.h.1 HS.out.h.2 (by omega)
     have H7:=ħ fun (W:World) (o':List Int) (hw:WrP W q o') (hk:KL W q ((g,34,χ t At kt) :: rs)) (hb:Below w.heap.size w W) (hl:o'.length≤100000000)=>z11 q t.closed o' W hw _ hk (by omega)
     generalize Wire.z01 t.call=e0 at *
     generalize Wire.z01 t.inc=e1 at *
     generalize Wire.z01 t.urg=e2 at *
     generalize Inc.z0d t.code=e3 at *
     generalize encIs t.nodes=e4 at *
     generalize Wire.z01 t.dist=e5 at *
     generalize Wire.z01 t.since=e6 at *
     generalize encB t.closed=e7 at *
     have q0:(o).length≤50000000:=by (try simp only[List.length_append]);omega
     have x0:=(NQ.out.al _ (.head _)).1.facts
     go_upto_region 13 with (go_at_call 76;((with_reducible refine (H0.out _ _ HW1.out NQ.out HB1.out (by omega)).mono ?_);rintro e w2 ⟨rfl,hw,hb,hk⟩;have HW2:=ħ hw;have UE:=ħ hk;have HB2:=ħ (HB1.out.trans (hb.mono hsz));clear hw hk hb x0))
     clear HW1 NQ HB1 H0
     have q1:(o ++ e0).length≤50000000:=by (try simp only[List.length_append]);omega
     have x0:=(UE.out.al _ (.head _)).1.facts
     go_upto_region 14 with (go_at_call 76;((with_reducible refine (H1.out _ _ HW2.out UE.out HB2.out (by omega)).mono ?_);rintro e w3 ⟨rfl,hw,hb,hk⟩;have HW3:=ħ hw;have HK3:=ħ hk;have HB3:=ħ (HB2.out.trans (hb.mono hsz));clear hw hk hb x0))
     clear HW2 UE HB2 H1
     have q2:(o ++ e0 ++ e1).length≤50000000:=by (try simp only[List.length_append]);omega
     have x0:=(HK3.out.al _ (.head _)).1.facts
     go_upto_region 15 with (go_at_call 76;((with_reducible refine (H2.out _ _ HW3.out HK3.out HB3.out (by omega)).mono ?_);rintro e w4 ⟨rfl,hw,hb,hk⟩;have HW4:=ħ hw;have HK4:=ħ hk;have Zp:=ħ (HB3.out.trans (hb.mono hsz));clear hw hk hb x0))
     clear HW3 HK3 HB3 H2
     have q3:(o ++ e0 ++ e1 ++ e2).length≤50000000:=by (try simp only[List.length_append]);omega
     have x0:=(HK4.out.al _ (.head _)).1.facts
     go_upto_region 16 with (go_at_call 77;((with_reducible refine (H3.out _ _ HW4.out HK4.out Zp.out (by omega)).mono ?_);rintro e w5 ⟨rfl,hw,hb,hk⟩;have HW5:=ħ hw;have Iy:=ħ hk;have ZN:=ħ (Zp.out.trans (hb.mono hsz));clear hw hk hb x0))
     clear HW4 HK4 Zp H3
     have q4:(o ++ e0 ++ e1 ++ e2 ++ e3).length≤50000000:=by (try simp only[List.length_append]);omega
     have x0:=(Iy.out.al _ (.head _)).1.facts
     go_upto_region 17 with (go_at_call 78;((with_reducible refine (H4.out _ _ HW5.out Iy.out ZN.out (by omega)).mono ?_);rintro e w6 ⟨rfl,hw,hb,hk⟩;have HW6:=ħ hw;have sW:=ħ hk;have Qq:=ħ (ZN.out.trans (hb.mono hsz));clear hw hk hb x0))
     clear HW5 Iy ZN H4
     have q5:(o ++ e0 ++ e1 ++ e2 ++ e3 ++ e4).length≤50000000:=by (try simp only[List.length_append]);omega
     have x0:=(sW.out.al _ (.head _)).1.facts
     go_upto_region 18 with (go_at_call 76;((with_reducible refine (H5.out _ _ HW6.out sW.out Qq.out (by omega)).mono ?_);rintro e w7 ⟨rfl,hw,hb,hk⟩;have M5:=ħ hw;have HK7:=ħ hk;have Z7:=ħ (Qq.out.trans (hb.mono hsz));clear hw hk hb x0))
     clear HW6 sW Qq H5
     have q6:(o ++ e0 ++ e1 ++ e2 ++ e3 ++ e4 ++ e5).length≤50000000:=by (try simp only[List.length_append]);omega
     have x0:=(HK7.out.al _ (.head _)).1.facts
     go_upto_region 19 with (go_at_call 76;((with_reducible refine (H6.out _ _ M5.out HK7.out Z7.out (by omega)).mono ?_);rintro e w8 ⟨rfl,hw,hb,hk⟩;have HW8:=ħ hw;have HK8:=ħ hk;have Jy:=ħ (Z7.out.trans (hb.mono hsz));clear hw hk hb x0))
     clear M5 HK7 Z7 H6
     have q7:(o ++ e0 ++ e1 ++ e2 ++ e3 ++ e4 ++ e5 ++ e6).length≤50000000:=by (try simp only[List.length_append]);omega
     have x0:=(HK8.out.al _ (.head _)).1.facts
     go_wp2_with (go_at_call 79;((with_reducible refine (H7.out _ _ HW8.out HK8.out Jy.out (by omega)).mono ?_);rintro e w9 ⟨rfl,hw,hb,hk⟩;have HW9:=ħ hw;have Oa:=ħ hk;have Z_:=ħ (Jy.out.trans (hb.mono hsz));clear hw hk hb x0))
     clear HW8 HK8 Jy H7
     exact ⟨⟨k+1,o ++ e0 ++ e1 ++ e2 ++ e3 ++ e4 ++ e5 ++ e6 ++ e7,by omega,by go_num,by rw[HT.out,←HO.out,HEC.out];simp only[List.append_assoc],Z_.out,HW9.out,KL.tail Oa.out⟩,by simp[intOf];omega⟩
    ·have hlt':¬ (k:Int)<b.C.length:=by omega
     have hkl:k=b.C.length:=by omega
     subst hkl
     have zk:=ħ (show o=b.C.flatMap TV by rw[HO.out,List.take_of_length_le (Nat.le_refl _)])
     have hby:Bytes o:=by
      rw[zk.out]
      exact Cg _ (fun a=>z0N _) _
     have HF:=ħ (show XL s1 o=R by rw[HRR.out,zk.out,HE1.out,z0T])
     have HBy:=ħ hby
     have H80:=ħ (Wr.encoded_any q o wr HW.out (by omega))
     clear hby HP m_ hpi
     go_wp2_with (first
      | (go_at_call 80;((with_reducible refine H80.out.mono ?_);rintro e w2 ⟨A9,c9,rfl,hY,hb⟩;have HB2:=ħ (HB.out.trans (hb.mono HB.out.size));have H74:=ħ (z0u _ A9 c9 s1 o w2 hY HBy.out (by omega));clear hY hb))
      | (go_at_call 74;((with_reducible refine H74.out.mono ?_);rintro e w3 ⟨rfl,rfl⟩)))
     go_ret
     exact ⟨by rw[←HF.out];rfl,HB2.out⟩
end Go.Proofs.YtdhcjhfgibmhfaaGreatDoor
namespace Go.Proofs.YtdhcjhfgibmhfaaGreatDoor
open Go.RowKit Go.Own Go.Quo Go.Inc Go.Wire
theorem z16 {x:Ic}(h:IcS x):IcL x:=by
 obtain ⟨-,-,h1,-,h2,-,-,-,h3,-,h4,-⟩:=h
 exact ⟨h1,h2,h3,h4⟩
section
variable {w W W':World} {p mc mi mh q:Nat} {b:Bk} {v:Bv}
theorem LP.check (h:LP w W p mc mi mh q b v):Calls Tryz.prog 33 #[.pointer (some ⟨p,0,none⟩)] W fun e w'=>e=.returned (.int .u64 (XL vk (b.L.flatMap enc1 ++ b.C.flatMap TV)))∧Below W.heap.size W w':=by
 have n1:=zg.nL h.go
 have n2:=zg.nC h.go
 exact z1k p mc mi mh b W h.pi (zg.sL h.go) (zg.sC h.go) (by omega) (by omega) (fun x hx=>⟨(zg.vL h.go x hx).1,z16 (Ru (by omega) h.go hx)⟩) (fun t ht=>⟨(zg.vC h.go t ht).1,SE h.go ht⟩)
theorem LP.seal (h:LP w W p mc mi mh q b v)(hv:v.bk=b):Calls Tryz.prog 34 #[YW v] W fun e w'=>e=.returned (.int .u64 (XL vk (b.L.flatMap enc1 ++ b.C.flatMap TV)))∧Below W.heap.size W w':=by
 have n1:=zg.nL h.go
 have n2:=zg.nC h.go
 have e1:v.la.map (·.x)=b.L:=by rw[←hv];rfl
 have e2:v.lc.map (·.c)=b.C:=by rw[←hv];rfl
 have l1:v.la.length=b.L.length:=by rw[←e1,List.length_map]
 have l2:v.lc.length=b.C.length:=by rw[←e2,List.length_map]
 have:=z1p _ v W h.bv (by omega) (by omega) (fun a ha=>z16 (Ru (by omega) h.go (by rw[←e1];exact List.mem_map_of_mem ha))) (fun t ht=>SE h.go (by rw[←e2];exact List.mem_map_of_mem ht))
 rw[←e1,←e2,List.flatMap_map,List.flatMap_map]
 exact this
end
theorem checksum10 (l:List Av)(A:Option Addr)(c:Nat)(w:World)(htb:jg w)(h1:Reads w (· < w.heap.size) 13 A l.length (l.flatMap Bd))(r1:∀ a∈l,RI w (· < w.heap.size) a.t.A a.t.c.nodes)(m1:l.length≤9223372036854775807) :
 Calls Tryz.prog 10 #[.slice A l.length c] w (qX true w):=by
 have Yi:=ħ htb
 cases hf:Qm l with
 | false=>
  have tF:=ħ (FJ _ A c l w h1 m1 hf)
  clear h1 r1 m1 htb hf
  go_enter Tryz.func10,Tryz.ntmps10
  go_upto_region 2 with (go_at_call 13;((with_reducible refine tF.out.mono ?_);rintro e w2 ⟨rfl,hb⟩;have HB2:=ħ hb;clear hb))
  have HB3:=ħ (HB2.out.alloc HB2.out.size (.cells #[.slice none 0 0,.slice none 0 0] 29))
  generalize w2.alloc _=W3 at *
  have pG:=ħ (UX W3 (Yi.out.below HB3.out Yi.out.lt))
  go_wp2_with (go_at_call 12;((with_reducible refine pG.out.mono ?_);rintro e w4 ⟨rfl,hb⟩;have Zp:=ħ (HB3.out.trans (hb.mono HB3.out.size));clear hb))
  go_ret
  exact ⟨rfl,Zp.out⟩
 | true=>
  have tF:=ħ (vM _ A c l w h1 r1 hf htb)
  have HG:=ħ (show Good 40 (yU l) from zg.mono (Zj l (by have:=(P_ hf).2;omega) (P_ hf).1) (P_ hf).2)
  clear h1 r1 m1 htb hf
  unfold nH at tF
  generalize yU l=b at *
  go_enter Tryz.func10,Tryz.ntmps10
  go_upto_region 2 with (go_at_call 13;((with_reducible refine tF.out.mono ?_);rintro e w2 ⟨p,mc,mi,mh,v,rfl,hbk,hpi,hbv,hpl,hb⟩;have HS2:=ħ (LP.new hbk hpi hbv hpl hb HG.out Yi.out);have HV:=ħ hbk;clear hbk hpi hbv hpl hb))
  obtain ⟨q,hq⟩:∃ q,q=w2.heap.size:=⟨_,rfl⟩
  rw[←hq] at HS2⊢
  clear hq tF Yi
  generalize w2.alloc _=W3 at *
  have x0:=HS2.out.x.facts
  go_upto_region 4 with fail
  have HK:=ħ fun (W':World) (hb:Below W3.heap.size W3 W')=>(HS2.out.below hb).cells
  have K0:=HK.out _ (Below.refl _ W3).drew
  have HS:=ħ (HS2.out.below (Below.refl _ W3).drew)
  have Y1:=ħ HS.out.check
  have x8:=ħ fun (W:World) (hb:Below W3.heap.size W3 W)=>(HS2.out.below hb).seal HV.out
  generalize XL vk (b.L.flatMap enc1 ++ b.C.flatMap TV)=R at *
  go_region_held (fun W'=>W'.cell? ⟨q,0,none⟩=some (.slice v.AL v.la.length v.cL)∧W'.cell? ⟨q,1,none⟩=some (.slice v.AC v.lc.length v.cC)) (first | assumption | exact K0) (first
   | (go_at_call 33;((with_reducible refine Y1.out.mono ?_);rintro e w4 ⟨rfl,hb⟩;have hB4:=ħ ((Below.refl _ W3).drew.trans hb);have Mx:=ħ (HS2.out.below hB4.out);have K4:=HK.out _ hB4.out;have z2a:=ħ (x8.out _ hB4.out);clear hb))
   | (go_at_call 34;((with_reducible refine z2a.out.mono ?_);rintro e w5 ⟨rfl,hb⟩;have QE:=ħ (Mx.out.below hb);have Tp:=ħ (hB4.out.trans (hb.mono hB4.out.size));have K5:=HK.out _ Tp.out;clear hb))
   | (go_at_call 12;((with_reducible refine QE.out.awake.mono ?_);rintro e w8 ⟨rfl,hb⟩;have Jy:=ħ (QE.out.be.trans (hb.mono QE.out.be.size));have K8:=HK.out _ (Tp.out.trans (hb.mono Tp.out.size));clear hb)))
  all_goals
   go_wp2_with fail
   go_ret
   exact ⟨rfl,Jy.out⟩
end Go.Proofs.YtdhcjhfgibmhfaaGreatDoor

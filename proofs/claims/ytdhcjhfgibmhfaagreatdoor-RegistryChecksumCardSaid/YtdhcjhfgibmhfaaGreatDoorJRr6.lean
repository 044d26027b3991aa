import Derived.Test.YtdhcjhfgibmhfaaGreatDoorJG17
import Derived.Test.YtdhcjhfgibmhfaaGreatDoorJRof
import Derived.Deep.RegionHeld
set_option linter.unusedVariables false
set_option linter.unusedSimpArgs false
set_option maxRecDepth 10000
set_option maxHeartbeats 8000000
namespace Go.Proofs.YtdhcjhfgibmhfaaGreatDoor
open Go.RowKit Go.Own Go.Quo Go.Inc
theorem zq {v0 v1:Option Addr}{n0 n1 c0 c1:Nat}:∀ u∈(#[.slice v0 n0 c0,.slice v1 n1 c1]:Array Value).toList,u.oneCell'=true:=by
 intro u hu
 simp at hu
 rcases hu with rfl | rfl <;> rfl
theorem QH {α β:Type}(key:α→Int)(f:β→α)(l:List β)(k:Int):yw key (l.map f) k=(yw (fun b=>key (f b)) l k).map f:=by
 unfold yw
 rw[List.find?_map]
 rfl
theorem YI (v:Bv)(k:Int):yP v.bk.C k=(yw (fun a:Ca=>a.c.call) v.lc k).map (·.c):=QH Cr.call (fun a:Ca=>a.c) v.lc k
theorem XA (v:Bv)(k:Int):zw v.bk.L k=(yw (fun a:Xa=>a.x.id) v.la k).map (·.x):=QH Ic.id (fun a:Xa=>a.x) v.la k
def Je (r:Bk × Int)(B:Nat→Prop)(w:World)(e:Ending)(w':World):Prop:=∃ v:Bv,e=.returned (.tuple #[YW v,ι r.2])∧zX w' B v∧v.bk=r.1∧Below w.heap.size w w'
structure Ok (w:World) (B:Nat→Prop) (v:Bv):Prop where
 ok:zX w B v
 up:∀ k,w.heap.size≤k→B k
 sL:Asc Ic.id v.bk.L
 sC:Asc Cr.call v.bk.C
 nL:v.la.length≤1000
 nC:v.lc.length≤1000
structure B3 (w wr:World) (c0 c1:Array Value):Prop where
 b:zb wr w.heap.size 29 c0
 t:zb wr (w.heap.size+1) 34 c1
 z:zb wr (w.heap.size+2) 29 #[.slice none 0 0,.slice none 0 0]
 be:Below w.heap.size w wr
 sz:w.heap.size+3≤wr.heap.size
theorem B3.below {w wr w2:World}{c0 c1:Array Value}(h:B3 w wr c0 c1)(hb:Below wr.heap.size wr w2):B3 w w2 c0 c1:=
 ⟨h.b.below hb h.b.lt,h.t.below hb h.t.lt,h.z.below hb h.z.lt,h.be.trans (hb.mono h.be.size),Nat.le_trans h.sz hb.size⟩
theorem B3.new (w:World)(c0 c1:Array Value):B3 w (((w.alloc (.cells c0 29)).alloc (.cells c1 34)).alloc (.cells #[.slice none 0 0,.slice none 0 0] 29)) c0 c1:=
 ⟨((zb.new w 29 c0).alloc _).alloc _,by
  have:=(zb.new (w.alloc (.cells c0 29)) 34 c1).alloc (.cells #[.slice none 0 0,.slice none 0 0] 29)
  simpa using this,by
  have:=zb.new ((w.alloc (.cells c0 29)).alloc (.cells c1 34)) 29 #[.slice none 0 0,.slice none 0 0]
  simpa using this,(((Below.refl w.heap.size w).alloc (Nat.le_refl _) _).alloc (by simp) _).alloc (by simp;omega) _,by simp⟩
theorem aW {v:Bv}(h:Asc Ic.id v.bk.L)(a:Xa):(yj (fun a:Xa=>a.x.id) v.la a).map (·.x)=zz v.bk.L a.x:=by
 rw[u_ _ (VH Ic.id (fun a:Xa=>a.x) h)]
 exact Ui Ic.id (fun a:Xa=>a.x) v.la a
theorem cz {v:Bv}(h:Asc Cr.call v.bk.C)(t:Ca):(yj (fun a:Ca=>a.c.call) v.lc t).map (·.c)=zG v.bk.C t.c:=by
 rw[u_ _ (VH Cr.call (fun a:Ca=>a.c) h)]
 exact Ui Cr.call (fun a:Ca=>a.c) v.lc t
theorem zX.below0 {w W:World}{B:Nat→Prop}{v:Bv}(h:zX w B v)(hb:Below w.heap.size w W):zX W B v:=h.below hb
theorem zX.old {w:World}{B:Nat→Prop}{v:Bv}(h:zX w B v):zX w (fun k=>B k∧k<w.heap.size) v:=
 ⟨h.rl.old (by omega),fun a ha=>⟨(h.xl a ha).n.old (by omega),(h.xl a ha).c.old (by omega),(h.xl a ha).u.old (by omega)⟩,h.rc.old (by omega),fun t ht=>(h.xc t ht).old (by omega)⟩
theorem zX.more {w:World}{B B':Nat→Prop}{v:Bv}(h:zX w B v)(hB:∀ k,B k→B' k):zX w B' v:=
 ⟨h.rl.more hB,fun a ha=>(h.xl a ha).more hB,h.rc.more hB,fun t ht=>(h.xc t ht).more hB⟩
theorem qK {w:World}{base:Nat}{t:TypeId}{A:Option Addr}{c:Nat}{l:List Int}(h:w.ownsRow base t 1 (.slice A l.length c) l.length (l.map (Value.int .i64))):RI w (fun k=>base≤k) A l:=(Reads.of_own h).more (fun j hj=>(h.lt j hj).1)
def dh (la:List Xa)(lc:List Ca)(AC:Option Addr)(cC:Nat)(x:Ic)(B:Nat→Prop)(W:World)(e:Ending)(w':World):Prop:=∃ (L1:List Xa) (A1:Option Addr) (c1:Nat),e=.returned (.agg #[.slice A1 L1.length c1,.slice AC lc.length cC])∧zX w' B ⟨L1,A1,c1,lc,AC,cC⟩∧L1.map (fun a=>a.x)=zz (la.map (fun a=>a.x)) x∧L1.length≤la.length+1∧Below W.heap.size W w'
def eP (la:List Xa)(AL:Option Addr)(cL:Nat)(lc:List Ca)(t:Cr)(B:Nat→Prop)(W:World)(e:Ending)(w':World):Prop:=∃ (C1:List Ca) (A1:Option Addr) (c1:Nat),e=.returned (.agg #[.slice AL la.length cL,.slice A1 C1.length c1])∧zX w' B ⟨la,AL,cL,C1,A1,c1⟩∧C1.map (fun a=>a.c)=zG (lc.map (fun a=>a.c)) t∧C1.length≤lc.length+1∧Below W.heap.size W w'
theorem jZ (la:List Xa)(AL:Option Addr)(cL:Nat)(lc:List Ca)(AC:Option Addr)(cC:Nat)(a:Xa)(B:Nat→Prop)(W:World)(h:zX W B ⟨la,AL,cL,lc,AC,cC⟩)(ha:XR W B a)(hB:∀ k,W.heap.size≤k→B k)(hs:Asc Ic.id (la.map (fun a=>a.x)))(hl:la.length≤10000) :
 Calls Tryz.prog 90 #[.agg #[.slice AL la.length cL,.slice AC lc.length cC],.agg (ξ a.x a.An a.cn a.Ac a.cc a.Au a.cu)] W (dh la lc AC cC a.x B W):=by
 refine (pE ⟨la,AL,cL,lc,AC,cC⟩ a B W h ha hB hl).mono ?_
 rintro e w' ⟨A1,c1,rfl,h1,h2⟩
 have e1:=aW (v:=⟨la,AL,cL,lc,AC,cC⟩) hs a
 refine ⟨_,A1,c1,rfl,h1,e1,?_,h2⟩
 have:=congrArg List.length e1
 rw[List.length_map] at this
 show (yj (fun a:Xa=>a.x.id) la a).length≤la.length+1
 rw[this]
 have q:=ZY Ic.id (la.map (fun a=>a.x)) a.x
 rw[List.length_map] at q
 exact q
theorem Zg (la:List Xa)(AL:Option Addr)(cL:Nat)(lc:List Ca)(AC:Option Addr)(cC:Nat)(t:Ca)(B:Nat→Prop)(W:World)(h:zX W B ⟨la,AL,cL,lc,AC,cC⟩)(ht:RI W B t.A t.c.nodes)(hB:∀ k,W.heap.size≤k→B k)(hs:Asc Cr.call (lc.map (fun a=>a.c)))(hl:lc.length≤10000) :
 Calls Tryz.prog 89 #[.agg #[.slice AL la.length cL,.slice AC lc.length cC],.agg (χ t.c t.A t.k)] W (eP la AL cL lc t.c B W):=by
 refine (nM ⟨la,AL,cL,lc,AC,cC⟩ t B W h ht hB hl).mono ?_
 rintro e w' ⟨A1,c1,rfl,h1,h2⟩
 have e1:=cz (v:=⟨la,AL,cL,lc,AC,cC⟩) hs t
 refine ⟨_,A1,c1,rfl,h1,e1,?_,h2⟩
 have:=congrArg List.length e1
 rw[List.length_map] at this
 show (yj (fun a:Ca=>a.c.call) lc t).length≤lc.length+1
 rw[this]
 have q:=ZY Cr.call (lc.map (fun a=>a.c)) t.c
 rw[List.length_map] at q
 exact q
theorem Q4 {w:World}{g:Nat}{t:TypeId}{v0 v1 v2 v3 v4 v5 v6 v7:Value}(h:zb w g t #[v0,v1,v2,v3,v4,v5,v6,v7]):w.cell? ⟨g,0,none⟩=some v0∧w.cell? ⟨g,1,none⟩=some v1∧w.cell? ⟨g,2,none⟩=some v2∧w.cell? ⟨g,3,none⟩=some v3∧w.cell? ⟨g,4,none⟩=some v4∧w.cell? ⟨g,5,none⟩=some v5∧w.cell? ⟨g,6,none⟩=some v6∧w.cell? ⟨g,7,none⟩=some v7:=by
 refine ⟨?_,?_,?_,?_,?_,?_,?_,?_⟩ <;> (rw[zb.cell h];rfl)
theorem Zy {w w':World}{g:Nat}{t:TypeId}{v0 v1 v2 v3 v4 v5 v6 v7 v8 v9:Value}(h:zb w' g t #[v0,v1,v2,v3,v4,v5,v6,v7,v8,v9]):w'.cell? ⟨g,0,none⟩=some v0∧w'.cell? ⟨g,1,none⟩=some v1∧w'.cell? ⟨g,2,none⟩=some v2∧w'.cell? ⟨g,3,none⟩=some v3∧w'.cell? ⟨g,4,none⟩=some v4∧w'.cell? ⟨g,5,none⟩=some v5∧w'.cell? ⟨g,6,none⟩=some v6∧w'.cell? ⟨g,7,none⟩=some v7∧w'.cell? ⟨g,8,none⟩=some v8∧w'.cell? ⟨g,9,none⟩=some v9:=by
 refine ⟨?_,?_,?_,?_,?_,?_,?_,?_,?_,?_⟩ <;> (rw[zb.cell h];rfl)
theorem gH (v:Bv)(t:Ca)(id:Int)(B:Nat→Prop)(w:World)(h:Ok w B v)(ht:RI w B t.A t.c.nodes)(hs:t.c.code.size≤100000)(hl:t.c.nodes.length≤100000) :
 Calls Tryz.prog 40 #[YW v,.agg (χ t.c t.A t.k),ι id] w (Je (qQ v.bk t.c id) B w):=by
 have HV:=ħ h
 have HT:=ħ ht
 have y8:=ħ (B3.new w (β v) (χ t.c t.A t.k))
 have UH:=ħ fun (W:World) (hb:Below w.heap.size w W)=>(show Calls Tryz.prog 86 #[.agg (χ t.c t.A t.k)] W (qX (z_ t.c) W) from Uy t (fun k=>B k∧k<w.heap.size) W ((HT.out.old (by omega)).below hb (fun k hk=>hk.2)) hs hl)
 have JF:=ħ fun (W:World)=>EP id W
 have kJ:=ħ fun (W:World) (hb:Below w.heap.size w W)=>XT v (fun k=>B k) t.c.call W (HV.out.ok.below0 hb) (by have:=HV.out.nC;omega)
 have ZX:=ħ fun (W:World) (hb:Below w.heap.size w W)=>Z4 v (fun k=>B k) id W (HV.out.ok.below0 hb) (by have:=HV.out.nL;omega)
 have HFin:=ħ fun (r:Int) (W:World) (hb:Below w.heap.size w W) (hr:qQ v.bk t.c id=(v.bk,r))=>(show Je (qQ v.bk t.c id) B w (.returned (.tuple #[YW v,ι r])) W from ⟨v,by rw[hr],HV.out.ok.below0 hb,by rw[hr],hb⟩)
 clear h ht
 cases hr:z_ t.c with
 | false=>
  have HE:=ħ (show qQ v.bk t.c id=(v.bk,1) by unfold qQ;rw[hr];rfl)
  rw[hr] at UH
  clear hr
  go_enter Tryz.func40,Tryz.ntmps40
  go_upto_region 1 with fail
  generalize ((w.alloc _).alloc _).alloc _=W1 at *
  have x0:=y8.out.b.facts
  have y0:=y8.out.t.facts
  go_wp2_with (first | (go_at_call 86;((with_reducible refine (UH.out _ y8.out.be).mono ?_);rintro e w2 ⟨rfl,hb⟩;have qa:=ħ (y8.out.below hb);clear hb x0 y0;have x0:=qa.out.b.facts;have y0:=qa.out.t.facts)) | (refine z8 rfl (.tmp 6) (.tmp 18) 29 rfl (w.heap.size+2) 29 _ (β v) _ 2 48 zy rfl rfl rfl qa.out.z rfl zq ?_;intro w8 zW zI yL))
  refine bodyPost_ret (za (p:=6) (u:=7) (ty:=29) Tryz.results40 _ _ (w.heap.size+2) 29 (β v) (0,0) _ rfl zW Tryz.underlying29 rfl zm) rfl ?_
  exact HFin.out 1 _ (qa.out.be.trans (zI.below qa.out.be.size (fun j hj e=>by have e2:j=w.heap.size+2:=e;omega))) HE.out
 | true=>
  rw[hr] at UH
  cases hn:zQ id 1 with
  | false=>
   have HE:=ħ (show qQ v.bk t.c id=(v.bk,1) by unfold qQ;rw[hr,hn];rfl)
   rw[hn] at JF
   clear hr hn
   go_enter Tryz.func40,Tryz.ntmps40
   go_upto_region 1 with fail
   generalize ((w.alloc _).alloc _).alloc _=W1 at *
   have x0:=y8.out.b.facts
   have y0:=y8.out.t.facts
   go_wp2_with (first | (go_at_call 86;((with_reducible refine (UH.out _ y8.out.be).mono ?_);rintro e w2 ⟨rfl,hb⟩;have qa:=ħ (y8.out.below hb);clear hb x0 y0;have x0:=qa.out.b.facts;have y0:=qa.out.t.facts)) | (go_at_call 87;((with_reducible refine (JF.out _).mono ?_);rintro e w3 ⟨rfl,rfl⟩)) | (refine z8 rfl (.tmp 6) (.tmp 18) 29 rfl (w.heap.size+2) 29 _ (β v) _ 2 48 zy rfl rfl rfl qa.out.z rfl zq ?_;intro w8 zW zI yL))
   refine bodyPost_ret (za (p:=6) (u:=7) (ty:=29) Tryz.results40 _ _ (w.heap.size+2) 29 (β v) (0,0) _ rfl zW Tryz.underlying29 rfl zm) rfl ?_
   exact HFin.out 1 _ (qa.out.be.trans (zI.below qa.out.be.size (fun j hj e=>by have e2:j=w.heap.size+2:=e;omega))) HE.out
  | true=>
   rw[hn] at JF
   have VL:=ħ (And.intro hr hn)
   clear hr hn
   go_enter Tryz.func40,Tryz.ntmps40
   go_upto_region 1 with fail
   generalize ((w.alloc _).alloc _).alloc _=W1 at *
   have x0:=y8.out.b.facts
   have y0:=y8.out.t.facts
   go_upto_region 3 with (first | (go_at_call 86;((with_reducible refine (UH.out _ y8.out.be).mono ?_);rintro e w2 ⟨rfl,hb⟩;have qa:=ħ (y8.out.below hb);clear hb x0 y0;have x0:=qa.out.b.facts;have y0:=qa.out.t.facts)) | (go_at_call 87;((with_reducible refine (JF.out _).mono ?_);rintro e w3 ⟨rfl,rfl⟩)))
   have QV:=kJ.out _ qa.out.be
   rcases qH (fun a:Ca=>a.c.call) v.lc t.c.call with ⟨i,hi,hlt,hg⟩ | ⟨hi,hg⟩
   ·rw[hi] at QV
    have jP:=ħ QV
    have HE:=ħ (show qQ v.bk t.c id=(v.bk,5) by unfold qQ;rw[VL.out.1,VL.out.2,YI,hg];rfl)
    clear QV hi hg hlt
    go_wp2_with (first | (go_at_call 24;((with_reducible refine jP.out.mono ?_);rintro e w4 ⟨rfl,hb⟩;have y5:=ħ (qa.out.below hb);clear hb x0 y0;have x0:=y5.out.b.facts;have y0:=y5.out.t.facts)) | (refine z8 rfl (.tmp 6) (.tmp 30) 29 rfl (w.heap.size+2) 29 _ (β v) _ 2 48 zy rfl rfl rfl y5.out.z rfl zq ?_;intro w8 zW zI yL))
    refine bodyPost_ret (za (p:=6) (u:=7) (ty:=29) Tryz.results40 _ _ (w.heap.size+2) 29 (β v) (0,0) _ rfl zW Tryz.underlying29 rfl zm) rfl ?_
    exact HFin.out 5 _ (y5.out.be.trans (zI.below y5.out.be.size (fun j hj e=>by have e2:j=w.heap.size+2:=e;omega))) HE.out
   ·rw[hi] at QV
    have jP:=ħ QV
    have HG:=ħ hg
    clear QV hi hg
    rcases qH (fun a:Xa=>a.x.id) v.la id with ⟨i,hi,hlt,hg⟩ | ⟨hi,hg⟩
    ·rw[hi] at ZX
     have HE:=ħ (show qQ v.bk t.c id=(v.bk,5) by unfold qQ;rw[VL.out.1,VL.out.2,YI,HG.out];dsimp only [Option.map];rw[XA,hg];rfl)
     clear hi hg hlt
     go_wp2_with (first | (go_at_call 24;((with_reducible refine jP.out.mono ?_);rintro e w4 ⟨rfl,hb⟩;have y5:=ħ (qa.out.below hb);clear hb x0 y0;have x0:=y5.out.b.facts;have y0:=y5.out.t.facts)) | (go_at_call 20;((with_reducible refine (ZX.out _ y5.out.be).mono ?_);rintro e w5 ⟨rfl,hb⟩;have Z6:=ħ (y5.out.below hb);clear hb x0 y0;have x0:=Z6.out.b.facts;have y0:=Z6.out.t.facts)) | (refine z8 rfl (.tmp 6) (.tmp 30) 29 rfl (w.heap.size+2) 29 _ (β v) _ 2 48 zy rfl rfl rfl Z6.out.z rfl zq ?_;intro w8 zW zI yL))
     refine bodyPost_ret (za (p:=6) (u:=7) (ty:=29) Tryz.results40 _ _ (w.heap.size+2) 29 (β v) (0,0) _ rfl zW Tryz.underlying29 rfl zm) rfl ?_
     exact HFin.out 5 _ (Z6.out.be.trans (zI.below Z6.out.be.size (fun j hj e=>by have e2:j=w.heap.size+2:=e;omega))) HE.out
    ·rw[hi] at ZX
     have HE:=ħ (show qQ v.bk t.c id=(⟨zz v.bk.L (zt id (j6 t.c id)),zG v.bk.C (j6 t.c id)⟩,0) by unfold qQ;rw[VL.out.1,VL.out.2,YI,HG.out];dsimp only [Option.map];rw[XA,hg];rfl)
     clear hi hg HFin
     obtain ⟨x,hx⟩:∃ x,x=zt id (j6 t.c id):=⟨_,rfl⟩
     rw[←hx] at HE
     have wm:=ħ fun (W:World)=>(show Calls Tryz.prog 88 #[.agg (χ t.c t.A t.k),ι id] W (fun e w'=>e=.returned (.agg #[ι t.c.call,ι id,ι t.c.urg,.string t.c.code,.slice t.A t.c.nodes.length t.k,ι t.c.dist,ι t.c.since,.bool false])∧Below W.heap.size W w') from Di t id W)
     have nU:=ħ fun (W:World) (hb:Below w.heap.size w W)=>(show Calls Tryz.prog 71 #[ι id,.agg #[ι t.c.call,ι id,ι t.c.urg,.string t.c.code,.slice t.A t.c.nodes.length t.k,ι t.c.dist,ι t.c.since,.bool false]] W (jX x 0 W) from by
      have:=mq (fun k=>B k∧k<w.heap.size) id t.c.call id t.c.urg t.c.dist t.c.since t.c.code t.A t.k t.c.nodes false W hs ((HT.out.old (by omega)).below hb (fun k hk=>hk.2)) hl
      have e1:(zQ id 1 && yz ⟨t.c.call,id,t.c.urg,t.c.code,t.c.nodes,t.c.dist,t.c.since,false⟩)=true:=by rw[VL.out.2];exact ZV VL.out.1 VL.out.2 false
      rw[if_pos e1] at this
      rw[hx];exact this)
     clear hx
     have kM:=ħ (HV.out.ok.old.more (B':=(fun k=>B k∧k≠w.heap.size+2)) (fun k hk=>⟨hk.1,by have:=hk.2;omega⟩))
     have BP:=ħ ((HT.out.old (by omega)).more (B':=(fun k=>B k∧k≠w.heap.size+2)) (fun k hk=>⟨hk.1,by have:=hk.2;omega⟩))
     go_upto_region 6 with (first | (go_at_call 24;((with_reducible refine jP.out.mono ?_);rintro e w4 ⟨rfl,hb⟩;have y5:=ħ (qa.out.below hb);clear hb x0 y0;have x0:=y5.out.b.facts;have y0:=y5.out.t.facts)) | (go_at_call 20;((with_reducible refine (ZX.out _ y5.out.be).mono ?_);rintro e w5 ⟨rfl,hb⟩;have Z6:=ħ (y5.out.below hb);clear hb x0 y0;have x0:=Z6.out.b.facts;have y0:=Z6.out.t.facts)) | (go_at_call 88;((with_reducible refine (wm.out _).mono ?_);rintro e w6 ⟨rfl,hb⟩;have qA:=ħ (Z6.out.below hb);clear hb x0 y0;have x0:=qA.out.b.facts;have y0:=qA.out.t.facts)) | (go_at_call 71;((with_reducible refine (nU.out _ qA.out.be).mono ?_);rintro e w7 ⟨An,Ac,Au,cn,cc,cu,rfl,ho1,ho2,ho3,hb⟩;have iD:=ħ (show XR w7 (fun k=>B k∧k≠w.heap.size+2) ⟨x,An,Ac,Au,cn,cc,cu⟩ from ⟨(qK ho1).more (fun j hj=>⟨HV.out.up j (Nat.le_trans qA.out.be.size hj),by have h1:=qA.out.sz;have h2:w6.heap.size≤j:=hj;omega⟩),(qK ho2).more (fun j hj=>⟨HV.out.up j (Nat.le_trans qA.out.be.size hj),by have h1:=qA.out.sz;have h2:w6.heap.size≤j:=hj;omega⟩),(qK ho3).more (fun j hj=>⟨HV.out.up j (Nat.le_trans qA.out.be.size hj),by have h1:=qA.out.sz;have h2:w6.heap.size≤j:=hj;omega⟩)⟩);clear ho1 ho2 ho3;have y9:=ħ (qA.out.below hb);clear hb x0 y0;have x0:=y9.out.b.facts;have y0:=y9.out.t.facts)))
     obtain ⟨px,hpx⟩:∃ p,p=w7.heap.size:=⟨_,rfl⟩
     have hzx:w.heap.size+2≠px:=by have:=y9.out.z.lt;omega
     have yx:=ħ (y9.out.below ((Below.refl _ _).alloc (Nat.le_refl _) (.cells (ξ x An cn Ac cc Au cu) 48)))
     have ZI:=ħ (show zb (w7.alloc (.cells (ξ x An cn Ac cc Au cu) 48)) px 48 (ξ x An cn Ac cc Au cu) by rw[hpx];exact zb.new w7 48 _)
     have E8:=ħ (iD.out.below ((Below.refl w7.heap.size w7).alloc (Nat.le_refl _) (.cells (ξ x An cn Ac cc Au cu) 48)))
     rw[←hpx]
     clear iD y9 hpx x0 y0 UH JF kJ ZX jP nU
     generalize w7.alloc _=W8 at *
     have HK:=ħ fun (W':World) (hb:Below W8.heap.size W8 W')=>(show ((W'.cell? ⟨w.heap.size,0,none⟩=some (.slice v.AL v.la.length v.cL)∧W'.cell? ⟨w.heap.size,1,none⟩=some (.slice v.AC v.lc.length v.cC))∧(W'.cell? ⟨(w.heap.size+1),0,none⟩=some (ι t.c.call)∧W'.cell? ⟨(w.heap.size+1),1,none⟩=some (ι t.c.inc)∧W'.cell? ⟨(w.heap.size+1),2,none⟩=some (ι t.c.urg)∧W'.cell? ⟨(w.heap.size+1),3,none⟩=some (.string t.c.code)∧W'.cell? ⟨(w.heap.size+1),4,none⟩=some (.slice t.A t.c.nodes.length t.k)∧W'.cell? ⟨(w.heap.size+1),5,none⟩=some (ι t.c.dist)∧W'.cell? ⟨(w.heap.size+1),6,none⟩=some (ι t.c.since)∧W'.cell? ⟨(w.heap.size+1),7,none⟩=some (.bool t.c.closed)))∧(W'.cell? ⟨px,0,none⟩=some (ι x.id)∧W'.cell? ⟨px,1,none⟩=some (ι x.urg)∧W'.cell? ⟨px,2,none⟩=some (.string x.code)∧W'.cell? ⟨px,3,none⟩=some (.slice An x.nodes.length cn)∧W'.cell? ⟨px,4,none⟩=some (ι x.dist)∧W'.cell? ⟨px,5,none⟩=some (ι x.since)∧W'.cell? ⟨px,6,none⟩=some (.slice Ac x.calls.length cc)∧W'.cell? ⟨px,7,none⟩=some (.slice Au x.units.length cu)∧W'.cell? ⟨px,8,none⟩=some (ι x.merged)∧W'.cell? ⟨px,9,none⟩=some (.bool x.closed)) from ⟨⟨⟨(yx.out.below hb).b.cell 0,(yx.out.below hb).b.cell 1⟩,Q4 ((yx.out.below hb).t)⟩,Zy (w:=W8) (ZI.out.below hb ZI.out.lt)⟩)
     have HZ:=ħ fun (W':World) (hb:Below W8.heap.size W8 W')=>(yx.out.below hb).z.facts
     have FH:=ħ fun (W':World) (hb:Below W8.heap.size W8 W') (a b:Value)=>(show ((fun W':World=>((W'.cell? ⟨w.heap.size,0,none⟩=some (.slice v.AL v.la.length v.cL)∧W'.cell? ⟨w.heap.size,1,none⟩=some (.slice v.AC v.lc.length v.cC))∧(W'.cell? ⟨(w.heap.size+1),0,none⟩=some (ι t.c.call)∧W'.cell? ⟨(w.heap.size+1),1,none⟩=some (ι t.c.inc)∧W'.cell? ⟨(w.heap.size+1),2,none⟩=some (ι t.c.urg)∧W'.cell? ⟨(w.heap.size+1),3,none⟩=some (.string t.c.code)∧W'.cell? ⟨(w.heap.size+1),4,none⟩=some (.slice t.A t.c.nodes.length t.k)∧W'.cell? ⟨(w.heap.size+1),5,none⟩=some (ι t.c.dist)∧W'.cell? ⟨(w.heap.size+1),6,none⟩=some (ι t.c.since)∧W'.cell? ⟨(w.heap.size+1),7,none⟩=some (.bool t.c.closed)))∧(W'.cell? ⟨px,0,none⟩=some (ι x.id)∧W'.cell? ⟨px,1,none⟩=some (ι x.urg)∧W'.cell? ⟨px,2,none⟩=some (.string x.code)∧W'.cell? ⟨px,3,none⟩=some (.slice An x.nodes.length cn)∧W'.cell? ⟨px,4,none⟩=some (ι x.dist)∧W'.cell? ⟨px,5,none⟩=some (ι x.since)∧W'.cell? ⟨px,6,none⟩=some (.slice Ac x.calls.length cc)∧W'.cell? ⟨px,7,none⟩=some (.slice Au x.units.length cu)∧W'.cell? ⟨px,8,none⟩=some (ι x.merged)∧W'.cell? ⟨px,9,none⟩=some (.bool x.closed))) ((W'.setCell ⟨w.heap.size+2,0,none⟩ a).setCell ⟨w.heap.size+2,1,none⟩ b)) from
      ⟨⟨⟨(((yx.out.below hb).b.far (p:=⟨w.heap.size+2,0,none⟩) (by simp) a).far (p:=⟨w.heap.size+2,1,none⟩) (by simp) b).cell 0,(((yx.out.below hb).b.far (p:=⟨w.heap.size+2,0,none⟩) (by simp) a).far (p:=⟨w.heap.size+2,1,none⟩) (by simp) b).cell 1⟩,Q4 (((yx.out.below hb).t.far (p:=⟨w.heap.size+2,0,none⟩) (by simp) a).far (p:=⟨w.heap.size+2,1,none⟩) (by simp) b)⟩,
       Zy (w:=W8) (((ZI.out.below hb ZI.out.lt).far (p:=⟨w.heap.size+2,0,none⟩) (by simp;omega) a).far (p:=⟨w.heap.size+2,1,none⟩) (by simp;omega) b)⟩)
     have FQ:=ħ (show Calls Tryz.prog 90 #[.agg (β v),.agg (ξ x An cn Ac cc Au cu)] W8.drew (dh v.la v.lc v.AC v.cC x (fun k=>B k∧k≠w.heap.size+2) W8.drew) from jZ v.la v.AL v.cL v.lc v.AC v.cC ⟨x,An,Ac,Au,cn,cc,cu⟩ (fun k=>B k∧k≠w.heap.size+2) W8.drew (show zX W8.drew (fun k=>B k∧k≠w.heap.size+2) v from kM.out.below0 yx.out.be.drew) (E8.out.below ((Below.refl _ _).drew)) (fun j hj=>⟨HV.out.up j (Nat.le_trans yx.out.be.size hj),by have h1:=yx.out.sz;have h2:W8.heap.size≤j:=hj;omega⟩) HV.out.sL (by have:=HV.out.nL;omega))
     have FP:=ħ fun (L1:List Xa) (A1:Option Addr) (c1:Nat) (W:World) (hb:Below W8.heap.size W8 W) (hv:zX W (fun k=>B k∧k≠w.heap.size+2) ⟨L1,A1,c1,v.lc,v.AC,v.cC⟩)=>(show Calls Tryz.prog 89 #[.agg #[.slice A1 L1.length c1,.slice v.AC v.lc.length v.cC],.agg #[ι t.c.call,ι id,ι t.c.urg,.string t.c.code,.slice t.A t.c.nodes.length t.k,ι t.c.dist,ι t.c.since,.bool false]] W (eP L1 A1 c1 v.lc (j6 t.c id) (fun k=>B k∧k≠w.heap.size+2) W) from Zg L1 A1 c1 v.lc v.AC v.cC ⟨j6 t.c id,t.A,t.k⟩ (fun k=>B k∧k≠w.heap.size+2) W hv (zl BP.out (yx.out.be.trans (hb.mono yx.out.be.size))) (fun j hj=>⟨HV.out.up j (Nat.le_trans (Nat.le_trans yx.out.be.size hb.size) hj),by have h1:=yx.out.sz;have h2:W.heap.size≤j:=hj;have h3:=hb.size;omega⟩) HV.out.sC (by have:=HV.out.nC;omega))
     have K0:=HK.out _ (Below.refl _ W8).drew
     go_wp2_with fail
     first | (go_region_held (fun W'=>((W'.cell? ⟨w.heap.size,0,none⟩=some (.slice v.AL v.la.length v.cL)∧W'.cell? ⟨w.heap.size,1,none⟩=some (.slice v.AC v.lc.length v.cC))∧(W'.cell? ⟨(w.heap.size+1),0,none⟩=some (ι t.c.call)∧W'.cell? ⟨(w.heap.size+1),1,none⟩=some (ι t.c.inc)∧W'.cell? ⟨(w.heap.size+1),2,none⟩=some (ι t.c.urg)∧W'.cell? ⟨(w.heap.size+1),3,none⟩=some (.string t.c.code)∧W'.cell? ⟨(w.heap.size+1),4,none⟩=some (.slice t.A t.c.nodes.length t.k)∧W'.cell? ⟨(w.heap.size+1),5,none⟩=some (ι t.c.dist)∧W'.cell? ⟨(w.heap.size+1),6,none⟩=some (ι t.c.since)∧W'.cell? ⟨(w.heap.size+1),7,none⟩=some (.bool t.c.closed)))∧(W'.cell? ⟨px,0,none⟩=some (ι x.id)∧W'.cell? ⟨px,1,none⟩=some (ι x.urg)∧W'.cell? ⟨px,2,none⟩=some (.string x.code)∧W'.cell? ⟨px,3,none⟩=some (.slice An x.nodes.length cn)∧W'.cell? ⟨px,4,none⟩=some (ι x.dist)∧W'.cell? ⟨px,5,none⟩=some (ι x.since)∧W'.cell? ⟨px,6,none⟩=some (.slice Ac x.calls.length cc)∧W'.cell? ⟨px,7,none⟩=some (.slice Au x.units.length cu)∧W'.cell? ⟨px,8,none⟩=some (ι x.merged)∧W'.cell? ⟨px,9,none⟩=some (.bool x.closed))) (first | assumption | exact K0 | exact FH.out _ YB _ _) (first
      | (go_at_call 90;((with_reducible refine FQ.out.mono ?_);rintro e v1 ⟨L1,A1,c1,rfl,hv1,hm1,hn1,hb1⟩;have B1:=((Below.refl W8.heap.size W8).drew).trans hb1;have K1:=HK.out _ B1;have pX:=ħ hv1;have NK:=ħ hm1;clear hb1 hv1 hm1))
      | (go_at_call 88;((with_reducible refine (wm.out _).mono ?_);rintro e v2 ⟨rfl,hb2⟩;have B2:=B1.trans (hb2.mono B1.size);have K2:=HK.out _ B2;have vg:=ħ (pX.out.below hb2);clear hb2))
      | (go_at_call 89;((with_reducible refine (FP.out L1 A1 c1 _ B2 vg.out).mono ?_);rintro e v3 ⟨C1,A2,c2,rfl,hv3,Uv,xW,hb3⟩;have YB:=B2.trans (hb3.mono B2.size);have K3:=HK.out _ YB;have pJ:=ħ hv3;have bW:=ħ Uv;obtain ⟨z0,z1,z2⟩:=HZ.out _ YB;clear hb3 hv3 Uv)))) | fail
     all_goals
      have Kl:=ħ (show zb ((v3.setCell ⟨w.heap.size+2,0,none⟩ (.slice A1 L1.length c1)).setCell ⟨w.heap.size+2,1,none⟩ (.slice A2 C1.length c2)) (w.heap.size+2) 29 #[.slice A1 L1.length c1,.slice A2 C1.length c2] by
       have:=((yx.out.below YB).z.set_ 0 (.slice A1 L1.length c1)).set_ 1 (.slice A2 C1.length c2);simpa using this)
      go_wp2_with fail
      refine bodyPost_ret (za (p:=6) (u:=7) (ty:=29) Tryz.results40 _ _ (w.heap.size+2) 29 #[.slice A1 L1.length c1,.slice A2 C1.length c2] (0,0) _ rfl Kl.out Tryz.underlying29 rfl zm) rfl ?_
      rw[HE.out]
      have YS:=((Fr.refl (fun j=>j=w.heap.size+2) v3).setCell (p:=⟨w.heap.size+2,0,none⟩) (.inl rfl) (.slice A1 L1.length c1)).setCell (p:=⟨w.heap.size+2,1,none⟩) (.inl rfl) (.slice A2 C1.length c2)
      have ZK:=yx.out.be.trans (YB.mono yx.out.be.size)
      refine ⟨⟨L1,A1,c1,C1,A2,c2⟩,rfl,(pJ.out.fr YS (fun j hj e=>hj.2 e)).more (fun j hj=>hj.1),?_,ZK.trans (YS.below ZK.size (fun j hj e=>by have e2:j=w.heap.size+2:=e;omega))⟩
      show (⟨L1.map (fun a=>a.x),C1.map (fun a=>a.c)⟩:Bk)=_
      rw[NK.out,bW.out]
      rfl
end Go.Proofs.YtdhcjhfgibmhfaaGreatDoor

import Derived.Test.YtdhcjhfgibmhfaaGreatDoorJRr7
set_option linter.unusedVariables false
set_option linter.unusedSimpArgs false
set_option maxRecDepth 10000
set_option maxHeartbeats 8000000
namespace Go.Proofs.YtdhcjhfgibmhfaaGreatDoor
open Go.RowKit Go.Own Go.Quo Go.Inc
structure OkG (w:World) (B:Nat→Prop) (v:Bv) (n:Nat):Prop where
 ok:zX w B v
 up:∀ k,w.heap.size≤k→B k
 g:Good n v.bk
 n:n+1≤1000
theorem OkG.toOk {w:World}{B:Nat→Prop}{v:Bv}{n:Nat}(h:OkG w B v n):Ok w B v:=
 ⟨h.ok,h.up,zg.sL h.g,zg.sC h.g,by have h1:=zg.nL h.g;have h2:=h.n;unfold Bv.bk at h1;simp only[List.length_map] at h1;omega,by have h1:=zg.nC h.g;have h2:=h.n;unfold Bv.bk at h1;simp only[List.length_map] at h1;omega⟩
theorem QD {v:Bv}{id:Int}{i:Nat}(hlt:i<v.la.length)(hg:yw (fun a:Xa=>a.x.id) v.la id=some v.la[i]):zw v.bk.L id=some v.la[i].x:=by rw[XA,hg];rfl
theorem kH {v:Bv}{k:Int}{i:Nat}(hlt:i<v.lc.length)(hg:yw (fun a:Ca=>a.c.call) v.lc k=some v.lc[i]):yP v.bk.C k=some v.lc[i].c:=by rw[YI,hg];rfl
theorem jw {v:Bv}{id:Int}(hg:yw (fun a:Xa=>a.x.id) v.la id=none):zw v.bk.L id=none:=by rw[XA,hg];rfl
theorem YQ {v:Bv}{k:Int}(hg:yw (fun a:Ca=>a.c.call) v.lc k=none):yP v.bk.C k=none:=by rw[YI,hg];rfl
theorem Jc (a:Xa)(w:World):Calls Tryz.prog 68 #[.agg (ξ a.x a.An a.cn a.Ac a.cc a.Au a.cu)] w (qX (zx a.x) w):=ib a.x.id a.x.urg a.x.dist a.x.since a.x.merged a.x.code a.An a.Ac a.Au a.x.nodes.length a.x.calls.length a.x.units.length a.cn a.cc a.cu a.x.closed w
theorem kN (b:Bk)(id:Int):(qw b id).C=b.C:=by unfold qw;split <;> rfl
theorem QX (b:Bk)(id:Int){C:List Cr}(h:C=b.C):(⟨(qw b id).L,C⟩:Bk)=qw b id:=by rw[h,←kN b id]
theorem cZ (t:Ca)(id:Int)(W:World):Calls Tryz.prog 88 #[.agg (χ t.c t.A t.k),ι id] W (fun e w'=>e=.returned (.agg #[ι t.c.call,ι id,ι t.c.urg,.string t.c.code,.slice t.A t.c.nodes.length t.k,ι t.c.dist,ι t.c.since,.bool false])∧Below W.heap.size W w'):=Di t id W
theorem gV (v:Bv)(t:Ca)(id:Int)(n:Nat)(B:Nat→Prop)(w:World)(hG:OkG w B v n)(ht:RI w B t.A t.c.nodes)(hs:t.c.code.size≤100000)(hl:t.c.nodes.length≤60) :
 Calls Tryz.prog 41 #[YW v,.agg (χ t.c t.A t.k),ι id] w (Je (qy v.bk t.c id) B w):=by
 have h:=hG.toOk
 have HG:=ħ hG
 have hl0:t.c.nodes.length≤100000:=by omega
 have HV:=ħ h
 have HT:=ħ ht
 have y8:=ħ (B3.new w (β v) (χ t.c t.A t.k))
 have UH:=ħ fun (W:World) (hb:Below w.heap.size w W)=>(show Calls Tryz.prog 86 #[.agg (χ t.c t.A t.k)] W (qX (z_ t.c) W) from Uy t (fun k=>B k∧k<w.heap.size) W ((HT.out.old (by omega)).below hb (fun k hk=>hk.2)) hs hl0)
 have JF:=ħ fun (W:World)=>EP id W
 have kJ:=ħ fun (W:World) (hb:Below w.heap.size w W)=>XT v (fun k=>B k) t.c.call W (HV.out.ok.below0 hb) (by have:=HV.out.nC;omega)
 have ZX:=ħ fun (W:World) (hb:Below w.heap.size w W)=>Z4 v (fun k=>B k) id W (HV.out.ok.below0 hb) (by have:=HV.out.nL;omega)
 have HFin:=ħ fun (r:Int) (W:World) (hb:Below w.heap.size w W) (hr:qy v.bk t.c id=(v.bk,r))=>(show Je (qy v.bk t.c id) B w (.returned (.tuple #[YW v,ι r])) W from ⟨v,by rw[hr],HV.out.ok.below0 hb,by rw[hr],hb⟩)
 clear h ht
 clear hG
 cases hr:z_ t.c with
 | false=>
  have HE:=ħ (show qy v.bk t.c id=(v.bk,1) by unfold qy;rw[hr];rfl)
  rw[hr] at UH
  clear hr
  go_enter Tryz.func41,Tryz.ntmps41
  go_upto_region 1 with fail
  generalize ((w.alloc _).alloc _).alloc _=W1 at *
  have x0:=y8.out.b.facts
  have y0:=y8.out.t.facts
  go_wp2_with (first | (go_at_call 86;((with_reducible refine (UH.out _ y8.out.be).mono ?_);rintro e w2 ⟨rfl,hb⟩;have qa:=ħ (y8.out.below hb);clear hb x0 y0;have x0:=qa.out.b.facts;have y0:=qa.out.t.facts)) | (refine z8 rfl (.tmp 6) (.tmp 17) 29 rfl (w.heap.size+2) 29 _ (β v) _ 2 48 zy rfl rfl rfl qa.out.z rfl zq ?_;intro w8 zW zI yL))
  refine bodyPost_ret (za (p:=6) (u:=7) (ty:=29) Tryz.results41 _ _ (w.heap.size+2) 29 (β v) (0,0) _ rfl zW Tryz.underlying29 rfl zm) rfl ?_
  exact HFin.out 1 _ (qa.out.be.trans (zI.below qa.out.be.size (fun j hj e=>by have e2:j=w.heap.size+2:=e;omega))) HE.out
 | true=>
  rw[hr] at UH
  cases hn:zQ id 1 with
  | false=>
   have HE:=ħ (show qy v.bk t.c id=(v.bk,1) by unfold qy;rw[hr,hn];rfl)
   rw[hn] at JF
   clear hr hn
   go_enter Tryz.func41,Tryz.ntmps41
   go_upto_region 1 with fail
   generalize ((w.alloc _).alloc _).alloc _=W1 at *
   have x0:=y8.out.b.facts
   have y0:=y8.out.t.facts
   go_wp2_with (first | (go_at_call 86;((with_reducible refine (UH.out _ y8.out.be).mono ?_);rintro e w2 ⟨rfl,hb⟩;have qa:=ħ (y8.out.below hb);clear hb x0 y0;have x0:=qa.out.b.facts;have y0:=qa.out.t.facts)) | (go_at_call 87;((with_reducible refine (JF.out _).mono ?_);rintro e w3 ⟨rfl,rfl⟩)) | (refine z8 rfl (.tmp 6) (.tmp 17) 29 rfl (w.heap.size+2) 29 _ (β v) _ 2 48 zy rfl rfl rfl qa.out.z rfl zq ?_;intro w8 zW zI yL))
   refine bodyPost_ret (za (p:=6) (u:=7) (ty:=29) Tryz.results41 _ _ (w.heap.size+2) 29 (β v) (0,0) _ rfl zW Tryz.underlying29 rfl zm) rfl ?_
   exact HFin.out 1 _ (qa.out.be.trans (zI.below qa.out.be.size (fun j hj e=>by have e2:j=w.heap.size+2:=e;omega))) HE.out
  | true=>
   rw[hn] at JF
   have VL:=ħ (And.intro hr hn)
   clear hr hn
   go_enter Tryz.func41,Tryz.ntmps41
   go_upto_region 1 with fail
   generalize ((w.alloc _).alloc _).alloc _=W1 at *
   have x0:=y8.out.b.facts
   have y0:=y8.out.t.facts
   go_upto_region 3 with (first | (go_at_call 86;((with_reducible refine (UH.out _ y8.out.be).mono ?_);rintro e w2 ⟨rfl,hb⟩;have qa:=ħ (y8.out.below hb);clear hb x0 y0;have x0:=qa.out.b.facts;have y0:=qa.out.t.facts)) | (go_at_call 87;((with_reducible refine (JF.out _).mono ?_);rintro e w3 ⟨rfl,rfl⟩)))
   have QV:=kJ.out _ qa.out.be
   rcases qH (fun a:Ca=>a.c.call) v.lc t.c.call with ⟨i,hi,hlt,hg⟩ | ⟨hi,hg⟩
   ·rw[hi] at QV
    have jP:=ħ QV
    have HE:=ħ (show qy v.bk t.c id=(v.bk,5) by unfold qy;rw[VL.out.1,VL.out.2,kH hlt hg];rfl)
    clear QV hi hg hlt
    go_wp2_with (first | (go_at_call 24;((with_reducible refine jP.out.mono ?_);rintro e w4 ⟨rfl,hb⟩;have y5:=ħ (qa.out.below hb);clear hb x0 y0;have x0:=y5.out.b.facts;have y0:=y5.out.t.facts)) | (refine z8 rfl (.tmp 6) (.tmp 23) 29 rfl (w.heap.size+2) 29 _ (β v) _ 2 48 zy rfl rfl rfl y5.out.z rfl zq ?_;intro w8 zW zI yL))
    refine bodyPost_ret (za (p:=6) (u:=7) (ty:=29) Tryz.results41 _ _ (w.heap.size+2) 29 (β v) (0,0) _ rfl zW Tryz.underlying29 rfl zm) rfl ?_
    exact HFin.out 5 _ (y5.out.be.trans (zI.below y5.out.be.size (fun j hj e=>by have e2:j=w.heap.size+2:=e;omega))) HE.out
   ·rw[hi] at QV
    have jP:=ħ QV
    have HC:=ħ (YQ hg)
    clear QV hi hg
    rcases qH (fun a:Xa=>a.x.id) v.la id with ⟨i,hi,hlt,hg⟩ | ⟨hi,hg⟩
    ·rw[hi] at ZX
     obtain ⟨y,hy⟩:∃ y,y=v.la[i]:=⟨_,rfl⟩
     have HI:=ħ (show zw v.bk.L id=some y.x by rw[hy];exact QD hlt hg)
     have Jm:=ħ fun (W':World) (hb:Below w.heap.size w W')=>jA (HV.out.ok.below0 hb).rl hlt hy
     have VK:=ħ fun (W:World)=>Jc y W
     have hp:=HV.out.ok.rl.plain (by omega)
     have hix:=fun W=>JZ hp v.cL i hlt W
     have iW:=ħ hlt
     clear hi hg hy hlt
     go_upto_region 8 with (first | (go_at_call 24;((with_reducible refine jP.out.mono ?_);rintro e w4 ⟨rfl,hb⟩;have y5:=ħ (qa.out.below hb);clear hb x0 y0;have x0:=y5.out.b.facts;have y0:=y5.out.t.facts)) | (go_at_call 20;((with_reducible refine (ZX.out _ y5.out.be).mono ?_);rintro e w5 ⟨rfl,hb⟩;have Z6:=ħ (y5.out.below hb);clear hb x0 y0;have x0:=Z6.out.b.facts;have y0:=Z6.out.t.facts)))
     obtain ⟨e0,e1,e2,e3,e4,e5,e6,e7,e8,e9⟩:=Jm.out _ Z6.out.be
     cases ho:zx y.x with
     | false=>
      rw[ho] at VK
      have HE:=ħ (show qy v.bk t.c id=(v.bk,8) by unfold qy;rw[VL.out.1,VL.out.2,HC.out];dsimp only;rw[HI.out];dsimp only;rw[if_neg (by decide),if_pos ho])
      clear ho
      go_wp2_with (first | (go_at_call 68;((with_reducible refine (VK.out _).mono ?_);rintro e w6 ⟨rfl,hb⟩;have qA:=ħ (Z6.out.below hb);clear hb x0 y0;have x0:=qA.out.b.facts;have y0:=qA.out.t.facts)) | (refine z8 rfl (.tmp 6) (.tmp 37) 29 rfl (w.heap.size+2) 29 _ (β v) _ 2 48 zy rfl rfl rfl qA.out.z rfl zq ?_;intro w8 zW zI yL))
      refine bodyPost_ret (za (p:=6) (u:=7) (ty:=29) Tryz.results41 _ _ (w.heap.size+2) 29 (β v) (0,0) _ rfl zW Tryz.underlying29 rfl zm) rfl ?_
      exact HFin.out 8 _ (qA.out.be.trans (zI.below qA.out.be.size (fun j hj e=>by have e2:j=w.heap.size+2:=e;omega))) HE.out
     | true=>
      rw[ho] at VK
      have Br:=ħ ho
      clear ho
      go_upto_region 10 with ((go_at_call 68;((with_reducible refine (VK.out _).mono ?_);rintro e w6 ⟨rfl,hb⟩;clear e0 e1 e2 e3 e4 e5 e6 e7 e8 e9;have qA:=ħ (Z6.out.below hb);clear hb x0 y0;have x0:=qA.out.b.facts;have y0:=qA.out.t.facts)))
      obtain ⟨e0,e1,e2,e3,e4,e5,e6,e7,e8,e9⟩:=Jm.out _ qA.out.be
      by_cases hc:1000≤y.x.calls.length
      ·have hc':(1000:Int)≤y.x.calls.length:=by omega
       have HE:=ħ (show qy v.bk t.c id=(v.bk,3) by unfold qy;rw[VL.out.1,VL.out.2,HC.out];dsimp only;rw[HI.out];dsimp only;rw[if_neg (by decide),if_neg (by rw[Br.out];decide),if_pos hc])
       clear hc
       go_wp2_with ((refine z8 rfl (.tmp 6) (.tmp 46) 29 rfl (w.heap.size+2) 29 _ (β v) _ 2 48 zy rfl rfl rfl qA.out.z rfl zq ?_;intro w8 zW zI yL))
       refine bodyPost_ret (za (p:=6) (u:=7) (ty:=29) Tryz.results41 _ _ (w.heap.size+2) 29 (β v) (0,0) _ rfl zW Tryz.underlying29 rfl zm) rfl ?_
       exact HFin.out 3 _ (qA.out.be.trans (zI.below qA.out.be.size (fun j hj e=>by have e2:j=w.heap.size+2:=e;omega))) HE.out
      ·have hc':¬ (1000:Int)≤y.x.calls.length:=by omega
       have HE:=ħ (show qy v.bk t.c id=(qw ⟨v.bk.L,zG v.bk.C (j6 t.c id)⟩ id,0) by unfold qy;rw[VL.out.1,VL.out.2,HC.out];dsimp only;rw[HI.out];dsimp only;rw[if_neg (by decide),if_neg (by rw[Br.out];decide),if_neg hc])
       have XN:=ħ (show zg (n+1) ⟨v.bk.L,zG v.bk.C (j6 t.c id)⟩ id from (Zf HG.out.g (t:=j6 t.c id) ⟨ZV VL.out.1 VL.out.2 false,hl⟩ (zi HI.out).1 (zi HI.out).2 Br.out (fun u hu e=>absurd e (J4 HC.out u hu))).1)
       clear hc
       go_upto_region 12 with (fail)
       clear hc' UH JF kJ ZX jP VK e0 e1 e2 e3 e4 e5 e6 e7 e8 e9 hix HFin Jm x0 y0
       have kM:=ħ (HV.out.ok.old.more (B':=(fun k=>B k∧k≠w.heap.size+2)) (fun k hk=>⟨hk.1,by have:=hk.2;omega⟩))
       have BP:=ħ ((HT.out.old (by omega)).more (B':=(fun k=>B k∧k≠w.heap.size+2)) (fun k hk=>⟨hk.1,by have:=hk.2;omega⟩))
       have wm:=ħ fun (W:World)=>cZ t id W
       have HK:=ħ fun (W':World) (hb:Below w6.heap.size w6 W')=>(show (W'.cell? ⟨w.heap.size,0,none⟩=some (.slice v.AL v.la.length v.cL)∧W'.cell? ⟨w.heap.size,1,none⟩=some (.slice v.AC v.lc.length v.cC))∧(W'.cell? ⟨(w.heap.size+1),0,none⟩=some (ι t.c.call)∧W'.cell? ⟨(w.heap.size+1),1,none⟩=some (ι t.c.inc)∧W'.cell? ⟨(w.heap.size+1),2,none⟩=some (ι t.c.urg)∧W'.cell? ⟨(w.heap.size+1),3,none⟩=some (.string t.c.code)∧W'.cell? ⟨(w.heap.size+1),4,none⟩=some (.slice t.A t.c.nodes.length t.k)∧W'.cell? ⟨(w.heap.size+1),5,none⟩=some (ι t.c.dist)∧W'.cell? ⟨(w.heap.size+1),6,none⟩=some (ι t.c.since)∧W'.cell? ⟨(w.heap.size+1),7,none⟩=some (.bool t.c.closed)) from ⟨⟨(qA.out.below hb).b.cell 0,(qA.out.below hb).b.cell 1⟩,Q4 ((qA.out.below hb).t)⟩)
       have HZ:=ħ fun (W':World) (hb:Below w6.heap.size w6 W')=>(qA.out.below hb).z.facts
       have FH:=ħ fun (W':World) (hb:Below w6.heap.size w6 W') (a b:Value)=>(show ((fun W':World=>(W'.cell? ⟨w.heap.size,0,none⟩=some (.slice v.AL v.la.length v.cL)∧W'.cell? ⟨w.heap.size,1,none⟩=some (.slice v.AC v.lc.length v.cC))∧(W'.cell? ⟨(w.heap.size+1),0,none⟩=some (ι t.c.call)∧W'.cell? ⟨(w.heap.size+1),1,none⟩=some (ι t.c.inc)∧W'.cell? ⟨(w.heap.size+1),2,none⟩=some (ι t.c.urg)∧W'.cell? ⟨(w.heap.size+1),3,none⟩=some (.string t.c.code)∧W'.cell? ⟨(w.heap.size+1),4,none⟩=some (.slice t.A t.c.nodes.length t.k)∧W'.cell? ⟨(w.heap.size+1),5,none⟩=some (ι t.c.dist)∧W'.cell? ⟨(w.heap.size+1),6,none⟩=some (ι t.c.since)∧W'.cell? ⟨(w.heap.size+1),7,none⟩=some (.bool t.c.closed))) ((W'.setCell ⟨w.heap.size+2,0,none⟩ a).setCell ⟨w.heap.size+2,1,none⟩ b)) from
        ⟨⟨(((qA.out.below hb).b.far (p:=⟨w.heap.size+2,0,none⟩) (by simp) a).far (p:=⟨w.heap.size+2,1,none⟩) (by simp) b).cell 0,(((qA.out.below hb).b.far (p:=⟨w.heap.size+2,0,none⟩) (by simp) a).far (p:=⟨w.heap.size+2,1,none⟩) (by simp) b).cell 1⟩,Q4 (((qA.out.below hb).t.far (p:=⟨w.heap.size+2,0,none⟩) (by simp) a).far (p:=⟨w.heap.size+2,1,none⟩) (by simp) b)⟩)
       have FP:=ħ fun (W:World) (hb:Below w6.heap.size w6 W)=>(show Calls Tryz.prog 89 #[.agg (β v),.agg #[ι t.c.call,ι id,ι t.c.urg,.string t.c.code,.slice t.A t.c.nodes.length t.k,ι t.c.dist,ι t.c.since,.bool false]] W (eP v.la v.AL v.cL v.lc (j6 t.c id) (fun k=>B k∧k≠w.heap.size+2) W) from Zg v.la v.AL v.cL v.lc v.AC v.cC ⟨j6 t.c id,t.A,t.k⟩ (fun k=>B k∧k≠w.heap.size+2) W (kM.out.below0 (qA.out.be.trans (hb.mono qA.out.be.size))) (zl BP.out (qA.out.be.trans (hb.mono qA.out.be.size))) (fun j hj=>⟨HV.out.up j (Nat.le_trans (Nat.le_trans qA.out.be.size hb.size) hj),by have h1:=qA.out.sz;have h2:W.heap.size≤j:=hj;have h3:=hb.size;omega⟩) HV.out.sC (by have:=HV.out.nC;omega))
       have mE:=ħ fun (C1:List Ca) (A2:Option Addr) (c2:Nat) (hm:C1.map (fun a=>a.c)=zG (v.lc.map (fun a=>a.c)) (j6 t.c id)) (W:World) (hb:Below w6.heap.size w6 W) (hv:zX W (fun k=>B k∧k≠w.heap.size+2) ⟨v.la,v.AL,v.cL,C1,A2,c2⟩)=>(show Calls Tryz.prog 91 #[.agg #[.slice v.AL v.la.length v.cL,.slice A2 C1.length c2],ι id] W (pO ⟨v.la.map (fun a=>a.x),C1.map (fun a=>a.c)⟩ id C1 A2 c2 (fun k=>B k∧k≠w.heap.size+2) W) from Uo v.la v.AL v.cL C1 A2 c2 id (n+1) (fun k=>B k∧k≠w.heap.size+2) W hv (fun j hj=>⟨HV.out.up j (Nat.le_trans (Nat.le_trans qA.out.be.size hb.size) hj),by have h1:=qA.out.sz;have h2:W.heap.size≤j:=hj;have h3:=hb.size;omega⟩) (by rw[hm];exact XN.out) HG.out.n (fun e=>by have:=HI.out;unfold Bv.bk at this;rw[e] at this;cases this))
       have K0:=HK.out _ (Below.refl _ w6).drew
       go_wp2_with fail
       first | (go_region_held (fun W'=>(W'.cell? ⟨w.heap.size,0,none⟩=some (.slice v.AL v.la.length v.cL)∧W'.cell? ⟨w.heap.size,1,none⟩=some (.slice v.AC v.lc.length v.cC))∧(W'.cell? ⟨(w.heap.size+1),0,none⟩=some (ι t.c.call)∧W'.cell? ⟨(w.heap.size+1),1,none⟩=some (ι t.c.inc)∧W'.cell? ⟨(w.heap.size+1),2,none⟩=some (ι t.c.urg)∧W'.cell? ⟨(w.heap.size+1),3,none⟩=some (.string t.c.code)∧W'.cell? ⟨(w.heap.size+1),4,none⟩=some (.slice t.A t.c.nodes.length t.k)∧W'.cell? ⟨(w.heap.size+1),5,none⟩=some (ι t.c.dist)∧W'.cell? ⟨(w.heap.size+1),6,none⟩=some (ι t.c.since)∧W'.cell? ⟨(w.heap.size+1),7,none⟩=some (.bool t.c.closed))) (first | assumption | exact K0 | exact FH.out _ YB _ _) (first
        | (go_at_call 88;((with_reducible refine (wm.out _).mono ?_);rintro e v1 ⟨rfl,hb1⟩;have B1:=((Below.refl w6.heap.size w6).drew).trans hb1;have K1:=HK.out _ B1;clear hb1))
        | (go_at_call 89;((with_reducible refine (FP.out _ B1).mono ?_);rintro e v2 ⟨C1,A2,c2,rfl,hv2,hm2,hn2,hb2⟩;have B2:=B1.trans (hb2.mono B1.size);have K2:=HK.out _ B2;have uj:=ħ (mE.out C1 A2 c2 hm2 _ B2 hv2);have VW:=ħ hm2;clear hb2 hv2 hm2))
        | (go_at_call 91;((with_reducible refine uj.out.mono ?_);rintro e v3 ⟨L3,A3,c3,rfl,hv3,Uv,hb3⟩;have YB:=B2.trans (hb3.mono B2.size);have K3:=HK.out _ YB;have pJ:=ħ hv3;have bW:=ħ Uv;obtain ⟨z0,z1,z2⟩:=HZ.out _ YB;clear hb3 hv3 Uv)))) | fail
       all_goals
        have Kl:=ħ (show zb ((v3.setCell ⟨w.heap.size+2,0,none⟩ (.slice A3 L3.length c3)).setCell ⟨w.heap.size+2,1,none⟩ (.slice A2 C1.length c2)) (w.heap.size+2) 29 #[.slice A3 L3.length c3,.slice A2 C1.length c2] by
         have:=((qA.out.below YB).z.set_ 0 (.slice A3 L3.length c3)).set_ 1 (.slice A2 C1.length c2);simpa using this)
        go_wp2_with fail
        refine bodyPost_ret (za (p:=6) (u:=7) (ty:=29) Tryz.results41 _ _ (w.heap.size+2) 29 #[.slice A3 L3.length c3,.slice A2 C1.length c2] (0,0) _ rfl Kl.out Tryz.underlying29 rfl zm) rfl ?_
        rw[HE.out]
        have YS:=((Fr.refl (fun j=>j=w.heap.size+2) v3).setCell (p:=⟨w.heap.size+2,0,none⟩) (.inl rfl) (.slice A3 L3.length c3)).setCell (p:=⟨w.heap.size+2,1,none⟩) (.inl rfl) (.slice A2 C1.length c2)
        have ZK:=qA.out.be.trans (YB.mono qA.out.be.size)
        refine ⟨⟨L3,A3,c3,C1,A2,c2⟩,rfl,(pJ.out.fr YS (fun j hj e=>hj.2 e)).more (fun j hj=>hj.1),?_,ZK.trans (YS.below ZK.size (fun j hj e=>by have e2:j=w.heap.size+2:=e;omega))⟩
        show (⟨L3.map (fun a=>a.x),C1.map (fun a=>a.c)⟩:Bk)=_
        rw[bW.out,VW.out]
        exact QX _ _ (by show zG _ _=_;rfl)
    ·rw[hi] at ZX
     have HE:=ħ (show qy v.bk t.c id=(v.bk,4) by unfold qy;rw[VL.out.1,VL.out.2,HC.out];dsimp only;rw[jw hg];rfl)
     clear hi hg
     go_wp2_with (first | (go_at_call 24;((with_reducible refine jP.out.mono ?_);rintro e w4 ⟨rfl,hb⟩;have y5:=ħ (qa.out.below hb);clear hb x0 y0;have x0:=y5.out.b.facts;have y0:=y5.out.t.facts)) | (go_at_call 20;((with_reducible refine (ZX.out _ y5.out.be).mono ?_);rintro e w5 ⟨rfl,hb⟩;have Z6:=ħ (y5.out.below hb);clear hb x0 y0;have x0:=Z6.out.b.facts;have y0:=Z6.out.t.facts)) | (refine z8 rfl (.tmp 6) (.tmp 29) 29 rfl (w.heap.size+2) 29 _ (β v) _ 2 48 zy rfl rfl rfl Z6.out.z rfl zq ?_;intro w8 zW zI yL))
     refine bodyPost_ret (za (p:=6) (u:=7) (ty:=29) Tryz.results41 _ _ (w.heap.size+2) 29 (β v) (0,0) _ rfl zW Tryz.underlying29 rfl zm) rfl ?_
     exact HFin.out 4 _ (Z6.out.be.trans (zI.below Z6.out.be.size (fun j hj e=>by have e2:j=w.heap.size+2:=e;omega))) HE.out
end Go.Proofs.YtdhcjhfgibmhfaaGreatDoor

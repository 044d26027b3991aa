import Derived.Test.YtdhcjhfgibmhfaaGreatDoorJDo1
set_option linter.unusedVariables false
set_option linter.unusedSimpArgs false
set_option maxRecDepth 10000
set_option maxHeartbeats 8000000
namespace Go.Proofs.YtdhcjhfgibmhfaaGreatDoor
open Go.RowKit Go.Own Go.Quo Go.Inc
theorem z0A (p mc mi mh:Nat)(b:Bk)(v:Bv)(a:Av)(n:Nat)(w:World)(hk:a.kind=5)(hp0:PI w p mc mi mh b)(hvb:v.bk=b)(D:Nat→Prop)(hD:∀ j,D j→Bq p mc mi mh j)(YR:∀ j,w.heap.size≤j→D j)(hv:zX w D v)(hG:Good n b)(hn:n+1≤1000)(htb:jg w)(ht0:RI w D a.t.A a.t.c.nodes)(hs:a.t.c.code.size≤100000)(hl:a.t.c.nodes.length≤60) :
 Calls Tryz.prog 14 #[.pointer (some ⟨p,0,none⟩),.agg (β v),.agg #[ι a.kind,ι a.t.c.call,ι a.t.c.inc,ι a.t.c.urg,.string a.t.c.code,.slice a.t.A a.t.c.nodes.length a.t.k,ι a.t.c.dist,ι a.t.c.since,.bool a.t.c.closed,ι a.id,ι a.a,ι a.b,ι a.unit]] w (Ff D (jY b a) p mc mi mh w):=by
 have hl2:=hp0.lt
 have hbk:=hvb
 subst hbk
 have HL2:=ħ hl2
 have HG:=ħ hG
 have YL:=ħ (fun (W:World) (hb:Below w.heap.size w W)=>hp0.below hb)
 have HT:=ħ fun (W:World) (hf:Fr (fun _=>False) w W)=>(ht0.old (by omega)).fr hf (fun k hk e=>e)
 have HB:=ħ fun (W:World) (hf:Fr (Sq p mc mi mh) w W)=>(show zX W (fun j=>D j∧j≠w.heap.size∧j≠w.heap.size+2) v from (hv.old.fr hf (fun k hk=>qh (hD k hk.1))).more (fun j hj=>⟨hj.1,by have:=hj.2;omega,by have:=hj.2;omega⟩))
 have KD:=ħ fun (W:World) (hf:Fr (Sq p mc mi mh) w W)=>(show RI W (fun j=>D j∧j≠w.heap.size∧j≠w.heap.size+2) a.t.A a.t.c.nodes from ((ht0.old (by omega)).fr hf (fun k hk=>qh (hD k hk.1))).more (fun j hj=>⟨hj.1,by have:=hj.2;omega,by have:=hj.2;omega⟩))
 have HD:=ħ (D3.new (p:=p) (mc:=mc) (mi:=mi) (mh:=mh) w (β v) #[ι a.kind,ι a.t.c.call,ι a.t.c.inc,ι a.t.c.urg,.string a.t.c.code,.slice a.t.A a.t.c.nodes.length a.t.k,ι a.t.c.dist,ι a.t.c.since,.bool a.t.c.closed,ι a.id,ι a.a,ι a.b,ι a.unit])
 have HP:=ħ fun (W:World) (hf:Fr (fun _=>False) w W) (hp:PI W p mc mi mh v.bk)=>(show Calls Tryz.prog 16 #[.pointer (some ⟨p,0,none⟩),ι a.t.c.call,ι a.a,ι a.id,ι a.b] W (Ji (zS v.bk a.t.c.call a.a a.id a.b) p mc mi mh W) from by
  have hG:=HG.out
  have ht:jg W:=hp0.tab htb (hf.mono (fun _ _ e=>e.elim))
  exact kr p mc mi mh v.bk a.t.c.call a.a a.id a.b n W hp hG hn ht)
 have HQ:=ħ fun (W:World) (hf:Fr (Sq p mc mi mh) w W) (hz:w.heap.size+3≤W.heap.size)=>(show Calls Tryz.prog 47 #[.agg (β v),ι a.t.c.call,ι a.a,ι a.id,ι a.b] W (Je (zS v.bk a.t.c.call a.a a.id a.b) (fun j=>D j∧j≠w.heap.size∧j≠w.heap.size+2) W) from by
  have hg:OkG W (fun j=>D j∧j≠w.heap.size∧j≠w.heap.size+2) v n:=⟨HB.out W hf,fun k hk=>⟨YR k (by omega),by omega,by omega⟩,HG.out,hn⟩
  have hr:=KD.out W hf
  exact lK v a.t.c.call a.a a.id a.b n (fun j=>D j∧j≠w.heap.size∧j≠w.heap.size+2) W hg)
 have JE:=ħ hk
 rw[hk] at HD⊢
 clear hp0 hv hG htb ht0 hk
 have hk:=JE.out
 clear JE
 have UE:=ħ hk
 clear hk
 go_enter Tryz.func14,Tryz.ntmps14
 go_upto_region 1 with fail
 have HB3:=ħ (show Below w.heap.size w (((w.alloc (.cells (β v) 29)).alloc (.cells #[ι 5,ι a.t.c.call,ι a.t.c.inc,ι a.t.c.urg,.string a.t.c.code,.slice a.t.A a.t.c.nodes.length a.t.k,ι a.t.c.dist,ι a.t.c.since,.bool a.t.c.closed,ι a.id,ι a.a,ι a.b,ι a.unit] 36)).alloc (.cells #[.slice none 0 0,.slice none 0 0] 29)) from (((Below.refl _ w).alloc (Nat.le_refl _) _).alloc (by simp) _).alloc (by simp;omega) _)
 have Uu:=ħ ((((Fr.refl (fun _=>False) w).alloc (.cells (β v) 29)).alloc (.cells #[ι 5,ι a.t.c.call,ι a.t.c.inc,ι a.t.c.urg,.string a.t.c.code,.slice a.t.A a.t.c.nodes.length a.t.k,ι a.t.c.dist,ι a.t.c.since,.bool a.t.c.closed,ι a.id,ι a.a,ι a.b,ι a.unit] 36)).alloc (.cells #[.slice none 0 0,.slice none 0 0] 29))
 have HD3:=HD
 generalize ((w.alloc _).alloc _).alloc _=W3 at *
 have Qt:=ħ (HP.out W3 Uu.out (YL.out _ HB3.out))
 obtain ⟨r,hr⟩:∃ r,r=zS v.bk a.t.c.call a.a a.id a.b:=⟨_,rfl⟩
 rw[←hr] at Qt HQ
 have JL:=ħ hr
 clear hr
 obtain ⟨b1,e1⟩:=r
 have x0:=HD3.out.b4.facts
 have y0:=HD3.out.b5.facts
 have z0:=HD3.out.b6.facts
 go_wp2_with (first
  | (go_at_call 16;((with_reducible refine Qt.out.mono ?_);rintro e w4 ⟨rfl,hpi,hf⟩;have ZL:=ħ hpi;have HD4:=ħ (HD3.out.fr_ HL2.out hf);have Kt:=ħ (HQ.out _ HD4.out.fr HD4.out.sz);clear hpi hf x0 y0 z0;have x0:=HD4.out.b4.facts;have y0:=HD4.out.b5.facts;have z0:=HD4.out.b6.facts))
  | (go_at_call 47;((with_reducible refine Kt.out.mono ?_);rintro e w5 ⟨⟨la,AL,cL,lc,AC,cC⟩,rfl,hv5,hb5,hb⟩;have HV5:=ħ hv5;have Q0:=ħ hb5;have HD5:=ħ (HD4.out.below hb);have ZJ:=ħ (ZL.out.below hb);clear hv5 hb5 hb x0 y0 z0;have x0:=HD5.out.b4.facts;have y0:=HD5.out.b5.facts;have z0:=HD5.out.b6.facts)))
 have jK:=((Fr.refl (fun j=>j=w.heap.size) w5).setCell (p:=⟨w.heap.size,0,none⟩) (.inl rfl) (.slice AL la.length cL)).setCell (p:=⟨w.heap.size,1,none⟩) (.inl rfl) (.slice AC lc.length cC)
 obtain ⟨w6,Y3⟩:∃ W,W=(w5.setCell ⟨w.heap.size,0,none⟩ (.slice AL la.length cL)).setCell ⟨w.heap.size,1,none⟩ (.slice AC lc.length cC):=⟨_,rfl⟩
 rw[←Y3] at jK⊢
 clear Y3 x0 y0 z0
 have X8:=ħ (HV5.out.fr jK (fun j hj e=>hj.2.1 e))
 have QG:=ħ (ZJ.out.box HD5.out.b4 (by have:=HL2.out;unfold Bq;omega) jK)
 have Zm:=ħ (HD5.out.b6.fr jK (by show ¬ (w.heap.size+2=w.heap.size);omega))
 have ZR:=ħ (yN HD5.out.fr jK (Nat.le_refl _))
 have Zz:=((Fr.refl (fun j=>j=w.heap.size+2) w6).setCell (p:=⟨w.heap.size+2,0,none⟩) (.inl rfl) (.slice AL la.length cL)).setCell (p:=⟨w.heap.size+2,1,none⟩) (.inl rfl) (.slice AC lc.length cC)
 have ZO:zb ((w6.setCell ⟨w.heap.size+2,0,none⟩ (.slice AL la.length cL)).setCell ⟨w.heap.size+2,1,none⟩ (.slice AC lc.length cC)) (w.heap.size+2) 29 #[.slice AL la.length cL,.slice AC lc.length cC]:=by
  have:=(Zm.out.set_ 0 (.slice AL la.length cL)).set_ 1 (.slice AC lc.length cC)
  simpa using this
 refine bodyPost_ret (za (p:=6) (u:=7) (ty:=29) Tryz.results14 _ _ (w.heap.size+2) 29 #[.slice AL la.length cL,.slice AC lc.length cC] (0,0) _ rfl ZO Tryz.underlying29 rfl zm) rfl ?_
 have hdo:jY v.bk a=b1:=by
  rw[show b1=(zS v.bk a.t.c.call a.a a.id a.b).1 by rw[←JL.out]]
  unfold jY
  simp[UE.out]
 rw[hdo]
 exact ⟨⟨la,AL,cL,lc,AC,cC⟩,rfl,Q0.out,(X8.out.fr Zz (fun j hj e=>hj.2.2 e)).more (fun j hj=>hj.1),QG.out.box Zm.out (by have:=HL2.out;unfold Bq;omega) Zz,yN ZR.out Zz (by omega)⟩
theorem IQ (p mc mi mh:Nat)(b:Bk)(v:Bv)(a:Av)(n:Nat)(w:World)(hk:a.kind=6)(hp0:PI w p mc mi mh b)(hvb:v.bk=b)(D:Nat→Prop)(hD:∀ j,D j→Bq p mc mi mh j)(YR:∀ j,w.heap.size≤j→D j)(hv:zX w D v)(hG:Good n b)(hn:n+1≤1000)(htb:jg w)(ht0:RI w D a.t.A a.t.c.nodes)(hs:a.t.c.code.size≤100000)(hl:a.t.c.nodes.length≤60) :
 Calls Tryz.prog 14 #[.pointer (some ⟨p,0,none⟩),.agg (β v),.agg #[ι a.kind,ι a.t.c.call,ι a.t.c.inc,ι a.t.c.urg,.string a.t.c.code,.slice a.t.A a.t.c.nodes.length a.t.k,ι a.t.c.dist,ι a.t.c.since,.bool a.t.c.closed,ι a.id,ι a.a,ι a.b,ι a.unit]] w (Ff D (jY b a) p mc mi mh w):=by
 have hl2:=hp0.lt
 have hbk:=hvb
 subst hbk
 have HL2:=ħ hl2
 have HG:=ħ hG
 have YL:=ħ (fun (W:World) (hb:Below w.heap.size w W)=>hp0.below hb)
 have HT:=ħ fun (W:World) (hf:Fr (fun _=>False) w W)=>(ht0.old (by omega)).fr hf (fun k hk e=>e)
 have HB:=ħ fun (W:World) (hf:Fr (Sq p mc mi mh) w W)=>(show zX W (fun j=>D j∧j≠w.heap.size∧j≠w.heap.size+2) v from (hv.old.fr hf (fun k hk=>qh (hD k hk.1))).more (fun j hj=>⟨hj.1,by have:=hj.2;omega,by have:=hj.2;omega⟩))
 have KD:=ħ fun (W:World) (hf:Fr (Sq p mc mi mh) w W)=>(show RI W (fun j=>D j∧j≠w.heap.size∧j≠w.heap.size+2) a.t.A a.t.c.nodes from ((ht0.old (by omega)).fr hf (fun k hk=>qh (hD k hk.1))).more (fun j hj=>⟨hj.1,by have:=hj.2;omega,by have:=hj.2;omega⟩))
 have HD:=ħ (D3.new (p:=p) (mc:=mc) (mi:=mi) (mh:=mh) w (β v) #[ι a.kind,ι a.t.c.call,ι a.t.c.inc,ι a.t.c.urg,.string a.t.c.code,.slice a.t.A a.t.c.nodes.length a.t.k,ι a.t.c.dist,ι a.t.c.since,.bool a.t.c.closed,ι a.id,ι a.a,ι a.b,ι a.unit])
 have HP:=ħ fun (W:World) (hf:Fr (fun _=>False) w W) (hp:PI W p mc mi mh v.bk)=>(show Calls Tryz.prog 48 #[.pointer (some ⟨p,0,none⟩),ι a.a,ι a.unit] W (Ji (qN v.bk a.a a.unit) p mc mi mh W) from by
  have hG:=HG.out
  have ht:jg W:=hp0.tab htb (hf.mono (fun _ _ e=>e.elim))
  exact aB p mc mi mh v.bk a.a a.unit W hp (zg.sL hG) (fun x hx=>(zg.vL hG x hx).1))
 have HQ:=ħ fun (W:World) (hf:Fr (Sq p mc mi mh) w W) (hz:w.heap.size+3≤W.heap.size)=>(show Calls Tryz.prog 49 #[.agg (β v),ι a.a,ι a.unit] W (Je (qN v.bk a.a a.unit) (fun j=>D j∧j≠w.heap.size∧j≠w.heap.size+2) W) from by
  have hg:OkG W (fun j=>D j∧j≠w.heap.size∧j≠w.heap.size+2) v n:=⟨HB.out W hf,fun k hk=>⟨YR k (by omega),by omega,by omega⟩,HG.out,hn⟩
  have hr:=KD.out W hf
  exact h_ v a.a a.unit n (fun j=>D j∧j≠w.heap.size∧j≠w.heap.size+2) W hg)
 have JE:=ħ hk
 rw[hk] at HD⊢
 clear hp0 hv hG htb ht0 hk
 have hk:=JE.out
 clear JE
 have UE:=ħ hk
 clear hk
 go_enter Tryz.func14,Tryz.ntmps14
 go_upto_region 1 with fail
 have HB3:=ħ (show Below w.heap.size w (((w.alloc (.cells (β v) 29)).alloc (.cells #[ι 6,ι a.t.c.call,ι a.t.c.inc,ι a.t.c.urg,.string a.t.c.code,.slice a.t.A a.t.c.nodes.length a.t.k,ι a.t.c.dist,ι a.t.c.since,.bool a.t.c.closed,ι a.id,ι a.a,ι a.b,ι a.unit] 36)).alloc (.cells #[.slice none 0 0,.slice none 0 0] 29)) from (((Below.refl _ w).alloc (Nat.le_refl _) _).alloc (by simp) _).alloc (by simp;omega) _)
 have Uu:=ħ ((((Fr.refl (fun _=>False) w).alloc (.cells (β v) 29)).alloc (.cells #[ι 6,ι a.t.c.call,ι a.t.c.inc,ι a.t.c.urg,.string a.t.c.code,.slice a.t.A a.t.c.nodes.length a.t.k,ι a.t.c.dist,ι a.t.c.since,.bool a.t.c.closed,ι a.id,ι a.a,ι a.b,ι a.unit] 36)).alloc (.cells #[.slice none 0 0,.slice none 0 0] 29))
 have HD3:=HD
 generalize ((w.alloc _).alloc _).alloc _=W3 at *
 have Qt:=ħ (HP.out W3 Uu.out (YL.out _ HB3.out))
 obtain ⟨r,hr⟩:∃ r,r=qN v.bk a.a a.unit:=⟨_,rfl⟩
 rw[←hr] at Qt HQ
 have JL:=ħ hr
 clear hr
 obtain ⟨b1,e1⟩:=r
 have x0:=HD3.out.b4.facts
 have y0:=HD3.out.b5.facts
 have z0:=HD3.out.b6.facts
 go_wp2_with (first
  | (go_at_call 48;((with_reducible refine Qt.out.mono ?_);rintro e w4 ⟨rfl,hpi,hf⟩;have ZL:=ħ hpi;have HD4:=ħ (HD3.out.fr_ HL2.out hf);have Kt:=ħ (HQ.out _ HD4.out.fr HD4.out.sz);clear hpi hf x0 y0 z0;have x0:=HD4.out.b4.facts;have y0:=HD4.out.b5.facts;have z0:=HD4.out.b6.facts))
  | (go_at_call 49;((with_reducible refine Kt.out.mono ?_);rintro e w5 ⟨⟨la,AL,cL,lc,AC,cC⟩,rfl,hv5,hb5,hb⟩;have HV5:=ħ hv5;have Q0:=ħ hb5;have HD5:=ħ (HD4.out.below hb);have ZJ:=ħ (ZL.out.below hb);clear hv5 hb5 hb x0 y0 z0;have x0:=HD5.out.b4.facts;have y0:=HD5.out.b5.facts;have z0:=HD5.out.b6.facts)))
 have jK:=((Fr.refl (fun j=>j=w.heap.size) w5).setCell (p:=⟨w.heap.size,0,none⟩) (.inl rfl) (.slice AL la.length cL)).setCell (p:=⟨w.heap.size,1,none⟩) (.inl rfl) (.slice AC lc.length cC)
 obtain ⟨w6,Y3⟩:∃ W,W=(w5.setCell ⟨w.heap.size,0,none⟩ (.slice AL la.length cL)).setCell ⟨w.heap.size,1,none⟩ (.slice AC lc.length cC):=⟨_,rfl⟩
 rw[←Y3] at jK⊢
 clear Y3 x0 y0 z0
 have X8:=ħ (HV5.out.fr jK (fun j hj e=>hj.2.1 e))
 have QG:=ħ (ZJ.out.box HD5.out.b4 (by have:=HL2.out;unfold Bq;omega) jK)
 have Zm:=ħ (HD5.out.b6.fr jK (by show ¬ (w.heap.size+2=w.heap.size);omega))
 have ZR:=ħ (yN HD5.out.fr jK (Nat.le_refl _))
 have Zz:=((Fr.refl (fun j=>j=w.heap.size+2) w6).setCell (p:=⟨w.heap.size+2,0,none⟩) (.inl rfl) (.slice AL la.length cL)).setCell (p:=⟨w.heap.size+2,1,none⟩) (.inl rfl) (.slice AC lc.length cC)
 have ZO:zb ((w6.setCell ⟨w.heap.size+2,0,none⟩ (.slice AL la.length cL)).setCell ⟨w.heap.size+2,1,none⟩ (.slice AC lc.length cC)) (w.heap.size+2) 29 #[.slice AL la.length cL,.slice AC lc.length cC]:=by
  have:=(Zm.out.set_ 0 (.slice AL la.length cL)).set_ 1 (.slice AC lc.length cC)
  simpa using this
 refine bodyPost_ret (za (p:=6) (u:=7) (ty:=29) Tryz.results14 _ _ (w.heap.size+2) 29 #[.slice AL la.length cL,.slice AC lc.length cC] (0,0) _ rfl ZO Tryz.underlying29 rfl zm) rfl ?_
 have hdo:jY v.bk a=b1:=by
  rw[show b1=(qN v.bk a.a a.unit).1 by rw[←JL.out]]
  unfold jY
  simp[UE.out]
 rw[hdo]
 exact ⟨⟨la,AL,cL,lc,AC,cC⟩,rfl,Q0.out,(X8.out.fr Zz (fun j hj e=>hj.2.2 e)).more (fun j hj=>hj.1),QG.out.box Zm.out (by have:=HL2.out;unfold Bq;omega) Zz,yN ZR.out Zz (by omega)⟩
theorem wB (p mc mi mh:Nat)(b:Bk)(v:Bv)(a:Av)(n:Nat)(w:World)(hk:a.kind=7)(hp0:PI w p mc mi mh b)(hvb:v.bk=b)(D:Nat→Prop)(hD:∀ j,D j→Bq p mc mi mh j)(YR:∀ j,w.heap.size≤j→D j)(hv:zX w D v)(hG:Good n b)(hn:n+1≤1000)(htb:jg w)(ht0:RI w D a.t.A a.t.c.nodes)(hs:a.t.c.code.size≤100000)(hl:a.t.c.nodes.length≤60) :
 Calls Tryz.prog 14 #[.pointer (some ⟨p,0,none⟩),.agg (β v),.agg #[ι a.kind,ι a.t.c.call,ι a.t.c.inc,ι a.t.c.urg,.string a.t.c.code,.slice a.t.A a.t.c.nodes.length a.t.k,ι a.t.c.dist,ι a.t.c.since,.bool a.t.c.closed,ι a.id,ι a.a,ι a.b,ι a.unit]] w (Ff D (jY b a) p mc mi mh w):=by
 have hl2:=hp0.lt
 have hbk:=hvb
 subst hbk
 have HL2:=ħ hl2
 have HG:=ħ hG
 have YL:=ħ (fun (W:World) (hb:Below w.heap.size w W)=>hp0.below hb)
 have HT:=ħ fun (W:World) (hf:Fr (fun _=>False) w W)=>(ht0.old (by omega)).fr hf (fun k hk e=>e)
 have HB:=ħ fun (W:World) (hf:Fr (Sq p mc mi mh) w W)=>(show zX W (fun j=>D j∧j≠w.heap.size∧j≠w.heap.size+2) v from (hv.old.fr hf (fun k hk=>qh (hD k hk.1))).more (fun j hj=>⟨hj.1,by have:=hj.2;omega,by have:=hj.2;omega⟩))
 have KD:=ħ fun (W:World) (hf:Fr (Sq p mc mi mh) w W)=>(show RI W (fun j=>D j∧j≠w.heap.size∧j≠w.heap.size+2) a.t.A a.t.c.nodes from ((ht0.old (by omega)).fr hf (fun k hk=>qh (hD k hk.1))).more (fun j hj=>⟨hj.1,by have:=hj.2;omega,by have:=hj.2;omega⟩))
 have HD:=ħ (D3.new (p:=p) (mc:=mc) (mi:=mi) (mh:=mh) w (β v) #[ι a.kind,ι a.t.c.call,ι a.t.c.inc,ι a.t.c.urg,.string a.t.c.code,.slice a.t.A a.t.c.nodes.length a.t.k,ι a.t.c.dist,ι a.t.c.since,.bool a.t.c.closed,ι a.id,ι a.a,ι a.b,ι a.unit])
 have HP:=ħ fun (W:World) (hf:Fr (fun _=>False) w W) (hp:PI W p mc mi mh v.bk)=>(show Calls Tryz.prog 50 #[.pointer (some ⟨p,0,none⟩),ι a.a,ι a.unit] W (Ji (qI v.bk a.a a.unit) p mc mi mh W) from by
  have hG:=HG.out
  have ht:jg W:=hp0.tab htb (hf.mono (fun _ _ e=>e.elim))
  exact EK p mc mi mh v.bk a.a a.unit W hp (zg.sL hG) (fun x hx=>(zg.vL hG x hx).1) (zg.un hG))
 have HQ:=ħ fun (W:World) (hf:Fr (Sq p mc mi mh) w W) (hz:w.heap.size+3≤W.heap.size)=>(show Calls Tryz.prog 51 #[.agg (β v),ι a.a,ι a.unit] W (Je (qI v.bk a.a a.unit) (fun j=>D j∧j≠w.heap.size∧j≠w.heap.size+2) W) from by
  have hg:OkG W (fun j=>D j∧j≠w.heap.size∧j≠w.heap.size+2) v n:=⟨HB.out W hf,fun k hk=>⟨YR k (by omega),by omega,by omega⟩,HG.out,hn⟩
  have hr:=KD.out W hf
  exact bQ v a.a a.unit n (fun j=>D j∧j≠w.heap.size∧j≠w.heap.size+2) W hg)
 have JE:=ħ hk
 rw[hk] at HD⊢
 clear hp0 hv hG htb ht0 hk
 have hk:=JE.out
 clear JE
 have UE:=ħ hk
 clear hk
 go_enter Tryz.func14,Tryz.ntmps14
 go_upto_region 1 with fail
 have HB3:=ħ (show Below w.heap.size w (((w.alloc (.cells (β v) 29)).alloc (.cells #[ι 7,ι a.t.c.call,ι a.t.c.inc,ι a.t.c.urg,.string a.t.c.code,.slice a.t.A a.t.c.nodes.length a.t.k,ι a.t.c.dist,ι a.t.c.since,.bool a.t.c.closed,ι a.id,ι a.a,ι a.b,ι a.unit] 36)).alloc (.cells #[.slice none 0 0,.slice none 0 0] 29)) from (((Below.refl _ w).alloc (Nat.le_refl _) _).alloc (by simp) _).alloc (by simp;omega) _)
 have Uu:=ħ ((((Fr.refl (fun _=>False) w).alloc (.cells (β v) 29)).alloc (.cells #[ι 7,ι a.t.c.call,ι a.t.c.inc,ι a.t.c.urg,.string a.t.c.code,.slice a.t.A a.t.c.nodes.length a.t.k,ι a.t.c.dist,ι a.t.c.since,.bool a.t.c.closed,ι a.id,ι a.a,ι a.b,ι a.unit] 36)).alloc (.cells #[.slice none 0 0,.slice none 0 0] 29))
 have HD3:=HD
 generalize ((w.alloc _).alloc _).alloc _=W3 at *
 have Qt:=ħ (HP.out W3 Uu.out (YL.out _ HB3.out))
 obtain ⟨r,hr⟩:∃ r,r=qI v.bk a.a a.unit:=⟨_,rfl⟩
 rw[←hr] at Qt HQ
 have JL:=ħ hr
 clear hr
 obtain ⟨b1,e1⟩:=r
 have x0:=HD3.out.b4.facts
 have y0:=HD3.out.b5.facts
 have z0:=HD3.out.b6.facts
 go_wp2_with (first
  | (go_at_call 50;((with_reducible refine Qt.out.mono ?_);rintro e w4 ⟨rfl,hpi,hf⟩;have ZL:=ħ hpi;have HD4:=ħ (HD3.out.fr_ HL2.out hf);have Kt:=ħ (HQ.out _ HD4.out.fr HD4.out.sz);clear hpi hf x0 y0 z0;have x0:=HD4.out.b4.facts;have y0:=HD4.out.b5.facts;have z0:=HD4.out.b6.facts))
  | (go_at_call 51;((with_reducible refine Kt.out.mono ?_);rintro e w5 ⟨⟨la,AL,cL,lc,AC,cC⟩,rfl,hv5,hb5,hb⟩;have HV5:=ħ hv5;have Q0:=ħ hb5;have HD5:=ħ (HD4.out.below hb);have ZJ:=ħ (ZL.out.below hb);clear hv5 hb5 hb x0 y0 z0;have x0:=HD5.out.b4.facts;have y0:=HD5.out.b5.facts;have z0:=HD5.out.b6.facts)))
 have jK:=((Fr.refl (fun j=>j=w.heap.size) w5).setCell (p:=⟨w.heap.size,0,none⟩) (.inl rfl) (.slice AL la.length cL)).setCell (p:=⟨w.heap.size,1,none⟩) (.inl rfl) (.slice AC lc.length cC)
 obtain ⟨w6,Y3⟩:∃ W,W=(w5.setCell ⟨w.heap.size,0,none⟩ (.slice AL la.length cL)).setCell ⟨w.heap.size,1,none⟩ (.slice AC lc.length cC):=⟨_,rfl⟩
 rw[←Y3] at jK⊢
 clear Y3 x0 y0 z0
 have X8:=ħ (HV5.out.fr jK (fun j hj e=>hj.2.1 e))
 have QG:=ħ (ZJ.out.box HD5.out.b4 (by have:=HL2.out;unfold Bq;omega) jK)
 have Zm:=ħ (HD5.out.b6.fr jK (by show ¬ (w.heap.size+2=w.heap.size);omega))
 have ZR:=ħ (yN HD5.out.fr jK (Nat.le_refl _))
 have Zz:=((Fr.refl (fun j=>j=w.heap.size+2) w6).setCell (p:=⟨w.heap.size+2,0,none⟩) (.inl rfl) (.slice AL la.length cL)).setCell (p:=⟨w.heap.size+2,1,none⟩) (.inl rfl) (.slice AC lc.length cC)
 have ZO:zb ((w6.setCell ⟨w.heap.size+2,0,none⟩ (.slice AL la.length cL)).setCell ⟨w.heap.size+2,1,none⟩ (.slice AC lc.length cC)) (w.heap.size+2) 29 #[.slice AL la.length cL,.slice AC lc.length cC]:=by
  have:=(Zm.out.set_ 0 (.slice AL la.length cL)).set_ 1 (.slice AC lc.length cC)
  simpa using this
 refine bodyPost_ret (za (p:=6) (u:=7) (ty:=29) Tryz.results14 _ _ (w.heap.size+2) 29 #[.slice AL la.length cL,.slice AC lc.length cC] (0,0) _ rfl ZO Tryz.underlying29 rfl zm) rfl ?_
 have hdo:jY v.bk a=b1:=by
  rw[show b1=(qI v.bk a.a a.unit).1 by rw[←JL.out]]
  unfold jY
  simp[UE.out]
 rw[hdo]
 exact ⟨⟨la,AL,cL,lc,AC,cC⟩,rfl,Q0.out,(X8.out.fr Zz (fun j hj e=>hj.2.2 e)).more (fun j hj=>hj.1),QG.out.box Zm.out (by have:=HL2.out;unfold Bq;omega) Zz,yN ZR.out Zz (by omega)⟩
theorem wP (p mc mi mh:Nat)(b:Bk)(v:Bv)(a:Av)(n:Nat)(w:World)(hk:a.kind=8)(hp0:PI w p mc mi mh b)(hvb:v.bk=b)(D:Nat→Prop)(hD:∀ j,D j→Bq p mc mi mh j)(YR:∀ j,w.heap.size≤j→D j)(hv:zX w D v)(hG:Good n b)(hn:n+1≤1000)(htb:jg w)(ht0:RI w D a.t.A a.t.c.nodes)(hs:a.t.c.code.size≤100000)(hl:a.t.c.nodes.length≤60) :
 Calls Tryz.prog 14 #[.pointer (some ⟨p,0,none⟩),.agg (β v),.agg #[ι a.kind,ι a.t.c.call,ι a.t.c.inc,ι a.t.c.urg,.string a.t.c.code,.slice a.t.A a.t.c.nodes.length a.t.k,ι a.t.c.dist,ι a.t.c.since,.bool a.t.c.closed,ι a.id,ι a.a,ι a.b,ι a.unit]] w (Ff D (jY b a) p mc mi mh w):=by
 have hl2:=hp0.lt
 have hbk:=hvb
 subst hbk
 have HL2:=ħ hl2
 have HG:=ħ hG
 have YL:=ħ (fun (W:World) (hb:Below w.heap.size w W)=>hp0.below hb)
 have HT:=ħ fun (W:World) (hf:Fr (fun _=>False) w W)=>(ht0.old (by omega)).fr hf (fun k hk e=>e)
 have HB:=ħ fun (W:World) (hf:Fr (Sq p mc mi mh) w W)=>(show zX W (fun j=>D j∧j≠w.heap.size∧j≠w.heap.size+2) v from (hv.old.fr hf (fun k hk=>qh (hD k hk.1))).more (fun j hj=>⟨hj.1,by have:=hj.2;omega,by have:=hj.2;omega⟩))
 have KD:=ħ fun (W:World) (hf:Fr (Sq p mc mi mh) w W)=>(show RI W (fun j=>D j∧j≠w.heap.size∧j≠w.heap.size+2) a.t.A a.t.c.nodes from ((ht0.old (by omega)).fr hf (fun k hk=>qh (hD k hk.1))).more (fun j hj=>⟨hj.1,by have:=hj.2;omega,by have:=hj.2;omega⟩))
 have HD:=ħ (D3.new (p:=p) (mc:=mc) (mi:=mi) (mh:=mh) w (β v) #[ι a.kind,ι a.t.c.call,ι a.t.c.inc,ι a.t.c.urg,.string a.t.c.code,.slice a.t.A a.t.c.nodes.length a.t.k,ι a.t.c.dist,ι a.t.c.since,.bool a.t.c.closed,ι a.id,ι a.a,ι a.b,ι a.unit])
 have HP:=ħ fun (W:World) (hf:Fr (fun _=>False) w W) (hp:PI W p mc mi mh v.bk)=>(show Calls Tryz.prog 52 #[.pointer (some ⟨p,0,none⟩),ι a.a] W (Ji (yI v.bk a.a) p mc mi mh W) from by
  have hG:=HG.out
  have ht:jg W:=hp0.tab htb (hf.mono (fun _ _ e=>e.elim))
  exact aD p mc mi mh v.bk a.a W hp (zg.sC hG) (zg.sL hG) (fun x hx=>(zg.vL hG x hx).1) (zg.un hG) (Good.cs hG))
 have HQ:=ħ fun (W:World) (hf:Fr (Sq p mc mi mh) w W) (hz:w.heap.size+3≤W.heap.size)=>(show Calls Tryz.prog 53 #[.agg (β v),ι a.a] W (Je (yI v.bk a.a) (fun j=>D j∧j≠w.heap.size∧j≠w.heap.size+2) W) from by
  have hg:OkG W (fun j=>D j∧j≠w.heap.size∧j≠w.heap.size+2) v n:=⟨HB.out W hf,fun k hk=>⟨YR k (by omega),by omega,by omega⟩,HG.out,hn⟩
  have hr:=KD.out W hf
  exact lS v a.a n (fun j=>D j∧j≠w.heap.size∧j≠w.heap.size+2) W hg)
 have JE:=ħ hk
 rw[hk] at HD⊢
 clear hp0 hv hG htb ht0 hk
 have hk:=JE.out
 clear JE
 have UE:=ħ hk
 clear hk
 go_enter Tryz.func14,Tryz.ntmps14
 go_upto_region 1 with fail
 have HB3:=ħ (show Below w.heap.size w (((w.alloc (.cells (β v) 29)).alloc (.cells #[ι 8,ι a.t.c.call,ι a.t.c.inc,ι a.t.c.urg,.string a.t.c.code,.slice a.t.A a.t.c.nodes.length a.t.k,ι a.t.c.dist,ι a.t.c.since,.bool a.t.c.closed,ι a.id,ι a.a,ι a.b,ι a.unit] 36)).alloc (.cells #[.slice none 0 0,.slice none 0 0] 29)) from (((Below.refl _ w).alloc (Nat.le_refl _) _).alloc (by simp) _).alloc (by simp;omega) _)
 have Uu:=ħ ((((Fr.refl (fun _=>False) w).alloc (.cells (β v) 29)).alloc (.cells #[ι 8,ι a.t.c.call,ι a.t.c.inc,ι a.t.c.urg,.string a.t.c.code,.slice a.t.A a.t.c.nodes.length a.t.k,ι a.t.c.dist,ι a.t.c.since,.bool a.t.c.closed,ι a.id,ι a.a,ι a.b,ι a.unit] 36)).alloc (.cells #[.slice none 0 0,.slice none 0 0] 29))
 have HD3:=HD
 generalize ((w.alloc _).alloc _).alloc _=W3 at *
 have Qt:=ħ (HP.out W3 Uu.out (YL.out _ HB3.out))
 obtain ⟨r,hr⟩:∃ r,r=yI v.bk a.a:=⟨_,rfl⟩
 rw[←hr] at Qt HQ
 have JL:=ħ hr
 clear hr
 obtain ⟨b1,e1⟩:=r
 have x0:=HD3.out.b4.facts
 have y0:=HD3.out.b5.facts
 have z0:=HD3.out.b6.facts
 go_wp2_with (first
  | (go_at_call 52;((with_reducible refine Qt.out.mono ?_);rintro e w4 ⟨rfl,hpi,hf⟩;have ZL:=ħ hpi;have HD4:=ħ (HD3.out.fr_ HL2.out hf);have Kt:=ħ (HQ.out _ HD4.out.fr HD4.out.sz);clear hpi hf x0 y0 z0;have x0:=HD4.out.b4.facts;have y0:=HD4.out.b5.facts;have z0:=HD4.out.b6.facts))
  | (go_at_call 53;((with_reducible refine Kt.out.mono ?_);rintro e w5 ⟨⟨la,AL,cL,lc,AC,cC⟩,rfl,hv5,hb5,hb⟩;have HV5:=ħ hv5;have Q0:=ħ hb5;have HD5:=ħ (HD4.out.below hb);have ZJ:=ħ (ZL.out.below hb);clear hv5 hb5 hb x0 y0 z0;have x0:=HD5.out.b4.facts;have y0:=HD5.out.b5.facts;have z0:=HD5.out.b6.facts)))
 have jK:=((Fr.refl (fun j=>j=w.heap.size) w5).setCell (p:=⟨w.heap.size,0,none⟩) (.inl rfl) (.slice AL la.length cL)).setCell (p:=⟨w.heap.size,1,none⟩) (.inl rfl) (.slice AC lc.length cC)
 obtain ⟨w6,Y3⟩:∃ W,W=(w5.setCell ⟨w.heap.size,0,none⟩ (.slice AL la.length cL)).setCell ⟨w.heap.size,1,none⟩ (.slice AC lc.length cC):=⟨_,rfl⟩
 rw[←Y3] at jK⊢
 clear Y3 x0 y0 z0
 have X8:=ħ (HV5.out.fr jK (fun j hj e=>hj.2.1 e))
 have QG:=ħ (ZJ.out.box HD5.out.b4 (by have:=HL2.out;unfold Bq;omega) jK)
 have Zm:=ħ (HD5.out.b6.fr jK (by show ¬ (w.heap.size+2=w.heap.size);omega))
 have ZR:=ħ (yN HD5.out.fr jK (Nat.le_refl _))
 have Zz:=((Fr.refl (fun j=>j=w.heap.size+2) w6).setCell (p:=⟨w.heap.size+2,0,none⟩) (.inl rfl) (.slice AL la.length cL)).setCell (p:=⟨w.heap.size+2,1,none⟩) (.inl rfl) (.slice AC lc.length cC)
 have ZO:zb ((w6.setCell ⟨w.heap.size+2,0,none⟩ (.slice AL la.length cL)).setCell ⟨w.heap.size+2,1,none⟩ (.slice AC lc.length cC)) (w.heap.size+2) 29 #[.slice AL la.length cL,.slice AC lc.length cC]:=by
  have:=(Zm.out.set_ 0 (.slice AL la.length cL)).set_ 1 (.slice AC lc.length cC)
  simpa using this
 refine bodyPost_ret (za (p:=6) (u:=7) (ty:=29) Tryz.results14 _ _ (w.heap.size+2) 29 #[.slice AL la.length cL,.slice AC lc.length cC] (0,0) _ rfl ZO Tryz.underlying29 rfl zm) rfl ?_
 have hdo:jY v.bk a=b1:=by
  rw[show b1=(yI v.bk a.a).1 by rw[←JL.out]]
  unfold jY
  simp[UE.out]
 rw[hdo]
 exact ⟨⟨la,AL,cL,lc,AC,cC⟩,rfl,Q0.out,(X8.out.fr Zz (fun j hj e=>hj.2.2 e)).more (fun j hj=>hj.1),QG.out.box Zm.out (by have:=HL2.out;unfold Bq;omega) Zz,yN ZR.out Zz (by omega)⟩
theorem Ab (p mc mi mh:Nat)(b:Bk)(v:Bv)(a:Av)(n:Nat)(w:World)(hk:∀ i:Int,0≤i→i≤8→¬ a.kind=i)(hp0:PI w p mc mi mh b)(hvb:v.bk=b)(D:Nat→Prop)(hD:∀ j,D j→Bq p mc mi mh j)(YR:∀ j,w.heap.size≤j→D j)(hv:zX w D v)(hG:Good n b)(hn:n+1≤1000)(htb:jg w)(ht0:RI w D a.t.A a.t.c.nodes)(hs:a.t.c.code.size≤100000)(hl:a.t.c.nodes.length≤60) :
 Calls Tryz.prog 14 #[.pointer (some ⟨p,0,none⟩),.agg (β v),.agg (φ a)] w (Ff D (jY b a) p mc mi mh w):=by
 have hl2:=hp0.lt
 have hdo:jY v.bk a=v.bk:=by
  unfold jY
  rw[if_neg (hk 0 (by omega) (by omega)),if_neg (hk 1 (by omega) (by omega)),if_neg (hk 2 (by omega) (by omega)),if_neg (hk 3 (by omega) (by omega)),if_neg (hk 4 (by omega) (by omega)),if_neg (hk 5 (by omega) (by omega)),if_neg (hk 6 (by omega) (by omega)),if_neg (hk 7 (by omega) (by omega)),if_neg (hk 8 (by omega) (by omega))]
 have d0:(a.kind == 0)=false:=by simpa using hk 0 (by omega) (by omega)
 have d1:(a.kind == 1)=false:=by simpa using hk 1 (by omega) (by omega)
 have d2:(a.kind == 2)=false:=by simpa using hk 2 (by omega) (by omega)
 have d3:(a.kind == 3)=false:=by simpa using hk 3 (by omega) (by omega)
 have d4:(a.kind == 4)=false:=by simpa using hk 4 (by omega) (by omega)
 have d5:(a.kind == 5)=false:=by simpa using hk 5 (by omega) (by omega)
 have d6:(a.kind == 6)=false:=by simpa using hk 6 (by omega) (by omega)
 have d7:(a.kind == 7)=false:=by simpa using hk 7 (by omega) (by omega)
 have d8:(a.kind == 8)=false:=by simpa using hk 8 (by omega) (by omega)
 rw[←hvb,hdo]
 have HL2:=ħ hl2
 have fu:=ħ (show zX w (fun j=>D j∧j<w.heap.size) v from hv.old)
 have Ou:=ħ (hvb ▸ hp0)
 have HD:=ħ (D3.new (p:=p) (mc:=mc) (mi:=mi) (mh:=mh) w (β v) (φ a))
 have HB3:=ħ (show Below w.heap.size w (((w.alloc (.cells (β v) 29)).alloc (.cells (φ a) 36)).alloc (.cells #[.slice none 0 0,.slice none 0 0] 29)) from (((Below.refl _ w).alloc (Nat.le_refl _) _).alloc (by simp) _).alloc (by simp;omega) _)
 clear hp0 hv hk hdo hl2 hvb
 go_enter Tryz.func14,Tryz.ntmps14
 go_upto_region 1 with fail
 have HD3:=HD
 generalize ((w.alloc _).alloc _).alloc _=W3 at *
 have x0:=HD3.out.b4.facts
 have y0:=HD3.out.b5.facts
 have z0:=HD3.out.b6.facts
 go_wp2_with fail
 clear x0 y0 z0
 have Zz:=((Fr.refl (fun j=>j=w.heap.size+2) W3).setCell (p:=⟨w.heap.size+2,0,none⟩) (.inl rfl) (.slice v.AL v.la.length v.cL)).setCell (p:=⟨w.heap.size+2,1,none⟩) (.inl rfl) (.slice v.AC v.lc.length v.cC)
 have ZO:zb ((W3.setCell ⟨w.heap.size+2,0,none⟩ (.slice v.AL v.la.length v.cL)).setCell ⟨w.heap.size+2,1,none⟩ (.slice v.AC v.lc.length v.cC)) (w.heap.size+2) 29 (β v):=by
  have:=(HD3.out.b6.set_ 0 (.slice v.AL v.la.length v.cL)).set_ 1 (.slice v.AC v.lc.length v.cC)
  simpa using this
 refine bodyPost_ret (za (p:=6) (u:=7) (ty:=29) Tryz.results14 _ _ (w.heap.size+2) 29 (β v) (0,0) _ rfl ZO Tryz.underlying29 rfl zm) rfl ?_
 exact ⟨v,rfl,rfl,((fu.out.below0 HB3.out).fr Zz (fun j hj e=>by have e2:j=w.heap.size+2:=e;have:=hj.2;omega)).more (fun j hj=>hj.1),(Ou.out.below HB3.out).box HD3.out.b6 (by have:=HL2.out;unfold Bq;omega) Zz,yN HD3.out.fr Zz (by omega)⟩
theorem EL (p mc mi mh:Nat)(b:Bk)(v:Bv)(a:Av)(n:Nat)(w:World)(hp0:PI w p mc mi mh b)(hvb:v.bk=b)(D:Nat→Prop)(hD:∀ j,D j→Bq p mc mi mh j)(YR:∀ j,w.heap.size≤j→D j)(hv:zX w D v)(hG:Good n b)(hn:n+1≤1000)(htb:jg w)(ht0:RI w D a.t.A a.t.c.nodes)(hs:a.t.c.code.size≤100000)(hl:a.t.c.nodes.length≤60) :
 Calls Tryz.prog 14 #[.pointer (some ⟨p,0,none⟩),.agg (β v),.agg (φ a)] w (Ff D (jY b a) p mc mi mh w):=by
 by_cases h0:a.kind=0
 ·exact Cb p mc mi mh b v a n w h0 hp0 hvb D hD YR hv hG hn htb ht0 hs hl
 by_cases h1:a.kind=1
 ·exact IK p mc mi mh b v a n w h1 hp0 hvb D hD YR hv hG hn htb ht0 hs hl
 by_cases h2:a.kind=2
 ·exact IX p mc mi mh b v a n w h2 hp0 hvb D hD YR hv hG hn htb ht0 hs hl
 by_cases h3:a.kind=3
 ·exact wN p mc mi mh b v a n w h3 hp0 hvb D hD YR hv hG hn htb ht0 hs hl
 by_cases h4:a.kind=4
 ·exact Ie p mc mi mh b v a n w h4 hp0 hvb D hD YR hv hG hn htb ht0 hs hl
 by_cases h5:a.kind=5
 ·exact z0A p mc mi mh b v a n w h5 hp0 hvb D hD YR hv hG hn htb ht0 hs hl
 by_cases h6:a.kind=6
 ·exact IQ p mc mi mh b v a n w h6 hp0 hvb D hD YR hv hG hn htb ht0 hs hl
 by_cases h7:a.kind=7
 ·exact wB p mc mi mh b v a n w h7 hp0 hvb D hD YR hv hG hn htb ht0 hs hl
 by_cases h8:a.kind=8
 ·exact wP p mc mi mh b v a n w h8 hp0 hvb D hD YR hv hG hn htb ht0 hs hl
 exact Ab p mc mi mh b v a n w (fun i h1 h2 e=>by omega) hp0 hvb D hD YR hv hG hn htb ht0 hs hl
theorem kY {n:Nat}{b:Bk}(h:Good n b)(hn:n+1≤1000){a:Av}(hl:a.t.c.nodes.length≤60):Good (n+1) (jY b a):=by
 have hm:∀ {b2:Bk},Good n b2→Good (n+1) b2:=fun h=>zg.mono h (Nat.le_succ _)
 unfold jY
 split
 ·exact U2 h hl a.id
 ·split
  ·exact Um h hn hl a.a
  ·split
   ·exact DW h hn hl
   ·split
    ·exact hm (Hg h _)
    ·split
     ·exact hm (XW h (by omega) _ _)
     ·split
      ·exact Ub h hn _ _ _ _
      ·split
       ·exact hm (FY h _ _)
       ·split
        ·exact hm (ug h _ _)
        ·split
         ·exact hm (Gr h _)
         ·exact hm h
def jU (t:Cr):Bool:=decide (t.nodes.length≤60) && decide (t.code.size≤100)
theorem dF (t:Ca)(w:World):Calls Tryz.prog 35 #[.agg (χ t.c t.A t.k)] w (qX (jU t.c) w):=by
 have x0:=(zb.new w 34 (χ t.c t.A t.k)).facts
 have hb:=(Below.refl w.heap.size w).alloc (Nat.le_refl _) (.cells (χ t.c t.A t.k) 34)
 unfold jU
 by_cases h1:t.c.nodes.length≤60
 ·have i1:(t.c.nodes.length:Int)≤60:=by omega
  rw[decide_eq_true h1]
  by_cases h2:t.c.code.size≤100
  ·have i2:(t.c.code.size:Int)≤100:=by omega
   rw[decide_eq_true h2]
   clear h1 h2
   go_enter Tryz.func35,Tryz.ntmps35
   go_wp2_with fail
   go_ret
   exact ⟨by first | rfl | simp_all,hb⟩
  ·have i2:¬ (t.c.code.size:Int)≤100:=by omega
   rw[decide_eq_false h2]
   clear h1 h2
   go_enter Tryz.func35,Tryz.ntmps35
   go_wp2_with fail
   go_ret
   exact ⟨by first | rfl | simp_all,hb⟩
 ·have i1:¬ (t.c.nodes.length:Int)≤60:=by omega
  rw[decide_eq_false h1]
  clear h1
  go_enter Tryz.func35,Tryz.ntmps35
  go_wp2_with fail
  go_ret
  exact ⟨by first | rfl | simp_all,hb⟩
end Go.Proofs.YtdhcjhfgibmhfaaGreatDoor

import Derived.Test.YtdfobfjpkjddpaaGreatUG24
set_option linter.unusedVariables false
set_option linter.unusedSimpArgs false
set_option maxRecDepth 10000
set_option maxHeartbeats 8000000
namespace Go.Proofs.YtdfobfjpkjddpaaGreat
open Go.RowKit Go.Own Go.Quo Go.Wire Go.Raft
attribute [local irreducible] Go.wpQuiet
theorem termAt_big (w:World)(Z:Nat→Prop)(g:Nat)(L:List Ent)(n:Int)(h:LS w Z g L)(hl:L.length≤1000000)(hn:n≤4000000000000000000)(r:Int)(ok:Bool)(hr:(termAt L n).getD 0=r)(hk:(termAt L n).isSome=ok) :
 Calls Tryz.prog 111 #[.pointer (some ⟨g,0,none⟩),.int .i64 n] w fun e w'=>e=.returned (.tuple #[.int .i64 r,.bool ok])∧Below w.heap.size w w':=by
 rcases Int.lt_or_le 1000000 n with h1 | h1
 ·obtain ⟨A,c,es,h,rfl⟩:=h
  obtain ⟨q0,q1,q2⟩:=h.b.facts
  rw[List.length_map] at hl
  subst hr hk
  have:termAt (es.map EV.e) n=none:=by
   unfold termAt
   rw[if_neg (by omega),if_neg (by omega),List.getElem?_eq_none (by rw[List.length_map];omega)];rfl
  have h2:(es.length:Int)<n:=by omega
  have h3:¬ n<0:=by omega
  rw[this]
  clear this h hl
  generalize es.length=N at *
  go_enter Tryz.func111,Tryz.ntmps111
  go_wp2
  exact bodyPost_ret (v:=.tuple #[.int .i64 0,.bool false]) (by simp[results,Tryz.results111,go_sem]) rfl ⟨rfl,Below.refl _ _⟩
 ·exact termAt_any w Z g L n h hl h1 r ok hr hk
def MtI (L:List Ent)(p0:Nat)(com:Int)(es:List Ent)(i:Nat):Prop:=∀ j,j<i→com<(p0:Int)+1+j∨L[p0+j]?=es[j]?
theorem matches_iff (s:Nd)(m:Msg)(p0:Nat)(hp:m.prev=p0):s.matchesB m=true↔termAt s.log m.prev=some m.pterm∧MtI s.log p0 s.commit m.es m.es.length:=by
 unfold Nd.matchesB MtI
 rw[Bool.and_eq_true,decide_eq_true_eq,List.all_eq_true,hp]
 refine and_congr Iff.rfl ⟨fun h j hj=>?_,fun h j hj=>?_⟩
 ·have:=h j (List.mem_range.2 hj)
  rw[Bool.or_eq_true,decide_eq_true_eq,decide_eq_true_eq,Int.toNat_natCast] at this
  exact this
 ·have:=h j (List.mem_range.1 hj)
  rw[Bool.or_eq_true,decide_eq_true_eq,decide_eq_true_eq,Int.toNat_natCast]
  exact this
section
variable (w:World) (col:Nat→Nat) (p v j l f:Nat) (s:Nd) (un:Bool) (outs:List Msg) (h:NS w col p v j l f s un outs)
include h
theorem matches133 (hll:s.log.length≤40000)(hsm:Sm s.log)(hcm:s.commit≤40000)(y:MV)(B:Nat→Prop)(hE:ES w B y.A y.es)(hb:∀ x∈y.es,Bytes x.b)(hl:y.es.length≤16)(hp:0≤y.prev∧y.prev≤MT) :
 Calls Tryz.prog 133 #[.pointer (some ⟨p,0,none⟩),mvV y] w fun e w'=>e=.returned (.bool (s.matchesB y.m))∧Below w.heap.size w w':=by
 obtain ⟨kind,frm,tt,term,prev,pterm,commit,granted,A,c,es⟩:=y
 simp only at hE hb hl hp
 unfold MT at hp
 obtain ⟨p0,rfl⟩:∃ p0:Nat,prev=(p0:Int):=⟨prev.toNat,by omega⟩
 have HM:=ħ (matches_iff s (MV.m ⟨kind,frm,tt,term,(p0:Int),pterm,commit,granted,A,c,es⟩) p0 rfl)
 simp only[MV.m,List.length_map] at HM
 show Calls Tryz.prog 133 #[.pointer (some ⟨p,0,none⟩),.agg (mvC kind frm tt term (p0:Int) pterm commit granted A es.length c)] w fun e w'=>e=.returned (.bool (s.matchesB ⟨kind,frm,tt,term,(p0:Int),pterm,commit,granted,es.map EV.e⟩))∧Below w.heap.size w w'
 generalize hq:s.matchesB ⟨kind,frm,tt,term,(p0:Int),pterm,commit,granted,es.map EV.e⟩=q at *
 clear hq
 have b1:Below w.heap.size w (w.alloc (.cells (mvC kind frm tt term (p0:Int) pterm commit granted A es.length c) 99)):=(Below.refl _ _).alloc (Nat.le_refl _) _
 have g1:Blk (w.alloc (.cells (mvC kind frm tt term (p0:Int) pterm commit granted A es.length c) 99)) w.heap.size 99 (mvC kind frm tt term (p0:Int) pterm commit granted A es.length c):=Blk.new w 99 _
 have K1:=ħ (KB.start h b1 g1 (Nat.le_refl _))
 have HE1:=ħ (hE.old.below b1 (fun _ h=>h.2))
 have HB1:=ħ b1
 have HL:=ħ hll
 clear h b1 g1 hE
 go_enter Tryz.func133,Tryz.ntmps133
 go_upto_region 1 with (fail)
 generalize w.alloc (.cells (mvC kind frm tt term (p0:Int) pterm commit granted A es.length c) 99)=W1 at *
 obtain ⟨r,hr⟩:∃ r,(termAt s.log (p0:Int)).getD 0=r:=⟨_,rfl⟩
 obtain ⟨ok,hok⟩:∃ ok,(termAt s.log (p0:Int)).isSome=ok:=⟨_,rfl⟩
 have H111:=ħ fun W (hb:Below W1.heap.size W1 W)=>termAt_big W _ l s.log (p0:Int) (K1.out.n.n.below hb).ls (by omega) (by omega) r ok hr hok
 have HK:=ħ fun W (hb:Below W1.heap.size W1 W)=>(show (W.cell? ⟨p,5,none⟩=some (.pointer (some ⟨l,0,none⟩)))∧(W.cell? ⟨w.heap.size,4,none⟩=some (.int .i64 (p0:Int))) from ⟨(K1.out.below hb).n.n.x.2.2.2.2.2.2.2.1,(K1.out.below hb).k.cell 4⟩)
 have HR:=ħ hr
 have HO:=ħ hok
 clear hr hok
 refine wp_region_quiet (C:=fun w'=>Below W1.heap.size W1 w') (by kernel_rfl) (by kernel_rfl) ((Below.refl _ _).drew) ?_
 repeat (refine wpQuiet_step (fun K hK=>?_);have HKK:=ħ hK;clear hK;first | (refine ite_no ?_ ?_;(focus (clear HKK K;go_simp;done));go_simp;refine HKK.out _ ?_;clear HKK K) | (refine ite_yes ?_ ?_;(focus (clear HKK K;go_simp;done));apply Exists.intro;refine ⟨fun wq hq=>?_,?_⟩;(focus ((obtain ⟨y0,y1⟩:=HK.out _ hq);go_simp;(first | done | rfl | ((refine (H111.out _ hq).mono ?_);rintro e w3 ⟨rfl,hh⟩;exact ⟨rfl,hq.trans (hh.mono hq.size)⟩))));go_simp;refine HKK.out _ ?_;clear HKK K))
 refine wpQuiet_nil ?_
 intro w5 hw5
 have K5:=ħ (K1.out.below hw5)
 have B5:=ħ (HB1.out.trans (hw5.mono HB1.out.size))
 have HE5:=ħ (HE1.out.below hw5 (fun _ h=>Nat.lt_of_lt_of_le h.2 HB1.out.size))
 clear K1 HE1 hw5 HK H111
 obtain ⟨q0,q1,q2⟩:=K5.out.k.facts
 cases ok with
 | false=>
  obtain rfl:q=false:=by
   cases q with
   | false=>rfl
   | true=>have:=(HM.out.1 rfl).1;have h2:=HO.out;rw[this] at h2;cases h2
  clear HM
  go_wp2_with fail
  go_ret
  exact ⟨rfl,B5.out⟩
 | true=>
  by_cases ht:r=pterm
  ·subst ht
   have hT:termAt s.log (p0:Int)=some r:=by
    have h1:=HO.out;have h2:=HR.out
    cases ht:termAt s.log (p0:Int) with
    | none=>rw[ht] at h1;cases h1
    | some y=>rw[ht] at h2;simp at h2;rw[h2]
   have HQ:=ħ (show q=true↔MtI s.log p0 s.commit (es.map EV.e) es.length from by rw[HM.out];exact ⟨fun h=>h.2,fun h=>⟨hT,h⟩⟩)
   have hPl:=HE5.out.1.plain
   clear HM HO HR hT
   go_wp2_with fail
   go_loopw [31] (fun vi wr=>∃ i:Nat,i≤es.length∧vi=.int .i64 (i:Int)∧Below w5.heap.size w5 wr∧MtI s.log p0 s.commit (es.map EV.e) i) (fun vi _=>es.length - (intOf vi).toNat)
   case atStart=>exact ⟨0,Nat.zero_le _,rfl,Below.refl _ _,fun j hj=>by omega⟩
   case round=>
    obtain ⟨i,hi,rfl,hb6,hmt⟩:=hrel
    have HMT:=ħ hmt
    have HB6:=ħ hb6
    clear hmt
    by_cases hlt:i<es.length
    ·have hlt':(i:Int)<(es.length:Int):=by omega
     obtain ⟨⟨xt,xk,xA,xc,xb⟩,hgx⟩:∃ x,es[i]?=some x:=⟨_,List.getElem?_eq_getElem hlt⟩
     have hEr:=HE5.out.below hb6 (fun _ h=>Nat.lt_of_lt_of_le h.2 B5.out.size)
     obtain ⟨z0,z1,z2⟩:=hEr.at_ hgx
     have hix:=fun W=>ixE (hPl (by omega)) c i hlt W
     have hxb:=hEr.2 _ (List.mem_of_getElem? hgx)
     have hxy:=hb _ (List.mem_of_getElem? hgx)
     have HX:=ħ (show (es.map EV.e)[i]?=some ⟨xt,xk,xb⟩ by rw[List.getElem?_map,hgx];rfl)
     simp only at z0 z1 z2 hxb hxy
     have K6:=K5.out.below hb6
     have b7:Below wr.heap.size wr (wr.alloc (.cells (evC xt xk xA xb.length xc) 58)):=(Below.refl _ _).alloc (Nat.le_refl _) _
     have g7:Blk (wr.alloc (.cells (evC xt xk xA xb.length xc) 58)) wr.heap.size 58 (evC xt xk xA xb.length xc):=Blk.new wr 58 _
     have r7:=ħ ((hxb.old (by omega)).below b7 (fun _ h=>h.2))
     have K7:=ħ (K6.below b7)
     have B7:=ħ (hb6.trans (b7.mono hb6.size))
     clear hEr hgx hxb b7
     go_upto_region 7 with (fail)
     generalize wr.alloc (.cells (evC xt xk xA xb.length xc) 58)=W7 at *
     clear z0 z1 z2 hix K6
     have hw1:IntKind.i64.wrap ((p0:Int)+1)=(p0:Int)+1:=IntWalk.i64_in _ (by omega)
     have hw2:IntKind.i64.wrap ((p0:Int)+1+(i:Int))=(p0:Int)+1+(i:Int):=IntWalk.i64_in _ (by omega)
     obtain ⟨y0,y1,y2⟩:=K7.out.k.facts
     go_upto_region 8 with (fail)
     obtain ⟨c0,c1,x0,x1,x2,x3,x4,x5,x10,x11,x12,x13,x14,x15,x44⟩:=K7.out.n.n.x
     obtain ⟨z0,z1,z2⟩:=g7.facts
     clear x0 x1 x2 x3 x4 x5 x10 x11 x12 x14 x15 x44 hw1 hw2
     by_cases hcom:(p0:Int)+1+(i:Int)≤s.commit
     ·have wcom:decide ((p0:Int)+1+(i:Int)≤s.commit)=true:=decide_eq_true hcom
      obtain ⟨u,hu⟩:∃ u,decide (s.log[p0+i]?=some (⟨xt,xk,xb⟩:Ent))=u:=⟨_,rfl⟩
      have H134:=ħ (show Calls Tryz.prog 134 #[.pointer (some ⟨p,0,none⟩),.int .i64 ((p0:Int)+1+(i:Int)),evV xt xk xA xb.length xc] W7 (fun e w'=>e=.returned (.bool u)∧Below W7.heap.size W7 w') from by
       obtain ⟨mi,mm,Ao,co,ms,dur,hz,hm⟩:=K7.out.n.n
       have:=same134 W7 col p v j l f s un _ _ mi mm Ao co ms dur hz (p0+i) ⟨xt,xk,xA,xc,xb⟩ _ r7.out (by have:=HL.out;omega) hsm hxy u hu
       rwa [show ((p0+i:Nat):Int)+1=(p0:Int)+1+(i:Int) by omega] at this)
      cases u with
      | false=>
       obtain rfl:q=false:=by
        cases q with
        | false=>rfl
        | true=>
         have h1:=HQ.out.1 rfl i hlt
         rw[HX.out] at h1
         rcases h1 with h1 | h1
         ·omega
         ·exact absurd h1 (of_decide_eq_false hu)
       clear HQ hcom hu
       go_wp2_with (go_at_call 134;((with_reducible refine H134.out.mono ?_);rintro e w8 ⟨rfl,b8⟩))
       go_ret
       exact ⟨rfl,B5.out.trans ((B7.out.trans (b8.mono B7.out.size)).mono B5.out.size)⟩
      | true=>
       have HU:=ħ (show s.log[p0+i]?=some (⟨xt,xk,xb⟩:Ent) from of_decide_eq_true hu)
       clear hcom hu
       go_wp2_with (go_at_call 134;((with_reducible refine H134.out.mono ?_);rintro e w8 ⟨rfl,b8⟩))
       refine ⟨⟨i+1,hlt,by go_num,B7.out.trans (b8.mono B7.out.size),fun j hj=>?_⟩,by simp[intOf];omega⟩
       rcases Nat.lt_or_ge j i with h1 | h1
       ·exact HMT.out j h1
       ·obtain rfl:j=i:=by omega
        exact .inr (by rw[HU.out,HX.out])
     ·have wcom:decide ((p0:Int)+1+(i:Int)≤s.commit)=false:=decide_eq_false hcom
      have HCM:=ħ hcom
      clear hcom
      go_wp2_with fail
      refine ⟨⟨i+1,hlt,by go_num,B7.out,fun j hj=>?_⟩,by simp[intOf];omega⟩
      rcases Nat.lt_or_ge j i with h1 | h1
      ·exact HMT.out j h1
      ·obtain rfl:j=i:=by omega
       exact .inl (by have:=HCM.out;omega)
    ·have hge:¬ (i:Int)<(es.length:Int):=by omega
     obtain rfl:q=true:=HQ.out.2 (by
      have:=HMT.out
      rwa [show i=es.length by omega] at this)
     clear HQ
     go_wp2_with fail
     go_ret
     exact ⟨rfl,B5.out.trans (HB6.out.mono B5.out.size)⟩
  ·have wt:(r == pterm)=false:=by simpa using ht
   obtain rfl:q=false:=by
    cases q with
    | false=>rfl
    | true=>have:=(HM.out.1 rfl).1;have h2:=HR.out;rw[this] at h2;exact absurd h2.symm (by simpa using ht)
   clear HM ht
   go_wp2_with fail
   go_ret
   exact ⟨rfl,B5.out⟩
end
theorem write_set (s:Nd)(p:Nat)(es:List Ent)(a b c:Int):Nd.write { s with role:=a,ld:=b,since:=c } p es = { (s.write p es) with role:=a,ld:=b,since:=c }:=by
 unfold Nd.write
 dsimp only
 split <;> rfl
theorem aa_of {k:Nat}{s:Nd}(hw:Wf k s)(hk:k≤1900){y:MV}(hm:MW k y.m)(hv:Nd.validM y.m=true){p0:Nat}(hp:y.prev=p0)(hT:termAt s.log (p0:Int)=some y.pterm):AaPre s.log p0 y.pterm y.es:=by
 have h:=(validM_iff y.m).1 hv
 obtain ⟨a1,a2,a3,a4,a5,a6,a7,a8,a9,a10,a11,a12,a13,a14⟩:=h
 obtain ⟨w1,w2⟩:=validEs_spec _ _ a14
 have hpl:=termAt_le hT
 have hln:=hw.ln
 have hel:y.es.length≤16:=by have:(y.es.map EV.e).length≤16:=a12;rwa [List.length_map] at this
 refine ⟨by omega,hT,?_,fun x hx=>⟨(w1 x.e (List.mem_map_of_mem hx)).2.2,(hm.e x.e (List.mem_map_of_mem hx)).2.2.2.2.2⟩,fun x hx=>(w1 x.e (List.mem_map_of_mem (List.mem_of_getElem? hx))).1,fun i x z h1 h2=>?_,⟨by omega,by omega⟩,hw.bd.sm⟩
 ·unfold Nd.inR at a10
  simp only[Bool.and_eq_true,decide_eq_true_eq] at a10
  exact a10.1
 ·exact w2 i (i+1) x.e z.e (by omega) (show (y.es.map EV.e)[i]?=_ by rw[List.getElem?_map,h1];rfl) (show (y.es.map EV.e)[i+1]?=_ by rw[List.getElem?_map,h2];rfl)
section
variable (w:World) (col:Nat→Nat) (p v j l f:Nat) (s:Nd) (un:Bool) (outs:List Msg) (h:NS w col p v j l f s un outs)
include h
theorem write_w (p0:Nat)(term:Int)(A:Option Addr)(c:Nat)(L:List EV)(B:Nat→Prop)(hE:ES w B A L)(hBc:∀ k,B k→col k=0)(hc:L.length≤c)(hP:AaPre s.log p0 term L)(hb1:∀ e∈L.map EV.e,EW e)(hb2:Bd s.log)
 (hfit:(encJ initS (s.write p0 (L.map EV.e)).recs).length≤16777216) (hrl:s.recs.length≤900000) :
 Calls Tryz.prog 108 #[.pointer (some ⟨p,0,none⟩),.int .i64 (p0:Int),.int .i64 term,.slice A L.length c] w (WrPost w col p v j l f (s.write p0 (L.map EV.e)) outs):=by
 obtain ⟨mi,mm,Ao,co,ms,dur,hz,rfl⟩:=h
 exact write108 w col p v j l f s un mi mm Ao co ms dur hz p0 term A c L B hE hBc hc hP hb1 hb2 hfit hrl
theorem receive104 {k:Nat}(hw:Wf k s)(hk:k≤1600)(ho:outs.length≤700)(y:MV)(hm:MW k y.m)(hv:Nd.validM y.m=true)(hmt:y.m.term=s.term)(B:Nat→Prop)(hE:ES w B y.A y.es)(hBc:∀ k,B k→col k=0)(hcp:y.es.length≤y.c)(now:Int)(hti:0≤now∧now≤MT) :
 Calls Tryz.prog 104 #[.pointer (some ⟨p,0,none⟩),mvV y,.int .i64 now] w (UPost w col p v j l f (s.receive y.m now) outs):=by
 have HAA:=ħ fun p0 (e:y.prev=((p0:Nat):Int)) hT=>aa_of hw (by omega) hm hv e hT
 have HWR:=ħ (hw.receive (by omega) hm (by rw[hv];simp) hmt hti)
 have hvi:=(validM_iff y.m).1 hv
 have HEW:=ħ fun x (hx:x∈y.es)=>(hm.e x.e (List.mem_map_of_mem hx))
 obtain ⟨kind,frm,tt,term,prev,pterm,commit,granted,A,c,es⟩:=y
 have hel:es.length≤16:=by have:(es.map EV.e).length≤16:=hvi.2.2.2.2.2.2.2.2.2.2.2.1;rwa [List.length_map] at this
 have hpv:(0≤prev∧prev≤1099511627776):=by
  have h9:Nd.inR prev 0=true:=hvi.2.2.2.2.2.2.2.2.1
  unfold Nd.inR MT at h9
  simp only[Bool.and_eq_true,decide_eq_true_eq] at h9
  exact h9
 clear hm hv hmt hvi
 simp only at hE hcp HAA HEW
 obtain ⟨p0,rfl⟩:∃ p0:Nat,prev=(p0:Int):=⟨prev.toNat,by omega⟩
 have HRC:=ħ (show s.receive (MV.m ⟨kind,frm,tt,term,(p0:Int),pterm,commit,granted,A,c,es⟩) now=if s.matchesB (MV.m ⟨kind,frm,tt,term,(p0:Int),pterm,commit,granted,A,c,es⟩)=true then ({ (s.write p0 (es.map EV.e)) with role:=1,ld:=frm,since:=now,commit:=max s.commit (min commit ((p0:Int)+es.length)) },[s.msg 4 frm ((p0:Int)+es.length) 0 0 true []]) else ({ s with role:=1,ld:=frm,since:=now },[s.msg 4 frm (max (min s.log.length ((p0:Int) - 1)) 0) 0 0 false []]) from by
  unfold Nd.receive
  simp only[MV.m,List.length_map,Int.toNat_natCast]
  rfl)
 show Calls Tryz.prog 104 #[.pointer (some ⟨p,0,none⟩),.agg (mvC kind frm tt term (p0:Int) pterm commit granted A es.length c),.int .i64 now] w (UPost w col p v j l f (s.receive (MV.m ⟨kind,frm,tt,term,(p0:Int),pterm,commit,granted,A,c,es⟩) now) outs)
 have HMI:=ħ fun hq=>((matches_iff s (MV.m ⟨kind,frm,tt,term,(p0:Int),pterm,commit,granted,A,c,es⟩) p0 rfl).1 hq).1
 generalize s.receive (MV.m ⟨kind,frm,tt,term,(p0:Int),pterm,commit,granted,A,c,es⟩) now=R at *
 have b1:Below w.heap.size w (w.alloc (.cells (mvC kind frm tt term (p0:Int) pterm commit granted A es.length c) 99)):=(Below.refl _ _).alloc (Nat.le_refl _) _
 have g1:Blk (w.alloc (.cells (mvC kind frm tt term (p0:Int) pterm commit granted A es.length c) 99)) w.heap.size 99 (mvC kind frm tt term (p0:Int) pterm commit granted A es.length c):=Blk.new w 99 _
 have K1:=ħ (KB.start h b1 g1 (Nat.le_refl _))
 have HE1:=ħ (hE.old.below b1 (fun _ h=>h.2))
 have HL:=ħ h.lt
 have HW:=ħ hw
 have hll:s.log.length≤32000∧s.recs.length≤32000∧s.commit≤40000:=⟨by have:=hw.ln;omega,by have:=hw.rn;omega,by have:=hw.cm.2;have:=hw.ln;omega⟩
 have HLL:=ħ hll
 clear h b1 g1 hE hw hll
 go_enter Tryz.func104,Tryz.ntmps104
 go_upto_region 1 with (fail)
 generalize w.alloc (.cells (mvC kind frm tt term (p0:Int) pterm commit granted A es.length c) 99)=W1 at *
 obtain ⟨c0,c1,x0,x1,x2,x3,x4,x5,x10,x11,x12,x13,x14,x15,x44⟩:=K1.out.n.n.x
 obtain ⟨q0,q1,q2⟩:=K1.out.k.facts
 clear x0 x1 x2 x3 x4 x5 x10 x13 x15 x44
 go_region
 have n1:=K1.out.n.n.st11 1
 have n2:=n1.trans (n1.n.st12 frm)
 have n3:=n2.trans (n2.n.st14 now)
 have K2:=ħ (show KB w col p v j l f { s with role:=1,ld:=frm,since:=now } un outs w.heap.size 99 (mvC kind frm tt term (p0:Int) pterm commit granted A es.length c) _ col from (K1.out.set1 n3).below (Below.refl _ _).drew)
 have hsz1:((((W1.setCell ⟨p,11,none⟩ (.int .i64 1)).setCell ⟨p,12,none⟩ (.int .i64 frm)).setCell ⟨p,14,none⟩ (.int .i64 now)).drew).heap.size=W1.heap.size:=by simp
 have HE2:=ħ (HE1.out.fr n3.fr (fun g hg e=>by
  by_cases hgl:B g
  ·exact e (hBc g hg.1)
  ·exact hgl hg.1))
 clear c0 c1 x11 x12 x14 q0 q1 q2 n1 n2 n3 K1 HE1 hsz1
 have HE3:=ħ (show ES (((W1.setCell ⟨p,11,none⟩ (.int .i64 1)).setCell ⟨p,12,none⟩ (.int .i64 frm)).setCell ⟨p,14,none⟩ (.int .i64 now)).drew (fun k=>B k∧k<w.heap.size) A es from HE2.out)
 clear HE2
 generalize (((W1.setCell ⟨p,11,none⟩ (.int .i64 1)).setCell ⟨p,12,none⟩ (.int .i64 frm)).setCell ⟨p,14,none⟩ (.int .i64 now)).drew=W2 at *
 have HBC:=ħ hBc
 have H133:=ħ (show Calls Tryz.prog 133 #[.pointer (some ⟨p,0,none⟩),.agg (mvC kind frm tt term (p0:Int) pterm commit granted A es.length c)] W2 (fun e w'=>e=.returned (.bool (s.matchesB (MV.m ⟨kind,frm,tt,term,(p0:Int),pterm,commit,granted,A,c,es⟩)))∧Below W2.heap.size W2 w') from matches133 W2 col p v j l f _ un outs K2.out.n.n (by have:=HLL.out.1;show s.log.length≤_;omega) HW.out.bd.sm HLL.out.2.2 ⟨kind,frm,tt,term,(p0:Int),pterm,commit,granted,A,c,es⟩ _ HE3.out (fun x hx=>(HEW.out x hx).2.2.2.2.2) hel ⟨hpv.1,by unfold MT;exact hpv.2⟩)
 obtain ⟨q0,q1,q2⟩:=K2.out.k.facts
 have hE3s:=HE3.out.1
 clear hE3s hBc
 generalize hmb:s.matchesB (MV.m ⟨kind,frm,tt,term,(p0:Int),pterm,commit,granted,A,c,es⟩)=q at *
 have HMB:=ħ hmb
 clear hmb
 cases q with
 | false=>
  have HRE:=ħ (show R=({ s with role:=1,ld:=frm,since:=now },[s.msg 4 frm (max (min s.log.length ((p0:Int) - 1)) 0) 0 0 false []]) by rw[HRC.out,if_neg (by simp)])
  clear HRC HMI
  go_upto_region 3 with (go_at_call 133;((with_reducible refine H133.out.mono ?_);rintro e w3 ⟨rfl,b3⟩))
  have K3:=ħ (K2.out.below b3)
  clear q0 q1 q2 b3 K2 HE3 H133
  have hw1:IntKind.i64.wrap ((p0:Int) - 1)=(p0:Int) - 1:=IntWalk.i64_in _ (by omega)
  have H17:=ħ fun W (hb:Below w3.heap.size w3 W)=>lastIndex17 W col p v j l f _ un outs (K3.out.below hb).n.n (by have:=HLL.out.1;show s.log.length≤_;omega)
  have HK:=ħ fun W (hb:Below w3.heap.size w3 W)=>(show (W.cell? ⟨w.heap.size,4,none⟩=some (.int .i64 (p0:Int))) from (K3.out.below hb).k.cell 4)
  refine wp_region_quiet (C:=fun w'=>Below w3.heap.size w3 w') (by kernel_rfl) (by kernel_rfl) ((Below.refl _ _).drew) ?_
  repeat (refine wpQuiet_step (fun K hK=>?_);have HKK:=ħ hK;clear hK;first | (refine ite_no ?_ ?_;(focus (clear HKK K;go_simp;done));go_simp;refine HKK.out _ ?_;clear HKK K) | (refine ite_yes ?_ ?_;(focus (clear HKK K;go_simp;done));apply Exists.intro;refine ⟨fun wq hq=>?_,?_⟩;(focus ((have y0:=HK.out _ hq);go_simp;(first | done | rfl | ((refine (H17.out _ hq).mono ?_);rintro e w4 ⟨rfl,hh⟩;exact ⟨rfl,hq.trans (hh.mono hq.size)⟩))));go_simp;refine HKK.out _ ?_;clear HKK K))
  refine wpQuiet_nil ?_
  intro w5 hw5
  have K5:=ħ (K3.out.below hw5)
  clear hw5 hw1
  have H81:=ħ (show Calls Tryz.prog 81 #[.pointer (some ⟨p,0,none⟩),.agg (mvC 4 0 frm 0 (max (min (s.log.length:Int) ((p0:Int) - 1)) 0) 0 0 false none 0 0)] w5 _ from send81 w5 col p v j l f _ un outs K5.out.n.n 4 0 frm 0 (max (min (s.log.length:Int) ((p0:Int) - 1)) 0) 0 0 false none 0 [] ⟨ES.nil,Nat.le_refl _⟩ (by omega))
  obtain ⟨q0,q1,q2⟩:=K5.out.k.facts
  go_wp2_with (go_at_call 81;((with_reducible refine H81.out.mono ?_);rintro e w6 ⟨rfl,hnp⟩))
  refine bodyPost_ret (v:=.tuple #[]) (by simp[results,Tryz.results104,go_sem]) rfl ⟨rfl,un,?_⟩
  rw[HRE.out]
  exact K5.out.n.call hnp
 | true=>
  have HRE:=ħ (show R=({ (s.write p0 (es.map EV.e)) with role:=1,ld:=frm,since:=now,commit:=max s.commit (min commit ((p0:Int)+es.length)) },[s.msg 4 frm ((p0:Int)+es.length) 0 0 true []]) by rw[HRC.out,if_pos rfl])
  have HA:=ħ (HAA.out p0 rfl (HMI.out rfl))
  have HFit:=ħ (show (encJ initS (Nd.write { s with role:=1,ld:=frm,since:=now } p0 (es.map EV.e)).recs).length≤16777216 from by
   rw[write_set]
   have:=HWR.out.1.fit (by omega)
   rw[HRE.out] at this
   exact this)
  clear HRC HMI HAA HWR
  go_upto_region 5 with (go_at_call 133;((with_reducible refine H133.out.mono ?_);rintro e w3 ⟨rfl,b3⟩))
  have K3:=ħ (K2.out.below b3)
  have H108:=ħ (write_w w3 col p v j l f _ un outs K3.out.n.n p0 pterm A c es _ (HE3.out.fr (Fr.of_below (S:=fun _=>False) b3) (fun _ _=>id)) (fun k hk=>HBC.out k hk.1) hcp HA.out (fun e he=>by obtain ⟨x,hx,rfl⟩:=List.mem_map.1 he;exact HEW.out x hx) HW.out.bd HFit.out (by have:=HLL.out.2.1;show s.recs.length≤_;omega))
  rw[write_set] at H108
  clear q0 q1 q2 b3 K2 HE3 H133 HFit HA
  obtain ⟨q0,q1,q2⟩:=K3.out.k.facts
  go_upto_region 6 with (go_at_call 108;((with_reducible refine H108.out.mono ?_);rintro e w4 ⟨rfl,un4,hnp4⟩;obtain ⟨c4,hk4⟩:=K3.out.call hnp4;have K4:=ħ hk4;clear hk4 hnp4))
  clear q0 q1 q2 H108 K3
  have HCE:=ħ (show (s.write p0 (es.map EV.e)).commit=s.commit∧(s.write p0 (es.map EV.e)).id=s.id∧(s.write p0 (es.map EV.e)).term=s.term from ⟨(write_same s p0 (es.map EV.e)).2.2.2.2.2.2.2,(write_same s p0 (es.map EV.e)).2.1,(write_same s p0 (es.map EV.e)).1⟩)
  generalize s.write p0 (es.map EV.e)=sw at *
  have hw1:IntKind.i64.wrap ((p0:Int)+(es.length:Int))=(p0:Int)+(es.length:Int):=IntWalk.i64_in _ (by omega)
  obtain ⟨q0,q1,q2⟩:=K4.out.k.facts
  go_upto_region 7 with fail
  clear hw1
  obtain ⟨c0,c1,x0,x1,x2,x3,x4,x5,x10,x11,x12,x13,x14,x15,x44⟩:=K4.out.n.n.x
  clear x0 x1 x2 x3 x4 x5 x10 x11 x12 x14 x15 x44
  go_region
  have K5:=ħ ((K4.out.set1 (K4.out.n.n.st13 (max sw.commit (min commit ((p0:Int)+es.length))))).below (Below.refl _ _).drew)
  generalize (w4.setCell ⟨p,13,none⟩ (.int .i64 (max sw.commit (min commit ((p0:Int)+es.length))))).drew=W5 at *
  clear q0 q1 q2 c0 c1 x13
  have H81:=ħ (show Calls Tryz.prog 81 #[.pointer (some ⟨p,0,none⟩),.agg (mvC 4 0 frm 0 ((p0:Int)+es.length) 0 0 true none 0 0)] W5 _ from send81 W5 c4 p v j l f _ un4 outs K5.out.n.n 4 0 frm 0 ((p0:Int)+es.length) 0 0 true none 0 [] ⟨ES.nil,Nat.le_refl _⟩ (by omega))
  obtain ⟨q0,q1,q2⟩:=K5.out.k.facts
  go_wp2_with (go_at_call 81;((with_reducible refine H81.out.mono ?_);rintro e w6 ⟨rfl,hnp⟩))
  refine bodyPost_end (v:=.tuple #[]) (by simp[results,Tryz.results104,go_sem]) rfl ⟨rfl,un4,?_⟩
  rw[HRE.out]
  have hfin:=K5.out.n.call hnp
  have em:(s.msg 4 frm ((p0:Int)+es.length) 0 0 true [])=Nd.msg { sw with role:=1,ld:=frm,since:=now,commit:=max sw.commit (min commit ((p0:Int)+es.length)) } 4 frm ((p0:Int)+es.length) 0 0 true []:=by
   unfold Nd.msg
   rw[←HCE.out.2.1,←HCE.out.2.2]
  rw[em,←HCE.out.1]
  exact hfin
end
section
variable (w:World) (col:Nat→Nat) (p v j l f:Nat) (s:Nd) (un:Bool) (outs:List Msg) (h:NS w col p v j l f s un outs)
include h
theorem replied105 {k:Nat}(hw:Wf k s)(hk:k≤1600)(hr:s.role=3)(ht:1≤s.term)(ho:outs.length≤700)(y:MV)(hy:0≤y.frm∧y.frm<9)(hp:0≤y.prev∧y.prev≤MT) :
 Calls Tryz.prog 105 #[.pointer (some ⟨p,0,none⟩),mvV y] w (UPost w col p v j l f (s.replied y.m) outs):=by
 obtain ⟨kind,frm,tt,term,prev,pterm,commit,granted,A,c,es⟩:=y
 simp only at hy hp
 unfold MT at hp
 obtain ⟨fr,rfl⟩:∃ fr:Nat,frm=(fr:Int):=⟨frm.toNat,by omega⟩
 obtain ⟨m,hmd⟩:∃ m:Msg,MV.m ⟨kind,(fr:Int),tt,term,prev,pterm,commit,granted,A,c,es⟩=m:=⟨_,rfl⟩
 have hmf:m.frm=(fr:Int)∧m.prev=prev∧m.granted=granted:=by rw[←hmd];exact ⟨rfl,rfl,rfl⟩
 have hf9:fr<9:=by omega
 have hf9':(fr:Int)<9:=by omega
 have HM:=ħ hmf
 have HRP:=ħ (show s.replied m=if m.granted=false then (s.back m,[(s.back m).app m.frm]) else if (s.log.length:Int)<m.prev then (s,[]) else if (s.seen m).adv.role≠3 then ((s.seen m).adv,[]) else if s.commit<(s.seen m).adv.commit then ((s.seen m).adv,(s.seen m).adv.apps) else if gd (s.seen m).adv.nx m.frm.toNat≤(s.seen m).adv.log.length then ((s.seen m).adv,[(s.seen m).adv.app m.frm]) else ((s.seen m).adv,[]) from rfl)
 show Calls Tryz.prog 105 #[.pointer (some ⟨p,0,none⟩),.agg (mvC kind (fr:Int) tt term prev pterm commit granted A es.length c)] w (UPost w col p v j l f (s.replied (MV.m ⟨kind,(fr:Int),tt,term,prev,pterm,commit,granted,A,c,es⟩)) outs)
 rw[hmd]
 clear hmd hmf
 generalize s.replied m=R at *
 have b1:Below w.heap.size w (w.alloc (.cells (mvC kind (fr:Int) tt term prev pterm commit granted A es.length c) 99)):=(Below.refl _ _).alloc (Nat.le_refl _) _
 have g1:Blk (w.alloc (.cells (mvC kind (fr:Int) tt term prev pterm commit granted A es.length c) 99)) w.heap.size 99 (mvC kind (fr:Int) tt term prev pterm commit granted A es.length c):=Blk.new w 99 _
 have K1:=ħ (KB.start h b1 g1 (Nat.le_refl _))
 have HW:=ħ hw
 have HR:=ħ hr
 have hll:s.log.length≤32000:=by have:=hw.ln;omega
 have hnx:=(hw.lr hr fr hf9).1
 have hmx:=hw.nm fr hf9
 clear h b1 g1 hw hr
 go_enter Tryz.func105,Tryz.ntmps105
 go_upto_region 1 with (fail)
 generalize w.alloc (.cells (mvC kind (fr:Int) tt term prev pterm commit granted A es.length c) 99)=W1 at *
 obtain ⟨c0,c1,-⟩:=K1.out.n.n.x
 have x26:=K1.out.n.n.nx hf9
 have x35:=K1.out.n.n.mt hf9
 obtain ⟨q0,q1,q2⟩:=K1.out.k.facts
 cases granted with
 | false=>
  have HRE:=ħ (show R=(s.back m,[(s.back m).app m.frm]) by rw[HRP.out,if_pos HM.out.2.2])
  have HWB:=ħ (HW.out.back HR.out (m:=m) (by rw[HM.out.1];exact hy))
  have HBE:=ħ (show s.back m = { s with nx:=s.nx.set fr (max (min (gd s.nx fr - 1) (prev+1)) 1) } by
   unfold Nd.back
   rw[HM.out.1,HM.out.2.1,Int.toNat_natCast])
  have hw1:IntKind.i64.wrap (prev+1)=prev+1:=IntWalk.i64_in _ (by omega)
  have hw2:IntKind.i64.wrap (gd s.nx fr - 1)=gd s.nx fr - 1:=IntWalk.i64_in _ (by omega)
  have K2:=ħ ((K1.out.set1 (K1.out.n.n.stn hf9 (max (min (gd s.nx fr - 1) (prev+1)) 1))).below (Below.refl _ _).drew)
  clear HRP
  go_upto_region 2 with fail
  go_region
  generalize (W1.setCell ⟨p,26+fr,none⟩ (.int .i64 (max (min (gd s.nx fr - 1) (prev+1)) 1))).drew=W2 at *
  have hb2:=K2.out
  rw[←HBE.out] at hb2
  have K3:=ħ hb2
  have hlr:=HWB.out.lr HR.out fr hf9
  have hln:=HWB.out.ln
  obtain ⟨q,hq⟩:∃ q:Nat,gd (s.back m).nx fr=(q:Int)+1:=⟨(gd (s.back m).nx fr - 1).toNat,by omega⟩
  have H76:=ħ (sendAppend76 W2 col p v j l f _ un outs K3.out.n.n fr hf9 (by omega) HWB.out.bd (by omega) q hq (by omega))
  clear q0 q1 q2 x26 x35 c0 c1 hw1 hw2 K2 hb2 hlr hln hq
  obtain ⟨q0,q1,q2⟩:=K3.out.k.facts
  go_wp2_with (go_at_call 76;((with_reducible refine H76.out.mono ?_);rintro e w6 ⟨rfl,hnp⟩))
  refine bodyPost_ret (v:=.tuple #[]) (by simp[results,Tryz.results105,go_sem]) rfl ⟨rfl,un,?_⟩
  rw[HRE.out,HM.out.1]
  exact K3.out.n.call hnp
 | true=>
  have HRT:=ħ (show R=if (s.log.length:Int)<prev then (s,[]) else if (s.seen m).adv.role≠3 then ((s.seen m).adv,[]) else if s.commit<(s.seen m).adv.commit then ((s.seen m).adv,(s.seen m).adv.apps) else if gd (s.seen m).adv.nx fr≤(s.seen m).adv.log.length then ((s.seen m).adv,[(s.seen m).adv.app fr]) else ((s.seen m).adv,[]) by
   rw[HRP.out,if_neg (by rw[HM.out.2.2];simp),HM.out.1,HM.out.2.1,Int.toNat_natCast])
  clear HRP
  go_upto_region 4 with fail
  have H17:=ħ fun W (hb:Below W1.heap.size W1 W)=>lastIndex17 W col p v j l f _ un outs (K1.out.below hb).n.n (by omega)
  have HK:=ħ fun W (hb:Below W1.heap.size W1 W)=>(show (W.cell? ⟨w.heap.size,4,none⟩=some (.int .i64 prev)) from (K1.out.below hb).k.cell 4)
  clear q0 q1 q2 c0 c1 x26 x35
  refine wp_region_quiet (C:=fun w'=>Below W1.heap.size W1 w') (by kernel_rfl) (by kernel_rfl) ((Below.refl _ _).drew) ?_
  repeat (refine wpQuiet_step (fun K hK=>?_);have HKK:=ħ hK;clear hK;first | (refine ite_no ?_ ?_;(focus (clear HKK K;go_simp;done));go_simp;refine HKK.out _ ?_;clear HKK K) | (refine ite_yes ?_ ?_;(focus (clear HKK K;go_simp;done));apply Exists.intro;refine ⟨fun wq hq=>?_,?_⟩;(focus ((have y0:=HK.out _ hq);go_simp;(first | done | rfl | ((refine (H17.out _ hq).mono ?_);rintro e w4 ⟨rfl,hh⟩;exact ⟨rfl,hq.trans (hh.mono hq.size)⟩))));go_simp;refine HKK.out _ ?_;clear HKK K))
  refine wpQuiet_nil ?_
  intro w5 hw5
  have K5:=ħ (K1.out.below hw5)
  clear hw5 H17 HK K1
  by_cases hpl:(s.log.length:Int)<prev
  ·have wpl:decide ((s.log.length:Int)<prev)=true:=decide_eq_true hpl
   have HRE:=ħ (show R=(s,[]) by rw[HRT.out,if_pos hpl])
   clear HRT
   go_wp2_with fail
   refine bodyPost_ret (v:=.tuple #[]) (by simp[results,Tryz.results105,go_sem]) rfl ⟨rfl,un,?_⟩
   rw[HRE.out,List.append_nil]
   exact K5.out.n.done
  ·have wpl:decide ((s.log.length:Int)<prev)=false:=decide_eq_false hpl
   have HRU:=ħ (show R=if (s.seen m).adv.role≠3 then ((s.seen m).adv,[]) else if s.commit<(s.seen m).adv.commit then ((s.seen m).adv,(s.seen m).adv.apps) else if gd (s.seen m).adv.nx fr≤(s.seen m).adv.log.length then ((s.seen m).adv,[(s.seen m).adv.app fr]) else ((s.seen m).adv,[]) by rw[HRT.out,if_neg hpl])
   have HWS:=ħ (HW.out.seen HR.out (m:=m) (by rw[HM.out.1];exact hy) (by rw[HM.out.2.1];omega))
   have HSE:=ħ (show s.seen m = { s with mt:=s.mt.set fr (max (gd s.mt fr) prev),nx:=s.nx.set fr (max (gd s.mt fr) prev+1) } by
    unfold Nd.seen
    rw[HM.out.1,HM.out.2.1,Int.toNat_natCast])
   clear HRT
   obtain ⟨c0,c1,-⟩:=K5.out.n.n.x
   have x35:=K5.out.n.n.mt hf9
   obtain ⟨q0,q1,q2⟩:=K5.out.k.facts
   have K6:=ħ ((K5.out.set1 (K5.out.n.n.stm hf9 (max (gd s.mt fr) prev))).below (Below.refl _ _).drew)
   go_upto_region 5 with fail
   go_region
   generalize (w5.setCell ⟨p,35+fr,none⟩ (.int .i64 (max (gd s.mt fr) prev))).drew=W6 at *
   clear c0 c1 x35 q0 q1 q2 K5
   obtain ⟨c0,c1,-⟩:=K6.out.n.n.x
   have x35:=K6.out.n.n.mt hf9
   rw[show gd (s.mt.set fr (max (gd s.mt fr) prev)) fr=max (gd s.mt fr) prev by rw[gd_set' (by rw[HW.out.l9.2.2];exact hf9),if_pos rfl]] at x35
   have x26:=K6.out.n.n.nx hf9
   obtain ⟨q0,q1,q2⟩:=K6.out.k.facts
   have hw1:IntKind.i64.wrap (max (gd s.mt fr) prev+1)=max (gd s.mt fr) prev+1:=IntWalk.i64_in _ (by omega)
   have K7:=ħ ((K6.out.set1 (K6.out.n.n.stn hf9 (max (gd s.mt fr) prev+1))).below (Below.refl _ _).drew)
   go_upto_region 6 with fail
   go_region
   generalize (W6.setCell ⟨p,26+fr,none⟩ (.int .i64 (max (gd s.mt fr) prev+1))).drew=W7 at *
   clear c0 c1 x35 x26 q0 q1 q2 K6 hw1
   have hb7:=K7.out
   rw[←HSE.out] at hb7
   have K8:=ħ hb7
   have hcs:(s.seen m).commit=s.commit:=by rw[HSE.out]
   have HT1:=ħ (show 1≤(s.seen m).term by rw[HSE.out];exact ht)
   have htm:(s.seen m).term≤MT:=by have:=HWS.out.tk;unfold MT;omega
   have HRS:=ħ (show (s.seen m).role=3 by rw[HSE.out];exact HR.out)
   have HCS:=ħ hcs
   clear hb7 hcs HSE K7
   generalize s.seen m=t at *
   have HWA:=ħ (HWS.out.adv (by omega) HT1.out htm)
   have hnx2:∀ j,j<9→1≤gd t.adv.nx j:=fun j hj=>by rw[(adv_same t).2.2.1];exact (HWS.out.lr HRS.out j hj).1.1
   have HAO:=ħ (HWA.out.appOk (by omega) hnx2)
   have HNX:=ħ hnx2
   have H74:=ħ (advance74 W7 col p v j l f t un outs K8.out.n.n HWS.out (by omega) HT1.out)
   have HOF:=ħ hpl
   clear hnx2 htm hpl wpl hnx hmx
   generalize t.adv=u at *
   obtain ⟨c0,c1,x0,x1,x2,x3,x4,x5,x10,x11,x12,x13,x14,x15,x44⟩:=K8.out.n.n.x
   clear x0 x1 x2 x3 x4 x5 x10 x11 x12 x14 x15 x44
   go_upto_region 8 with fail
   clear c0 c1 x13
   have H46:=ħ fun W cr un' (x:NS W cr p v j l f u un' outs)=>sendAppends46 W cr p v j l f u un' outs x HAO.out (by omega)
   by_cases hur:u.role=3
   ·have wur:(u.role == 3)=true:=by simpa using hur
    have HRV:=ħ (show R=if s.commit<u.commit then (u,u.apps) else if gd u.nx fr≤u.log.length then (u,[u.app fr]) else (u,[]) by rw[HRU.out,if_neg (by simpa using hur)])
    clear HRU hur
    go_upto_region 9 with (go_at_call 74;((with_reducible refine H74.out.mono ?_);rintro e w9 ⟨rfl,un9,hnp9⟩;obtain ⟨c9,hk9⟩:=K8.out.call hnp9;have K9:=ħ hk9;clear hnp9;obtain ⟨c0,c1,x0,x1,x2,x3,x4,x5,x10,x11,x12,x13,x14,x15,x44⟩:=hk9.n.n.x;clear hk9 x0 x1 x2 x3 x4 x5 x10 x12 x14 x15 x44))
    rw[HCS.out]
    by_cases hcu:s.commit<u.commit
    ·have wcu:decide (s.commit<u.commit)=true:=decide_eq_true hcu
     have HRE:=ħ (show R=(u,u.apps) by rw[HRV.out,if_pos hcu])
     clear HRV
     go_wp2_with (go_at_call 46;((with_reducible refine (H46.out w9 c9 un9 K9.out.n.n).mono ?_);rintro e w10 ⟨rfl,hnp⟩))
     refine bodyPost_end (v:=.tuple #[]) (by simp[results,Tryz.results105,go_sem]) rfl ⟨rfl,un9,?_⟩
     rw[HRE.out]
     exact K9.out.n.call hnp
    ·have wcu:decide (s.commit<u.commit)=false:=decide_eq_false hcu
     have HRX:=ħ (show R=if gd u.nx fr≤u.log.length then (u,[u.app fr]) else (u,[]) by rw[HRV.out,if_neg hcu])
     clear HRV
     go_upto_region 11 with fail
     clear c0 c1 x11 x13
     have hul:=HWA.out.ln
     have H17:=ħ fun W (hb:Below w9.heap.size w9 W)=>lastIndex17 W c9 p v j l f _ un9 outs (K9.out.below hb).n.n (by omega)
     have HK:=ħ fun W (hb:Below w9.heap.size w9 W)=>(show (W.cell? ⟨w.heap.size,1,none⟩=some (.int .i64 (fr:Int)))∧W.cell? ⟨p,26+fr,none⟩=some (.int .i64 (gd u.nx fr))∧p<W.heap.size∧(∀ i,W.frozen? ⟨p,i,none⟩=false) from ⟨(K9.out.below hb).k.cell 1,(K9.out.below hb).n.n.nx hf9,(K9.out.below hb).n.n.x.1,(K9.out.below hb).n.n.x.2.1⟩)
     refine wp_region_quiet (C:=fun w'=>Below w9.heap.size w9 w') (by kernel_rfl) (by kernel_rfl) ((Below.refl _ _).drew) ?_
     repeat (refine wpQuiet_step (fun K hK=>?_);have HKK:=ħ hK;clear hK;first | (refine ite_no ?_ ?_;(focus (clear HKK K;go_simp;done));go_simp;refine HKK.out _ ?_;clear HKK K) | (refine ite_yes ?_ ?_;(focus (clear HKK K;go_simp;done));apply Exists.intro;refine ⟨fun wq hq=>?_,?_⟩;(focus ((obtain ⟨y0,y1,y2,y3⟩:=HK.out _ hq);go_simp;(first | done | rfl | ((refine (H17.out _ hq).mono ?_);rintro e w4 ⟨rfl,hh⟩;exact ⟨rfl,hq.trans (hh.mono hq.size)⟩))));go_simp;refine HKK.out _ ?_;clear HKK K))
     refine wpQuiet_nil ?_
     intro w10 hw10
     have K10:=ħ (K9.out.below hw10)
     clear hw10 H17 HK
     obtain ⟨q0,q1,q2⟩:=K10.out.k.facts
     by_cases hnl:gd u.nx fr≤(u.log.length:Int)
     ·have wnl:decide (gd u.nx fr≤(u.log.length:Int))=true:=decide_eq_true hnl
      have HRE:=ħ (show R=(u,[u.app fr]) by rw[HRX.out,if_pos hnl])
      have hn1:=HNX.out fr hf9
      obtain ⟨q,hq⟩:∃ q:Nat,gd u.nx fr=(q:Int)+1:=⟨(gd u.nx fr - 1).toNat,by omega⟩
      have H76:=ħ (sendAppend76 w10 c9 p v j l f u un9 outs K10.out.n.n fr hf9 (by omega) HWA.out.bd (by omega) q hq (by omega))
      clear HRX hq hn1
      go_wp2_with (go_at_call 76;((with_reducible refine H76.out.mono ?_);rintro e w11 ⟨rfl,hnp⟩))
      refine bodyPost_end (v:=.tuple #[]) (by simp[results,Tryz.results105,go_sem]) rfl ⟨rfl,un9,?_⟩
      rw[HRE.out]
      exact K10.out.n.call hnp
     ·have wnl:decide (gd u.nx fr≤(u.log.length:Int))=false:=decide_eq_false hnl
      have HRE:=ħ (show R=(u,[]) by rw[HRX.out,if_neg hnl])
      clear HRX
      go_wp2_with fail
      refine bodyPost_end (v:=.tuple #[]) (by simp[results,Tryz.results105,go_sem]) rfl ⟨rfl,un9,?_⟩
      rw[HRE.out,List.append_nil]
      exact K10.out.n.done
   ·have wur:(u.role == 3)=false:=by simpa using hur
    have HRE:=ħ (show R=(u,[]) by rw[HRU.out,if_pos hur])
    clear HRU hur
    go_wp2_with (go_at_call 74;((with_reducible refine H74.out.mono ?_);rintro e w9 ⟨rfl,un9,hnp9⟩;obtain ⟨c9,hk9⟩:=K8.out.call hnp9;have K9:=ħ hk9;clear hnp9;obtain ⟨c0,c1,x0,x1,x2,x3,x4,x5,x10,x11,x12,x13,x14,x15,x44⟩:=hk9.n.n.x;clear hk9 x0 x1 x2 x3 x4 x5 x10 x12 x14 x15 x44))
    refine bodyPost_ret (v:=.tuple #[]) (by simp[results,Tryz.results105,go_sem]) rfl ⟨rfl,un9,?_⟩
    rw[HRE.out,List.append_nil]
    exact K9.out.n.done
end
end Go.Proofs.YtdfobfjpkjddpaaGreat

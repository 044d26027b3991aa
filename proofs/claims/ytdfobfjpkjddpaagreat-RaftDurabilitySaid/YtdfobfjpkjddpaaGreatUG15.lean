import Derived.Test.YtdfobfjpkjddpaaGreatUG14
import Derived.Test.YtdfobfjpkjddpaaGreatUG6
import Derived.Test.YtdfobfjpkjddpaaGreatUG9
set_option linter.unusedVariables false
set_option linter.unusedSimpArgs false
set_option maxRecDepth 10000
set_option maxHeartbeats 4000000
namespace Go.Proofs.YtdfobfjpkjddpaaGreat
open Go.RowKit Go.Own Go.Quo Go.Wire Go.Raft
theorem LZ.cutoff {w w2:World}{Z:Nat→Prop}{g c k:Nat}{A:Option Addr}{es:List EV}(h:LZ w Z g A c es)(hk:k≤es.length)(ho:w2.ownsRow 0 58 3 (.slice A k c) k ((es.flatMap evL).take (k * 3)))(hf:Fr (fun j=>(Value.slice A es.length c).ownBlock=some j) w w2) :
 LZ (w2.setCell ⟨g,0,none⟩ (.slice A k c)) Z g A c (es.take k)∧Fr Z w (w2.setCell ⟨g,0,none⟩ (.slice A k c)):=by
 have hl:(es.take k).length=k:=by rw[List.length_take];omega
 have ob:∀ n,(Value.slice A n c).ownBlock=(Value.slice A es.length c).ownBlock:=fun n=>by cases A <;> rfl
 have g2:Blk w2 g 136 #[.slice A es.length c]:=h.b.fr hf (fun e=>own_ne h.o h.b (by decide) g e rfl)
 have f2:Fr Z w w2:=hf.mono (fun j _ hj=>h.zo j hj)
 refine ⟨⟨?_,?_,h.zg,?_,?_⟩,f2.setCell (p:=⟨g,0,none⟩) (.inl h.zg) _⟩
 ·rw[hl];simpa using g2.set_ 0 (.slice A k c)
 ·rw[hl,←flat_take3]
  exact own_set ho (own_ne ho g2 (by decide)) _
 ·intro j hj
  rw[hl,ob] at hj
  exact h.zo j hj
 ·intro x hx
  rw[hl,ob]
  exact ((h.eb x (List.mem_of_mem_take hx)).fr hf (fun j hj e=>hj.2.2 e)).setCell (p:=⟨g,0,none⟩) (fun hj=>hj.2.1 rfl) _
def newLog (L:List Ent)(p:Nat)(es:List Ent):List Ent:=if pres L p es=es.length then L else L.take (p+pres L p es) ++ es.drop (pres L p es)
theorem pres_of {L es:List Ent}{p j:Nat}(hj:j<es.length)(h:∀ i,i<j→L[p+i]?=es[i]?)(hn:L[p+j]?≠es[j]?):pres L p es=j:=by
 have hle:=pres_le L es p
 rcases Nat.lt_trichotomy (pres L p es) j with h1 | h1 | h1
 ·exact absurd (h _ h1) (pres_stop L es p (by omega))
 ·exact h1
 ·exact absurd (pres_at L es p j h1) hn
theorem pres_full {L es:List Ent}{p:Nat}(h:∀ i,i<es.length→L[p+i]?=es[i]?):pres L p es=es.length:=by
 have hle:=pres_le L es p
 rcases Nat.lt_or_ge (pres L p es) es.length with h1 | h1
 ·exact absurd (h _ h1) (pres_stop L es p h1)
 ·omega
structure AaPre (L:List Ent) (p:Nat) (term:Int) (l:List EV):Prop where
 pl:p≤L.length
 t:termAt L p=some term
 t0:0≤term
 v:∀ x∈l,Nd.validE x.e=true∧Bytes x.b
 m0:∀ x,l[0]?=some x→term≤x.t
 m:∀ (i:Nat) (x y:EV),l[i]?=some x→l[i+1]?=some y→x.t≤y.t
 n:l.length≤1000∧L.length≤800000
 s:Sm L
theorem appendAfter_any (w:World)(Z B:Nat→Prop)(g:Nat)(L:List Ent)(p:Nat)(term:Int)(A0:Option Addr)(c0:Nat)(l:List EV)(h:LS w Z g L)(hE:ES w B A0 l)(hBZ:∀ j,B j→¬ Z j)(hP:AaPre L p term l)(hcap:l.length≤c0) :
 Calls Tryz.prog 137 #[.pointer (some ⟨g,0,none⟩),.int .i64 (p:Int),.int .i64 term,.slice A0 l.length c0] w fun e w'=>e=.returned (.tuple #[.bool true,.int .i64 0])∧LS w' (fun k=>Z k∨w.heap.size≤k) g (newLog L p (l.map EV.e))∧Fr Z w w':=by
 obtain ⟨P1,P2,P3,P4,P5,P6,⟨P7,P8⟩,P9⟩:=hP
 have HV:=ħ fun (x:EV) (hx:x∈l) W=>validE_any x.t x.k x.A x.c x.b W true (P4 x hx).1
 have HTm:=ħ fun W (x:LS W Z g L)=>termAt_any W Z g L (p:Int) x (by omega) (by omega) term true (by rw[P2];rfl) (by rw[P2];rfl)
 have HE:=ħ (hE.old)
 have H:=ħ h
 have HM0:=ħ P5
 have HM:=ħ P6
 have HPV:=ħ P4
 have HS:=ħ P9
 have HBZ:=ħ hBZ
 have hPl:=hE.1.plain (by omega)
 have hp0:¬ ((p:Int)<0):=by omega
 have ht0:¬ (term<0):=by omega
 obtain ⟨n,hn⟩:∃ n,n=l.length:=⟨_,rfl⟩
 have HN:=ħ hn
 rw[←hn] at hPl P7 hcap⊢
 clear hn h hE hBZ P2 P3 P4 P5 P6 P9
 go_enter Tryz.func137,Tryz.ntmps137
 go_wp2_with fail
 go_loopw [28,10] (fun vi vl wr=>∃ (j:Nat) (la:Int),j≤n∧vi=.int .i64 j∧vl=.int .i64 la∧(∀ x,l[j]?=some x→la≤x.t)∧Below w.heap.size w wr) (fun vi _ _=>n - (intOf vi).toNat)
 case atStart=>exact ⟨0,term,Nat.zero_le _,rfl,rfl,HM0.out,Below.refl _ _⟩
 case round=>
  obtain ⟨j,la,hj,rfl,rfl,hla,hbel⟩:=hrel
  have HLa:=ħ hla
  clear hla
  by_cases hlt:j<n
  ·have hlt':(j:Int)<n:=by omega
   obtain ⟨x,hgx⟩:∃ x,l[j]?=some x:=⟨l[j]'(by rw[←HN.out];exact hlt),List.getElem?_eq_getElem _⟩
   have hxm:=List.mem_of_getElem? hgx
   have hRr:=HE.out.below hbel (fun _ h=>h.2)
   have hix:=fun W=>ixE hPl c0 j hlt W
   obtain ⟨d0,d1,d2⟩:=hRr.at_ hgx
   have hnl:¬ x.t<la:=by have:=HLa.out x hgx;omega
   have HG:=ħ hgx
   have HVx:=ħ fun W=>HV.out x hxm W
   have hbkl:0<n→bk A0<wr.heap.size:=fun h0=>hRr.1.bk_lt (by rw[←HN.out];exact h0) (by omega)
   obtain ⟨xt,xk,xA,xc,xb⟩:=x
   simp only at d0 d1 d2 hnl HVx
   clear hgx hxm hRr
   go_wp2_with fail
   refine (HVx.out wr).mono ?_
   rintro e w2 ⟨rfl,b2⟩
   have B2:=hbel.trans (b2.mono hbel.size)
   obtain ⟨e0,e1,e2⟩:=(HE.out.below B2 (fun _ h=>h.2)).at_ HG.out
   simp only at e0 e1 e2
   go_wp2_with fail
   refine ⟨⟨j+1,xt,by omega,by go_num,rfl,fun y hy=>HM.out j _ y HG.out hy,B2⟩,by simp[intOf];omega⟩
  ·have hge:¬ (j:Int)<n:=by omega
   clear hlt HLa HM HM0 HV
   have HL:=H.out.below hbel
   go_wp2_with fail
   refine (HTm.out wr HL).mono ?_
   rintro e w2 ⟨rfl,b2⟩
   have B2:=hbel.trans (b2.mono hbel.size)
   clear hbel HL b2 HTm hj hge
   go_wp2_with fail
   go_loopw [68] (fun vi wr=>∃ (j:Nat),j≤n∧vi=.int .i64 j∧(∀ i,i<j→L[p+i]?=(l.map EV.e)[i]?)∧Below w.heap.size w wr) (fun vi _=>n - (intOf vi).toNat)
   case atStart=>exact ⟨0,Nat.zero_le _,rfl,fun i hi=>by omega,B2⟩
   case round=>
    obtain ⟨j,hj,rfl,hsame,hbel⟩:=hrel
    have HSa:=ħ hsame
    clear hsame B2
    by_cases hlt:j<n
    ·have hlt':(j:Int)<n:=by omega
     obtain ⟨x,hgx⟩:∃ x,l[j]?=some x:=⟨l[j]'(by rw[←HN.out];exact hlt),List.getElem?_eq_getElem _⟩
     have hxm:=List.mem_of_getElem? hgx
     have hix:=fun W=>ixE hPl c0 j hlt W
     have HX:=ħ fun W (b:Below w.heap.size w W)=>(HE.out.below b (fun _ h=>h.2)).at_ hgx
     have HXb:=ħ fun W (b:Below w.heap.size w W)=>(HE.out.below b (fun _ h=>h.2)).2 x hxm
     have HXv:=ħ (HPV.out x hxm).2
     have HG:=ħ hgx
     have hpj:p+j≤L.length:=by
      rcases Nat.eq_zero_or_pos j with h0 | h0
      ·omega
      ·have:=HSa.out (j - 1) (by omega)
       rw[List.getElem?_map] at this
       obtain ⟨y,hy⟩:∃ y,l[j - 1]?=some y:=⟨l[j - 1]'(by rw[←HN.out];omega),List.getElem?_eq_getElem _⟩
       rw[hy] at this
       have:=(List.getElem?_eq_some_iff.1 this).1
       omega
     obtain ⟨m,hm⟩:∃ m,m=p+j:=⟨_,rfl⟩
     have hwp:IntKind.i64.wrap ((p:Int)+(j:Int))=(m:Int):=by rw[IntWalk.i64_in _ (by omega)];omega
     rw[←hm] at hpj
     have HMm:=ħ hm
     obtain ⟨q,hq⟩:∃ q,q=decide (L[m]?=some x.e):=⟨_,rfl⟩
     have HQ:=ħ hq
     obtain ⟨xt,xk,xA,xc,xb⟩:=x
     simp only at HX HXb HXv
     clear hgx hxm hq hm
     go_upto_region 19 with (fail)
     go_cut [94] (fun v wx=>v=.bool q∧Below wr.heap.size wr wx)
     case first=>
      obtain ⟨A,c,es,hz,heL⟩:=H.out.below hbel
      have hel:es.length=L.length:=by rw[←heL,List.length_map]
      obtain ⟨y0,y1,y2⟩:=hz.b.facts
      rcases Nat.lt_or_ge m es.length with hin | hout
      ·obtain ⟨y,hgy⟩:∃ y,es[m]?=some y:=⟨es[m]'hin,List.getElem?_eq_getElem _⟩
       have hse:=hz.seen
       have hPy:=hse.1.plain (by omega)
       have hiy:=fun W=>ixE hPy c m hin W
       have hym:=List.mem_of_getElem? hgy
       have HYb:=ħ (((hse.2 y hym).old (by omega)))
       have HYe:=ħ ((show ES wr Z A es from hse).old)
       have HYv:=ħ (HS.out y.e (by rw[←heL];exact List.mem_map_of_mem hym)).2
       have HQ2:=ħ (show decide (y.e=(⟨xt,xk,xb⟩:Ent))=q by
        rw[HQ.out,←heL,map_at hgy]
        simp[EV.e])
       have hind:decide ((m:Int)<(es.length:Int))=true:=by simp;omega
       have hind2:decide (m<es.length)=true:=by simp;omega
       have hind3:((m:Int)<(es.length:Int)):=by omega
       have HGy:=ħ hgy
       have HK:=ħ fun W (b:Below wr.heap.size wr W)=>(show (W.cell? ⟨g,0,none⟩=some (.slice A es.length c))∧(W.cell? ⟨bk A,ofs A+m * 3,none⟩=some (.int .i64 y.t)∧W.cell? ⟨bk A,ofs A+m * 3+1,none⟩=some (.int .i64 y.k)∧W.cell? ⟨bk A,ofs A+m * 3+2,none⟩=some (.slice y.A y.b.length y.c))∧(W.cell? ⟨bk A0,ofs A0+j * 3,none⟩=some (.int .i64 xt)∧W.cell? ⟨bk A0,ofs A0+j * 3+1,none⟩=some (.int .i64 xk)∧W.cell? ⟨bk A0,ofs A0+j * 3+2,none⟩=some (.slice xA xb.length xc)) from
        ⟨(hz.b.below b hz.b.lt).cell 0,(HYe.out.below b (fun _ h=>h.2)).at_ HGy.out,HX.out W (hbel.trans (b.mono hbel.size))⟩)
       obtain ⟨yt,yk,yA,yc,yb⟩:=y
       simp only at HK HYb HYv
       have HC:=ħ fun W (b:Below wr.heap.size wr W)=>equalE_any _ _ yt yk yA yc yb xt xk xA xc xb W (HYb.out.below b (fun _ h=>h.2)) (HXb.out W (hbel.trans (b.mono hbel.size))) HYv.out HXv.out q HQ2.out
       have hbA:=hse.1.bk_lt (by omega) (by omega)
       have hbA0:bk A0<wr.heap.size:=(HE.out.below hbel (fun _ h=>h.2)).1.bk_lt (by rw[←HN.out];omega) (by omega)
       clear hgy hse hym heL hz hel
       have K1:=HK.out _ (Below.refl _ wr).drew
       go_region_held (fun W'=>(W'.cell? ⟨g,0,none⟩=some (.slice A es.length c))∧(W'.cell? ⟨bk A,ofs A+m * 3,none⟩=some (.int .i64 yt)∧W'.cell? ⟨bk A,ofs A+m * 3+1,none⟩=some (.int .i64 yk)∧W'.cell? ⟨bk A,ofs A+m * 3+2,none⟩=some (.slice yA yb.length yc))∧(W'.cell? ⟨bk A0,ofs A0+j * 3,none⟩=some (.int .i64 xt)∧W'.cell? ⟨bk A0,ofs A0+j * 3+1,none⟩=some (.int .i64 xk)∧W'.cell? ⟨bk A0,ofs A0+j * 3+2,none⟩=some (.slice xA xb.length xc))) (first | assumption | exact K1) (first
        | (((with_reducible refine (HC.out _ ((Below.refl _ _).drew)).mono ?_);rintro e W2 ⟨rfl,hB2⟩;have B2:=((Below.refl wr.heap.size wr).drew).trans hB2;clear hB2;have K2:=HK.out _ B2)))
       all_goals
        go_wp2_with fail
        go_meet
        case rel=>exact ⟨rfl,B2⟩
      ·have hno:decide ((m:Int)<(es.length:Int))=false:=by simp;omega
       have hqf:q=false:=by
        rw[HQ.out,←heL,List.getElem?_eq_none (by rw[List.length_map];omega)];rfl
       have hno2:decide (m<es.length)=false:=by simp;omega
       subst hqf
       clear heL hz hel
       go_quiet (fail)
       all_goals
        go_wp2_with fail
        go_meet
        case rel=>exact ⟨rfl,below_drewN (Below.refl _ _) _⟩
     case rest=>
      obtain ⟨rfl,hbc⟩:=hcut
      have hbw:=hbel.trans (hbc.mono hbel.size)
      clear hbc HX HXb HXv
      cases q with
      | true=>
       go_wp2_with fail
       refine ⟨⟨j+1,by omega,by go_num,fun i hi=>?_,hbw⟩,by simp[intOf];omega⟩
       rcases Nat.lt_or_ge i j with h1 | h1
       ·exact HSa.out i h1
       ·have hij:i=j:=by omega
        subst hij
        have:=HQ.out
        rw[←HMm.out,map_at HG.out]
        simpa using this.symm
      | false=>
       have hpr:pres L p (l.map EV.e)=j:=by
        refine pres_of (by rw[List.length_map,←HN.out];exact hlt) HSa.out ?_
        rw[←HMm.out,map_at HG.out]
        have:=HQ.out
        simpa using this.symm
       have HNL:=ħ (show newLog L p (l.map EV.e)=L.take m ++ (l.drop j).map EV.e by
        unfold newLog
        rw[hpr,if_neg (by rw[List.length_map,←HN.out];omega),←HMm.out,List.map_drop])
       clear hpr HQ HG hix
       obtain ⟨A,c,es,hz,heL⟩:=H.out.below hbw
       have hel:es.length=L.length:=by rw[←heL,List.length_map]
       have hmn:m≤es.length:=by omega
       obtain ⟨w2,hclr,ho2,hf2,hsz2⟩:=run_clear45 hz.o hmn
       obtain ⟨u1,u2⟩:=LZ.cutoff hz hmn ho2 hf2
       have g2:Blk w2 g 136 #[.slice A es.length c]:=hz.b.fr hf2 (fun e=>own_ne hz.o hz.b (by decide) g e rfl)
       obtain ⟨y0,y1,y2⟩:=hz.b.facts
       obtain ⟨z0,z1,z2⟩:=g2.facts
       have r1:=fun W=>run_lo45 (A:=A) (c:=c) hmn W
       have r2:=fun W=>run_lo45b (A:=A) (c:=c) hmn W
       have hmc:m≤c:=by have:=own_cap hz.o;omega
       have r3:=fun W=>run_hi45 (A:=A) (n:=es.length) hmc W
       have r4:=fun W=>run_hi45b (A:=A) (n:=es.length) hmc W
       have r5:=fun W=>run_lo45 (A:=A0) (c:=c0) (n:=n) (k:=j) (by omega) W
       have r6:=fun W=>run_lo45b (A:=A0) (c:=c0) (n:=n) (k:=j) (by omega) W
       have hF2:Fr Z w (w2.setCell ⟨g,0,none⟩ (.slice A m c)):=(Fr.of_below hbw).trans u2
       have hLt:(es.take m).map EV.e=L.take m:=by rw[List.map_take,heL]
       have HU:=ħ (show LS (w2.setCell ⟨g,0,none⟩ (.slice A m c)) (fun k=>Z k∨w.heap.size≤k) g (L.take m) from LS.wider ⟨A,c,_,u1,hLt⟩ (fun k hk=>.inl hk))
       have HL9:=ħ (show (L.take m).length≤800000 by rw[List.length_take];omega)
       clear hz heL hel u1 u2 hLt ho2 hf2 g2 hsz2 HSa hpj
       generalize es.length=N at *
       go_upto_region 22 with (fail)
       generalize w2.setCell ⟨g,0,none⟩ (.slice A m c)=W3 at *
       clear z0 z1 z2 y0 y1 y2 hclr r1 r2 r3 r4
       go_wp2_with fail
       go_loopw [114] (fun vi wr=>∃ (i:Nat),i≤n - j∧vi=.int .i64 i∧LS wr (fun k=>Z k∨w.heap.size≤k) g (L.take m ++ ((l.drop j).take i).map EV.e)∧Fr Z w wr) (fun vi _=>n - j - (intOf vi).toNat)
       case atStart=>exact ⟨0,Nat.zero_le _,rfl,by simpa using HU.out,hF2⟩
       case round=>
        obtain ⟨i,hi,rfl,hU,hF⟩:=hrel
        have HU:=ħ hU
        clear hU hF2
        have hsw:=hF.size
        by_cases hlt3:i<n - j
        ·have hlt3':(i:Int)<((n - j:Nat):Int):=by omega
         have hED:ES wr (fun k=>B k∧k<w.heap.size) (cutE A0 c0 j) (l.drop j):=(HE.out.fr hF (fun k hk=>HBZ.out k hk.1)).drop (by rw[←HN.out];omega) (by rw[←HN.out];exact hcap)
         have hldj:(l.drop j).length=n - j:=by rw[List.length_drop,←HN.out]
         obtain ⟨x,hgx⟩:∃ x,(l.drop j)[i]?=some x:=⟨(l.drop j)[i]'(by omega),List.getElem?_eq_getElem _⟩
         have hxm:=List.mem_of_mem_drop (List.mem_of_getElem? hgx)
         have hP2:Plain (cutE A0 c0 j) (n - j):=by have:=hED.1.plain (by omega);rwa [hldj] at this
         have hix:=fun W=>ixE hP2 (c0 - j) i hlt3 W
         obtain ⟨d0,d1,d2⟩:=hED.at_ hgx
         have HXb:=ħ (hED.2 x (List.mem_of_getElem? hgx))
         have HTk:=ħ (show ((l.drop j).take (i+1)).map EV.e=((l.drop j).take i).map EV.e ++ [x.e] by rw[List.take_add_one,hgx];simp)
         have hxl:x.b.length≤1000000:=by
          have:=(HPV.out x hxm).1
          unfold Nd.validE at this
          simp only[Bool.and_eq_true,decide_eq_true_eq] at this
          have h2:=this.2
          have e:x.e.body=x.b:=rfl
          rw[e] at h2;omega
         have HXl:=ħ hxl
         obtain ⟨xt,xk,xA,xc,xb⟩:=x
         simp only at d0 d1 d2 HXb HXl
         clear hgx hxm hED hldj hxl
         go_upto_region 25 with (fail)
         have HU3:=HU.out.fr (S:=fun _=>False) ((Fr.refl _ wr).alloc (.cells (evC xt xk xA xb.length xc) 58)) (fun _ _=>id)
         have gb:Blk (wr.alloc (.cells (evC xt xk xA xb.length xc) 58)) wr.heap.size 58 (evC xt xk xA xb.length xc):=Blk.new wr 58 _
         have hF3:=hF.alloc (.cells (evC xt xk xA xb.length xc) 58)
         have HXb3:=ħ (HXb.out.alloc (.cells (evC xt xk xA xb.length xc) 58))
         have hsz3:wr.heap.size<(wr.alloc (.cells (evC xt xk xA xb.length xc) 58)).heap.size:=by simp
         obtain ⟨pb,hpb⟩:∃ pb,pb=wr.heap.size:=⟨_,rfl⟩
         rw[←hpb] at gb hsz3⊢
         have hwpb:w.heap.size≤pb:=by omega
         clear d0 d1 d2 hix hP2
         generalize wr.alloc (.cells (evC xt xk xA xb.length xc) 58)=W4 at *
         clear hpb hF hsw HU
         obtain ⟨A,c,es,hz,heL⟩:=HU3
         have hel:es.length≤900000:=by
          have h7:((l.drop j).take i).length≤n:=by rw[List.length_take,List.length_drop,←HN.out];omega
          rw[←List.length_map (f:=EV.e),heL,List.length_append,List.length_map]
          have:=HL9.out;omega
         have HeL:=ħ heL
         obtain ⟨q0,q1,q2⟩:=gb.facts
         obtain ⟨x0,x1,x2⟩:=hz.b.facts
         clear heL
         have HK:=ħ fun (W:World) (x:Below W4.heap.size W4 W)=>(show W.cell? ⟨g,0,none⟩=some (.slice A es.length c)∧W.cell? ⟨pb,0,none⟩=some (.int .i64 xt)∧W.cell? ⟨pb,1,none⟩=some (.int .i64 xk)∧W.cell? ⟨pb,2,none⟩=some (.slice xA xb.length xc) from ⟨(hz.b.below x hz.b.lt).cell 0,(gb.below x gb.lt).cell 0,(gb.below x gb.lt).cell 1,(gb.below x gb.lt).cell 2⟩)
         have HCl:=ħ fun (W:World) (y:Reads W (fun k=>B k∧k<w.heap.size) 1 xA xb.length (bys xb))=>cloneE_any _ xt xk xA xc xb W y HXl.out
         obtain ⟨k1,k2,k3,k4⟩:=HK.out _ (Below.refl _ _)
         go_region_law (first
          | (refine step_append_any _ (by rfl) (.tmp 122) (.tmp 125) _ (by rfl) 0 58 _ 3 40 Tryz.underlying45 info58 rfl (by omega) (.slice A es.length c) es.length (es.flatMap evL) (by rfl) (own_fr hz.o (Fr.of_below (S:=fun _=>False) (B4.trans ((Below.refl _ _).alloc B4.size (.cells (evC xt xk A4 xb.length c4) 58)))) (fun _ _=>id)) _ (some ⟨w4.heap.size,0,none⟩) 1 1 [.int .i64 xt,.int .i64 xk,.slice A4 xb.length c4] (by rfl) (Reads.newS _ [.int .i64 xt,.int .i64 xk,.slice A4 xb.length c4] 58 (0,0) 1 3 rfl _ rfl) (by intro u hu;simp at hu;rcases hu with rfl | rfl | rfl <;> rfl) (by simp only[maxLen];omega) (by omega) (by simp) ?_
             intro A5 c5 w5 hown5 hgr5 hat5
             have j5:=((hz.b.below B4 hz.b.lt).alloc (.cells (evC xt xk A4 xb.length c4) 58)).grown hgr5 (fun e=>own_ne hz.o hz.b (by decide) _ e.symm rfl)
             obtain ⟨y0,y1,y2⟩:=j5.facts)
          | (go_simp;((with_reducible refine (HCl.out _ (by exact HXb3.out.drew)).mono ?_);rintro e w4 ⟨A4,c4,rfl,r4,hB4⟩;have B4:=((Below.refl W4.heap.size W4).drew).trans hB4;obtain ⟨m1,m2,m3,m4⟩:=HK.out _ B4;have lg4:=(hz.b.below B4 hz.b.lt).lt;have lw4:=(gb.below B4 gb.lt).lt)))
         all_goals
          go_wp2_with fail
          obtain ⟨u1,u2⟩:=LZ.push hz B4 r4 hgr5 hown5 hat5
          refine ⟨⟨i+1,by omega,by go_num,?_,?_⟩,by simp[intOf];omega⟩
          ·exact (LS.wider (Z:=fun k=>(Z k∨w.heap.size≤k)∨W4.heap.size≤k) ⟨A5,c5,_,u1,by rw[List.map_append,HeL.out,HTk.out,List.append_assoc];rfl⟩ (fun k hk=>hk.elim id (fun e=>.inr (by omega))))
          ·exact ((hF3.mono (T:=fun k=>Z k∨w.heap.size≤k) (fun k _ hk=>.inl hk)).trans u2).mono (fun k hk hz=>hz.elim id (fun e=>by omega))
        ·have hge3:¬ (i:Int)<((n - j:Nat):Int):=by omega
         have hin:i=n - j:=by omega
         have HR:=ħ (show L.take m ++ ((l.drop j).take i).map EV.e=newLog L p (l.map EV.e) by
          have ht:(l.drop j).take i=l.drop j:=List.take_of_length_le (by rw[List.length_drop,←HN.out,hin];exact Nat.le_refl _)
          rw[HNL.out,ht])
         clear hin
         go_wp2
         refine bodyPost_ret (v:=.tuple #[.bool true,.int .i64 0]) (by simp[results,Tryz.results137,go_sem]) rfl ⟨rfl,?_,hF⟩
         rw[←HR.out];exact HU.out
    ·have hge:¬ (j:Int)<n:=by omega
     have hjn:j=n:=by omega
     have HL:=ħ (H.out.below hbel)
     have hNL:newLog L p (l.map EV.e)=L:=by
      unfold newLog
      rw[if_pos (pres_full (fun i hi=>HSa.out i (by rw[List.length_map,←HN.out] at hi;omega)))]
     have HNL:=ħ hNL
     clear hNL hjn
     go_wp2
     refine bodyPost_ret (v:=.tuple #[.bool true,.int .i64 0]) (by simp[results,Tryz.results137,go_sem]) rfl ⟨rfl,?_,Fr.of_below hbel⟩
     rw[HNL.out]
     exact HL.out.wider (fun k hk=>.inl hk)
end Go.Proofs.YtdfobfjpkjddpaaGreat
namespace Go.Proofs.YtdfobfjpkjddpaaGreat
open Go.RowKit Go.Own Go.Quo
def ClPost (l:List Int)(w:World)(e:Ending)(w':World):Prop:=∃ A c,e=.returned (.slice A l.length c)∧RI w' (w.heap.size≤·) A l∧Below w.heap.size w w'
theorem own_slice {w:World}{base:Nat}{e:TypeId}{v:Value}{l:List Int}(h:w.ownsRow base e 1 v l.length (l.map (Value.int .i64))):∃ A c,v=.slice A l.length c∧RI w (base≤·) A l:=by
 rcases h.2 with ⟨rfl,hx⟩ | ⟨g,cap,cur,rfl,_⟩
 ·have hl:l.length=0:=hx
  rw[hl] at h⊢
  exact ⟨none,0,rfl,by have e:l=[]:=List.eq_nil_of_length_eq_zero hl;subst e;exact Reads.none_⟩
 ·exact ⟨_,_,rfl,(Reads.of_own h).more (fun k hk=>(h.lt k hk).1)⟩
theorem cloneI_any (B:Nat→Prop)(A:Option Addr)(c:Nat)(l:List Int)(w:World)(h:RI w B A l)(hm:l.length≤1000) :
 Calls Tryz.prog 33 #[.slice A l.length c] w (ClPost l w):=by
 cases A with
 | none=>
  have hl:l=[]:=by
   rcases Nat.eq_zero_or_pos l.length with h0 | h0
   ·exact List.eq_nil_of_length_eq_zero h0
   ·obtain ⟨ad,e,_⟩:=h.2 h0;cases e
  subst hl
  refine (Tryz.slices_Clone_int_nil 0 c w).mono ?_
  rintro e w' ⟨rfl,rfl⟩
  exact ⟨none,0,rfl,Reads.none_,Below.refl _ _⟩
 | some ad=>
  rcases Nat.eq_zero_or_pos l.length with h0 | h0
  ·have hl:l=[]:=List.eq_nil_of_length_eq_zero h0
   subst hl
   refine (Tryz.slices_Clone_int_zero ad c w).mono ?_
   rintro e w' ⟨v',rfl,hown,-,hb⟩
   obtain ⟨A',c',rfl,hr⟩:=own_slice (l:=[]) hown
   exact ⟨A',c',rfl,hr,hb⟩
  ·obtain ⟨b,o,e⟩:=h.plain (by omega) h0
   cases e
   refine (Tryz.slices_Clone_int b o l.length c l w (Nat.le_refl _) (by omega) (fun j hj=>?_)).mono ?_
   ·have:=RI.at_ h hj
    rw[show l.getD j 0=gd l j from rfl]
    simpa [bk,ofs,adr] using this
   ·rintro e w' ⟨v',rfl,hown,-,hb⟩
    rw[List.take_of_length_le (Nat.le_refl _)] at hown
    obtain ⟨A',c',rfl,hr⟩:=own_slice hown
    exact ⟨A',c',rfl,hr,hb⟩
def ChPost (Bx:Nat→Prop)(o' n':List Int)(er:Int)(w:World)(e:Ending)(w':World):Prop:=∃ m':Ms,m'.o=o'∧m'.n=n'∧e=.returned (.tuple #[msV m',.int .i64 er])∧MR w' (fun k=>Bx k∨w.heap.size≤k) m'∧Below w.heap.size w w'
abbrev msZ:Array Value:=#[.slice none 0 0,.slice none 0 0]
def nilM:Ms:=⟨none,0,[],none,0,[]⟩
theorem nilMR (w:World)(B:Nat→Prop):MR w B nilM:=⟨Reads.none_,Reads.none_,by simp[nilM],by simp[nilM]⟩
theorem begin_bad (B B2:Nat→Prop)(m:Ms)(A:Option Addr)(c:Nat)(nx:List Int)(w:World)(h:MR w B m)(hy:RI w B2 A nx)(hl:nx.length≤1000)(hv:vB m.o m.n=false∨mlB nx=false) :
 Calls Tryz.prog 69 #[msV m,.slice A nx.length c] w (ChPost (fun k=>B k∨B2 k) [] [] 1 w):=by
 have h1:=(h.alloc (.cells (msC m) 24)).alloc (.cells msZ 24)
 have hy2:=((hy.alloc (.cells (msC m) 24)).alloc (.cells msZ 24)).alloc (.cells (msC m) 24)
 cases hvv:vB m.o m.n with
 | false=>
  have HO:=ħ (valid_b B m _ h1 false hvv)
  clear h h1 hy hy2 hv hvv
  go_enter Tryz.func69,Tryz.ntmps69
  go_wp2_with (go_at_call 54;((with_reducible refine HO.out.mono ?_);rintro e w1 ⟨rfl,rfl⟩))
  refine bodyPost_ret (v:=.tuple #[msV nilM,.int .i64 1]) (by simp[results,Tryz.results69,go_sem,nilM]) rfl ⟨nilM,rfl,rfl,rfl,nilMR _ _,?_⟩
  exact (((Below.refl _ _).alloc (Nat.le_refl _) _).alloc (by simp) _).alloc (by simp;omega) _
 | true=>
  have hm:mlB nx=false:=by rcases hv with hv | hv;· rw[hv] at hvv;cases hvv
                           ·exact hv
  have HO:=ħ (valid_b B m _ h1 true hvv)
  have HM:=ħ (memberList_b B2 A c nx _ hy2 hl false hm)
  clear h h1 hy hy2 hv hvv hm
  go_enter Tryz.func69,Tryz.ntmps69
  go_wp2_with (first
   | (go_at_call 54;((with_reducible refine HO.out.mono ?_);rintro e w1 ⟨rfl,rfl⟩))
   | (go_at_call 85;((with_reducible refine HM.out.mono ?_);rintro e w1 ⟨rfl,rfl⟩)))
  refine bodyPost_ret (v:=.tuple #[msV nilM,.int .i64 1]) (by simp[results,Tryz.results69,go_sem,nilM]) rfl ⟨nilM,rfl,rfl,rfl,nilMR _ _,?_⟩
  exact (((Below.refl _ _).alloc (Nat.le_refl _) _).alloc (by simp) _).alloc (by simp;omega) _
theorem begin_busy (B B2:Nat→Prop)(m:Ms)(A:Option Addr)(c:Nat)(nx:List Int)(w:World)(h:MR w B m)(hy:RI w B2 A nx)(hl:nx.length≤1000)(hv:vB m.o m.n=true)(hm:mlB nx=true)(hn:0<m.n.length) :
 Calls Tryz.prog 69 #[msV m,.slice A nx.length c] w (ChPost (fun k=>B k∨B2 k) [] [] 8 w):=by
 have h1:=(h.alloc (.cells (msC m) 24)).alloc (.cells msZ 24)
 have hy2:=((hy.alloc (.cells (msC m) 24)).alloc (.cells msZ 24)).alloc (.cells (msC m) 24)
 have HO:=ħ (valid_b B m _ h1 true hv)
 have HM:=ħ (memberList_b B2 A c nx _ hy2 hl true hm)
 have hn':(0:Int)<m.n.length:=by omega
 clear h h1 hy hy2 hv hm
 go_enter Tryz.func69,Tryz.ntmps69
 go_wp2_with (first
  | (go_at_call 54;((with_reducible refine HO.out.mono ?_);rintro e w1 ⟨rfl,rfl⟩))
  | (go_at_call 85;((with_reducible refine HM.out.mono ?_);rintro e w1 ⟨rfl,rfl⟩)))
 refine bodyPost_ret (v:=.tuple #[msV nilM,.int .i64 8]) (by simp[results,Tryz.results69,go_sem,nilM]) rfl ⟨nilM,rfl,rfl,rfl,nilMR _ _,?_⟩
 exact (((Below.refl _ _).alloc (Nat.le_refl _) _).alloc (by simp) _).alloc (by simp;omega) _
theorem begin_ok (B B2:Nat→Prop)(m:Ms)(A:Option Addr)(c:Nat)(nx:List Int)(w:World)(h:MR w B m)(hy:RI w B2 A nx)(hl:nx.length≤1000)(hv:vB m.o m.n=true)(hm:mlB nx=true)(hn:m.n.length=0) :
 Calls Tryz.prog 69 #[msV m,.slice A nx.length c] w (ChPost (fun k=>B k∨B2 k) m.o nx 0 w):=by
 have h1:=(h.alloc (.cells (msC m) 24)).alloc (.cells msZ 24)
 have hy2:=((hy.alloc (.cells (msC m) 24)).alloc (.cells msZ 24)).alloc (.cells (msC m) 24)
 have HO:=ħ (valid_b B m _ h1 true hv)
 have HM:=ħ (memberList_b B2 A c nx _ hy2 hl true hm)
 have hn':¬ (0:Int)<m.n.length:=by omega
 have h3:=h1.alloc (.cells (msC m) 24)
 clear h h1 hy hv hm hn
 go_enter Tryz.func69,Tryz.ntmps69
 go_wp2_with (first
  | (go_at_call 54;((with_reducible refine HO.out.mono ?_);rintro e w1 ⟨rfl,rfl⟩))
  | (go_at_call 85;((with_reducible refine HM.out.mono ?_);rintro e w1 ⟨rfl,rfl⟩)))
 generalize hW:((w.alloc (.cells (msC m) 24)).alloc (.cells msZ 24)).alloc (.cells (msC m) 24)=W at *
 have g1:Blk W (w.heap.size+1) 24 msZ:=by rw[←hW];simpa using (Blk.new (w.alloc _) 24 _).alloc _
 have b1:Below w.heap.size w W:=by rw[←hW];exact (((Below.refl _ _).alloc (Nat.le_refl _) _).alloc (by simp) _).alloc (by simp;omega) _
 clear hW HO HM
 refine (cloneI_any B m.A m.c m.o W h3.o h3.ol).mono ?_
 rintro e w2 ⟨A2,c2,rfl,r2,hB2⟩
 have hy3:=hy2.fr (S:=fun _=>False) (Fr.of_below hB2) (fun _ _=>id)
 have g2:=g1.below hB2 g1.lt
 have b2:=b1.trans (hB2.mono b1.size)
 go_wp2_with fail
 refine (cloneI_any B2 A c nx w2 hy3 hl).mono ?_
 rintro e w3 ⟨A3,c3,rfl,r3,hB3⟩
 have g3:=g2.below hB3 g2.lt
 have b3:=b2.trans (hB3.mono b2.size)
 have r2':=(r2.old (by omega)).below hB3 (fun _ hk=>hk.2)
 have r3':=r3.old (by omega)
 have hg1:=g1.lt
 have hs2:=hB2.size
 obtain ⟨q0,q1,q2⟩:=g3.facts
 simp only[msZ] at q1
 go_wp2
 refine bodyPost_ret (v:=.tuple #[msV ⟨A2,c2,m.o,A3,c3,nx⟩,.int .i64 0]) (by simp[results,Tryz.results69,go_sem,q1]) rfl ⟨⟨A2,c2,m.o,A3,c3,nx⟩,rfl,rfl,rfl,?_,?_⟩
 ·refine ⟨?_,?_,h3.ol,hl⟩
  ·exact ((r2'.setCell (by simp;omega) _).setCell (by simp;omega) _).more (fun k hk=>.inr (by have:=b1.size;omega))
  ·exact ((r3'.setCell (by simp;omega) _).setCell (by simp;omega) _).more (fun k hk=>.inr (by have:=b1.size;omega))
 ·exact (b3.setCell (by simp) _).setCell (by simp) _
theorem end_bad (B:Nat→Prop)(m:Ms)(w:World)(h:MR w B m)(hv:vB m.o m.n=false) :
 Calls Tryz.prog 112 #[msV m] w (ChPost B [] [] 1 w):=by
 have h1:=(h.alloc (.cells (msC m) 24)).alloc (.cells msZ 24)
 have HO:=ħ (valid_b B m _ h1 false hv)
 clear h h1 hv
 go_enter Tryz.func112,Tryz.ntmps112
 go_wp2_with (go_at_call 54;((with_reducible refine HO.out.mono ?_);rintro e w1 ⟨rfl,rfl⟩))
 refine bodyPost_ret (v:=.tuple #[msV nilM,.int .i64 1]) (by simp[results,Tryz.results112,go_sem,nilM]) rfl ⟨nilM,rfl,rfl,rfl,nilMR _ _,?_⟩
 exact (((Below.refl _ _).alloc (Nat.le_refl _) _).alloc (by simp) _).alloc (by simp;omega) _
theorem end_still (B:Nat→Prop)(m:Ms)(w:World)(h:MR w B m)(hv:vB m.o m.n=true)(hn:m.n.length=0) :
 Calls Tryz.prog 112 #[msV m] w (ChPost B [] [] 8 w):=by
 have h1:=(h.alloc (.cells (msC m) 24)).alloc (.cells msZ 24)
 have HO:=ħ (valid_b B m _ h1 true hv)
 have hn':((m.n.length:Int) == 0)=true:=by rw[beq_iff_eq];omega
 have hn'':(m.n.length == 0)=true:=by rw[beq_iff_eq];omega
 clear h h1 hv hn
 go_enter Tryz.func112,Tryz.ntmps112
 go_wp2_with (go_at_call 54;((with_reducible refine HO.out.mono ?_);rintro e w1 ⟨rfl,rfl⟩))
 refine bodyPost_ret (v:=.tuple #[msV nilM,.int .i64 8]) (by simp[results,Tryz.results112,go_sem,nilM]) rfl ⟨nilM,rfl,rfl,rfl,nilMR _ _,?_⟩
 exact (((Below.refl _ _).alloc (Nat.le_refl _) _).alloc (by simp) _).alloc (by simp;omega) _
theorem end_ok (B:Nat→Prop)(m:Ms)(w:World)(h:MR w B m)(hv:vB m.o m.n=true)(hn:m.n.length≠0) :
 Calls Tryz.prog 112 #[msV m] w (ChPost B m.n [] 0 w):=by
 have h1:=(h.alloc (.cells (msC m) 24)).alloc (.cells msZ 24)
 have HO:=ħ (valid_b B m _ h1 true hv)
 have hn':((m.n.length:Int) == 0)=false:=by rw[beq_eq_false_iff_ne];omega
 have hn'':(m.n.length == 0)=false:=by rw[beq_eq_false_iff_ne];omega
 have h3:=h1.alloc (.cells (msC m) 24)
 clear h h1 hv hn
 go_enter Tryz.func112,Tryz.ntmps112
 go_wp2_with (go_at_call 54;((with_reducible refine HO.out.mono ?_);rintro e w1 ⟨rfl,rfl⟩))
 generalize hW:((w.alloc (.cells (msC m) 24)).alloc (.cells msZ 24)).alloc (.cells (msC m) 24)=W at *
 have g1:Blk W (w.heap.size+1) 24 msZ:=by rw[←hW];simpa using (Blk.new (w.alloc _) 24 _).alloc _
 have b1:Below w.heap.size w W:=by rw[←hW];exact (((Below.refl _ _).alloc (Nat.le_refl _) _).alloc (by simp) _).alloc (by simp;omega) _
 clear hW HO
 refine (cloneI_any B m.A' m.c' m.n W h3.n h3.nl).mono ?_
 rintro e w2 ⟨A2,c2,rfl,r2,hB2⟩
 have g2:=g1.below hB2 g1.lt
 have b2:=b1.trans (hB2.mono b1.size)
 have r2':=r2.old (by omega)
 have hg1:=g1.lt
 have hs2:=hB2.size
 obtain ⟨q0,q1,q2⟩:=g2.facts
 simp only[msZ] at q1
 go_wp2
 refine bodyPost_ret (v:=.tuple #[msV ⟨A2,c2,m.n,none,0,[]⟩,.int .i64 0]) (by simp[results,Tryz.results112,go_sem,q1]) rfl ⟨⟨A2,c2,m.n,none,0,[]⟩,rfl,rfl,rfl,?_,?_⟩
 ·refine ⟨?_,Reads.none_,h3.nl,by simp⟩
  exact ((r2'.setCell (by simp;omega) _).setCell (by simp;omega) _).more (fun k hk=>.inr (by have:=b1.size;omega))
 ·exact (b2.setCell (by simp) _).setCell (by simp) _
def begF (o n nx:List Int):List Int × List Int × Int:=if (vB o n && mlB nx)=true then (if 0<n.length then ([],[],8) else (o,nx,0)) else ([],[],1)
def setF (o n:List Int):List Int × List Int × Int:=if vB o n=true then (if n.length=0 then ([],[],8) else (n,[],0)) else ([],[],1)
theorem begin_any (B B2:Nat→Prop)(m:Ms)(A:Option Addr)(c:Nat)(nx:List Int)(w:World)(h:MR w B m)(hy:RI w B2 A nx)(hl:nx.length≤1000) :
 Calls Tryz.prog 69 #[msV m,.slice A nx.length c] w (ChPost (fun k=>B k∨B2 k) (begF m.o m.n nx).1 (begF m.o m.n nx).2.1 (begF m.o m.n nx).2.2 w):=by
 unfold begF
 cases hv:(vB m.o m.n && mlB nx) with
 | false=>
  rw[if_neg (by simp)]
  rw[Bool.and_eq_false_iff] at hv
  exact begin_bad B B2 m A c nx w h hy hl hv
 | true=>
  rw[if_pos rfl]
  rw[Bool.and_eq_true] at hv
  by_cases hn:0<m.n.length
  ·rw[if_pos hn];exact begin_busy B B2 m A c nx w h hy hl hv.1 hv.2 hn
  ·rw[if_neg hn];exact begin_ok B B2 m A c nx w h hy hl hv.1 hv.2 (by omega)
theorem end_any (B:Nat→Prop)(m:Ms)(w:World)(h:MR w B m) :
 Calls Tryz.prog 112 #[msV m] w (ChPost B (setF m.o m.n).1 (setF m.o m.n).2.1 (setF m.o m.n).2.2 w):=by
 unfold setF
 cases hv:vB m.o m.n with
 | false=>rw[if_neg (by simp)];exact end_bad B m w h hv
 | true=>
  rw[if_pos rfl]
  by_cases hn:m.n.length=0
  ·rw[if_pos hn];exact end_still B m w h hv hn
  ·rw[if_neg hn];exact end_ok B m w h hv hn
end Go.Proofs.YtdfobfjpkjddpaaGreat

import Derived.Test.YtdfobfjpkjddpaaGreatUG23
import Derived.Deep.QuietTactic
set_option linter.unusedVariables false
set_option linter.unusedSimpArgs false
set_option maxRecDepth 10000
set_option maxHeartbeats 8000000
namespace Go.Proofs.YtdfobfjpkjddpaaGreat
open Go.RowKit Go.Own Go.Quo Go.Wire Go.Raft
theorem validM_iff (m:Msg):Nd.validM m=true↔(1≤m.kind∧m.kind≤4∧¬ m.frm=m.to∧0≤m.frm∧m.frm<9∧0≤m.to∧m.to<9∧Nd.inR m.term 1=true∧Nd.inR m.prev 0=true∧Nd.inR m.pterm 0=true∧Nd.inR m.commit 0=true∧m.es.length≤16∧(m.es.length=0∨m.kind=3)∧Nd.validEs m.term m.pterm m.es=true):=by
 unfold Nd.validM
 simp only[Bool.and_eq_true,Bool.or_eq_true,decide_eq_true_eq,Bool.not_eq_true',decide_eq_false_iff_not]
 constructor
 ·rintro ⟨⟨⟨⟨⟨⟨⟨⟨⟨⟨⟨⟨⟨a,b⟩,c⟩,d⟩,e⟩,f⟩,g⟩,h⟩,i⟩,j⟩,k⟩,l⟩,m⟩,n⟩
  exact ⟨a,b,c,d,e,f,g,h,i,j,k,l,m,n⟩
 ·rintro ⟨a,b,c,d,e,f,g,h,i,j,k,l,m,n⟩
  exact ⟨⟨⟨⟨⟨⟨⟨⟨⟨⟨⟨⟨⟨a,b⟩,c⟩,d⟩,e⟩,f⟩,g⟩,h⟩,i⟩,j⟩,k⟩,l⟩,m⟩,n⟩
theorem validEs_at {top:Int}{L:List Ent}{i:Nat}{x:Ent}(h:L[i]?=some x)(last:Int):Nd.validEs top last (L.drop i)=(Nd.validE x && decide (last≤x.term) && decide (x.term≤top) && Nd.validEs top x.term (L.drop (i+1))):=by
 have hi:i<L.length:=(List.getElem?_eq_some_iff.1 h).1
 have e:L.drop i=x :: L.drop (i+1):=by
  rw[List.drop_eq_getElem_cons hi,(List.getElem?_eq_some_iff.1 h).2]
 rw[e]
 rfl
def VaI (w:World)(L:List Ent)(top pt:Int)(n i:Nat)(lst:Int)(wr:World):Prop:=i≤n∧Below w.heap.size w wr∧Nd.validEs top pt L=Nd.validEs top lst (L.drop i)
theorem valid100 (B:Nat→Prop)(y:MV)(w:World)(hE:ES w B y.A y.es)(hl:y.es.length≤1000) :
 Calls Tryz.prog 100 #[mvV y] w fun e w'=>e=.returned (.bool (Nd.validM y.m))∧Below w.heap.size w w':=by
 obtain ⟨kind,frm,tt,term,prev,pterm,commit,granted,A,c,es⟩:=y
 simp only at hE hl
 have HV:=ħ (validM_iff (MV.m ⟨kind,frm,tt,term,prev,pterm,commit,granted,A,c,es⟩))
 simp only[MV.m,List.length_map] at HV
 show Calls Tryz.prog 100 #[.agg (mvC kind frm tt term prev pterm commit granted A es.length c)] w fun e w'=>e=.returned (.bool (Nd.validM ⟨kind,frm,tt,term,prev,pterm,commit,granted,es.map EV.e⟩))∧Below w.heap.size w w'
 generalize hq:Nd.validM ⟨kind,frm,tt,term,prev,pterm,commit,granted,es.map EV.e⟩=q at *
 clear hq
 have b1:Below w.heap.size w (w.alloc (.cells (mvC kind frm tt term prev pterm commit granted A es.length c) 99)):=(Below.refl _ _).alloc (Nat.le_refl _) _
 have g1:Blk (w.alloc (.cells (mvC kind frm tt term prev pterm commit granted A es.length c) 99)) w.heap.size 99 (mvC kind frm tt term prev pterm commit granted A es.length c):=Blk.new w 99 _
 have hE1:=hE.old.below b1 (fun _ h=>h.2)
 clear hE
 go_enter Tryz.func100,Tryz.ntmps100
 go_upto_region 1 with (fail)
 generalize w.alloc (.cells (mvC kind frm tt term prev pterm commit granted A es.length c) 99)=W1 at *
 obtain ⟨q0,q1,q2⟩:=g1.facts
 by_cases h1:kind<1
 ·have wh1:decide (kind<1)=true:=decide_eq_true h1
  obtain rfl:q=false:=by
   cases q with
   | false=>rfl
   | true=>exact absurd (HV.out.1 rfl) (by rintro ⟨a1,a2,a3,a4,a5,a6,a7,a8,a9,a10,a11,a12,a13,a14⟩;omega)
  clear HV
  go_wp2_with fail
  go_ret
  exact ⟨rfl,b1⟩
 ·have wh1:decide (kind<1)=false:=decide_eq_false h1
  by_cases h2:4<kind
  ·have wh2:decide (4<kind)=true:=decide_eq_true h2
   obtain rfl:q=false:=by
    cases q with
    | false=>rfl
    | true=>exact absurd (HV.out.1 rfl) (by rintro ⟨a1,a2,a3,a4,a5,a6,a7,a8,a9,a10,a11,a12,a13,a14⟩;omega)
   clear HV
   go_wp2_with fail
   go_ret
   exact ⟨rfl,b1⟩
  ·have wh2:decide (4<kind)=false:=decide_eq_false h2
   by_cases h3:frm=tt
   ·have wh3:(frm == tt)=true:=by simpa using h3
    obtain rfl:q=false:=by
     cases q with
     | false=>rfl
     | true=>exact absurd (HV.out.1 rfl) (by rintro ⟨a1,a2,a3,a4,a5,a6,a7,a8,a9,a10,a11,a12,a13,a14⟩;exact a3 h3)
    clear HV
    go_wp2_with fail
    go_ret
    exact ⟨rfl,b1⟩
   ·have wh3:(frm == tt)=false:=by simpa using h3
    go_upto_region 3 with fail
    by_cases h4:frm<0
    ·have wh4:decide (frm<0)=true:=decide_eq_true h4
     obtain rfl:q=false:=by
      cases q with
      | false=>rfl
      | true=>exact absurd (HV.out.1 rfl) (by rintro ⟨a1,a2,a3,a4,a5,a6,a7,a8,a9,a10,a11,a12,a13,a14⟩;omega)
     clear HV
     go_wp2_with fail
     go_ret
     exact ⟨rfl,b1⟩
    ·have wh4:decide (frm<0)=false:=decide_eq_false h4
     by_cases h5:9≤frm
     ·have wh5:decide (9≤frm)=true:=decide_eq_true h5
      obtain rfl:q=false:=by
       cases q with
       | false=>rfl
       | true=>exact absurd (HV.out.1 rfl) (by rintro ⟨a1,a2,a3,a4,a5,a6,a7,a8,a9,a10,a11,a12,a13,a14⟩;omega)
      clear HV
      go_wp2_with fail
      go_ret
      exact ⟨rfl,b1⟩
     ·have wh5:decide (9≤frm)=false:=decide_eq_false h5
      by_cases h6:tt<0
      ·have wh6:decide (tt<0)=true:=decide_eq_true h6
       obtain rfl:q=false:=by
        cases q with
        | false=>rfl
        | true=>exact absurd (HV.out.1 rfl) (by rintro ⟨a1,a2,a3,a4,a5,a6,a7,a8,a9,a10,a11,a12,a13,a14⟩;omega)
       clear HV
       go_wp2_with fail
       go_ret
       exact ⟨rfl,b1⟩
      ·have wh6:decide (tt<0)=false:=decide_eq_false h6
       by_cases h7:9≤tt
       ·have wh7:decide (9≤tt)=true:=decide_eq_true h7
        obtain rfl:q=false:=by
         cases q with
         | false=>rfl
         | true=>exact absurd (HV.out.1 rfl) (by rintro ⟨a1,a2,a3,a4,a5,a6,a7,a8,a9,a10,a11,a12,a13,a14⟩;omega)
        clear HV
        go_wp2_with fail
        go_ret
        exact ⟨rfl,b1⟩
       ·have wh7:decide (9≤tt)=false:=decide_eq_false h7
        clear wh1 wh2 wh3 wh4 wh5 wh6 wh7
        go_upto_region 5 with fail
        cases i0:Nd.inR term 1 with
        | false=>
         have H0:=ħ (inRange129 term 1 W1 false i0)
         obtain rfl:q=false:=by
          cases q with
          | false=>rfl
          | true=>exact absurd (HV.out.1 rfl) (by rintro ⟨a1,a2,a3,a4,a5,a6,a7,a8,a9,a10,a11,a12,a13,a14⟩;rw[i0] at a8;cases a8)
         clear HV
         go_wp2_with (first | (go_at_call 129;((with_reducible refine H0.out.mono ?_);rintro e w20 ⟨rfl,rfl⟩)))
         go_ret
         exact ⟨rfl,b1⟩
        | true=>
         have H0:=ħ (inRange129 term 1 W1 true i0)
         cases i1:Nd.inR prev 0 with
         | false=>
          have H1:=ħ (inRange129 prev 0 W1 false i1)
          obtain rfl:q=false:=by
           cases q with
           | false=>rfl
           | true=>exact absurd (HV.out.1 rfl) (by rintro ⟨a1,a2,a3,a4,a5,a6,a7,a8,a9,a10,a11,a12,a13,a14⟩;rw[i1] at a9;cases a9)
          clear HV
          go_wp2_with (first | (go_at_call 129;((with_reducible refine H0.out.mono ?_);rintro e w20 ⟨rfl,rfl⟩)) | (go_at_call 129;((with_reducible refine H1.out.mono ?_);rintro e w21 ⟨rfl,rfl⟩)))
          go_ret
          exact ⟨rfl,b1⟩
         | true=>
          have H1:=ħ (inRange129 prev 0 W1 true i1)
          cases i2:Nd.inR pterm 0 with
          | false=>
           have H2:=ħ (inRange129 pterm 0 W1 false i2)
           obtain rfl:q=false:=by
            cases q with
            | false=>rfl
            | true=>exact absurd (HV.out.1 rfl) (by rintro ⟨a1,a2,a3,a4,a5,a6,a7,a8,a9,a10,a11,a12,a13,a14⟩;rw[i2] at a10;cases a10)
           clear HV
           go_wp2_with (first | (go_at_call 129;((with_reducible refine H0.out.mono ?_);rintro e w20 ⟨rfl,rfl⟩)) | (go_at_call 129;((with_reducible refine H1.out.mono ?_);rintro e w21 ⟨rfl,rfl⟩)) | (go_at_call 129;((with_reducible refine H2.out.mono ?_);rintro e w22 ⟨rfl,rfl⟩)))
           go_ret
           exact ⟨rfl,b1⟩
          | true=>
           have H2:=ħ (inRange129 pterm 0 W1 true i2)
           cases i3:Nd.inR commit 0 with
           | false=>
            have H3:=ħ (inRange129 commit 0 W1 false i3)
            obtain rfl:q=false:=by
             cases q with
             | false=>rfl
             | true=>exact absurd (HV.out.1 rfl) (by rintro ⟨a1,a2,a3,a4,a5,a6,a7,a8,a9,a10,a11,a12,a13,a14⟩;rw[i3] at a11;cases a11)
            clear HV
            go_wp2_with (first | (go_at_call 129;((with_reducible refine H0.out.mono ?_);rintro e w20 ⟨rfl,rfl⟩)) | (go_at_call 129;((with_reducible refine H1.out.mono ?_);rintro e w21 ⟨rfl,rfl⟩)) | (go_at_call 129;((with_reducible refine H2.out.mono ?_);rintro e w22 ⟨rfl,rfl⟩)) | (go_at_call 129;((with_reducible refine H3.out.mono ?_);rintro e w23 ⟨rfl,rfl⟩)))
            go_ret
            exact ⟨rfl,b1⟩
           | true=>
            have H3:=ħ (inRange129 commit 0 W1 true i3)
            go_upto_region 7 with (first | (go_at_call 129;((with_reducible refine H0.out.mono ?_);rintro e w20 ⟨rfl,rfl⟩)) | (go_at_call 129;((with_reducible refine H1.out.mono ?_);rintro e w21 ⟨rfl,rfl⟩)) | (go_at_call 129;((with_reducible refine H2.out.mono ?_);rintro e w22 ⟨rfl,rfl⟩)) | (go_at_call 129;((with_reducible refine H3.out.mono ?_);rintro e w23 ⟨rfl,rfl⟩)))
            clear H0 H1 H2 H3
            by_cases h8:(16:Int)<(es.length:Int)
            ·have wh8:decide ((16:Int)<(es.length:Int))=true:=decide_eq_true h8
             obtain rfl:q=false:=by
              cases q with
              | false=>rfl
              | true=>exact absurd (HV.out.1 rfl) (by rintro ⟨a1,a2,a3,a4,a5,a6,a7,a8,a9,a10,a11,a12,a13,a14⟩;omega)
             clear HV
             go_wp2_with fail
             go_ret
             exact ⟨rfl,b1⟩
            ·have wh8:decide ((16:Int)<(es.length:Int))=false:=decide_eq_false h8
             by_cases h9:(0:Int)<(es.length:Int)∧¬ kind=3
             ·have wh9:decide ((0:Int)<(es.length:Int))=true:=decide_eq_true h9.1
              have wh9b:(kind == 3)=false:=by simpa using h9.2
              have wh9c:(kind != 3)=true:=by simpa using h9.2
              obtain rfl:q=false:=by
               cases q with
               | false=>rfl
               | true=>exact absurd (HV.out.1 rfl) (by rintro ⟨a1,a2,a3,a4,a5,a6,a7,a8,a9,a10,a11,a12,a13,a14⟩;rcases a13 with a13 | a13;(have:=h9.1;omega);exact h9.2 a13)
              have h9a:=h9.1
              clear HV h9
              go_cut [75] (fun vx wx=>vx=.bool true∧W1=wx)
              case first=>
               go_wp2_with fail
               go_meet
               exact ⟨rfl,rfl⟩
              obtain ⟨rfl,rfl⟩:=hcut
              go_wp2_with fail
              go_ret
              exact ⟨rfl,b1⟩
             ·have HQ:=ħ (show q=true↔Nd.validEs term pterm (es.map EV.e)=true from by
               rw[HV.out]
               refine ⟨fun h=>h.2.2.2.2.2.2.2.2.2.2.2.2.2,fun h=>⟨by omega,by omega,h3,by omega,by omega,by omega,by omega,i0,i1,i2,i3,by omega,?_,h⟩⟩
               by_cases hk3:kind=3
               ·exact .inr hk3
               ·exact .inl (by rcases Nat.eq_zero_or_pos es.length with h0 | h0;exact h0;exact absurd ⟨by omega,hk3⟩ h9))
              have HTR:=ħ (show -1099511627776≤1 from by decide)
              go_cut [75] (fun vx wx=>vx=.bool false∧W1=wx)
              case first=>
               by_cases h0:(0:Int)<(es.length:Int)
               ·have w0:decide ((0:Int)<(es.length:Int))=true:=decide_eq_true h0
                have w3:(kind != 3)=false:=by
                 by_cases hk3:kind=3
                 ·simpa using hk3
                 ·exact absurd ⟨h0,hk3⟩ h9
                clear h9 HV HQ
                go_wp2_with fail
                go_meet
                exact ⟨rfl,rfl⟩
               ·have w0:decide ((0:Int)<(es.length:Int))=false:=decide_eq_false h0
                clear h9 HV HQ
                go_wp2_with fail
                go_meet
                exact ⟨rfl,rfl⟩
              case rest=>
               obtain ⟨rfl,rfl⟩:=hcut
               clear h9 HV h1 h2 h3 h4 h5 h6 h7 i0 i1 i2 i3 h8 wh8
               have hPl:=hE1.1.plain
               have HE:=ħ hE1
               have HB1:=ħ b1
               clear hE1
               go_wp2_with fail
               go_loopw [3,81] (fun vl vi wr=>∃ (i:Nat) (lst:Int),vi=.int .i64 (i:Int)∧vl=.int .i64 lst∧VaI W1 (es.map EV.e) term pterm es.length i lst wr) (fun _ vi _=>es.length - (intOf vi).toNat)
               case atStart=>exact ⟨0,pterm,rfl,rfl,Nat.zero_le _,Below.refl _ _,rfl⟩
               case round=>
                obtain ⟨i,lst,rfl,rfl,hi,hb,hv⟩:=hrel
                have HVV:=ħ hv
                clear hv
                have k1:=g1.below hb g1.lt
                obtain ⟨y0,y1,y2⟩:=k1.facts
                by_cases hlt:i<es.length
                ·have hlt':(i:Int)<(es.length:Int):=by omega
                 obtain ⟨⟨xt,xk,xA,xc,xb⟩,hgx⟩:∃ x,es[i]?=some x:=⟨_,List.getElem?_eq_getElem hlt⟩
                 have hEr:=HE.out.below hb (fun _ h=>Nat.lt_of_lt_of_le h.2 HB1.out.size)
                 obtain ⟨z0,z1,z2⟩:=hEr.at_ hgx
                 have hix:=fun W=>ixE (hPl (by omega)) c i hlt W
                 have hxb:=hEr.2 _ (List.mem_of_getElem? hgx)
                 have HS:=ħ (show Nd.validEs term lst ((es.map EV.e).drop i)=(Nd.validE ⟨xt,xk,xb⟩ && decide (lst≤xt) && decide (xt≤term) && Nd.validEs term xt ((es.map EV.e).drop (i+1))) from validEs_at (by rw[List.getElem?_map,hgx];rfl) lst)
                 simp only at z0 z1 z2 hxb
                 clear hgx hEr
                 have b6:Below wr.heap.size wr (wr.alloc (.cells (evC xt xk xA xb.length xc) 58)):=(Below.refl _ _).alloc (Nat.le_refl _) _
                 have g6:Blk (wr.alloc (.cells (evC xt xk xA xb.length xc) 58)) wr.heap.size 58 (evC xt xk xA xb.length xc):=Blk.new wr 58 _
                 have r6:=(hxb.old (by omega)).below b6 (fun _ h=>h.2)
                 have k6:=k1.below b6 k1.lt
                 have hlm:=hb.size
                 go_upto_region 13 with (fail)
                 generalize wr.alloc (.cells (evC xt xk xA xb.length xc) 58)=W6 at *
                 clear y0 y1 y2 z0 z1 z2 hix
                 obtain ⟨y0,y1,y2⟩:=k6.facts
                 obtain ⟨z0,z1,z2⟩:=g6.facts
                 have hnil:=nil46
                 have hniln:=nil46n
                 have bb6:=hb.trans (b6.mono hb.size)
                 clear k1 hxb
                 cases hve:Nd.validE ⟨xt,xk,xb⟩ with
                 | false=>
                  have H97:=ħ (encodeE_no xt xk xA xc xb W6 hve)
                  obtain rfl:q=false:=by
                   cases q with
                   | false=>rfl
                   | true=>have:=HQ.out.1 rfl;rw[HVV.out,HS.out,hve] at this;cases this
                  clear HQ
                  go_wp2_with (go_at_call 97;((with_reducible refine H97.out.mono ?_);rintro e w7 ⟨rfl,b7⟩))
                  go_ret
                  exact ⟨rfl,HB1.out.trans ((bb6.trans (b7.mono bb6.size)).mono HB1.out.size)⟩
                 | true=>
                  have H97:=ħ (encodeE_yes _ xt xk xA xc xb W6 hve r6)
                  have HVE:=ħ hve
                  clear hve
                  by_cases hl1:xt<lst
                  ·obtain rfl:q=false:=by
                    cases q with
                    | false=>rfl
                    | true=>
                     have h1:=HQ.out.1 rfl
                     rw[HVV.out,HS.out,Bool.and_eq_true,Bool.and_eq_true,Bool.and_eq_true,decide_eq_true_eq] at h1
                     omega
                   have wl1:decide (xt<lst)=true:=decide_eq_true hl1
                   clear HQ
                   go_wp2_with (go_at_call 97;((with_reducible refine H97.out.mono ?_);rintro e w7 ⟨⟨a7,n7,c7,rfl⟩,b7⟩;have k7:=k6.below b7 k6.lt;have g7:=g6.below b7 g6.lt;clear y0 y1 y2 z0 z1 z2;obtain ⟨y0,y1,y2⟩:=k7.facts;obtain ⟨z0,z1,z2⟩:=g7.facts))
                   go_ret
                   exact ⟨rfl,HB1.out.trans ((bb6.trans (b7.mono bb6.size)).mono HB1.out.size)⟩
                  ·have wl1:decide (xt<lst)=false:=decide_eq_false hl1
                   by_cases hl2:term<xt
                   ·obtain rfl:q=false:=by
                     cases q with
                     | false=>rfl
                     | true=>
                      have h1:=HQ.out.1 rfl
                      rw[HVV.out,HS.out,Bool.and_eq_true,Bool.and_eq_true,Bool.and_eq_true,decide_eq_true_eq,decide_eq_true_eq] at h1
                      omega
                    have wl2:decide (term<xt)=true:=decide_eq_true hl2
                    clear HQ
                    go_wp2_with (go_at_call 97;((with_reducible refine H97.out.mono ?_);rintro e w7 ⟨⟨a7,n7,c7,rfl⟩,b7⟩;have k7:=k6.below b7 k6.lt;have g7:=g6.below b7 g6.lt;clear y0 y1 y2 z0 z1 z2;obtain ⟨y0,y1,y2⟩:=k7.facts;obtain ⟨z0,z1,z2⟩:=g7.facts))
                    go_ret
                    exact ⟨rfl,HB1.out.trans ((bb6.trans (b7.mono bb6.size)).mono HB1.out.size)⟩
                   ·have wl2:decide (term<xt)=false:=decide_eq_false hl2
                    have HN:=ħ (show Nd.validEs term pterm (es.map EV.e)=Nd.validEs term xt ((es.map EV.e).drop (i+1)) from by
                     rw[HVV.out,HS.out,HVE.out,decide_eq_true (show lst≤xt by omega),decide_eq_true (show xt≤term by omega)]
                     rfl)
                    go_wp2_with (go_at_call 97;((with_reducible refine H97.out.mono ?_);rintro e w7 ⟨⟨a7,n7,c7,rfl⟩,b7⟩;have k7:=k6.below b7 k6.lt;have g7:=g6.below b7 g6.lt;clear y0 y1 y2 z0 z1 z2;obtain ⟨y0,y1,y2⟩:=k7.facts;obtain ⟨z0,z1,z2⟩:=g7.facts))
                    exact ⟨⟨i+1,xt,by go_num,rfl,hlt,bb6.trans (b7.mono bb6.size),HN.out⟩,by simp[intOf];omega⟩
                ·have hge:¬ (i:Int)<(es.length:Int):=by omega
                 obtain rfl:q=true:=HQ.out.2 (by
                  rw[HVV.out,List.drop_eq_nil_of_le (by rw[List.length_map];omega)]
                  rfl)
                 clear HQ
                 go_wp2_with fail
                 go_ret
                 exact ⟨rfl,HB1.out.trans (hb.mono HB1.out.size)⟩
attribute [local irreducible] Go.wpQuiet
theorem ite_yes {c:Prop}[Decidable c]{p q:Prop}(h:c)(hp:p):if c then p else q:=by rw[if_pos h];exact hp
theorem ite_no {c:Prop}[Decidable c]{p q:Prop}(h:¬ c)(hq:q):if c then p else q:=by rw[if_neg h];exact hq
def grt (s:Nd)(frm:Int):Nd:=if 0≤s.voted then s else { s with recs:=s.recs ++ [(86,Wire.za s.term ++ Wire.za frm)],voted:=frm }
theorem grant_v (w:World)(col:Nat→Nat)(p v j l f:Nat)(s:Nd)(outs:List Msg)(h:NS w col p v j l f s false outs){k:Nat}(hw:Wf k s)(hk:k≤1900)(ht:1≤s.term)(n:Int)(hn:0≤n∧n<9)(hv:s.voted<0∨s.voted=n) :
 Calls Tryz.prog 78 #[.pointer (some ⟨v,0,none⟩),.int .i64 s.term,.int .i64 n] w fun e w'=>e=.returned (.int .i64 0)∧NP w col p v j l f (grt s n) false outs w':=by
 have htk:=hw.tk
 by_cases h0:0≤s.voted
 ·have hvn:s.voted=n:=by omega
  unfold grt
  rw[if_pos h0]
  obtain ⟨mi,mm,Ao,co,ms,dur,hz,hm⟩:=h
  refine (grant_again w _ f j v s.recs s.voted s.term n hz.vs (by unfold validT;simp;omega) (by unfold validN;simp;omega) h0 0 (by rw[if_pos hvn])).mono ?_
  rintro e w2 ⟨rfl,Z',hv2,hZ2,hf2⟩
  obtain ⟨col',h2,ag2,fr2⟩:=hz.voted hv2 hZ2 hf2
  exact ⟨rfl,col',⟨mi,mm,Ao,co,ms,_,h2,hm⟩,ag2,fr2⟩
 ·unfold grt
  rw[if_neg h0]
  exact grant_w w col p v j l f s outs h hw hk s.term n ⟨ht,by omega⟩ hn (Int.le_refl _) (fun e=>h0 e.2)
section
variable (w:World) (col:Nat→Nat) (p v j l f:Nat) (s:Nd) (outs:List Msg) (h:NS w col p v j l f s false outs)
include h
theorem requested103 {k:Nat}(hw:Wf k s)(hk:k≤1600)(ht:1≤s.term)(ho:outs.length≤700)(y:MV)(hy:0≤y.frm∧y.frm<9)(now:Int) :
 Calls Tryz.prog 103 #[.pointer (some ⟨p,0,none⟩),mvV y,.int .i64 now] w (UPost w col p v j l f (s.requested y.m now) outs):=by
 obtain ⟨kind,frm,tt,term,prev,pterm,commit,granted,A,c,es⟩:=y
 simp only at hy
 have HRQ:=ħ (show s.requested (MV.m ⟨kind,frm,tt,term,prev,pterm,commit,granted,A,c,es⟩) now=if (s.voted<0∨s.voted=frm)∧s.utdB prev pterm=true then ({ grt s frm with since:=now },[s.msg 2 frm 0 0 0 true []]) else (s,[s.msg 2 frm 0 0 0 false []]) from rfl)
 show Calls Tryz.prog 103 #[.pointer (some ⟨p,0,none⟩),.agg (mvC kind frm tt term prev pterm commit granted A es.length c),.int .i64 now] w (UPost w col p v j l f (s.requested (MV.m ⟨kind,frm,tt,term,prev,pterm,commit,granted,A,c,es⟩) now) outs)
 generalize s.requested (MV.m ⟨kind,frm,tt,term,prev,pterm,commit,granted,A,c,es⟩) now=R at *
 have b1:Below w.heap.size w (w.alloc (.cells (mvC kind frm tt term prev pterm commit granted A es.length c) 99)):=(Below.refl _ _).alloc (Nat.le_refl _) _
 have g1:Blk (w.alloc (.cells (mvC kind frm tt term prev pterm commit granted A es.length c) 99)) w.heap.size 99 (mvC kind frm tt term prev pterm commit granted A es.length c):=Blk.new w 99 _
 have K1:=ħ (KB.start h b1 g1 (Nat.le_refl _))
 have HW:=ħ hw
 have hll:s.log.length≤40000:=by have:=hw.ln;omega
 clear h b1 g1 hw
 go_enter Tryz.func103,Tryz.ntmps103
 go_upto_region 1 with (fail)
 generalize w.alloc (.cells (mvC kind frm tt term prev pterm commit granted A es.length c) 99)=W1 at *
 have H131:=ħ (voted131 W1 v j _ _ K1.out.n.n.vb)
 obtain ⟨c0,c1,x0,x1,x2,x3,x4,x5,x10,x11,x12,x13,x14,x15,x44⟩:=K1.out.n.n.x
 clear x0 x1 x2 x3 x5 x10 x11 x12 x13 x14 x15 x44
 go_upto_region 2 with (go_at_call 131;((with_reducible refine H131.out.mono ?_);rintro e w2 ⟨rfl,rfl⟩))
 clear c0 c1 x4
 obtain ⟨g,hg⟩:∃ g,decide ((s.voted<0∨s.voted=frm)∧s.utdB prev pterm=true)=g:=⟨_,rfl⟩
 have HG:=ħ hg
 have HRG:=ħ (show R=if g=true then ({ grt s frm with since:=now },[s.msg 2 frm 0 0 0 true []]) else (s,[s.msg 2 frm 0 0 0 false []]) by
  rw[HRQ.out,←hg]
  by_cases hc:(s.voted<0∨s.voted=frm)∧s.utdB prev pterm=true
  ·rw[if_pos hc,if_pos (decide_eq_true hc)]
  ·rw[if_neg hc,if_neg (by simpa using hc)])
 clear hg HRQ
 go_cut [7] (fun vx wx=>vx=.bool g∧KB w col p v j l f s false outs w.heap.size 99 (mvC kind frm tt term prev pterm commit granted A es.length c) wx col)
 case first=>
  obtain ⟨u,hu⟩:∃ u,s.utdB prev pterm=u:=⟨_,rfl⟩
  have H132:=ħ fun W (hb:Below W1.heap.size W1 W)=>utd_any W _ l s.log prev pterm (K1.out.n.n.below hb).ls (by omega) u hu
  have HK:=ħ fun W (hb:Below W1.heap.size W1 W)=>(show (W.cell? ⟨p,5,none⟩=some (.pointer (some ⟨l,0,none⟩)))∧(W.cell? ⟨w.heap.size,1,none⟩=some (.int .i64 frm))∧(W.cell? ⟨w.heap.size,4,none⟩=some (.int .i64 prev))∧(W.cell? ⟨w.heap.size,5,none⟩=some (.int .i64 pterm)) from ⟨(K1.out.below hb).n.n.x.2.2.2.2.2.2.2.1,(K1.out.below hb).k.cell 1,(K1.out.below hb).k.cell 4,(K1.out.below hb).k.cell 5⟩)
  by_cases hv0:s.voted<0
  ·have wv0:decide (s.voted<0)=true:=decide_eq_true hv0
   obtain rfl:g=u:=by
    rw[←HG.out,←hu]
    cases s.utdB prev pterm <;> simp[hv0]
   clear hu hv0
   refine wp_region_quiet (C:=fun w'=>Below W1.heap.size W1 w') (by kernel_rfl) (by kernel_rfl) ((Below.refl _ _).drew) ?_
   repeat (refine wpQuiet_step (fun K hK=>?_);have HKK:=ħ hK;clear hK;first | (refine ite_no ?_ ?_;(focus (clear HKK K;go_simp;done));go_simp;refine HKK.out _ ?_;clear HKK K) | (refine ite_yes ?_ ?_;(focus (clear HKK K;go_simp;done));apply Exists.intro;refine ⟨fun wq hq=>?_,?_⟩;(focus ((obtain ⟨y0,y1,y2,y3⟩:=HK.out _ hq);go_simp;(first | done | rfl | ((refine (H132.out _ hq).mono ?_);rintro e w3 ⟨rfl,hh⟩;exact ⟨rfl,hq.trans (hh.mono hq.size)⟩))));go_simp;refine HKK.out _ ?_;clear HKK K))
   refine wpQuiet_nil ?_
   intro w5 hw5
   go_wp2_with fail
   go_meet
   exact ⟨rfl,K1.out.below hw5⟩
  ·have wv0:decide (s.voted<0)=false:=decide_eq_false hv0
   by_cases hv1:s.voted=frm
   ·have wv1:(s.voted == frm)=true:=by simpa using hv1
    obtain rfl:g=u:=by
     rw[←HG.out,←hu]
     cases s.utdB prev pterm <;> simp[hv1]
    clear hu hv0 hv1
    refine wp_region_quiet (C:=fun w'=>Below W1.heap.size W1 w') (by kernel_rfl) (by kernel_rfl) ((Below.refl _ _).drew) ?_
    repeat (refine wpQuiet_step (fun K hK=>?_);have HKK:=ħ hK;clear hK;first | (refine ite_no ?_ ?_;(focus (clear HKK K;go_simp;done));go_simp;refine HKK.out _ ?_;clear HKK K) | (refine ite_yes ?_ ?_;(focus (clear HKK K;go_simp;done));apply Exists.intro;refine ⟨fun wq hq=>?_,?_⟩;(focus ((obtain ⟨y0,y1,y2,y3⟩:=HK.out _ hq);go_simp;(first | done | rfl | ((refine (H132.out _ hq).mono ?_);rintro e w3 ⟨rfl,hh⟩;exact ⟨rfl,hq.trans (hh.mono hq.size)⟩))));go_simp;refine HKK.out _ ?_;clear HKK K))
    refine wpQuiet_nil ?_
    intro w5 hw5
    go_wp2_with fail
    go_meet
    exact ⟨rfl,K1.out.below hw5⟩
   ·have wv1:(s.voted == frm)=false:=by simpa using hv1
    obtain rfl:g=false:=by
     rw[←HG.out]
     simp[hv0,hv1]
    clear hu hv0 hv1
    refine wp_region_quiet (C:=fun w'=>Below W1.heap.size W1 w') (by kernel_rfl) (by kernel_rfl) ((Below.refl _ _).drew) ?_
    repeat (refine wpQuiet_step (fun K hK=>?_);have HKK:=ħ hK;clear hK;first | (refine ite_no ?_ ?_;(focus (clear HKK K;go_simp;done));go_simp;refine HKK.out _ ?_;clear HKK K) | (refine ite_yes ?_ ?_;(focus (clear HKK K;go_simp;done));apply Exists.intro;refine ⟨fun wq hq=>?_,?_⟩;(focus ((obtain ⟨y0,y1,y2,y3⟩:=HK.out _ hq);go_simp;(first | done | rfl)));go_simp;refine HKK.out _ ?_;clear HKK K))
    refine wpQuiet_nil ?_
    intro w5 hw5
    go_wp2_with fail
    go_meet
    exact ⟨rfl,K1.out.below hw5⟩
 case rest=>
  obtain ⟨rfl,hk2⟩:=hcut
  have K2:=ħ hk2
  clear hk2 K1
  cases g with
  | true=>
   have HRE:=ħ (show R=({ grt s frm with since:=now },[s.msg 2 frm 0 0 0 true []]) by rw[HRG.out,if_pos rfl])
   have hvo:s.voted<0∨s.voted=frm:=(of_decide_eq_true HG.out).1
   have H44:=ħ (term44 wc.drew v j _ _ (K2.out.n.n.below (Below.refl _ _).drew).vb)
   have H78:=ħ (grant_v wc.drew col p v j l f s outs (K2.out.n.n.below (Below.refl _ _).drew) HW.out (by omega) ht frm hy hvo)
   have H72:=ħ fun W cr s' (x:NS W cr p v j l f s' false outs)=>ok72 W cr p v j l f s' false outs x
   have KD:=ħ (K2.out.below (Below.refl _ _).drew)
   have HK:=ħ fun W cr s' (x:KB w col p v j l f s' false outs w.heap.size 99 (mvC kind frm tt term prev pterm commit granted A es.length c) W cr)=>(show (W.cell? ⟨p,4,none⟩=some (.pointer (some ⟨v,0,none⟩)))∧(W.cell? ⟨w.heap.size,1,none⟩=some (.int .i64 frm)) from ⟨x.n.n.x.2.2.2.2.2.2.1,x.k.cell 1⟩)
   have S1:=HK.out wc col s K2.out
   clear HG HRG hvo
   go_upto_region 4 with fail
   go_cut [47] (fun vx wx=>vx=.bool false∧∃ c3,KB w col p v j l f (grt s frm) false outs w.heap.size 99 (mvC kind frm tt term prev pterm commit granted A es.length c) wx c3)
   case first=>
    go_region_held (fun W=>(W.cell? ⟨p,4,none⟩=some (.pointer (some ⟨v,0,none⟩)))∧(W.cell? ⟨w.heap.size,1,none⟩=some (.int .i64 frm))) (first | assumption | exact S1) (first
     | (((with_reducible refine H44.out.mono ?_);rintro e w3 ⟨rfl,rfl⟩))
     | (((with_reducible refine H78.out.mono ?_);rintro e w4 ⟨rfl,hnp⟩;obtain ⟨c4,hk4⟩:=KD.out.call hnp;have S2:=HK.out _ _ _ hk4;have H72b:=ħ (H72.out _ _ _ hk4.n.n);have K4:=ħ hk4;clear hk4 hnp))
     | (((with_reducible refine H72b.out.mono ?_);rintro e w5 ⟨rfl,rfl⟩)))
    all_goals
     go_wp2_with fail
     go_meet
     exact ⟨rfl,c4,K4.out⟩
   case rest=>
    obtain ⟨rfl,c3,hk3⟩:=hcut
    have K3:=ħ hk3
    have K4:=ħ (hk3.set1 (hk3.n.n.st14 now))
    obtain ⟨c0,c1,x0,x1,x2,x3,x4,x5,x10,x11,x12,x13,x14,x15,x44⟩:=hk3.n.n.x
    clear hk3 x0 x1 x2 x3 x4 x5 x10 x11 x12 x13 x15 x44 S1 HK KD H72 H78 H44
    go_upto_region 6 with fail
    clear c0 c1 x14
    generalize wc.setCell ⟨p,14,none⟩ (.int .i64 now)=W5 at *
    have H81:=ħ (show Calls Tryz.prog 81 #[.pointer (some ⟨p,0,none⟩),.agg (mvC 2 0 frm 0 0 0 0 true none 0 0)] W5 _ from send81 W5 c3 p v j l f _ false outs K4.out.n.n 2 0 frm 0 0 0 0 true none 0 [] ⟨ES.nil,Nat.le_refl _⟩ (by omega))
    obtain ⟨q0,q1,q2⟩:=K4.out.k.facts
    go_wp2_with (go_at_call 81;((with_reducible refine H81.out.mono ?_);rintro e w6 ⟨rfl,hnp⟩))
    refine bodyPost_end (v:=.tuple #[]) (by simp[results,Tryz.results103,go_sem]) rfl ⟨rfl,false,?_⟩
    rw[HRE.out]
    have hfin:=K4.out.n.call hnp
    have em:(s.msg 2 frm 0 0 0 true [])=Nd.msg { grt s frm with since:=now } 2 frm 0 0 0 true []:=by unfold grt;split <;> rfl
    rw[em]
    exact hfin
  | false=>
   have HRE:=ħ (show R=(s,[s.msg 2 frm 0 0 0 false []]) by rw[HRG.out,if_neg (by simp)])
   have H81:=ħ (show Calls Tryz.prog 81 #[.pointer (some ⟨p,0,none⟩),.agg (mvC 2 0 frm 0 0 0 0 false none 0 0)] wc _ from send81 wc col p v j l f _ false outs K2.out.n.n 2 0 frm 0 0 0 0 false none 0 [] ⟨ES.nil,Nat.le_refl _⟩ (by omega))
   obtain ⟨q0,q1,q2⟩:=K2.out.k.facts
   clear HG HRG
   go_wp2_with (go_at_call 81;((with_reducible refine H81.out.mono ?_);rintro e w6 ⟨rfl,hnp⟩))
   refine bodyPost_end (v:=.tuple #[]) (by simp[results,Tryz.results103,go_sem]) rfl ⟨rfl,false,?_⟩
   rw[HRE.out]
   exact K2.out.n.call hnp
end
end Go.Proofs.YtdfobfjpkjddpaaGreat

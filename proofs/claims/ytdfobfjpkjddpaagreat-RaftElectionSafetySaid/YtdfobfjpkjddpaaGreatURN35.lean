import Derived.Test.YtdfobfjpkjddpaaGreatUG25
set_option linter.unusedVariables false
set_option linter.unusedSimpArgs false
set_option maxRecDepth 10000
set_option maxHeartbeats 16000000
namespace Go.Proofs.YtdfobfjpkjddpaaGreat
open Go.RowKit Go.Own Go.Quo Go.Wire Go.Raft
attribute [local irreducible] Go.wpQuiet
section
variable (w:World) (col:Nat→Nat) (p v j l f:Nat) (s:Nd) (h:NS w col p v j l f s false [])
include h
theorem step68 (hc:Clean col){k:Nat}(hw:Wf k s)(hk:k≤1500)(y:MV)(hm:MW k y.m)(B:Nat→Prop)(hE:ES w B y.A y.es)(hBc:∀ k,B k→col k=0)(hcp:y.es.length≤y.c)(hel:y.es.length≤1000)(now:Int) :
 Calls Tryz.prog 68 #[.pointer (some ⟨p,0,none⟩),mvV y,.int .i64 now] w (TP w col p v j l f (s.step y.m now)):=by
 obtain ⟨m,hmd⟩:∃ m,y.m=m:=⟨_,rfl⟩
 have HSP:=ħ (show s.step m now=(s.clock now).step1 m (s.tickT now) from rfl)
 have HWC:=ħ (hw.clock now)
 have hti:=tick_range hw now
 have H37:=ħ fun W (hb:NS W col p v j l f s false [])=>tick37 W col p v j l f s false [] hb now
 have H49:=ħ fun W cr s' un' outs (x:NS W cr p v j l f s' un' outs)=>sent49 W cr p v j l f s' un' outs x
 have HC:=ħ hc
 have HM:=ħ hm
 rw[hmd] at HM⊢
 have HV:=ħ fun W (B':Nat→Prop) (x:ES W B' y.A y.es)=>hmd ▸ valid100 B' y W x hel
 have H102:=ħ fun W cr s' (x:NS W cr p v j l f s' false [])=>hmd ▸ refuse102 W cr p v j l f s' false [] x y (by simp)
 have H103:=ħ fun W cr s' (x:NS W cr p v j l f s' false []) k' (a1:Wf k' s') (a2:k'≤1600) (a3:1≤s'.term) (a4:0≤y.frm∧y.frm<9) t=>hmd ▸ requested103 W cr p v j l f s' [] x a1 a2 a3 (by simp) y a4 t
 have H104:=ħ fun W cr s' (x:NS W cr p v j l f s' false []) k' (a1:Wf k' s') (a2:k'≤1600) (a3:MW k' y.m) (a4:Nd.validM y.m=true) (a5:y.m.term=s'.term) B' (a6:ES W B' y.A y.es) (a7:∀ k,B' k→cr k=0) t (a8:0≤t∧t≤MT)=>hmd ▸ receive104 W cr p v j l f s' false [] x a1 a2 (by simp) y a3 a4 a5 B' a6 a7 hcp t a8
 have H105:=ħ fun W cr s' (x:NS W cr p v j l f s' false []) k' (a1:Wf k' s') (a2:k'≤1600) (a3:s'.role=3) (a4:1≤s'.term) (a5:0≤y.frm∧y.frm<9) (a6:0≤y.prev∧y.prev≤MT)=>hmd ▸ replied105 W cr p v j l f s' false [] x a1 a2 a3 a4 (by simp) y a5 a6
 have HMD:=ħ hmd
 obtain ⟨kind,frm,tt,term,prev,pterm,commit,granted,A,c,es⟩:=y
 have hmf:m.kind=kind∧m.frm=frm∧m.to=tt∧m.term=term∧m.prev=prev∧m.granted=granted:=by rw[←hmd];exact ⟨rfl,rfl,rfl,rfl,rfl,rfl⟩
 have HMF:=ħ hmf
 simp only at hE hcp hel HV H103 H104 H105
 have b1:Below w.heap.size w (w.alloc (.cells (mvC kind frm tt term prev pterm commit granted A es.length c) 99)):=(Below.refl _ _).alloc (Nat.le_refl _) _
 have g1:Blk (w.alloc (.cells (mvC kind frm tt term prev pterm commit granted A es.length c) 99)) w.heap.size 99 (mvC kind frm tt term prev pterm commit granted A es.length c):=Blk.new w 99 _
 have K1:=ħ (KB.start h b1 g1 (Nat.le_refl _))
 have HE:=ħ hE.old
 have HBC:=ħ hBc
 have HEf:=ħ fun W cr s' un' outs' (x:KB w col p v j l f s' un' outs' w.heap.size 99 (mvC kind frm tt term prev pterm commit granted A es.length c) W cr)=>(show ES W (fun k=>B k∧k<w.heap.size) A es from HE.out.fr x.n.fr (fun g hg e=>e (HBC.out g hg.1)))
 have HBf:=ħ fun W cr s' un' outs' (x:KB w col p v j l f s' un' outs' w.heap.size 99 (mvC kind frm tt term prev pterm commit granted A es.length c) W cr)=>(show ∀ k,(B k∧k<w.heap.size)→cr k=0 from fun k hk=>by rw[x.n.ag k hk.2];exact HBC.out k hk.1)
 clear hmf hmd h b1 g1 hE hw hc hm hBc
 have H37:=ħ (H37.out _ K1.out.n.n)
 generalize s.tickT now=t at *
 generalize s.clock now=sc at *
 generalize s.step m now=R at *
 show Calls Tryz.prog 68 #[.pointer (some ⟨p,0,none⟩),.agg (mvC kind frm tt term prev pterm commit granted A es.length c),.int .i64 now] w (TP w col p v j l f R)
 go_enter Tryz.func68,Tryz.ntmps68
 go_upto_region 1 with (fail)
 generalize w.alloc (.cells (mvC kind frm tt term prev pterm commit granted A es.length c) 99)=W1 at *
 go_upto_region 2 with (go_at_call 37;((with_reducible refine H37.out.mono ?_);rintro e w2 ⟨rfl,hb2⟩;have K2:=ħ (K1.out.set1 hb2);clear hb2))
 clear H37 K1
 have HS1:=ħ (show sc.step1 m t=if Nd.validM m=false∨m.to≠sc.id then (sc,[]) else if m.kind=1∧(sc.role=3∨(0≤sc.ld∧t - sc.since<sc.wait)) then (sc,[]) else if m.term<(sc.later m).term then (sc.later m,(sc.later m).refuse m) else (sc.later m).step2 m t from rfl)
 rw[←HSP.out] at HS1
 obtain ⟨q,hq⟩:∃ q,Nd.validM m=q:=⟨_,rfl⟩
 have H100:=ħ fun W (hb:Below w2.heap.size w2 W)=>HV.out W _ (HEf.out W col sc false [] (K2.out.below hb))
 have HK:=ħ fun W (hb:Below w2.heap.size w2 W)=>(show (W.cell? ⟨p,44,none⟩=some (.int .i64 0))∧(W.cell? ⟨p,0,none⟩=some (.int .i64 sc.id))∧(∀ i,W.cell? ⟨w.heap.size,i,none⟩=(mvC kind frm tt term prev pterm commit granted A es.length c)[i]?)∧w.heap.size<W.heap.size∧(∀ i,W.frozen? ⟨w.heap.size,i,none⟩=false) from ⟨(K2.out.below hb).n.n.x.2.2.2.2.2.2.2.2.2.2.2.2.2.2,(K2.out.below hb).n.n.x.2.2.1,(K2.out.below hb).k.cell,(K2.out.below hb).k.lt,(K2.out.below hb).k.frozen⟩)
 rw[hq] at H100 HS1
 have HQ:=ħ hq
 clear hq HV
 cases q with
 | false=>
  have HRE:=ħ (show R=(sc,[]) by rw[HS1.out,if_pos (.inl rfl)])
  clear HS1
  refine wp_region_quiet (C:=fun w'=>Below w2.heap.size w2 w') (by kernel_rfl) (by kernel_rfl) ((Below.refl _ _).drew) ?_
  repeat (refine wpQuiet_step (fun K hK=>?_);have HKK:=ħ hK;clear hK;first | (refine ite_no ?_ ?_;(focus (clear HKK K;go_simp;done));go_simp;refine HKK.out _ ?_;clear HKK K) | (refine ite_yes ?_ ?_;(focus (clear HKK K;go_simp;done));apply Exists.intro;refine ⟨fun wq hq=>?_,?_⟩;(focus ((obtain ⟨y0,y1,y2,y3,y4⟩:=HK.out _ hq);go_simp;(first | done | rfl | ((refine (H100.out _ hq).mono ?_);rintro e w4 ⟨rfl,hh⟩;exact ⟨rfl,hq.trans (hh.mono hq.size)⟩))));go_simp;refine HKK.out _ ?_;clear HKK K))
  refine wpQuiet_nil ?_
  intro w3 hw3
  go_wp2_with fail
  go_ret
  rw[HRE.out]
  exact TP.of_nil HC.out (K2.out.below hw3).n
 | true=>
  by_cases hto:tt=sc.id
  ·have wto:(tt == sc.id)=true:=by simpa using hto
   have wto2:(tt != sc.id)=false:=by simpa using hto
   have HTO:=ħ hto
   have HS2:=ħ (show R=if m.kind=1∧(sc.role=3∨(0≤sc.ld∧t - sc.since<sc.wait)) then (sc,[]) else if m.term<(sc.later m).term then (sc.later m,(sc.later m).refuse m) else (sc.later m).step2 m t by rw[HS1.out,if_neg (fun h=>h.elim (fun e=>by cases e) (fun e=>e (by rw[HMF.out.2.2.1];exact hto)))])
   clear HS1 hto
   go_cut [28] (fun vx wx=>vx=.bool false∧KB w col p v j l f sc false [] w.heap.size 99 (mvC kind frm tt term prev pterm commit granted A es.length c) wx col)
   case first=>
    refine wp_region_quiet (C:=fun w'=>Below w2.heap.size w2 w') (by kernel_rfl) (by kernel_rfl) ((Below.refl _ _).drew) ?_
    repeat (refine wpQuiet_step (fun K hK=>?_);have HKK:=ħ hK;clear hK;first | (refine ite_no ?_ ?_;(focus (clear HKK K;go_simp;done));go_simp;refine HKK.out _ ?_;clear HKK K) | (refine ite_yes ?_ ?_;(focus (clear HKK K;go_simp;done));apply Exists.intro;refine ⟨fun wq hq=>?_,?_⟩;(focus ((obtain ⟨y0,y1,y2,y3,y4⟩:=HK.out _ hq);go_simp;(first | done | rfl | ((refine (H100.out _ hq).mono ?_);rintro e w4 ⟨rfl,hh⟩;exact ⟨rfl,hq.trans (hh.mono hq.size)⟩))));go_simp;refine HKK.out _ ?_;clear HKK K))
    refine wpQuiet_nil ?_
    intro w3 hw3
    go_wp2_with fail
    go_meet
    exact ⟨rfl,K2.out.below hw3⟩
   case rest=>
    obtain ⟨rfl,hk3⟩:=hcut
    have K3:=ħ hk3
    clear hk3 K2 H100 HK wto wto2
    obtain ⟨g,hg⟩:∃ g,decide (kind=1∧(sc.role=3∨(0≤sc.ld∧t - sc.since<sc.wait)))=g:=⟨_,rfl⟩
    have HG:=ħ hg
    have HS3:=ħ (show R=if g=true then (sc,[]) else if m.term<(sc.later m).term then (sc.later m,(sc.later m).refuse m) else (sc.later m).step2 m t by
     have e:g=true↔(kind=1∧(sc.role=3∨(0≤sc.ld∧t - sc.since<sc.wait))):=by rw[←hg];exact decide_eq_true_iff
     rw[HS2.out,HMF.out.1]
     by_cases hc:kind=1∧(sc.role=3∨(0≤sc.ld∧t - sc.since<sc.wait))
     ·rw[if_pos hc,if_pos (e.2 hc)]
     ·rw[if_neg hc,if_neg (fun h=>hc (e.1 h))])
    clear hg HS2
    have htc:=HWC.out.ti
    unfold MT at htc hti
    have hw1:IntKind.i64.wrap (t - sc.since)=t - sc.since:=IntWalk.i64_in _ (by omega)
    go_upto_region 4 with fail
    go_cut [58] (fun vx wx=>vx=.bool g∧KB w col p v j l f sc false [] w.heap.size 99 (mvC kind frm tt term prev pterm commit granted A es.length c) wx col)
    case first=>
     obtain ⟨c0,c1,x0,x1,x2,x3,x4,x5,x10,x11,x12,x13,x14,x15,x44⟩:=K3.out.n.n.x
     obtain ⟨q0,q1,q2⟩:=K3.out.k.facts
     clear x0 x2 x3 x4 x5 x10 x13 x15 x44
     by_cases hk1:kind=1
     ·have wk1:(kind == 1)=true:=by simpa using hk1
      by_cases hr3:sc.role=3
      ·have wr3:(sc.role == 3)=true:=by simpa using hr3
       obtain rfl:g=true:=by rw[←HG.out];simp[hk1,hr3]
       clear HG HS3 hk1 hr3
       go_quiet (fail)
       go_wp2_with fail
       go_meet
       exact ⟨rfl,K3.out.below (below_drewN (Below.refl _ _) _)⟩
      ·have wr3:(sc.role == 3)=false:=by simpa using hr3
       by_cases hl0:0≤sc.ld
       ·have wl0:decide (0≤sc.ld)=true:=decide_eq_true hl0
        by_cases hsw:t - sc.since<sc.wait
        ·have wsw:decide (t - sc.since<sc.wait)=true:=decide_eq_true hsw
         obtain rfl:g=true:=by rw[←HG.out];exact decide_eq_true ⟨hk1,.inr ⟨hl0,hsw⟩⟩
         clear HG HS3 hk1 hr3
         go_quiet (fail)
         go_wp2_with fail
         go_meet
         exact ⟨rfl,K3.out.below (below_drewN (Below.refl _ _) _)⟩
        ·have wsw:decide (t - sc.since<sc.wait)=false:=decide_eq_false hsw
         obtain rfl:g=false:=by rw[←HG.out];exact decide_eq_false (fun h=>h.2.elim hr3 (fun e=>hsw e.2))
         clear HG HS3 hk1 hr3
         go_quiet (fail)
         go_wp2_with fail
         go_meet
         exact ⟨rfl,K3.out.below (below_drewN (Below.refl _ _) _)⟩
       ·have wl0:decide (0≤sc.ld)=false:=decide_eq_false hl0
        obtain rfl:g=false:=by rw[←HG.out];exact decide_eq_false (fun h=>h.2.elim hr3 (fun e=>hl0 e.1))
        clear HG HS3 hk1 hr3
        go_quiet (fail)
        go_wp2_with fail
        go_meet
        exact ⟨rfl,K3.out.below (below_drewN (Below.refl _ _) _)⟩
     ·have wk1:(kind == 1)=false:=by simpa using hk1
      obtain rfl:g=false:=by rw[←HG.out];exact decide_eq_false (fun h=>hk1 h.1)
      clear HG HS3 hk1
      go_quiet (fail)
      go_wp2_with fail
      go_meet
      exact ⟨rfl,K3.out.below (below_drewN (Below.refl _ _) _)⟩
    case rest=>
     obtain ⟨rfl,hk4⟩:=hcut
     have K4:=ħ hk4
     clear hk4 K3 hw1 HG
     cases g with
     | true=>
      have HRE:=ħ (show R=(sc,[]) by rw[HS3.out,if_pos rfl])
      clear HS3
      go_wp2_with fail
      go_ret
      rw[HRE.out]
      exact TP.of_nil HC.out K4.out.n
     | false=>
      have HS4:=ħ (show R=if m.term<(sc.later m).term then (sc.later m,(sc.later m).refuse m) else (sc.later m).step2 m t by rw[HS3.out,if_neg (by simp)])
      have hvr:=validM_r (by rw[HQ.out];simp)
      have HVR:=ħ hvr
      have hmt:=HM.out.t
      have htk:=HWC.out.tk
      have HWL:=ħ (show Wf (k+1) (sc.later m) from by
       unfold Nd.later
       split
       ·rename_i hlt;exact HWC.out.enter ⟨hvr.2.2.2.2.2.2.2.2,by unfold MT;omega⟩ (by omega) hlt
       ·exact HWC.out.more (by omega))
      clear HS3 hvr
      go_upto_region 6 with fail
      go_cut [73] (fun vx wx=>vx=.bool false∧∃ cr,KB w col p v j l f (sc.later m) false [] w.heap.size 99 (mvC kind frm tt term prev pterm commit granted A es.length c) wx cr)
      case first=>
       by_cases hgt:sc.term<term
       ·have wgt:decide (sc.term<term)=true:=decide_eq_true hgt
        have hle:sc.later m=sc.enter term:=by unfold Nd.later;rw[HMF.out.2.2.2.1,if_pos hgt]
        have HLE:=ħ hle
        rw[hle] at HWL
        have hrn:=HWC.out.rn
        have H44:=ħ (term44 wc.drew v j _ _ (K4.out.n.n.below (Below.refl _ _).drew).vb)
        have H101:=ħ (enter101 wc.drew col p v j l f sc [] (K4.out.n.n.below (Below.refl _ _).drew) term (by have:=HVR.out.2.2.2.2.2.2.2.2;rw[HMF.out.2.2.2.1] at this hmt;unfold validT;simp;omega) (by omega) (HWL.out.fit (by omega)) (by omega))
        have KD:=ħ (K4.out.below (Below.refl _ _).drew)
        have HK:=ħ fun W cr s' (x:KB w col p v j l f s' false [] w.heap.size 99 (mvC kind frm tt term prev pterm commit granted A es.length c) W cr)=>(show (W.cell? ⟨p,4,none⟩=some (.pointer (some ⟨v,0,none⟩)))∧(W.cell? ⟨w.heap.size,3,none⟩=some (.int .i64 term)) from ⟨x.n.n.x.2.2.2.2.2.2.1,x.k.cell 3⟩)
        have S1:=HK.out wc col sc K4.out
        clear hgt hle HS4
        go_region_held (fun W=>(W.cell? ⟨p,4,none⟩=some (.pointer (some ⟨v,0,none⟩)))∧(W.cell? ⟨w.heap.size,3,none⟩=some (.int .i64 term))) (first | assumption | exact S1) (first
         | (((with_reducible refine H44.out.mono ?_);rintro e w3 ⟨rfl,rfl⟩))
         | (((with_reducible refine H101.out.mono ?_);rintro e w4 ⟨rfl,hnp⟩;obtain ⟨c4,hk4⟩:=KD.out.call hnp;have S2:=HK.out _ _ _ hk4;have K5:=ħ hk4;clear hk4 hnp)))
        all_goals
         go_wp2_with fail
         go_meet
         exact ⟨rfl,c4,by rw[HLE.out];exact K5.out⟩
       ·have wgt:decide (sc.term<term)=false:=decide_eq_false hgt
        have hle:sc.later m=sc:=by unfold Nd.later;rw[HMF.out.2.2.2.1,if_neg hgt]
        have HLE:=ħ hle
        have H44:=ħ fun W (hb:Below wc.heap.size wc W)=>term44 W v j _ _ (K4.out.n.n.below hb).vb
        have HK:=ħ fun W (hb:Below wc.heap.size wc W)=>(show (W.cell? ⟨p,4,none⟩=some (.pointer (some ⟨v,0,none⟩)))∧(W.cell? ⟨w.heap.size,3,none⟩=some (.int .i64 term)) from ⟨(K4.out.below hb).n.n.x.2.2.2.2.2.2.1,(K4.out.below hb).k.cell 3⟩)
        clear hgt hle HS4
        refine wp_region_quiet (C:=fun w'=>Below wc.heap.size wc w') (by kernel_rfl) (by kernel_rfl) ((Below.refl _ _).drew) ?_
        repeat (refine wpQuiet_step (fun K hK=>?_);have HKK:=ħ hK;clear hK;first | (refine ite_no ?_ ?_;(focus (clear HKK K;go_simp;done));go_simp;refine HKK.out _ ?_;clear HKK K) | (refine ite_yes ?_ ?_;(focus (clear HKK K;go_simp;done));apply Exists.intro;refine ⟨fun wq hq=>?_,?_⟩;(focus ((obtain ⟨y0,y1⟩:=HK.out _ hq);go_simp;(first | done | rfl | ((refine (H44.out _ hq).mono ?_);rintro e w3 ⟨rfl,rfl⟩;exact ⟨rfl,hq⟩))));go_simp;refine HKK.out _ ?_;clear HKK K))
        refine wpQuiet_nil ?_
        intro w5 hw5
        go_wp2_with fail
        go_meet
        exact ⟨rfl,col,by rw[HLE.out];exact K4.out.below hw5⟩
      case rest=>
       obtain ⟨rfl,cr,hk5⟩:=hcut
       have K5:=ħ hk5
       clear hk5 K4
       have hlt0:=HWL.out.tk
       have hlm:m.term=term:=HMF.out.2.2.2.1
       have HTT:=ħ (show ¬ m.term<(sc.later m).term→m.term=(sc.later m).term from fun hn=>by
        unfold Nd.later at hn⊢
        split
        ·rfl
        ·rename_i h2;rw[if_neg h2] at hn;omega)
       rw[hlm] at HS4
       have HLM:=ħ hlm
       clear hlm
       generalize sc.later m=sl at *
       have H44:=ħ fun W (hb:Below wc.heap.size wc W)=>term44 W v j _ _ (K5.out.n.n.below hb).vb
       have HK:=ħ fun W (hb:Below wc.heap.size wc W)=>(show (W.cell? ⟨p,4,none⟩=some (.pointer (some ⟨v,0,none⟩)))∧(W.cell? ⟨w.heap.size,3,none⟩=some (.int .i64 term)) from ⟨(K5.out.below hb).n.n.x.2.2.2.2.2.2.1,(K5.out.below hb).k.cell 3⟩)
       go_upto_region 8 with fail
       refine wp_region_quiet (C:=fun w'=>Below wc.heap.size wc w') (by kernel_rfl) (by kernel_rfl) ((Below.refl _ _).drew) ?_
       repeat (refine wpQuiet_step (fun K hK=>?_);have HKK:=ħ hK;clear hK;first | (refine ite_no ?_ ?_;(focus (clear HKK K;go_simp;done));go_simp;refine HKK.out _ ?_;clear HKK K) | (refine ite_yes ?_ ?_;(focus (clear HKK K;go_simp;done));apply Exists.intro;refine ⟨fun wq hq=>?_,?_⟩;(focus ((obtain ⟨y0,y1⟩:=HK.out _ hq);go_simp;(first | done | rfl | ((refine (H44.out _ hq).mono ?_);rintro e w3 ⟨rfl,rfl⟩;exact ⟨rfl,hq⟩))));go_simp;refine HKK.out _ ?_;clear HKK K))
       refine wpQuiet_nil ?_
       intro w6 hw6
       have K6:=ħ (K5.out.below hw6)
       clear hw6 K5 H44 HK
       obtain ⟨q0,q1,q2⟩:=K6.out.k.facts
       by_cases hlt:term<sl.term
       ·have wlt:decide (term<sl.term)=true:=decide_eq_true hlt
        have HRE:=ħ (show R=(sl,sl.refuse m) by rw[HS4.out,if_pos hlt])
        have H102:=ħ (show Calls Tryz.prog 102 #[.pointer (some ⟨p,0,none⟩),.agg (mvC kind frm tt term prev pterm commit granted A es.length c)] w6 _ from H102.out w6 cr sl K6.out.n.n)
        clear HS4
        go_upto_region 10 with (go_at_call 102;((with_reducible refine H102.out.mono ?_);rintro e w7 ⟨rfl,c7,hb7⟩;have N7:=ħ (K6.out.n.trans hb7);clear hb7))
        go_wp2_with (go_at_call 49;((with_reducible refine (H49.out w7 c7 _ _ _ N7.out.n).mono ?_);rintro e w90 hs6;have HT6:=ħ (TP.of_sent HC.out N7.out hs6);obtain ⟨A9,c9,ms9,rfl,hs7⟩:=hs6;clear hs7))
        go_ret
        rw[HRE.out]
        exact HT6.out
       ·have wlt:decide (term<sl.term)=false:=decide_eq_false hlt
        have HS5:=ħ (show R=sl.step2 m t by rw[HS4.out,if_neg hlt])
        have HTE:=ħ (HTT.out (by rw[HLM.out];exact hlt))
        have HT1:=ħ (show 1≤sl.term by rw[←HTE.out];exact HVR.out.2.2.2.2.2.2.2.2)
        go_upto_region 11 with fail
        clear HS4 hlt HTT HLM wlt
        have HS6:=ħ (show sl.step2 m t=if m.kind=1 then sl.requested m t else if m.kind=2 then (if m.granted=true∧sl.role=2 then (if (sl.gotVote m).elected=true then (sl.gotVote m).lead t else (sl.gotVote m,[])) else (sl,[])) else if m.kind=3 then (if sl.role≠3 then sl.receive m t else (sl,[])) else (if sl.role=3∧m.frm∈sl.others then sl.replied m else (sl,[])) from rfl)
        rw[←HS5.out,HMF.out.1,HMF.out.2.1,HMF.out.2.2.2.2.2] at HS6
        have hkd:1≤kind∧kind≤4:=by have h1:=HVR.out.1;have h2:=HVR.out.2.1;rw[HMF.out.1] at h1 h2;exact ⟨h1,h2⟩
        have hfr:0≤frm∧frm<9:=by have h1:=HVR.out.2.2.2.1;have h2:=HVR.out.2.2.2.2.1;rw[HMF.out.2.1] at h1 h2;exact ⟨h1,h2⟩
        have HN6:=ħ K6.out.n
        have HFR:=ħ HMF.out.2.1
        clear HS5
        obtain ⟨fr,rfl⟩:∃ fr:Nat,frm=(fr:Int):=⟨frm.toNat,by omega⟩
        have hf9:fr<9:=by omega
        have hf9':(fr:Int)<9:=by omega
        by_cases hk1:kind=1
        ·subst hk1
         have HRE:=ħ (show R=sl.requested m t by rw[HS6.out,if_pos rfl])
         have H103:=ħ (show Calls Tryz.prog 103 #[.pointer (some ⟨p,0,none⟩),.agg (mvC 1 (fr:Int) tt term prev pterm commit granted A es.length c),.int .i64 t] w6 _ from H103.out w6 cr sl K6.out.n.n (k+1) HWL.out (by omega) HT1.out hfr t)
         clear HS6
         go_upto_region 25 with (go_at_call 103;((with_reducible refine H103.out.mono ?_);rintro e w7 ⟨rfl,un7,c7,hb7⟩;have N7:=ħ (K6.out.n.trans hb7);clear hb7))
         go_wp2_with (go_at_call 49;((with_reducible refine (H49.out w7 c7 _ _ _ N7.out.n).mono ?_);rintro e w90 hs6;have HT6:=ħ (TP.of_sent HC.out N7.out hs6);obtain ⟨A9,c9,ms9,rfl,hs7⟩:=hs6;clear hs7))
         go_ret
         rw[HRE.out]
         exact HT6.out
        ·have wk1:(kind == 1)=false:=by simpa using hk1
         by_cases hk2:kind=2
         ·subst hk2
          have HS7:=ħ (show R=if granted=true∧sl.role=2 then (if (sl.gotVote m).elected=true then (sl.gotVote m).lead t else (sl.gotVote m,[])) else (sl,[]) by rw[HS6.out,if_neg (by decide),if_pos rfl])
          clear HS6 hk1 wk1
          obtain ⟨c0,c1,x0,x1,x2,x3,x4,x5,x10,x11,x12,x13,x14,x15,x44⟩:=K6.out.n.n.x
          clear x0 x1 x2 x3 x4 x5 x10 x12 x13 x14 x15 x44
          cases granted with
          | false=>
           have HRE:=ħ (show R=(sl,[]) by rw[HS7.out,if_neg (by simp)])
           clear HS7
           go_upto_region 25 with fail
           go_wp2_with (go_at_call 49;((with_reducible refine (H49.out w6 cr _ _ _ HN6.out.n).mono ?_);rintro e w90 hs6;have HT6:=ħ (TP.of_sent HC.out HN6.out hs6);obtain ⟨A9,c9,ms9,rfl,hs7⟩:=hs6;clear hs7))
           go_ret
           rw[HRE.out]
           exact HT6.out
          | true=>
           by_cases hr2:sl.role=2
           ·have wr2:(sl.role == 2)=true:=by simpa using hr2
            have HGV:=ħ (show sl.gotVote m = { sl with vs:=sl.vs.set fr true } by unfold Nd.gotVote;rw[HFR.out,Int.toNat_natCast])
            have HS8:=ħ (show R=if (sl.gotVote m).elected=true then (sl.gotVote m).lead t else (sl.gotVote m,[]) by rw[HS7.out,if_pos ⟨rfl,hr2⟩])
            have HWG:=ħ (show Wf (k+1) (sl.gotVote m) from HWL.out.keep ⟨rfl,rfl,rfl,rfl⟩ ⟨rfl,rfl,rfl,rfl⟩ HWL.out.ro HWL.out.ld HWL.out.cm HWL.out.ti ⟨by simp[Nd.gotVote,HWL.out.l9.1],HWL.out.l9.2⟩ HWL.out.nm HWL.out.lr)
            have HTG:=ħ (show 1≤(sl.gotVote m).term from HT1.out)
            have x17:=K6.out.n.n.vc hf9
            have K7:=ħ (show KB w col p v j l f (sl.gotVote m) false [] w.heap.size 99 (mvC 2 (fr:Int) tt term prev pterm commit true A es.length c) (w6.setCell ⟨p,17+fr,none⟩ (.bool true)).drew cr from by
             rw[HGV.out]
             exact (K6.out.set1 (K6.out.n.n.stv hf9 true)).below (Below.refl _ _).drew)
            clear HS7 hr2
            generalize sl.gotVote m=gv at *
            go_upto_region 16 with fail
            go_region
            generalize (w6.setCell ⟨p,17+fr,none⟩ (.bool true)).drew=W7 at *
            clear x17 c0 c1 x11 q0 q1 q2 wr2
            have H79:=ħ (elected79 W7 cr p v j l f gv false [] K7.out.n.n HWG.out.vB)
            cases hel:gv.elected with
            | true=>
             rw[hel] at H79
             have HRE:=ħ (show R=gv.lead t by rw[HS8.out,if_pos hel])
             have H80:=ħ fun W (x:NS W cr p v j l f gv false [])=>lead80 W cr p v j l f gv false [] x HWG.out (by omega) HTG.out (by simp) t
             clear hel HS8
             go_upto_region 18 with (go_at_call 79;((with_reducible refine H79.out.mono ?_);rintro e w9 ⟨rfl,b9⟩))
             have N9:=ħ (K7.out.n.below b9)
             go_upto_region 25 with (go_at_call 80;((with_reducible refine (H80.out w9 N9.out.n).mono ?_);rintro e w7 ⟨rfl,un7,c7,hb7⟩;have N7:=ħ (N9.out.trans hb7);clear hb7))
             go_wp2_with (go_at_call 49;((with_reducible refine (H49.out w7 c7 _ _ _ N7.out.n).mono ?_);rintro e w90 hs6;have HT6:=ħ (TP.of_sent HC.out N7.out hs6);obtain ⟨A9,c9,ms9,rfl,hs7⟩:=hs6;clear hs7))
             go_ret
             rw[HRE.out]
             exact HT6.out
            | false=>
             rw[hel] at H79
             have HRE:=ħ (show R=(gv,[]) by rw[HS8.out,if_neg (by rw[hel];simp)])
             clear hel HS8
             go_upto_region 25 with (go_at_call 79;((with_reducible refine H79.out.mono ?_);rintro e w9 ⟨rfl,b9⟩))
             have N9:=ħ (K7.out.n.below b9)
             go_wp2_with (go_at_call 49;((with_reducible refine (H49.out w9 cr _ _ _ N9.out.n).mono ?_);rintro e w90 hs6;have HT6:=ħ (TP.of_sent HC.out N9.out hs6);obtain ⟨A9,c9,ms9,rfl,hs7⟩:=hs6;clear hs7))
             go_ret
             rw[HRE.out]
             exact HT6.out
           ·have wr2:(sl.role == 2)=false:=by simpa using hr2
            have HRE:=ħ (show R=(sl,[]) by rw[HS7.out,if_neg (fun h=>hr2 h.2)])
            clear HS7 hr2
            go_upto_region 25 with fail
            go_wp2_with (go_at_call 49;((with_reducible refine (H49.out w6 cr _ _ _ HN6.out.n).mono ?_);rintro e w90 hs6;have HT6:=ħ (TP.of_sent HC.out HN6.out hs6);obtain ⟨A9,c9,ms9,rfl,hs7⟩:=hs6;clear hs7))
            go_ret
            rw[HRE.out]
            exact HT6.out
         ·have wk2:(kind == 2)=false:=by simpa using hk2
          obtain ⟨c0,c1,x0,x1,x2,x3,x4,x5,x10,x11,x12,x13,x14,x15,x44⟩:=K6.out.n.n.x
          clear x0 x1 x2 x3 x4 x5 x10 x12 x13 x14 x15 x44
          by_cases hk3:kind=3
          ·subst hk3
           have HS7:=ħ (show R=if sl.role≠3 then sl.receive m t else (sl,[]) by rw[HS6.out,if_neg (by decide),if_neg (by decide),if_pos rfl])
           clear HS6 hk1 wk1 hk2 wk2
           by_cases hr3:sl.role=3
           ·have wr3:(sl.role == 3)=true:=by simpa using hr3
            have wr4:(sl.role != 3)=false:=by simpa using hr3
            have HRE:=ħ (show R=(sl,[]) by rw[HS7.out,if_neg (by simpa using hr3)])
            clear HS7 hr3
            go_upto_region 25 with fail
            go_wp2_with (go_at_call 49;((with_reducible refine (H49.out w6 cr _ _ _ HN6.out.n).mono ?_);rintro e w90 hs6;have HT6:=ħ (TP.of_sent HC.out HN6.out hs6);obtain ⟨A9,c9,ms9,rfl,hs7⟩:=hs6;clear hs7))
            go_ret
            rw[HRE.out]
            exact HT6.out
           ·have wr3:(sl.role == 3)=false:=by simpa using hr3
            have wr4:(sl.role != 3)=true:=by simpa using hr3
            have HRE:=ħ (show R=sl.receive m t by rw[HS7.out,if_pos hr3])
            have H104:=ħ (show Calls Tryz.prog 104 #[.pointer (some ⟨p,0,none⟩),.agg (mvC 3 (fr:Int) tt term prev pterm commit granted A es.length c),.int .i64 t] w6 _ from H104.out w6 cr sl K6.out.n.n (k+1) HWL.out (by omega) (by rw[HMD.out];exact ⟨by have:=HM.out.t;omega,HM.out.e⟩) (by rw[HMD.out];exact HQ.out) (by rw[HMD.out];exact HTE.out) _ (HEf.out w6 cr sl false [] K6.out) (HBf.out w6 cr sl false [] K6.out) t ⟨hti.1,by unfold MT;exact hti.2⟩)
            clear HS7 hr3
            go_upto_region 25 with (go_at_call 104;((with_reducible refine H104.out.mono ?_);rintro e w7 ⟨rfl,un7,c7,hb7⟩;have N7:=ħ (K6.out.n.trans hb7);clear hb7))
            go_wp2_with (go_at_call 49;((with_reducible refine (H49.out w7 c7 _ _ _ N7.out.n).mono ?_);rintro e w90 hs6;have HT6:=ħ (TP.of_sent HC.out N7.out hs6);obtain ⟨A9,c9,ms9,rfl,hs7⟩:=hs6;clear hs7))
            go_ret
            rw[HRE.out]
            exact HT6.out
          ·have wk3:(kind == 3)=false:=by simpa using hk3
           obtain rfl:kind=4:=by omega
           have HS7:=ħ (show R=if sl.role=3∧(fr:Int)∈sl.others then sl.replied m else (sl,[]) by rw[HS6.out,if_neg (by decide),if_neg (by decide),if_neg (by decide)])
           clear HS6 hk1 wk1 hk2 wk2 hk3 wk3
           go_upto_region 23 with fail
           by_cases hr3:sl.role=3
           ·have wr3:(sl.role == 3)=true:=by simpa using hr3
            obtain ⟨z,hz⟩:∃ z,decide ((fr:Int)∈sl.others)=z:=⟨_,rfl⟩
            have HS8:=ħ (show R=if z=true then sl.replied m else (sl,[]) by
             have e:z=true↔(fr:Int)∈sl.others:=by rw[←hz];exact decide_eq_true_iff
             rw[HS7.out]
             by_cases hm:(fr:Int)∈sl.others
             ·rw[if_pos ⟨hr3,hm⟩,if_pos (e.2 hm)]
             ·rw[if_neg (fun h=>hm h.2),if_neg (fun h=>hm (e.1 h))])
            have HZ:=ħ hz
            have HR3:=ħ hr3
            have HO:=ħ fun W (x:NS W cr p v j l f sl false [])=>others75 W cr p v j l f sl false [] x HWL.out.vB
            have hol:=others_len sl
            have HCn:=ħ fun W B' A' c' (x:RI W B' A' sl.others)=>(show Calls Tryz.prog 77 #[.slice A' sl.others.length c',.int .i64 (fr:Int)] W (fun e w'=>e=.returned (.bool z)∧W=w') from by
             have:=contains_any B' A' c' sl.others (fr:Int) W x (by omega)
             rwa [hasB_iff,hz] at this)
            clear HS7 hr3 hz
            go_cut [141] (fun vx wx=>vx=.bool z∧KB w col p v j l f sl false [] w.heap.size 99 (mvC 4 (fr:Int) tt term prev pterm commit granted A es.length c) wx cr)
            case first=>
             have HK:=ħ fun W (hb:Below w6.heap.size w6 W)=>(show (W.cell? ⟨p,11,none⟩=some (.int .i64 sl.role))∧(W.cell? ⟨w.heap.size,1,none⟩=some (.int .i64 (fr:Int))) from ⟨(K6.out.below hb).n.n.x.2.2.2.2.2.2.2.2.2.1,(K6.out.below hb).k.cell 1⟩)
             have S1:=HK.out w6 (Below.refl _ _)
             have N6d:=K6.out.n.n.below (Below.refl _ _).drew
             clear c0 c1 x11 q0 q1 q2
             go_region_held (fun W=>(W.cell? ⟨p,11,none⟩=some (.int .i64 sl.role))∧(W.cell? ⟨w.heap.size,1,none⟩=some (.int .i64 (fr:Int)))) (first | assumption | exact S1) (first
              | (((with_reducible refine (HO.out _ N6d).mono ?_);rintro e w7 ⟨A7,c7,rfl,r7,b7⟩;have B7:=((Below.refl w6.heap.size w6).drew).trans b7;clear b7;have S2:=HK.out _ B7;have HC7:=ħ (HCn.out w7 _ A7 c7 r7);clear r7))
              | (((with_reducible refine HC7.out.mono ?_);rintro e w8 ⟨rfl,rfl⟩)))
             all_goals
              go_wp2_with fail
              go_meet
              exact ⟨rfl,K6.out.below B7⟩
            case rest=>
             obtain ⟨rfl,hk8⟩:=hcut
             have K8:=ħ hk8
             have HN8:=ħ hk8.n
             clear hk8 c0 c1 x11 q0 q1 q2
             obtain ⟨q0,q1,q2⟩:=K8.out.k.facts
             cases z with
             | true=>
              have HRE:=ħ (show R=sl.replied m by rw[HS8.out,if_pos rfl])
              have hpv:0≤prev∧prev≤MT:=by
               have h9:=((validM_iff m).1 HQ.out).2.2.2.2.2.2.2.2.1
               unfold Nd.inR at h9
               simp only[Bool.and_eq_true,decide_eq_true_eq] at h9
               rw[HMF.out.2.2.2.2.1] at h9
               exact h9
              have H105:=ħ (show Calls Tryz.prog 105 #[.pointer (some ⟨p,0,none⟩),.agg (mvC 4 (fr:Int) tt term prev pterm commit granted A es.length c)] wc _ from H105.out wc cr sl K8.out.n.n (k+1) HWL.out (by omega) HR3.out HT1.out hfr hpv)
              clear HS8 HZ hpv
              go_upto_region 25 with (go_at_call 105;((with_reducible refine H105.out.mono ?_);rintro e w9 ⟨rfl,un9,c9,hb9⟩;have N9:=ħ (K8.out.n.trans hb9);clear hb9))
              go_wp2_with (go_at_call 49;((with_reducible refine (H49.out w9 c9 _ _ _ N9.out.n).mono ?_);rintro e w90 hs6;have HT6:=ħ (TP.of_sent HC.out N9.out hs6);obtain ⟨A9,c9,ms9,rfl,hs7⟩:=hs6;clear hs7))
              go_ret
              rw[HRE.out]
              exact HT6.out
             | false=>
              have HRE:=ħ (show R=(sl,[]) by rw[HS8.out,if_neg (by simp)])
              clear HS8 HZ
              go_upto_region 25 with fail
              go_wp2_with (go_at_call 49;((with_reducible refine (H49.out wc cr _ _ _ HN8.out.n).mono ?_);rintro e w90 hs6;have HT6:=ħ (TP.of_sent HC.out HN8.out hs6);obtain ⟨A9,c9,ms9,rfl,hs7⟩:=hs6;clear hs7))
              go_ret
              rw[HRE.out]
              exact HT6.out
           ·have wr3:(sl.role == 3)=false:=by simpa using hr3
            have HRE:=ħ (show R=(sl,[]) by rw[HS7.out,if_neg (fun h=>hr3 h.1)])
            clear HS7 hr3
            go_quiet (fail)
            have N8:=ħ (K6.out.n.below (below_drewN (Below.refl _ _) nq))
            generalize w6.drewN nq=W8 at *
            go_upto_region 25 with fail
            go_wp2_with (go_at_call 49;((with_reducible refine (H49.out W8 cr _ _ _ N8.out.n).mono ?_);rintro e w90 hs6;have HT6:=ħ (TP.of_sent HC.out N8.out hs6);obtain ⟨A9,c9,ms9,rfl,hs7⟩:=hs6;clear hs7))
            go_ret
            rw[HRE.out]
            exact HT6.out
  ·have wto:(tt == sc.id)=false:=by simpa using hto
   have HRE:=ħ (show R=(sc,[]) by rw[HS1.out,if_pos (.inr (by rw[HMF.out.2.2.1];exact hto))])
   clear HS1 hto
   refine wp_region_quiet (C:=fun w'=>Below w2.heap.size w2 w') (by kernel_rfl) (by kernel_rfl) ((Below.refl _ _).drew) ?_
   repeat (refine wpQuiet_step (fun K hK=>?_);have HKK:=ħ hK;clear hK;first | (refine ite_no ?_ ?_;(focus (clear HKK K;go_simp;done));go_simp;refine HKK.out _ ?_;clear HKK K) | (refine ite_yes ?_ ?_;(focus (clear HKK K;go_simp;done));apply Exists.intro;refine ⟨fun wq hq=>?_,?_⟩;(focus ((obtain ⟨y0,y1,y2,y3,y4⟩:=HK.out _ hq);go_simp;(first | done | rfl | ((refine (H100.out _ hq).mono ?_);rintro e w4 ⟨rfl,hh⟩;exact ⟨rfl,hq.trans (hh.mono hq.size)⟩))));go_simp;refine HKK.out _ ?_;clear HKK K))
   refine wpQuiet_nil ?_
   intro w3 hw3
   go_wp2_with fail
   go_ret
   rw[HRE.out]
   exact TP.of_nil HC.out (K2.out.below hw3).n
end
end Go.Proofs.YtdfobfjpkjddpaaGreat

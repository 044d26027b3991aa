import Derived.Test.YtdhcjhfgibmhfaaGreatDoorJG6
import Derived.Test.YtdhcjhfgibmhfaaGreatDoorJG10
import Derived.Test.YtdhcjhfgibmhfaaGreatDoorJRof
import Derived.Test.YtdhcjhfgibmhfaaGreatDoorJG7
set_option linter.unusedVariables false
set_option linter.unusedSimpArgs false
set_option maxRecDepth 10000
set_option maxHeartbeats 8000000
namespace Go.Proofs.YtdhcjhfgibmhfaaGreatDoor
open Go.RowKit Go.Own Go.Quo Go.Inc
theorem uU (B:Nat→Prop)(id urg dist since merged:Int)(code:ByteArray)(An Ac Au:Option Addr)(cn cc cu:Nat)(nodes calls units:List Int)(closed:Bool)(w:World)(hs:code.size≤100000)(hn:RI w B An nodes)(hc:RI w B Ac calls)(hu:RI w B Au units)(ln:nodes.length≤100000)(lc:calls.length≤100000)(lu:units.length≤100000) :
 Calls Tryz.prog 69 #[.agg #[ι id,ι urg,.string code,.slice An nodes.length cn,ι dist,ι since,.slice Ac calls.length cc,.slice Au units.length cu,ι merged,.bool closed]] w (qX (jC ⟨id,urg,code,nodes,dist,since,calls,units,merged,closed⟩) w):=by
 have Y1:=ħ (fun W=>ZW id 1 W)
 have Y0:=ħ (fun W=>ZW merged 1 W)
 have Km:=ħ (Bc B urg dist since code An cn nodes (w.alloc (.cells #[ι id,ι urg,.string code,.slice An nodes.length cn,ι dist,ι since,.slice Ac calls.length cc,.slice Au units.length cu,ι merged,.bool closed] 48)) hs (hn.alloc _) ln)
 have VX:=ħ (fun (W:World) (hb:Below w.heap.size w W)=>UL _ Ac cc calls 1 1099511627776 W (((hc.old (by omega)).more (B':=fun k=>k<w.heap.size) (fun k hk=>hk.2)).below hb (fun _ h=>h)) lc)
 have Xv:=ħ (fun (W:World) (hb:Below w.heap.size w W)=>EB _ Au cu units W (((hu.old (by omega)).more (B':=fun k=>k<w.heap.size) (fun k hk=>hk.2)).below hb (fun _ h=>h)) lu)
 have Jo:=ħ (fun (B':Nat→Prop) (A':Option Addr) (c':Nat) (W:World) (hr:Reads W B' 1 A' units.length (units.map (Value.int .i64)))=>UL B' A' c' units 0 255 W hr lu)
 have HB0:=ħ ((Below.refl w.heap.size w).alloc (Nat.le_refl _) (.cells #[ι id,ι urg,.string code,.slice An nodes.length cn,ι dist,ι since,.slice Ac calls.length cc,.slice Au units.length cu,ι merged,.bool closed] 48))
 have HX:=ħ (zb.new w 48 #[ι id,ι urg,.string code,.slice An nodes.length cn,ι dist,ι since,.slice Ac calls.length cc,.slice Au units.length cu,ι merged,.bool closed])
 have x0:=HX.out.facts
 unfold qL at Xv
 unfold jC Qo
 simp only
 clear hn hc hu
 generalize zQ id 1=b0 at *
 generalize yK urg code nodes dist since=b1 at *
 generalize qf calls 1 1099511627776=b3 at *
 generalize qf units 0 255=b4 at *
 generalize zQ merged 1=b6 at *
 have PG:=ħ (show (units.map (Value.int .i64)).length=units.length by simp)
 generalize calls.length=Vj at *
 generalize units.length=Fq at *
 cases h0:b0 with
 | false=>
  go_enter Tryz.func69,Tryz.ntmps69
  go_wp2_with (first | (go_at_call 118;((with_reducible refine (Y1.out _).mono ?_);rintro e w2 ⟨rfl,rfl⟩)) | (go_at_call 118;((with_reducible refine (Y0.out _).mono ?_);rintro e w2 ⟨rfl,rfl⟩)) | (go_at_call 119;((with_reducible refine Km.out.mono ?_);rintro e w2 ⟨rfl,hb2⟩;have Zn:=ħ (HB0.out.trans (hb2.mono HB0.out.size));have HB2:=Zn;clear x0;have x0:=(HX.out.below hb2 HX.out.lt).facts;have Y2:=ħ (HX.out.below hb2 HX.out.lt);clear hb2)) | (go_at_call 120;((with_reducible refine (VX.out _ HB2.out).mono ?_);rintro e w3 ⟨rfl,rfl⟩)) | (go_at_call 121;((with_reducible refine (Xv.out _ HB2.out).mono ?_);rintro e w4 ⟨A4,c4,rfl,jW,hb4⟩;have Zn:=ħ (HB2.out.trans (hb4.mono HB2.out.size));have HR4:=ħ (Reads.of_own jW);clear x0;have x0:=(Y2.out.below hb4 Y2.out.lt).facts;clear jW hb4)) | (go_at_call 120;((with_reducible refine (Jo.out _ _ _ _ HR4.out).mono ?_);rintro e w3 ⟨rfl,rfl⟩)))
  go_ret
  exact ⟨by first | rfl | (simp;done) | (simp;assumption),(by first | exact Zn.out | exact HB0.out)⟩
 | true=>
  cases h1:b1 with
  | false=>
   go_enter Tryz.func69,Tryz.ntmps69
   go_wp2_with (first | (go_at_call 118;((with_reducible refine (Y1.out _).mono ?_);rintro e w2 ⟨rfl,rfl⟩)) | (go_at_call 118;((with_reducible refine (Y0.out _).mono ?_);rintro e w2 ⟨rfl,rfl⟩)) | (go_at_call 119;((with_reducible refine Km.out.mono ?_);rintro e w2 ⟨rfl,hb2⟩;have Zn:=ħ (HB0.out.trans (hb2.mono HB0.out.size));have HB2:=Zn;clear x0;have x0:=(HX.out.below hb2 HX.out.lt).facts;have Y2:=ħ (HX.out.below hb2 HX.out.lt);clear hb2)) | (go_at_call 120;((with_reducible refine (VX.out _ HB2.out).mono ?_);rintro e w3 ⟨rfl,rfl⟩)) | (go_at_call 121;((with_reducible refine (Xv.out _ HB2.out).mono ?_);rintro e w4 ⟨A4,c4,rfl,jW,hb4⟩;have Zn:=ħ (HB2.out.trans (hb4.mono HB2.out.size));have HR4:=ħ (Reads.of_own jW);clear x0;have x0:=(Y2.out.below hb4 Y2.out.lt).facts;clear jW hb4)) | (go_at_call 120;((with_reducible refine (Jo.out _ _ _ _ HR4.out).mono ?_);rintro e w3 ⟨rfl,rfl⟩)))
   go_ret
   exact ⟨by first | rfl | (simp;done) | (simp;assumption),(by first | exact Zn.out | exact HB0.out)⟩
  | true=>
   by_cases h2:Vj≤1000
   ·rw[decide_eq_true h2]
    have Cv:¬ (1000:Int)<Vj:=(by omega);have wJ:¬ 1000<Vj:=(by omega)
    cases h3:b3 with
    | false=>
     go_enter Tryz.func69,Tryz.ntmps69
     go_wp2_with (first | (go_at_call 118;((with_reducible refine (Y1.out _).mono ?_);rintro e w2 ⟨rfl,rfl⟩)) | (go_at_call 118;((with_reducible refine (Y0.out _).mono ?_);rintro e w2 ⟨rfl,rfl⟩)) | (go_at_call 119;((with_reducible refine Km.out.mono ?_);rintro e w2 ⟨rfl,hb2⟩;have Zn:=ħ (HB0.out.trans (hb2.mono HB0.out.size));have HB2:=Zn;clear x0;have x0:=(HX.out.below hb2 HX.out.lt).facts;have Y2:=ħ (HX.out.below hb2 HX.out.lt);clear hb2)) | (go_at_call 120;((with_reducible refine (VX.out _ HB2.out).mono ?_);rintro e w3 ⟨rfl,rfl⟩)) | (go_at_call 121;((with_reducible refine (Xv.out _ HB2.out).mono ?_);rintro e w4 ⟨A4,c4,rfl,jW,hb4⟩;have Zn:=ħ (HB2.out.trans (hb4.mono HB2.out.size));have HR4:=ħ (Reads.of_own jW);clear x0;have x0:=(Y2.out.below hb4 Y2.out.lt).facts;clear jW hb4)) | (go_at_call 120;((with_reducible refine (Jo.out _ _ _ _ HR4.out).mono ?_);rintro e w3 ⟨rfl,rfl⟩)))
     go_ret
     exact ⟨by first | rfl | (simp;done) | (simp;assumption),(by first | exact Zn.out | exact HB0.out)⟩
    | true=>
     cases h4:b4 with
     | false=>
      go_enter Tryz.func69,Tryz.ntmps69
      go_wp2_with (first | (go_at_call 118;((with_reducible refine (Y1.out _).mono ?_);rintro e w2 ⟨rfl,rfl⟩)) | (go_at_call 118;((with_reducible refine (Y0.out _).mono ?_);rintro e w2 ⟨rfl,rfl⟩)) | (go_at_call 119;((with_reducible refine Km.out.mono ?_);rintro e w2 ⟨rfl,hb2⟩;have Zn:=ħ (HB0.out.trans (hb2.mono HB0.out.size));have HB2:=Zn;clear x0;have x0:=(HX.out.below hb2 HX.out.lt).facts;have Y2:=ħ (HX.out.below hb2 HX.out.lt);clear hb2)) | (go_at_call 120;((with_reducible refine (VX.out _ HB2.out).mono ?_);rintro e w3 ⟨rfl,rfl⟩)) | (go_at_call 121;((with_reducible refine (Xv.out _ HB2.out).mono ?_);rintro e w4 ⟨A4,c4,rfl,jW,hb4⟩;have Zn:=ħ (HB2.out.trans (hb4.mono HB2.out.size));have HR4:=ħ (Reads.of_own jW);clear x0;have x0:=(Y2.out.below hb4 Y2.out.lt).facts;clear jW hb4)) | (go_at_call 120;((with_reducible refine (Jo.out _ _ _ _ HR4.out).mono ?_);rintro e w3 ⟨rfl,rfl⟩)))
      go_ret
      exact ⟨by first | rfl | (simp;done) | (simp;assumption),(by first | exact Zn.out | exact HB0.out)⟩
     | true=>
      by_cases h5:merged=0
      ·subst h5
       rw[decide_eq_true rfl]
       go_enter Tryz.func69,Tryz.ntmps69
       go_wp2_with (first | (go_at_call 118;((with_reducible refine (Y1.out _).mono ?_);rintro e w2 ⟨rfl,rfl⟩)) | (go_at_call 118;((with_reducible refine (Y0.out _).mono ?_);rintro e w2 ⟨rfl,rfl⟩)) | (go_at_call 119;((with_reducible refine Km.out.mono ?_);rintro e w2 ⟨rfl,hb2⟩;have Zn:=ħ (HB0.out.trans (hb2.mono HB0.out.size));have HB2:=Zn;clear x0;have x0:=(HX.out.below hb2 HX.out.lt).facts;have Y2:=ħ (HX.out.below hb2 HX.out.lt);clear hb2)) | (go_at_call 120;((with_reducible refine (VX.out _ HB2.out).mono ?_);rintro e w3 ⟨rfl,rfl⟩)) | (go_at_call 121;((with_reducible refine (Xv.out _ HB2.out).mono ?_);rintro e w4 ⟨A4,c4,rfl,jW,hb4⟩;have Zn:=ħ (HB2.out.trans (hb4.mono HB2.out.size));have HR4:=ħ (Reads.of_own jW);clear x0;have x0:=(Y2.out.below hb4 Y2.out.lt).facts;clear jW hb4)) | (go_at_call 120;((with_reducible refine (Jo.out _ _ _ _ HR4.out).mono ?_);rintro e w3 ⟨rfl,rfl⟩)))
       go_ret
       exact ⟨by first | rfl | (simp;done) | (simp;assumption),(by first | exact Zn.out | exact HB0.out)⟩
      ·have Co:(merged == 0)=false:=by simpa using h5
       rw[decide_eq_false h5]
       clear h5
       cases h6:b6 with
       | false=>
        go_enter Tryz.func69,Tryz.ntmps69
        go_wp2_with (first | (go_at_call 118;((with_reducible refine (Y1.out _).mono ?_);rintro e w2 ⟨rfl,rfl⟩)) | (go_at_call 118;((with_reducible refine (Y0.out _).mono ?_);rintro e w2 ⟨rfl,rfl⟩)) | (go_at_call 119;((with_reducible refine Km.out.mono ?_);rintro e w2 ⟨rfl,hb2⟩;have Zn:=ħ (HB0.out.trans (hb2.mono HB0.out.size));have HB2:=Zn;clear x0;have x0:=(HX.out.below hb2 HX.out.lt).facts;have Y2:=ħ (HX.out.below hb2 HX.out.lt);clear hb2)) | (go_at_call 120;((with_reducible refine (VX.out _ HB2.out).mono ?_);rintro e w3 ⟨rfl,rfl⟩)) | (go_at_call 121;((with_reducible refine (Xv.out _ HB2.out).mono ?_);rintro e w4 ⟨A4,c4,rfl,jW,hb4⟩;have Zn:=ħ (HB2.out.trans (hb4.mono HB2.out.size));have HR4:=ħ (Reads.of_own jW);clear x0;have x0:=(Y2.out.below hb4 Y2.out.lt).facts;clear jW hb4)) | (go_at_call 120;((with_reducible refine (Jo.out _ _ _ _ HR4.out).mono ?_);rintro e w3 ⟨rfl,rfl⟩)))
        go_ret
        exact ⟨by first | rfl | (simp;done) | (simp;assumption),(by first | exact Zn.out | exact HB0.out)⟩
       | true=>
        by_cases h7:merged=id
        ·subst h7
         rw[show decide (merged≠merged)=false by simp]
         go_enter Tryz.func69,Tryz.ntmps69
         go_wp2_with (first | (go_at_call 118;((with_reducible refine (Y1.out _).mono ?_);rintro e w2 ⟨rfl,rfl⟩)) | (go_at_call 118;((with_reducible refine (Y0.out _).mono ?_);rintro e w2 ⟨rfl,rfl⟩)) | (go_at_call 119;((with_reducible refine Km.out.mono ?_);rintro e w2 ⟨rfl,hb2⟩;have Zn:=ħ (HB0.out.trans (hb2.mono HB0.out.size));have HB2:=Zn;clear x0;have x0:=(HX.out.below hb2 HX.out.lt).facts;have Y2:=ħ (HX.out.below hb2 HX.out.lt);clear hb2)) | (go_at_call 120;((with_reducible refine (VX.out _ HB2.out).mono ?_);rintro e w3 ⟨rfl,rfl⟩)) | (go_at_call 121;((with_reducible refine (Xv.out _ HB2.out).mono ?_);rintro e w4 ⟨A4,c4,rfl,jW,hb4⟩;have Zn:=ħ (HB2.out.trans (hb4.mono HB2.out.size));have HR4:=ħ (Reads.of_own jW);clear x0;have x0:=(Y2.out.below hb4 Y2.out.lt).facts;clear jW hb4)) | (go_at_call 120;((with_reducible refine (Jo.out _ _ _ _ HR4.out).mono ?_);rintro e w3 ⟨rfl,rfl⟩)))
         go_ret
         exact ⟨by first | rfl | (simp;done) | (simp;assumption),(by first | exact Zn.out | exact HB0.out)⟩
        ·have O8:(merged == id)=false:=by simpa using h7
         rw[show decide (merged≠id)=true by simpa using h7]
         by_cases h8:Vj=0
         ·subst h8
          rw[decide_eq_true (rfl:(0:Nat)=0)]
          by_cases h9:Fq=0
          ·subst h9
           rw[decide_eq_true (rfl:(0:Nat)=0)]
           go_enter Tryz.func69,Tryz.ntmps69
           go_wp2_with (first | (go_at_call 118;((with_reducible refine (Y1.out _).mono ?_);rintro e w2 ⟨rfl,rfl⟩)) | (go_at_call 118;((with_reducible refine (Y0.out _).mono ?_);rintro e w2 ⟨rfl,rfl⟩)) | (go_at_call 119;((with_reducible refine Km.out.mono ?_);rintro e w2 ⟨rfl,hb2⟩;have Zn:=ħ (HB0.out.trans (hb2.mono HB0.out.size));have HB2:=Zn;clear x0;have x0:=(HX.out.below hb2 HX.out.lt).facts;have Y2:=ħ (HX.out.below hb2 HX.out.lt);clear hb2)) | (go_at_call 120;((with_reducible refine (VX.out _ HB2.out).mono ?_);rintro e w3 ⟨rfl,rfl⟩)) | (go_at_call 121;((with_reducible refine (Xv.out _ HB2.out).mono ?_);rintro e w4 ⟨A4,c4,rfl,jW,hb4⟩;have Zn:=ħ (HB2.out.trans (hb4.mono HB2.out.size));have HR4:=ħ (Reads.of_own jW);clear x0;have x0:=(Y2.out.below hb4 Y2.out.lt).facts;clear jW hb4)) | (go_at_call 120;((with_reducible refine (Jo.out _ _ _ _ HR4.out).mono ?_);rintro e w3 ⟨rfl,rfl⟩)))
           go_ret
           exact ⟨by first | rfl | (simp;done) | (simp;assumption),(by first | exact Zn.out | exact HB0.out)⟩
          ·have NW:((Fq:Int) == 0)=false:=by simpa using h9
           rw[decide_eq_false h9]
           go_enter Tryz.func69,Tryz.ntmps69
           go_wp2_with (first | (go_at_call 118;((with_reducible refine (Y1.out _).mono ?_);rintro e w2 ⟨rfl,rfl⟩)) | (go_at_call 118;((with_reducible refine (Y0.out _).mono ?_);rintro e w2 ⟨rfl,rfl⟩)) | (go_at_call 119;((with_reducible refine Km.out.mono ?_);rintro e w2 ⟨rfl,hb2⟩;have Zn:=ħ (HB0.out.trans (hb2.mono HB0.out.size));have HB2:=Zn;clear x0;have x0:=(HX.out.below hb2 HX.out.lt).facts;have Y2:=ħ (HX.out.below hb2 HX.out.lt);clear hb2)) | (go_at_call 120;((with_reducible refine (VX.out _ HB2.out).mono ?_);rintro e w3 ⟨rfl,rfl⟩)) | (go_at_call 121;((with_reducible refine (Xv.out _ HB2.out).mono ?_);rintro e w4 ⟨A4,c4,rfl,jW,hb4⟩;have Zn:=ħ (HB2.out.trans (hb4.mono HB2.out.size));have HR4:=ħ (Reads.of_own jW);clear x0;have x0:=(Y2.out.below hb4 Y2.out.lt).facts;clear jW hb4)) | (go_at_call 120;((with_reducible refine (Jo.out _ _ _ _ HR4.out).mono ?_);rintro e w3 ⟨rfl,rfl⟩)))
           go_ret
           exact ⟨by first | rfl | (simp;done) | (simp;assumption),(by first | exact Zn.out | exact HB0.out)⟩
         ·have OC:((Vj:Int) == 0)=false:=by simpa using h8
          rw[decide_eq_false h8]
          go_enter Tryz.func69,Tryz.ntmps69
          go_wp2_with (first | (go_at_call 118;((with_reducible refine (Y1.out _).mono ?_);rintro e w2 ⟨rfl,rfl⟩)) | (go_at_call 118;((with_reducible refine (Y0.out _).mono ?_);rintro e w2 ⟨rfl,rfl⟩)) | (go_at_call 119;((with_reducible refine Km.out.mono ?_);rintro e w2 ⟨rfl,hb2⟩;have Zn:=ħ (HB0.out.trans (hb2.mono HB0.out.size));have HB2:=Zn;clear x0;have x0:=(HX.out.below hb2 HX.out.lt).facts;have Y2:=ħ (HX.out.below hb2 HX.out.lt);clear hb2)) | (go_at_call 120;((with_reducible refine (VX.out _ HB2.out).mono ?_);rintro e w3 ⟨rfl,rfl⟩)) | (go_at_call 121;((with_reducible refine (Xv.out _ HB2.out).mono ?_);rintro e w4 ⟨A4,c4,rfl,jW,hb4⟩;have Zn:=ħ (HB2.out.trans (hb4.mono HB2.out.size));have HR4:=ħ (Reads.of_own jW);clear x0;have x0:=(Y2.out.below hb4 Y2.out.lt).facts;clear jW hb4)) | (go_at_call 120;((with_reducible refine (Jo.out _ _ _ _ HR4.out).mono ?_);rintro e w3 ⟨rfl,rfl⟩)))
          go_ret
          exact ⟨by first | rfl | (simp;done) | (simp;assumption),(by first | exact Zn.out | exact HB0.out)⟩
   ·rw[decide_eq_false h2]
    have Cv:(1000:Int)<Vj:=(by omega);have wJ:1000<Vj:=(by omega)
    go_enter Tryz.func69,Tryz.ntmps69
    go_wp2_with (first | (go_at_call 118;((with_reducible refine (Y1.out _).mono ?_);rintro e w2 ⟨rfl,rfl⟩)) | (go_at_call 118;((with_reducible refine (Y0.out _).mono ?_);rintro e w2 ⟨rfl,rfl⟩)) | (go_at_call 119;((with_reducible refine Km.out.mono ?_);rintro e w2 ⟨rfl,hb2⟩;have Zn:=ħ (HB0.out.trans (hb2.mono HB0.out.size));have HB2:=Zn;clear x0;have x0:=(HX.out.below hb2 HX.out.lt).facts;have Y2:=ħ (HX.out.below hb2 HX.out.lt);clear hb2)) | (go_at_call 120;((with_reducible refine (VX.out _ HB2.out).mono ?_);rintro e w3 ⟨rfl,rfl⟩)) | (go_at_call 121;((with_reducible refine (Xv.out _ HB2.out).mono ?_);rintro e w4 ⟨A4,c4,rfl,jW,hb4⟩;have Zn:=ħ (HB2.out.trans (hb4.mono HB2.out.size));have HR4:=ħ (Reads.of_own jW);clear x0;have x0:=(Y2.out.below hb4 Y2.out.lt).facts;clear jW hb4)) | (go_at_call 120;((with_reducible refine (Jo.out _ _ _ _ HR4.out).mono ?_);rintro e w3 ⟨rfl,rfl⟩)))
    go_ret
    exact ⟨by first | rfl | (simp;done) | (simp;assumption),(by first | exact Zn.out | exact HB0.out)⟩
end Go.Proofs.YtdhcjhfgibmhfaaGreatDoor
namespace Go.Proofs.YtdhcjhfgibmhfaaGreatDoor
open Go.RowKit Go.Own Go.Quo Go.Inc Go.Wire
theorem XH {l:List Int}{lo hi:Int}(h:qf l lo hi=true)(h0:-9223372036854775808≤lo)(h1:hi<9223372036854775808):mZ l:=fun n hn=>by
 have:=(j4.1 h).2 n hn
 omega
theorem KM {s:ByteArray}(h:qZ s=true):s.size≤40:=by
 unfold qZ at h
 simp at h
 exact h.1.2
theorem DI {t:Cr}(h:yz t=true):(1≤t.call∧t.call≤1099511627776)∧(1≤t.urg∧t.urg≤5)∧t.code.size≤40∧mZ t.nodes∧(0≤t.since∧t.since≤1099511627776):=by
 unfold yz zQ yK Qo at h
 simp at h
 obtain ⟨⟨⟨a3,a4⟩,-,-⟩,⟨⟨⟨⟨⟨⟨⟨⟨b1,b2⟩,b3⟩,b4⟩,b5⟩,b6⟩,b7⟩,b8⟩,b9⟩⟩:=h
 exact ⟨⟨a3,a4⟩,⟨b1,b2⟩,KM b3,XH b5 (by decide) (by decide),⟨b8,b9⟩⟩
theorem ku {x:Ic}(h:jC x=true):(1≤x.id∧x.id≤1099511627776)∧(0≤x.dist∧x.dist<9)∧mZ x.units∧In64 x.merged∧x.code.size≤1000∧In64 x.urg∧In64 x.since∧mZ x.nodes∧mZ x.calls:=by
 unfold jC zQ yK Qo at h
 simp at h
 obtain ⟨⟨⟨⟨⟨⟨a1,a2⟩,⟨⟨⟨⟨⟨⟨⟨⟨b1,b2⟩,b3⟩,b4⟩,b5⟩,b6⟩,b7⟩,b8⟩,b9⟩⟩,c1⟩,c2⟩,c3⟩,c4⟩:=h
 have:=KM b3
 refine ⟨⟨a1,a2⟩,⟨b6,b7⟩,XH c3 (by decide) (by decide),?_,by omega,⟨by omega,by omega⟩,⟨by omega,by omega⟩,XH b5 (by decide) (by decide),XH c2 (by decide) (by decide)⟩
 rcases c4 with h | h
 ·rw[h];exact ⟨by decide,by decide⟩
 ·exact ⟨by omega,by omega⟩
theorem KT {id:Int}{t:Cr}(hid:zQ id 1=true)(h:yz t=true):jC (zt id t)=true:=by
 have h1:=UU h
 have h2:qf [t.call] 1 Qo=true:=by
  rw[j4]
  refine ⟨by simp,fun n hn=>?_⟩
  have:n=t.call:=by simpa using hn
  unfold Qo;omega
 have h3:qf ([]:List Int) 0 255=true:=by decide
 unfold yz at h
 unfold jC zt
 simp only[Bool.and_eq_true] at *
 refine ⟨⟨⟨⟨⟨hid,h.2⟩,by simp⟩,h2⟩,h3⟩,by simp⟩
end Go.Proofs.YtdhcjhfgibmhfaaGreatDoor
namespace Go.Proofs.YtdhcjhfgibmhfaaGreatDoor
open Go.RowKit Go.Own Go.Quo Go.Inc
section keyed
variable {α:Type} (key:α→Int)
def jF (l:List α)(x:α):List α:=l.filter (fun y=>decide (key y<key x)) ++ x :: l.filter (fun y=>decide (key x<key y))
def yw (l:List α)(k:Int):Option α:=l.find? (fun y=>key y == k)
def Asc (l:List α):Prop:=l.Pairwise (fun a b=>key a<key b)
theorem jl {l:List α}{x y:α}:y∈jF key l x↔y=x∨(y∈l∧key y≠key x):=by
 unfold jF
 rw[List.mem_append,List.mem_cons,List.mem_filter,List.mem_filter,decide_eq_true_eq,decide_eq_true_eq]
 constructor
 ·rintro (⟨h,h1⟩ | h | ⟨h,h1⟩)
  ·exact .inr ⟨h,by omega⟩
  ·exact .inl h
  ·exact .inr ⟨h,by omega⟩
 ·rintro (h | ⟨h,h1⟩)
  ·exact .inr (.inl h)
  ·rcases Int.lt_or_gt_of_ne h1 with h2 | h2
   ·exact .inl ⟨h,h2⟩
   ·exact .inr (.inr ⟨h,h2⟩)
theorem zN {l:List α}(h:Asc key l)(x:α):Asc key (jF key l x):=by
 unfold Asc jF
 rw[List.pairwise_append,List.pairwise_cons]
 refine ⟨h.sublist List.filter_sublist,⟨fun y hy=>?_,h.sublist List.filter_sublist⟩,fun a ha b hb=>?_⟩
 ·simpa using (List.mem_filter.1 hy).2
 ·have h1:key a<key x:=by simpa using (List.mem_filter.1 ha).2
  rcases List.mem_cons.1 hb with rfl | hb
  ·exact h1
  ·have h2:key x<key b:=by simpa using (List.mem_filter.1 hb).2
   omega
theorem qY {l:List α}{k:Int}{x:α}(h:yw key l k=some x):x∈l∧key x=k:=by
 unfold yw at h
 exact ⟨List.mem_of_find?_eq_some h,by simpa using List.find?_some h⟩
theorem qM {l:List α}{k:Int}:yw key l k=none↔∀ x∈l,key x≠k:=by
 unfold yw
 rw[List.find?_eq_none]
 exact ⟨fun h x hx=>by simpa using h x hx,fun h x hx=>by simpa using h x hx⟩
theorem qj {l:List α}(h:Asc key l){x y:α}(hx:x∈l)(hy:y∈l)(e:key x=key y):x=y:=by
 induction l with
 | nil=>simp at hx
 | cons a r ih=>
  obtain ⟨h1,h2⟩:=List.pairwise_cons.1 h
  rcases List.mem_cons.1 hx with e1 | h3
  ·rcases List.mem_cons.1 hy with e2 | h4
   ·rw[e1,e2]
   ·have:=h1 _ h4;rw[←e1] at this;omega
  ·rcases List.mem_cons.1 hy with e2 | h4
   ·have:=h1 _ h3;rw[←e2] at this;omega
   ·exact ih h2 h3 h4
theorem yR {l:List α}(h:Asc key l){x:α}(hx:x∈l):yw key l (key x)=some x:=by
 cases hg:yw key l (key x) with
 | none=>exact absurd rfl ((qM key).1 hg x hx)
 | some y=>
  obtain ⟨h1,h2⟩:=qY key hg
  rw[qj key h h1 hx h2]
theorem U5 {l:List α}(h:Asc key l)(x:α)(k:Int):yw key (jF key l x) k=if k=key x then some x else yw key l k:=by
 by_cases hk:k=key x
 ·rw[if_pos hk,hk]
  exact yR key (zN key h x) ((jl key).2 (.inl rfl))
 ·rw[if_neg hk]
  cases hg:yw key l k with
  | none=>
   rw[qM] at hg⊢
   intro y hy
   rcases (jl key).1 hy with rfl | ⟨hy,_⟩
   ·exact fun e=>hk e.symm
   ·exact hg y hy
  | some y=>
   obtain ⟨h1,h2⟩:=qY key hg
   rw[←h2]
   exact yR key (zN key h x) ((jl key).2 (.inr ⟨h1,by omega⟩))
theorem QW {l m:List α}(h:Asc key l)(h':Asc key m)(he:∀ x,x∈l↔x∈m):l=m:=by
 induction l generalizing m with
 | nil=>
  cases m with
  | nil=>rfl
  | cons b s=>exact absurd ((he b).2 (by simp)) (by simp)
 | cons a r ih=>
  cases m with
  | nil=>exact absurd ((he a).1 (by simp)) (by simp)
  | cons b s=>
   obtain ⟨h1,h2⟩:=List.pairwise_cons.1 h
   obtain ⟨h3,h4⟩:=List.pairwise_cons.1 h'
   have hab:a=b:=by
    rcases List.mem_cons.1 ((he a).1 (by simp)) with e | e
    ·exact e
    ·rcases List.mem_cons.1 ((he b).2 (by simp)) with e2 | e2
     ·exact e2.symm
     ·have:=h1 _ e2;have:=h3 _ e;omega
   subst hab
   rw[ih h2 h4 (fun x=>?_)]
   constructor
   ·intro hx
    rcases List.mem_cons.1 ((he x).1 (by simp[hx])) with e | e
    ·subst e;have:=h1 _ hx;omega
    ·exact e
   ·intro hx
    rcases List.mem_cons.1 ((he x).2 (by simp[hx])) with e | e
    ·subst e;have:=h3 _ hx;omega
    ·exact e
theorem ZY (l:List α)(x:α):(jF key l x).length≤l.length+1:=by
 unfold jF
 rw[List.length_append,List.length_cons]
 have:(l.filter (fun y=>decide (key y<key x))).length+(l.filter (fun y=>decide (key x<key y))).length≤l.length:=by
  induction l with
  | nil=>simp
  | cons a r ih=>
   rw[List.filter_cons,List.filter_cons]
   by_cases h1:key a<key x
   ·have h2:¬ key x<key a:=by omega
    simp[h1,h2];omega
   ·by_cases h2:key x<key a
    ·simp[h1,h2];omega
    ·simp[h1,h2];omega
 omega
theorem jc {l:List α}(h:Asc key l){x:α}(hx:yw key l (key x)≠none):(jF key l x).length≤l.length:=by
 unfold jF
 rw[List.length_append,List.length_cons]
 have h0:∃ y∈l,key y=key x:=by
  cases hg:yw key l (key x) with
  | none=>exact absurd hg hx
  | some y=>obtain ⟨a,b⟩:=qY key hg;exact ⟨y,a,b⟩
 clear hx
 have:(l.filter (fun y=>decide (key y<key x))).length+(l.filter (fun y=>decide (key x<key y))).length<l.length:=by
  induction l with
  | nil=>obtain ⟨y,hy,_⟩:=h0;simp at hy
  | cons a r ih=>
   have ik:∀ r:List α,(r.filter (fun y=>decide (key y<key x))).length+(r.filter (fun y=>decide (key x<key y))).length≤r.length:=by
    intro r
    induction r with
    | nil=>simp
    | cons b s ihs=>
     rw[List.filter_cons,List.filter_cons]
     by_cases h1:key b<key x
     ·have h2:¬ key x<key b:=by omega
      simp[h1,h2];omega
     ·by_cases h2:key x<key b
      ·simp[h1,h2];omega
      ·simp[h1,h2];omega
   rw[List.filter_cons,List.filter_cons]
   by_cases h1:key a=key x
   ·have h2:¬ key x<key a:=by omega
    have h3:¬ key a<key x:=by omega
    have:=ik r
    simp[h2,h3];omega
   ·obtain ⟨y,hy,he⟩:=h0
    have Oi:y∈r:=by
     rcases List.mem_cons.1 hy with rfl | h
     ·exact absurd he h1
     ·exact h
    have:=ih (List.pairwise_cons.1 h).2 ⟨y,Oi,he⟩
    by_cases h3:key a<key x
    ·have h2:¬ key x<key a:=by omega
     simp[h3,h2];omega
    ·by_cases h2:key x<key a
     ·simp[h3,h2];omega
     ·omega
 omega
theorem jm {l:List α}(h:Asc key l):(l.map key).Nodup:=by
 unfold List.Nodup
 rw[List.pairwise_map]
 exact h.imp (fun h=>by omega)
theorem Qe {l:List α}(h:Asc key l)(f:α→α)(hf:∀ x∈l,key (f x)=key x):Asc key (l.map f):=by
 induction l with
 | nil=>exact List.Pairwise.nil
 | cons a r ih=>
  obtain ⟨h1,h2⟩:=List.pairwise_cons.1 h
  rw[List.map_cons]
  refine List.pairwise_cons.2 ⟨fun y hy=>?_,ih h2 (fun x hx=>hf x (by simp[hx]))⟩
  obtain ⟨z,hz,rfl⟩:=List.mem_map.1 hy
  rw[hf a (by simp),hf z (by simp[hz])]
  exact h1 z hz
end keyed
structure tV (cs:List Cr) (z:Ic):Prop where
 urg:1≤z.urg∧z.urg≤5
 code:qZ z.code=true
 nodes:qf z.nodes 0 4095=true
 some:0<z.nodes.length
 since:0≤z.since∧z.since≤1099511627776
 perm:z.calls.Perm (cs.map (·.call))
 pw:z.calls.Pairwise (fun a b=>a<b)
 few:∀ N,(∀ t∈cs,t.nodes.length≤N)→z.nodes.length≤N
def qD (x z:Ic):Ic:={ x with urg:=z.urg,code:=z.code,nodes:=z.nodes,since:=z.since,calls:=z.calls }
theorem vT {t:Cr}(h:yz t=true):(1≤t.urg∧t.urg≤5)∧qZ t.code=true∧qf t.nodes 0 4095=true∧0<t.nodes.length∧(0≤t.since∧t.since≤1099511627776):=by
 have h2:=DI h
 have h3:=YJ h
 have h4:qZ t.code=true:=by
  unfold yz at h
  rw[jI] at h
  simp only[Bool.and_eq_true] at h
  exact h.2.1.1.1.1.1.2
 exact ⟨h2.2.1,h4,h3.1,h3.2,h2.2.2.2.2⟩
theorem dM {a:Ic}{t:Cr}{cs:List Cr}(ha:(1≤a.urg∧a.urg≤5)∧qZ a.code=true∧qf a.nodes 0 4095=true∧0<a.nodes.length∧(0≤a.since∧a.since≤1099511627776))(ht:yz t=true) :
 (1≤(qV a t).urg∧(qV a t).urg≤5)∧qZ (qV a t).code=true∧qf (qV a t).nodes 0 4095=true∧0<(qV a t).nodes.length∧(0≤(qV a t).since∧(qV a t).since≤1099511627776):=by
 obtain ⟨h1,h2,h3,h4,h5⟩:=ha
 obtain ⟨t1,t2,t3,t4,t5⟩:=vT ht
 refine ⟨?_,?_,?_,?_,?_⟩
 ·show 1≤(if t.urg<a.urg then t.urg else a.urg)∧(if t.urg<a.urg then t.urg else a.urg)≤5
  split <;> omega
 ·show qZ (if t.urg<a.urg then t.code else a.code)=true
  split <;> assumption
 ·show qf (if 0<(zT a.nodes t.nodes).length then zT a.nodes t.nodes else a.nodes) 0 4095=true
  split
  ·exact XZ h3 (QI _ _)
  ·exact h3
 ·show 0<(if 0<(zT a.nodes t.nodes).length then zT a.nodes t.nodes else a.nodes).length
  split <;> assumption
 ·show 0≤min a.since t.since∧min a.since t.since≤1099511627776
  omega
theorem KJ:∀ (l:List Cr)(a:Ic),((1≤a.urg∧a.urg≤5)∧qZ a.code=true∧qf a.nodes 0 4095=true∧0<a.nodes.length∧(0≤a.since∧a.since≤1099511627776))→(∀ t∈l,yz t=true) →
 (1≤(l.foldl qV a).urg∧(l.foldl qV a).urg≤5)∧qZ (l.foldl qV a).code=true∧qf (l.foldl qV a).nodes 0 4095=true∧0<(l.foldl qV a).nodes.length∧(0≤(l.foldl qV a).since∧(l.foldl qV a).since≤1099511627776)
 | [],a,ha,_=>ha
 | t :: l,a,ha,hl=>KJ l _ (dM (cs:=[]) ha (hl t (by simp))) (fun u hu=>hl u (by simp[hu]))
theorem z0c:∀ (l:List Cr)(a:Ic)(N:Nat),a.nodes.length≤N→(l.foldl qV a).nodes.length≤N
 | [],a,N,h=>h
 | t :: l,a,N,h=>z0c l _ N (by
  show (if 0<(zT a.nodes t.nodes).length then zT a.nodes t.nodes else a.nodes).length≤N
  split
  ·exact Nat.le_trans (QI _ _).length_le h
  ·exact h)
theorem z1c {cs:List Cr}(id:Int)(hne:cs≠[])(hv:∀ t∈cs,yz t=true)(hd:(cs.map (·.call)).Nodup) :
 ∃ z,tV cs z∧∀ x:Ic,x.id=id→jC x=true→x.merged=0→qF x cs=(qD x z,0):=by
 have hp:=yo cs
 cases hs:jQ cs with
 | nil=>rw[hs] at hp;exact absurd (List.Perm.eq_nil hp.symm) hne
 | cons t0 r=>
  rw[hs] at hp
  have hv2:∀ c∈t0 :: r,yz c=true:=fun c hc=>hv c (hp.mem_iff.1 hc)
  have hnd:((t0 :: r).map (·.call)).Nodup:=(hp.map (·.call)).nodup_iff.2 hd
  have hbase:Rl (Qa zO t0) (zt id t0):=⟨rfl,rfl,rfl,rfl,List.Perm.refl _,by
   show [t0.call].Pairwise _
   simp⟩
  obtain ⟨z,hz,hR⟩:=UF r (Qa zO t0) (zt id t0) hbase (by
   show ([t0.call] ++ r.map (·.call)).Nodup
   exact hnd)
  have hk:=YT r (Qa zO t0)
  obtain ⟨d1,d2,d3,d4,d5⟩:=KJ r (Qa zO t0) (vT (hv2 t0 (by simp))) (fun t ht=>hv2 t (by simp[ht]))
  refine ⟨z,⟨by rw[←hR.urg];exact d1,by rw[←hR.code];exact d2,by rw[←hR.nodes];exact d3,by rw[←hR.nodes];exact d4,by rw[←hR.since];exact d5,?_,hR.pw,fun N hN=>?_⟩,fun x hid hi hm=>?_⟩
  ·refine hR.perm.trans ?_
   rw[hk.2.2.2.2.2]
   exact hp.map (·.call)
  ·rw[←hR.nodes]
   exact z0c r _ N (hN t0 (hp.mem_iff.1 (by simp)))
  ·unfold qF
   have hno:¬ (jC x=false∨cs=[]):=by
    rintro (h | h)
    ·rw[hi] at h;cases h
    ·exact hne h
   rw[if_neg hno,if_neg (by rw[Bool.not_eq_false,List.all_eq_true];exact hv),hs]
   dsimp only
   rw[hid,hz]
   dsimp only
   rw[if_neg (by simp[hm])]
   unfold qD
   rw[hid]
theorem Ky {x:Ic}{cs ds:List Cr}(h:cs.Perm ds)(hd:(cs.map (·.call)).Nodup):qF x cs=qF x ds:=by
 rw[←Uw (x:=x) (yo cs) (Z9 cs),←Uw (x:=x) ((yo cs).trans h) (Z9 cs)]
theorem Gp {x z:Ic}{cs:List Cr}(hx:jC x=true)(hm:x.merged=0)(hz:tV cs z)(hl:cs.length≤1000)(hv:∀ t∈cs,yz t=true):jC (qD x z)=true:=by
 have hin:qf z.calls 1 1099511627776=true:=by
  rw[j4]
  refine ⟨hz.pw,fun n hn=>?_⟩
  obtain ⟨t,ht,rfl⟩:=List.mem_map.1 (hz.perm.mem_iff.1 hn)
  exact UU (hv t ht)
 have hlen:z.calls.length≤1000:=by rw[hz.perm.length_eq,List.length_map];exact hl
 unfold jC at hx⊢
 rw[jI] at hx⊢
 simp only[Bool.and_eq_true,decide_eq_true_eq] at hx⊢
 obtain ⟨⟨⟨⟨⟨a1,a2⟩,a3⟩,a4⟩,a5⟩,a6⟩:=hx
 refine ⟨⟨⟨⟨⟨a1,?_⟩,hlen⟩,hin⟩,a5⟩,by simp[qD,hm]⟩
 obtain ⟨⟨⟨⟨⟨⟨⟨b1,b2⟩,b3⟩,b4⟩,b5⟩,b6⟩,b7⟩,b8⟩:=a2
 exact ⟨⟨⟨⟨⟨⟨⟨hz.urg.1,hz.urg.2⟩,hz.code⟩,hz.some⟩,hz.nodes⟩,b6⟩,b7⟩,by
  unfold zQ Qo
  simp only[Bool.and_eq_true,decide_eq_true_eq]
  exact hz.since⟩
end Go.Proofs.YtdhcjhfgibmhfaaGreatDoor

import Derived.Test.YtdhcjhfgibmhfaaGreatDoorJG21
import Derived.Test.YtdhcjhfgibmhfaaGreatDoorJG15
import Derived.Test.YtdhcjhfgibmhfaaGreatDoorJG8
import Derived.Laws.MakeOwn
import Derived.Shelf.SlGeneric
import Derived.Shelf.SlicesE.DeleteFunc
import Derived.Ground.SlgfProg
import Derived.Shelf.Spec.SlicesGrow
import Derived.Ground.Names8Prog
import Derived.Test.YtdhcjhfgibmhfaaGreatDoorProg
set_option linter.unusedVariables false
set_option linter.unusedSimpArgs false
set_option maxRecDepth 10000
set_option maxHeartbeats 8000000
namespace Go.Proofs.YtdhcjhfgibmhfaaGreatDoor
open Go.RowKit Go.Own Go.Quo Go.Inc
def UT (c:Cr):Cr:=if z_ c=true then { c with inc:=0,closed:=false } else Qf
theorem FU (c:Cr):(zQ 1 1 && yz ⟨c.call,0,c.urg,c.code,c.nodes,c.dist,c.since,false⟩)=z_ c:=by
 unfold z_ yz
 rw[show zQ 1 1=true by decide]
 simp
theorem fP (t:Ca)(B:Nat→Prop)(w:World)(h:RI w B t.A t.c.nodes)(hs:t.c.code.size≤100000)(hl:t.c.nodes.length≤100000) :
 Calls Tryz.prog 83 #[.agg (χ t.c t.A t.k)] w (uG (UT t.c) (z_ t.c) w):=by
 have HR:=ħ h
 have sj:=ħ fun (W:World) (hb:Below w.heap.size w W)=>EJ B 1 t.c.call 0 t.c.urg t.c.dist t.c.since t.c.code t.A t.k t.c.nodes false W hs (zl h hb) hl
 have gD:=ħ fun (W:World) (hb:Below w.heap.size w W)=>Zd B t.A t.k t.c.nodes W (zl HR.out hb) hl
 have HX:=ħ ((zb.new w 34 (χ t.c t.A t.k)).alloc (.cells κ 34))
 have HZ:=ħ (show zb ((w.alloc (.cells (χ t.c t.A t.k) 34)).alloc (.cells κ 34)) (w.heap.size+1) 34 κ by
  have:=zb.new (w.alloc (.cells (χ t.c t.A t.k) 34)) 34 κ
  simpa using this)
 have HB:=ħ (((Below.refl w.heap.size w).alloc (Nat.le_refl _) (.cells (χ t.c t.A t.k) 34)).alloc (by simp) (.cells κ 34))
 clear h
 go_enter Tryz.func83,Tryz.ntmps83
 go_upto_region 1 with fail
 generalize (w.alloc _).alloc _=W1 at *
 have x0:=HX.out.facts
 have Zo:=ħ (show zb ((W1.setCell ⟨w.heap.size,1,none⟩ (ι 0)).setCell ⟨w.heap.size,7,none⟩ (.bool false)) w.heap.size 34 #[ι t.c.call,ι 0,ι t.c.urg,.string t.c.code,.slice t.A t.c.nodes.length t.k,ι t.c.dist,ι t.c.since,.bool false] by
  have:=(HX.out.set_ 1 (ι 0)).set_ 7 (.bool false);simpa using this)
 have HZ2:=ħ ((HZ.out.far (p:=⟨w.heap.size,1,none⟩) (by simp) (ι 0)).far (p:=⟨w.heap.size,7,none⟩) (by simp) (.bool false))
 have HB2:=ħ ((HB.out.setCell (p:=⟨w.heap.size,1,none⟩) (by simp) (ι 0)).setCell (p:=⟨w.heap.size,7,none⟩) (by simp) (.bool false))
 go_upto_region 3 with fail
 clear x0 HX HZ HB
 generalize World.setCell _ _ _=W2 at *
 have x0:=Zo.out.facts
 have h84:=sj.out W2 HB2.out
 rw[show (zQ 1 1 && yz ⟨t.c.call,0,t.c.urg,t.c.code,t.c.nodes,t.c.dist,t.c.since,false⟩)=z_ t.c from FU t.c] at h84
 cases hr:z_ t.c with
 | false=>
  have HA:=ħ (show UT t.c=Qf by unfold UT;rw[if_neg (by rw[hr];simp)])
  rw[hr,if_neg (by simp)] at h84
  have lh:=ħ h84
  have Ij:=ħ hr
  clear h84 hr
  go_wp2_with (first | (go_at_call 84;((with_reducible refine lh.out.mono ?_);rintro e w3 ⟨An,Ac,Au,cn,cc,cu,rfl,h1,h2,h3,hb⟩;have HZ3:=ħ (HZ2.out.below hb HZ2.out.lt);have HB3:=ħ (HB2.out.trans (hb.mono HB2.out.size));clear h1 h2 h3 hb x0)) | (refine z8 rfl (.tmp 2) (.tmp 15) 34 rfl (w.heap.size+1) 34 _ κ _ 8 88 jM rfl rfl rfl (HZ3.out.alloc _) rfl (QJ (by simp[Value.oneCell'])) ?_;intro w8 zW zI yL))
  refine bodyPost_ret (za (p:=2) (u:=3) (ty:=34) Tryz.results83 _ _ (w.heap.size+1) 34 κ (0,0) _ rfl zW Tryz.underlying34 rfl jN) rfl ?_
  rw[HA.out,Ij.out]
  exact ⟨none,0,rfl,World.ownsRow_nil _ _ _ _,(HB3.out.alloc HB3.out.size _).trans (zI.below (by have:=HB3.out.size;simp;omega) (fun j hj e=>by have e2:j=w.heap.size+1:=e;omega))⟩
 | true=>
  have HA:=ħ (show UT t.c = { t.c with inc:=0,closed:=false } by unfold UT;rw[if_pos hr])
  rw[hr,if_pos rfl] at h84
  have lh:=ħ h84
  have Ij:=ħ hr
  clear h84 hr
  go_upto_region 6 with (go_at_call 84;((with_reducible refine lh.out.mono ?_);rintro e w3 ⟨An,Ac,Au,cn,cc,cu,rfl,h1,h2,h3,hb⟩;have qx:=ħ (Zo.out.below hb Zo.out.lt);have HZ3:=ħ (HZ2.out.below hb HZ2.out.lt);have HB3:=ħ (HB2.out.trans (hb.mono HB2.out.size));clear h1 h2 h3 hb x0;have x0:=qx.out.facts))
  have jv:=ħ (qx.out.below ((Below.refl w3.heap.size w3).alloc (Nat.le_refl _) (.cells #[ι (zt 1 {t.c with inc:=0,closed:=false}).id,ι (zt 1 {t.c with inc:=0,closed:=false}).urg,.string (zt 1 {t.c with inc:=0,closed:=false}).code,.slice An (zt 1 {t.c with inc:=0,closed:=false}).nodes.length cn,ι (zt 1 {t.c with inc:=0,closed:=false}).dist,ι (zt 1 {t.c with inc:=0,closed:=false}).since,.slice Ac (zt 1 {t.c with inc:=0,closed:=false}).calls.length cc,.slice Au (zt 1 {t.c with inc:=0,closed:=false}).units.length cu,ι (zt 1 {t.c with inc:=0,closed:=false}).merged,.bool (zt 1 {t.c with inc:=0,closed:=false}).closed] 48)) qx.out.lt)
  have fU:=ħ (HZ3.out.below ((Below.refl w3.heap.size w3).alloc (Nat.le_refl _) (.cells #[ι (zt 1 {t.c with inc:=0,closed:=false}).id,ι (zt 1 {t.c with inc:=0,closed:=false}).urg,.string (zt 1 {t.c with inc:=0,closed:=false}).code,.slice An (zt 1 {t.c with inc:=0,closed:=false}).nodes.length cn,ι (zt 1 {t.c with inc:=0,closed:=false}).dist,ι (zt 1 {t.c with inc:=0,closed:=false}).since,.slice Ac (zt 1 {t.c with inc:=0,closed:=false}).calls.length cc,.slice Au (zt 1 {t.c with inc:=0,closed:=false}).units.length cu,ι (zt 1 {t.c with inc:=0,closed:=false}).merged,.bool (zt 1 {t.c with inc:=0,closed:=false}).closed] 48)) HZ3.out.lt)
  have Zp:=ħ (HB3.out.alloc HB3.out.size (.cells #[ι (zt 1 {t.c with inc:=0,closed:=false}).id,ι (zt 1 {t.c with inc:=0,closed:=false}).urg,.string (zt 1 {t.c with inc:=0,closed:=false}).code,.slice An (zt 1 {t.c with inc:=0,closed:=false}).nodes.length cn,ι (zt 1 {t.c with inc:=0,closed:=false}).dist,ι (zt 1 {t.c with inc:=0,closed:=false}).since,.slice Ac (zt 1 {t.c with inc:=0,closed:=false}).calls.length cc,.slice Au (zt 1 {t.c with inc:=0,closed:=false}).units.length cu,ι (zt 1 {t.c with inc:=0,closed:=false}).merged,.bool (zt 1 {t.c with inc:=0,closed:=false}).closed] 48))
  clear x0 qx HZ3 HB3
  generalize w3.alloc _=W4 at *
  have x0:=jv.out.facts
  go_upto_region 7 with (go_at_call 54;((with_reducible refine (gD.out _ Zp.out).mono ?_);rintro e w5 ⟨A2,k2,rfl,h1,hb⟩;have HO:=ħ h1;have jq:=ħ (jv.out.below hb jv.out.lt);have GH:=ħ (fU.out.below hb fU.out.lt);have ZN:=ħ (Zp.out.trans (hb.mono Zp.out.size));clear h1 hb x0;have x0:=jq.out.facts))
  have hz:=fU.out.lt
  have ZI:=ħ (show zb (w5.setCell ⟨w.heap.size,4,none⟩ (.slice A2 t.c.nodes.length k2)) w.heap.size 34 #[ι t.c.call,ι 0,ι t.c.urg,.string t.c.code,.slice A2 t.c.nodes.length k2,ι t.c.dist,ι t.c.since,.bool false] by
   have:=jq.out.set_ 4 (.slice A2 t.c.nodes.length k2);simpa using this)
  have Zm:=ħ (GH.out.far (p:=⟨w.heap.size,4,none⟩) (by simp) (.slice A2 t.c.nodes.length k2))
  have Qq:=ħ (ZN.out.setCell (p:=⟨w.heap.size,4,none⟩) (by simp) (.slice A2 t.c.nodes.length k2))
  have yS:=ħ (ownsRow_setCell_below HO.out (a:=⟨w.heap.size,4,none⟩) (by simp;omega) (.slice A2 t.c.nodes.length k2))
  clear x0 jq GH ZN HO
  generalize w5.setCell _ _=W6 at *
  have x0:=ZI.out.facts
  go_wp2_with (refine z8 rfl (.tmp 2) (.tmp 20) 34 rfl (w.heap.size+1) 34 _ #[ι t.c.call,ι 0,ι t.c.urg,.string t.c.code,.slice A2 t.c.nodes.length k2,ι t.c.dist,ι t.c.since,.bool false] _ 8 88 jM rfl rfl rfl Zm.out rfl (QJ (by simp[Value.oneCell'])) ?_;intro w8 zW zI yL)
  refine bodyPost_ret (za (p:=2) (u:=3) (ty:=34) Tryz.results83 _ _ (w.heap.size+1) 34 #[ι t.c.call,ι 0,ι t.c.urg,.string t.c.code,.slice A2 t.c.nodes.length k2,ι t.c.dist,ι t.c.since,.bool false] (0,0) _ rfl zW Tryz.underlying34 rfl jN) rfl ?_
  rw[HA.out,Ij.out]
  refine ⟨A2,k2,rfl,?_,Qq.out.trans (zI.below Qq.out.size (fun j hj e=>by have e2:j=w.heap.size+1:=e;omega))⟩
  exact World.ownsRow.mono (zY yS.out zI (fun g hg e=>by have:=(yS.out.lt g hg).1;have e2:g=w.heap.size+1:=e;omega)) Zp.out.size
theorem Fv (w:World)(z:Array Value)(m size:Nat)(t:TypeId)(hm:m≤maxLen):(w.alloc (.cells (madeCells z (m * size)) t)).ownsRow w.heap.size t size (.slice (some ⟨w.heap.size,0,none⟩) 0 m) 0 []:=by
 refine ⟨by simp,.inr ⟨w.heap.size,m,madeCells z (m * size),rfl,Nat.le_refl _,heap_alloc_new w _,Nat.zero_le _,hm,size_madeCells _ _,by simp⟩⟩
theorem gX (m:Nat)(hm:m≤100000)(w:World):(Instr.makeSlice 27 (ι 0) (ι (m:Int))).run Tryz.prog w=.ok (.slice (some ⟨w.heap.size,0,none⟩) 0 m) (w.alloc (.cells (madeCells κ (m * 8)) 34)):=by
 obtain ⟨i,hi,hz0,hz1,hz2⟩:=info_parts jM
 have:=Y9 (P:=Tryz.prog) 27 34 i _ Tryz.underlying27 hi hz0 .i64 .i64 0 m (Nat.zero_le _) (by rw[hz2];omega) (by omega) w
 rw[hz1] at this
 exact this
theorem u6 {w:World}{mc:Nat}{kc:List (Int × Value)}(k:Int){v:Value}(hv:(zn kc k).getD (.agg κ)=v):∀ W:World,zF W mc .i64 kc→(Instr.lookup 85 (.map (some mc)) (ι k) false).run Tryz.prog W=.ok v W:=fun W hW=>by
 have:=zF.lookup (P:=Tryz.prog) hW Tryz.underlying85 Tryz.underlying2 Ad k false
 rw[hv] at this
 simpa using this
def Qk (p mc mi mh:Nat)(kc ki kh:List (Int × Value))(x:Ic)(cs:List Cr)(w:World)(e:Ending)(w':World):Prop:=e=.returned (.tuple #[])∧Fr (fun k=>k=mi) w w' ∧
 (if (qF x cs).2=0 then ∃ a:Xa,a.x=(qF x cs).1∧PW w' p mc mi mh kc (yg ki x.id (BJ a)) kh∧XR w' (fun k=>w.heap.size≤k) a else PW w' p mc mi mh kc ki kh)
theorem Gl (p mc mi mh:Nat)(kc ki kh:List (Int × Value))(x:Ic)(An Ac Au:Option Addr)(cn cc cu:Nat)(ts:List Ca)(Am:Option Addr)(cm:Nat)(B:Nat→Prop)(w:World)(hw:PW w p mc mi mh kc ki kh)(ht:jg w)
 (hx:XR w B ⟨x,An,Ac,Au,cn,cc,cu⟩) (hm:RI w B Am (ts.map (fun t=>t.c.call))) (hk:∀ t∈ts,zn kc t.c.call=some (uy t)∧RI w B t.A t.c.nodes) (hl:ts.length≤1000) (hs:x.code.size≤100000∧x.nodes.length≤100000∧x.calls.length≤100000∧x.units.length≤100000) (hts:∀ t∈ts,t.c.code.size≤100000∧t.c.nodes.length≤100000) :
 Calls Tryz.prog 61 #[.pointer (some ⟨p,0,none⟩),.agg (ξ x An cn Ac cc Au cu),.slice Am ts.length cm] w (Qk p mc mi mh kc ki kh x (ts.map (·.c)) w):=by
 have HT:=ħ ht
 have Xx:=ħ hx
 have lV:=ħ (And.intro hs hts)
 clear ht hx hs hts
 have HW:=ħ hw
 have HM:=ħ hm
 have HK:=ħ hk
 have hp:Plain Am ts.length:=by have:=hm.plain (by omega);rwa [List.length_map] at this
 have hmk:=gX ts.length (by omega)
 have HX:=ħ ((zb.new w 48 (ξ x An cn Ac cc Au cu)).alloc (.cells (madeCells κ (ts.length * 8)) 34))
 have mU:=ħ (Fv (w.alloc (.cells (ξ x An cn Ac cc Au cu) 48)) κ ts.length 8 34 (by simp only[maxLen];omega))
 have HB0:=ħ (((Below.refl w.heap.size w).alloc (Nat.le_refl _) (.cells (ξ x An cn Ac cc Au cu) 48)).alloc (by simp) (.cells (madeCells κ (ts.length * 8)) 34))
 clear hw hm hk
 go_enter Tryz.func61,Tryz.ntmps61
 go_upto_region 2 with fail
 have hs1:w.heap.size+1≤((w.alloc (.cells (ξ x An cn Ac cc Au cu) 48)).alloc (.cells (madeCells κ (ts.length * 8)) 34)).heap.size:=by simp
 have e0:(w.alloc (.cells (ξ x An cn Ac cc Au cu) 48)).heap.size=w.heap.size+1:=by simp
 rw[e0] at mU
 clear e0
 generalize (w.alloc _).alloc _=W1 at *
 go_wp2_with fail
 go_loopw [6,16] (fun vo vi wr=>∃ (k:Nat) (A:Option Addr) (c:Nat),k≤ts.length∧vi=ι (k:Int)∧vo=.slice A k c∧wr.ownsRow (w.heap.size+1) 34 8 (.slice A k c) k ((ts.take k).flatMap qC)∧Below w.heap.size w wr∧zb wr w.heap.size 48 (ξ x An cn Ac cc Au cu)) (fun _ vi _=>ts.length - (intOf vi).toNat)
 case atStart=>exact ⟨0,_,_,Nat.zero_le _,rfl,rfl,mU.out,HB0.out,HX.out⟩
 case round=>
  obtain ⟨k,A,c,hk,rfl,rfl,ho,hb,hx1⟩:=hrel
  have HS:=ħ ho
  have HB:=ħ hb
  have KI:=ħ hx1
  have hsz:w.heap.size+1≤wr.heap.size:=by have:=hx1.lt;omega
  have HP:=ħ (HW.out.below hb)
  clear ho hb hx1 mU HB0 HX hmk
  have p0:=HP.out.P.facts
  have hbc:=HP.out.bc
  have uY:=hbc.lt
  by_cases hlt:k<ts.length
  ·have hlt':(k:Int)<ts.length:=by omega
   have hix:=fun W=>Ki hp cm k hlt W
   have hc:=qJ (zl HM.out HB.out) (k:=k) (by rw[List.length_map];exact hlt)
   obtain ⟨t,hte⟩:∃ t,t=ts[k]:=⟨_,rfl⟩
   have hgd:gd (ts.map (fun t=>t.c.call)) k=t.c.call:=by rw[qd (by rw[List.length_map];exact hlt),List.getElem_map,hte]
   rw[hgd] at hc
   have Ko:t∈ts:=by rw[hte];exact List.getElem_mem hlt
   have hkt:=(HK.out t Ko).1
   have hlk:=u6 (w:=w) (mc:=mc) t.c.call (show (zn kc t.c.call).getD (.agg κ)=.agg (χ t.c t.A t.k) by rw[hkt];rfl)
   have Xj:=ħ (show (ts.take (k+1)).flatMap qC=(ts.take k).flatMap qC ++ [ι t.c.call,ι t.c.inc,ι t.c.urg,.string t.c.code,.slice t.A t.c.nodes.length t.k,ι t.c.dist,ι t.c.since,.bool t.c.closed] by rw[List.take_succ_eq_append_getElem hlt,←hte];simp[qC])
   have H1:=ħ (show ∀ u∈([ι t.c.call,ι t.c.inc,ι t.c.urg,.string t.c.code,.slice t.A t.c.nodes.length t.k,ι t.c.dist,ι t.c.since,.bool t.c.closed]:List Value),u.oneCell'=true from Vz t)
   clear hkt hgd Ko hte
   go_wp2_with (at_builtin;refine ze _ rfl _ _ _ rfl (w.heap.size+1) 34 _ 8 88 Tryz.underlying27 jM rfl (by omega) (.slice A k c) k ((ts.take k).flatMap qC) rfl (HS.out.alloc _) _ (some ⟨wr.heap.size,0,none⟩) 1 1 [ι t.c.call,ι t.c.inc,ι t.c.urg,.string t.c.code,.slice t.A t.c.nodes.length t.k,ι t.c.dist,ι t.c.since,.bool t.c.closed] rfl (Reads.newS _ [ι t.c.call,ι t.c.inc,ι t.c.urg,.string t.c.code,.slice t.A t.c.nodes.length t.k,ι t.c.dist,ι t.c.since,.bool t.c.closed] 34 (0,0) 1 8 rfl _ (by simp)) H1.out (by simp only[maxLen];omega) (by omega) (by simp;omega) ?_;intro A5 c5 w5 hown hgr hat;have QE:=ħ hown;have ZN:=ħ (Below.grown (HB.out.alloc HB.out.size (.cells (χ t.c t.A t.k) 34)) hgr (by simp;omega) (fun j hj=>by have:=(HS.out.lt j hj).1;omega));have jq:=ħ ((KI.out.alloc (.cells (χ t.c t.A t.k) 34)).grown hgr (fun e=>by have:=(HS.out.lt _ e.symm).1;omega));clear hown hgr hat)
   refine ⟨⟨k+1,A5,c5,by omega,by go_num,rfl,by rw[Xj.out];exact QE.out,ZN.out,jq.out⟩,by simp[intOf];omega⟩
  ·have hlt':¬ (k:Int)<ts.length:=by omega
   have hk3:k=ts.length:=by omega
   subst hk3
   rw[List.take_length] at HS
   obtain ⟨R,hR⟩:∃ R,R=qF x (ts.map (·.c)):=⟨_,rfl⟩
   have rE:=ħ (show Calls Tryz.prog 107 #[.agg (ξ x An cn Ac cc Au cu),.slice A ts.length c] wr (jX R.1 R.2 wr) from
    (Fz x An Ac Au cn cc cu ts A c wr (HT.out.below HB.out HT.out.lt) (((Xx.out.below HB.out).n.old (by omega)).more (fun k hk=>hk.2)) (((Xx.out.below HB.out).c.old (by omega)).more (fun k hk=>hk.2)) (((Xx.out.below HB.out).u.old (by omega)).more (fun k hk=>hk.2)) (((Reads.of_own HS.out).old (by omega)).more (fun k hk=>hk.2)) (fun t h=>((zl (HK.out t h).2 HB.out).old (by omega)).more (fun k hk=>hk.2)) lV.out.1.1 lV.out.1.2.1 lV.out.1.2.2.1 lV.out.1.2.2.2 hl lV.out.2).mono (fun e w' h=>by
     obtain ⟨ss,hss,hle,hi⟩:=h
     rw[Uw (x:=x) hss hle,←hR] at hi
     exact hi))
   have Ct:=ħ hR
   obtain ⟨y,er⟩:=R
   simp only at rE
   clear hR
   have x0:=KI.out.facts
   go_upto_region 8 with (go_at_call 107;((with_reducible refine rE.out.mono ?_);rintro e w3 ⟨Ay,QY,VC,cy,Y6,VB,rfl,h1,h2,h3,hb3⟩;have HO:=ħ (And.intro h1 (And.intro h2 h3));have qx:=ħ (KI.out.below hb3 KI.out.lt);have HB3:=ħ (HB.out.trans (hb3.mono HB.out.size));clear h1 h2 h3 hb3 x0;have x0:=qx.out.facts))
   have jv:=ħ (qx.out.alloc (.cells (ξ y Ay cy QY Y6 VC VB) 48))
   have Yy:=ħ (zb.new w3 48 (ξ y Ay cy QY Y6 VC VB))
   have Zp:=ħ (HB3.out.alloc HB3.out.size (.cells (ξ y Ay cy QY Y6 VC VB) 48))
   have zP:=ħ (show XR (w3.alloc (.cells (ξ y Ay cy QY Y6 VC VB) 48)) (fun k=>w.heap.size≤k) ⟨y,Ay,QY,VC,cy,Y6,VB⟩ from XR.below (w:=w3) ⟨(qK HO.out.1).more (fun k hk=>Nat.le_trans HB.out.size hk),(qK HO.out.2.1).more (fun k hk=>Nat.le_trans HB.out.size hk),(qK HO.out.2.2).more (fun k hk=>Nat.le_trans HB.out.size hk)⟩ ((Below.refl _ _).alloc (Nat.le_refl _) _))
   clear x0 qx HB3 HO KI
   obtain ⟨py,hpy⟩:∃ py,py=w3.heap.size:=⟨_,rfl⟩
   rw[←hpy] at Yy⊢
   clear hpy
   generalize w3.alloc _=W4 at *
   by_cases her:er=0
   ·subst her
    have bM:=ħ (HW.out.below Zp.out)
    have p0:=bM.out.P.facts
    have hbi:=bM.out.bi
    have Pm:=hbi.lt
    have x0:=jv.out.facts
    have y0:=Yy.out.facts
    have hup:=fun (W:World) (hW:zF W mi .i64 ki)=>zF.update (P:=Tryz.prog) hW Tryz.underlying86 Tryz.underlying2 x.id (.agg (ξ y Ay cy QY Y6 VC VB))
    clear hbc uY HP hlt hlt' HS
    go_upto_region 9 with fail
    refine yJ 7 (by kernel_rfl) (by kernel_rfl) (fun T hT=>?_)
    simp only[List.take_succ_cons,List.take_zero]
    repeat still_step
    refine wpStill_nil (hT _ ?_)
    clear hT T
    simp only[List.drop_succ_cons,List.drop_zero]
    go_wp2
    refine bodyPost_ret (results_none rfl _ _ _) rfl ?_
    refine ⟨rfl,((Fr.of_below (S:=fun k=>k=mi) Zp.out).mput (b:=mi) (.inl rfl) .i64 x.id _).drew,?_⟩
    rw[←Ct.out,if_pos rfl]
    exact ⟨⟨y,Ay,QY,VC,cy,Y6,VB⟩,rfl,(bM.out.putI x.id _).below (Below.refl _ _).drew,⟨(zP.out.n.mput mi .i64 x.id _).drew,(zP.out.c.mput mi .i64 x.id _).drew,(zP.out.u.mput mi .i64 x.id _).drew⟩⟩
   ·have O_:(er == 0)=false:=by simpa using her
    go_wp2_with fail
    refine bodyPost_ret (results_none rfl _ _ _) rfl ?_
    refine ⟨rfl,(Fr.of_below Zp.out (S:=fun k=>k=mi)),?_⟩
    rw[←Ct.out,if_neg her]
    exact HW.out.below Zp.out
structure OW (w wr:World) (p mc mi mh:Nat) (kc ki kh:List (Int × Value)) (L:List (Nat × TypeId × Array Value)) (R:List (Option Addr × List Int)):Prop where
 pl:p<w.heap.size∧mc<w.heap.size∧mi<w.heap.size∧mh<w.heap.size
 pw:PW wr p mc mi mh kc ki kh
 fr:Fr (Sq p mc mi mh) w wr
 bx:∀ b∈L,w.heap.size≤b.1∧zb wr b.1 b.2.1 b.2.2
 nd:(L.map (fun b=>b.1)).Nodup
 rw:∀ r∈R,RI wr (fun k=>w.heap.size≤k∧k<wr.heap.size∧∀ b∈L,k≠b.1) r.1 r.2
section
variable {w wr w2:World} {p mc mi mh:Nat} {kc ki kh:List (Int × Value)} {L L1 L2:List (Nat × TypeId × Array Value)} {R:List (Option Addr × List Int)} {b:Bk}
theorem OW.new (h:PW w p mc mi mh kc ki kh):OW w w p mc mi mh kc ki kh [] []:=
 ⟨h.lt,h,Fr.refl _ _,fun b hb=>by simp at hb,by simp,fun r hr=>by simp at hr⟩
theorem OW.drew (h:OW w wr p mc mi mh kc ki kh L R):OW w wr.drew p mc mi mh kc ki kh L R:=
 ⟨h.pl,h.pw.below (Below.refl _ _).drew,h.fr.drew,fun b hb=>⟨(h.bx b hb).1,(h.bx b hb).2.drew⟩,h.nd,fun r hr=>(h.rw r hr).drew⟩
theorem OW.below (h:OW w wr p mc mi mh kc ki kh L R)(hb:Below wr.heap.size wr w2):OW w w2 p mc mi mh kc ki kh L R:=
 ⟨h.pl,h.pw.below hb,h.fr.trans (Fr.of_below hb),fun b hB=>⟨(h.bx b hB).1,(h.bx b hB).2.below hb (h.bx b hB).2.lt⟩,h.nd,fun r hr=>(zl (h.rw r hr) hb).more (fun k hk=>⟨hk.1,Nat.lt_of_lt_of_le hk.2.1 hb.size,hk.2.2⟩)⟩
theorem OW.alloc (h:OW w wr p mc mi mh kc ki kh L R)(t:TypeId)(cs:Array Value):OW w (wr.alloc (.cells cs t)) p mc mi mh kc ki kh ((wr.heap.size,t,cs) :: L) R:=by
 have h2:=h.below ((Below.refl _ _).alloc (Nat.le_refl _) (.cells cs t))
 refine ⟨h.pl,h2.pw,h2.fr,fun b hb=>?_,?_,fun r hr=>?_⟩
 ·rcases List.mem_cons.1 hb with rfl | hb
  ·exact ⟨h.fr.size,zb.new wr t cs⟩
  ·exact h2.bx b hb
 ·rw[List.map_cons]
  refine List.nodup_cons.2 ⟨fun hm=>?_,h.nd⟩
  obtain ⟨b,hb,e⟩:=List.mem_map.1 hm
  have:=(h.bx b hb).2.lt
  have e2:b.1=wr.heap.size:=e
  omega
 ·refine (((h.rw r hr)).alloc (.cells cs t)).more (fun k hk=>⟨hk.1,by have:=hk.2.1;simp;omega,fun b hb=>?_⟩)
  rcases List.mem_cons.1 hb with rfl | hb
  ·have:=hk.2.1;show k≠wr.heap.size;omega
  ·exact hk.2.2 b hb
theorem OW.box (h:OW w wr p mc mi mh kc ki kh L R){g:Nat}{t:TypeId}{cs:Array Value}(hm:(g,t,cs)∈L):zb wr g t cs:=(h.bx _ hm).2
theorem OW.b0 {g:Nat}{t:TypeId}{cs:Array Value}(h:OW w wr p mc mi mh kc ki kh ((g,t,cs)::L) R):zb wr g t cs:=h.box (List.Mem.head _)
theorem OW.f0 {g:Nat}{t:TypeId}{cs:Array Value}(h:OW w wr p mc mi mh kc ki kh ((g,t,cs)::L) R):g<wr.heap.size∧(∀ i:Nat,wr.cell? ⟨g,i,none⟩=cs[i]?)∧∀ i:Nat,wr.frozen? ⟨g,i,none⟩=false:=h.b0.facts
theorem OW.b1 {g:Nat}{t:TypeId}{cs:Array Value}{a0:Nat×TypeId×Array Value}(h:OW w wr p mc mi mh kc ki kh (a0::(g,t,cs)::L) R):zb wr g t cs:=h.box (List.Mem.tail _ (List.Mem.head _))
theorem OW.f1 {g:Nat}{t:TypeId}{cs:Array Value}{a0:Nat×TypeId×Array Value}(h:OW w wr p mc mi mh kc ki kh (a0::(g,t,cs)::L) R):g<wr.heap.size∧(∀ i:Nat,wr.cell? ⟨g,i,none⟩=cs[i]?)∧∀ i:Nat,wr.frozen? ⟨g,i,none⟩=false:=h.b1.facts
theorem OW.b2 {g:Nat}{t:TypeId}{cs:Array Value}{a0 a1:Nat×TypeId×Array Value}(h:OW w wr p mc mi mh kc ki kh (a0::a1::(g,t,cs)::L) R):zb wr g t cs:=h.box (List.Mem.tail _ (List.Mem.tail _ (List.Mem.head _)))
theorem OW.f2 {g:Nat}{t:TypeId}{cs:Array Value}{a0 a1:Nat×TypeId×Array Value}(h:OW w wr p mc mi mh kc ki kh (a0::a1::(g,t,cs)::L) R):g<wr.heap.size∧(∀ i:Nat,wr.cell? ⟨g,i,none⟩=cs[i]?)∧∀ i:Nat,wr.frozen? ⟨g,i,none⟩=false:=h.b2.facts
theorem OW.b3 {g:Nat}{t:TypeId}{cs:Array Value}{a0 a1 a2:Nat×TypeId×Array Value}(h:OW w wr p mc mi mh kc ki kh (a0::a1::a2::(g,t,cs)::L) R):zb wr g t cs:=h.box (List.Mem.tail _ (List.Mem.tail _ (List.Mem.tail _ (List.Mem.head _))))
theorem OW.f3 {g:Nat}{t:TypeId}{cs:Array Value}{a0 a1 a2:Nat×TypeId×Array Value}(h:OW w wr p mc mi mh kc ki kh (a0::a1::a2::(g,t,cs)::L) R):g<wr.heap.size∧(∀ i:Nat,wr.cell? ⟨g,i,none⟩=cs[i]?)∧∀ i:Nat,wr.frozen? ⟨g,i,none⟩=false:=h.b3.facts
theorem OW.lt_ (h:OW w wr p mc mi mh kc ki kh L R){g:Nat}{t:TypeId}{cs:Array Value}(hm:(g,t,cs)∈L):w.heap.size≤g:=(h.bx _ hm).1
theorem OW.setC_ {g:Nat}{t:TypeId}{cs:Array Value}(h:OW w wr p mc mi mh kc ki kh (L1 ++ (g,t,cs) :: L2) R)(i:Nat)(u:Value){cs':Array Value}(hcs:cs.setIfInBounds i u=cs') :
 OW w (wr.setCell ⟨g,i,none⟩ u) p mc mi mh kc ki kh (L1 ++ (g,t,cs') :: L2) R:=by
 subst hcs
 have hg:=h.bx (g,t,cs) (by simp)
 have hgl:=hg.1
 have hpl:=h.pl
 have hf:Fr (fun k=>k=g) wr (wr.setCell ⟨g,i,none⟩ u):=(Fr.refl (fun k=>k=g) wr).setCell (p:=⟨g,i,none⟩) (.inl rfl) u
 refine ⟨h.pl,⟨h.pw.P.fr hf (by show ¬ p=g;omega),h.pw.bc.fr hf (by show ¬ mc=g;omega),h.pw.bi.fr hf (by show ¬ mi=g;omega),h.pw.bh.fr hf (by show ¬ mh=g;omega),h.pw.ne⟩,h.fr.setCell (.inr hgl) u,fun b hb=>?_,?_,fun r hr=>?_⟩
 ·have hnd:=h.nd
  rw[List.map_append,List.map_cons,List.nodup_append] at hnd
  obtain ⟨n1,n2,n3⟩:=hnd
  rcases List.mem_append.1 hb with hb | hb
  ·have h1:=h.bx b (by simp[hb])
   have hne:b.1≠g:=fun e=>n3 b.1 (List.mem_map.2 ⟨b,hb,rfl⟩) g (by simp) e
   exact ⟨h1.1,h1.2.fr hf hne⟩
  ·rcases List.mem_cons.1 hb with rfl | hb
   ·exact ⟨hgl,hg.2.set_ i u⟩
   ·have h1:=h.bx b (by simp[hb])
    have hne:b.1≠g:=fun e=>(List.nodup_cons.1 n2).1 (List.mem_map.2 ⟨b,hb,e⟩)
    exact ⟨h1.1,h1.2.fr hf hne⟩
 ·have:=h.nd
  simpa using this
 ·have h1:=(h.rw r hr).setCell (p:=⟨g,i,none⟩) (by
   intro hk
   exact hk.2.2 (g,t,cs) (by simp) rfl) u
  refine h1.more (fun k hk=>⟨hk.1,by simpa using hk.2.1,fun b hb=>?_⟩)
  rcases List.mem_append.1 hb with hb | hb
  ·exact hk.2.2 b (by simp[hb])
  ·rcases List.mem_cons.1 hb with rfl | hb
   ·exact hk.2.2 (g,t,cs) (by simp)
   ·exact hk.2.2 b (by simp[hb])
theorem OW.mp (h:OW w wr p mc mi mh kc ki kh L R){m:Nat}(hm:m=mc∨m=mi∨m=mh){Uc MS Lm:List (Int × Value)}(hw:PW w2 p mc mi mh Uc MS Lm)(hf:Fr (fun k=>k=m) wr w2):OW w w2 p mc mi mh Uc MS Lm L R:=by
 have hpl:=h.pl
 have hlt:m<w.heap.size:=by omega
 refine ⟨h.pl,hw,h.fr.trans (hf.mono (fun k _ e=>by have e2:k=m:=e;unfold Sq;omega)),fun b hb=>?_,h.nd,fun r hr=>?_⟩
 ·have h1:=h.bx b hb
  have h2:=h1.1
  exact ⟨h1.1,h1.2.fr hf (by show ¬ b.1=m;omega)⟩
 ·refine ((h.rw r hr).fr hf (fun k hk=>by have:=hk.1;show ¬ k=m;omega)).more (fun k hk=>⟨hk.1,Nat.lt_of_lt_of_le hk.2.1 hf.size,hk.2.2⟩)
theorem OW.putC (h:OW w wr p mc mi mh kc ki kh L R)(k:Int)(v:Value):OW w (mput wr mc .i64 k v) p mc mi mh (yg kc k v) ki kh L R:=
 h.mp (.inl rfl) (h.pw.putC k v) ((Fr.refl (fun k=>k=mc) wr).mput (b:=mc) (.inl rfl) .i64 k v)
theorem OW.putI (h:OW w wr p mc mi mh kc ki kh L R)(k:Int)(v:Value):OW w (mput wr mi .i64 k v) p mc mi mh kc (yg ki k v) kh L R:=
 h.mp (.inr (.inl rfl)) (h.pw.putI k v) ((Fr.refl (fun k=>k=mi) wr).mput (b:=mi) (.inl rfl) .i64 k v)
theorem OW.putH (h:OW w wr p mc mi mh kc ki kh L R)(k:Int)(v:Value):OW w (mput wr mh .i64 k v) p mc mi mh kc ki (yg kh k v) L R:=
 h.mp (.inr (.inr rfl)) (h.pw.putH k v) ((Fr.refl (fun k=>k=mh) wr).mput (b:=mh) (.inl rfl) .i64 k v)
theorem OW.delH (h:OW w wr p mc mi mh kc ki kh L R)(k:Int):OW w (mdel wr mh .i64 k) p mc mi mh kc ki (Yv kh k) L R:=
 h.mp (.inr (.inr rfl)) (h.pw.delH k) ((Fr.refl (fun k=>k=mh) wr).mdel (b:=mh) (.inl rfl) .i64 k)
theorem OW.row (h:OW w wr p mc mi mh kc ki kh L R){A:Option Addr}{l:List Int}(hr:RI wr (fun k=>w.heap.size≤k∧k<wr.heap.size∧∀ b∈L,k≠b.1) A l):OW w wr p mc mi mh kc ki kh L ((A,l) :: R):=
 ⟨h.pl,h.pw,h.fr,h.bx,h.nd,fun r hR=>by
  rcases List.mem_cons.1 hR with rfl | hR
  ·exact hr
  ·exact h.rw r hR⟩
theorem OW.own (h:OW w wr p mc mi mh kc ki kh L R)(hb:Below wr.heap.size wr w2){e:TypeId}{A:Option Addr}{c:Nat}{l:List Int}(ho:w2.ownsRow wr.heap.size e 1 (.slice A l.length c) l.length (l.map (Value.int .i64))):RI w2 (fun k=>w.heap.size≤k∧k<w2.heap.size∧∀ b∈L,k≠b.1) A l:=
 ((qK ho).old (by omega)).more (fun k hk=>⟨Nat.le_trans h.fr.size hk.1,hk.2,fun b hB=>by have:=(h.bx b hB).2.lt;have:=hk.1;omega⟩)
theorem OW.ri (h:OW w wr p mc mi mh kc ki kh L R){A:Option Addr}{l:List Int}(hm:(A,l)∈R):RI wr (fun k=>w.heap.size≤k∧k<wr.heap.size∧∀ b∈L,k≠b.1) A l:=h.rw (A,l) hm
theorem OW.r0 {A:Option Addr}{l:List Int}(h:OW w wr p mc mi mh kc ki kh L ((A,l)::R)):RI wr (fun k=>w.heap.size≤k∧k<wr.heap.size∧∀ b∈L,k≠b.1) A l:=h.ri (List.Mem.head _)
theorem OW.r1 {A:Option Addr}{l:List Int}{a0:Option Addr×List Int}(h:OW w wr p mc mi mh kc ki kh L (a0::(A,l)::R)):RI wr (fun k=>w.heap.size≤k∧k<wr.heap.size∧∀ b∈L,k≠b.1) A l:=h.ri (List.Mem.tail _ (List.Mem.head _))
theorem OW.r2 {A:Option Addr}{l:List Int}{a0 a1:Option Addr×List Int}(h:OW w wr p mc mi mh kc ki kh L (a0::a1::(A,l)::R)):RI wr (fun k=>w.heap.size≤k∧k<wr.heap.size∧∀ b∈L,k≠b.1) A l:=h.ri (List.Mem.tail _ (List.Mem.tail _ (List.Mem.head _)))
theorem OW.r3 {A:Option Addr}{l:List Int}{a0 a1 a2:Option Addr×List Int}(h:OW w wr p mc mi mh kc ki kh L (a0::a1::a2::(A,l)::R)):RI wr (fun k=>w.heap.size≤k∧k<wr.heap.size∧∀ b∈L,k≠b.1) A l:=h.ri (List.Mem.tail _ (List.Mem.tail _ (List.Mem.tail _ (List.Mem.head _))))
theorem OW.rq (h:OW w wr p mc mi mh kc ki kh L R){A:Option Addr}{l:List Int}(hm:(A,l)∈R):RI wr (Bq p mc mi mh) A l:=
 (h.rw (A,l) hm).more (fun k hk=>by have:=h.pl;have:=hk.1;unfold Bq;omega)
theorem OW.keep (h:OW w wr p mc mi mh kc ki kh L R){A:Option Addr}{l:List Int}(hr:RI w (Bq p mc mi mh) A l):RI wr (Bq p mc mi mh) A l:=hr.fr h.fr (fun k hk=>qh hk)
theorem OW.keepX (h:OW w wr p mc mi mh kc ki kh L R){a:Xa}(hr:XR w (Bq p mc mi mh) a):XR wr (Bq p mc mi mh) a:=hr.fr h.fr (fun k hk=>qh hk)
theorem OW.drop (h:OW w wr p mc mi mh kc ki kh L R){L':List (Nat × TypeId × Array Value)}(hs:L'.Sublist L):OW w wr p mc mi mh kc ki kh L' R:=
 ⟨h.pl,h.pw,h.fr,fun b hb=>h.bx b (hs.subset hb),h.nd.sublist (hs.map _),fun r hr=>(h.rw r hr).more (fun k hk=>⟨hk.1,hk.2.1,fun b hb=>hk.2.2 b (hs.subset hb)⟩)⟩
theorem OW.same (h:OW w wr p mc mi mh kc ki kh L R)(hc:CM w (Bq p mc mi mh) kc b.C)(hi:IM w (Bq p mc mi mh) ki b.L)(hh:HM kh b.L):PI wr p mc mi mh b:=
 ⟨kc,ki,kh,h.pw,hc.fr h.fr (fun k hk=>qh hk),hi.fr h.fr (fun k hk=>qh hk),hh⟩
theorem EU (ht:jg w)(h:PW w p mc mi mh kc ki kh):¬ Sq p mc mi mh 0:=by
 obtain ⟨h0,h1⟩:=ht
 have hc:w.cell? ⟨0,0,none⟩=some (.int .u8 0):=h1 0 _ (by rfl)
 rintro (e | e | e | e)
 ·have:=h.P.cell 0
  rw[←e,hc] at this
  simp at this
 ·exact h.bc.ne_cell hc e.symm
 ·exact h.bi.ne_cell hc e.symm
 ·exact h.bh.ne_cell hc e.symm
end
end Go.Proofs.YtdhcjhfgibmhfaaGreatDoor
namespace Go.Proofs
open Go.Shelf
def Tryz.delN_ren:Go.Shelf.Ren:=⟨fun | 10=>98 | 6=>133 | n=>n,fun | 22=>32 | 23=>3 | 25=>130 | 3=>3 | 4=>4 | 0=>0 | n=>n,fun | n=>n⟩
theorem Tryz.delN:Go.Proofs.SlLaysH.n10 Tryz.prog Tryz.delN_ren:={
 mixed:=by kernel_rfl
 f6:=⟨Tryz.f133.name,by decide,Tryz.func133.trans (congrArg some (by kernel_rfl))⟩
 f10:=⟨Tryz.f98.name,by decide,Tryz.func98.trans (congrArg some (by kernel_rfl))⟩
 t0:=Tryz.underlying0
 a0:=Tryz.isAgg0
 z0:=Tryz.sizeOf0
 v0:=Tryz.zeroValue0
 t3:=Tryz.underlying3
 a3:=Tryz.isAgg3
 z3:=Tryz.sizeOf3
 v3:=Tryz.zeroValue3
 t4:=Tryz.underlying4
 a4:=Tryz.isAgg4
 z4:=Tryz.sizeOf4
 v4:=Tryz.zeroValue4
 t22:=Tryz.underlying32
 a22:=Tryz.isAgg32
 z22:=Tryz.sizeOf32
 v22:=Tryz.zeroValue32
 a23:=Tryz.isAgg3
 z23:=Tryz.sizeOf3
 t25:=Tryz.underlying130
 a25:=Tryz.isAgg130
 z25:=Tryz.sizeOf130
 v25:=Tryz.zeroValue130 }
def Tryz.delC_ren:Go.Shelf.Ren:=⟨fun | 10=>101 | 6=>134 | n=>n,fun | 22=>46 | 23=>2 | 25=>91 | 3=>3 | 4=>4 | 0=>0 | n=>n,fun | n=>n⟩
theorem Tryz.delC:Go.Proofs.SlLaysH.n10 Tryz.prog Tryz.delC_ren:={
 mixed:=by kernel_rfl
 f6:=⟨Tryz.f134.name,by decide,Tryz.func134.trans (congrArg some (by kernel_rfl))⟩
 f10:=⟨Tryz.f101.name,by decide,Tryz.func101.trans (congrArg some (by kernel_rfl))⟩
 t0:=Tryz.underlying0
 a0:=Tryz.isAgg0
 z0:=Tryz.sizeOf0
 v0:=Tryz.zeroValue0
 t3:=Tryz.underlying3
 a3:=Tryz.isAgg3
 z3:=Tryz.sizeOf3
 v3:=Tryz.zeroValue3
 t4:=Tryz.underlying4
 a4:=Tryz.isAgg4
 z4:=Tryz.sizeOf4
 v4:=Tryz.zeroValue4
 t22:=Tryz.underlying46
 a22:=Tryz.isAgg46
 z22:=Tryz.sizeOf46
 v22:=Tryz.zeroValue46
 a23:=Tryz.isAgg2
 z23:=Tryz.sizeOf2
 t25:=Tryz.underlying91
 a25:=Tryz.isAgg91
 z25:=Tryz.sizeOf91
 v25:=Tryz.zeroValue91 }
def Tryz.grC_ren:Go.Shelf.Ren:=⟨fun | 4=>103 | n=>n,fun | 22=>46 | 25=>2 | 3=>3 | 4=>4 | 9=>9 | 20=>20 | 0=>0 | n=>n,fun | n=>n⟩
theorem Tryz.grC:Go.Proofs.Lays8.n4 Tryz.prog Tryz.grC_ren:={
 mixed:=by kernel_rfl
 f4:=⟨Tryz.f103.name,by decide,Tryz.func103.trans (congrArg some (by kernel_rfl))⟩
 t0:=Tryz.underlying0
 a0:=Tryz.isAgg0
 z0:=Tryz.sizeOf0
 v0:=Tryz.zeroValue0
 t3:=Tryz.underlying3
 a3:=Tryz.isAgg3
 z3:=Tryz.sizeOf3
 v3:=Tryz.zeroValue3
 t4:=Tryz.underlying4
 a4:=Tryz.isAgg4
 z4:=Tryz.sizeOf4
 v4:=Tryz.zeroValue4
 t9:=Tryz.underlying9
 a9:=Tryz.isAgg9
 z9:=Tryz.sizeOf9
 v9:=Tryz.zeroValue9
 t20:=Tryz.underlying20
 a20:=Tryz.isAgg20
 z20:=Tryz.sizeOf20
 v20:=Tryz.zeroValue20
 t22:=Tryz.underlying46
 a22:=Tryz.isAgg46
 z22:=Tryz.sizeOf46
 v22:=Tryz.zeroValue46 }
def Tryz.grN_ren:Go.Shelf.Ren:=⟨fun | 4=>104 | n=>n,fun | 22=>32 | 25=>3 | 3=>3 | 4=>4 | 9=>9 | 20=>20 | 0=>0 | n=>n,fun | n=>n⟩
theorem Tryz.grN:Go.Proofs.Lays8.n4 Tryz.prog Tryz.grN_ren:={
 mixed:=by kernel_rfl
 f4:=⟨Tryz.f104.name,by decide,Tryz.func104.trans (congrArg some (by kernel_rfl))⟩
 t0:=Tryz.underlying0
 a0:=Tryz.isAgg0
 z0:=Tryz.sizeOf0
 v0:=Tryz.zeroValue0
 t3:=Tryz.underlying3
 a3:=Tryz.isAgg3
 z3:=Tryz.sizeOf3
 v3:=Tryz.zeroValue3
 t4:=Tryz.underlying4
 a4:=Tryz.isAgg4
 z4:=Tryz.sizeOf4
 v4:=Tryz.zeroValue4
 t9:=Tryz.underlying9
 a9:=Tryz.isAgg9
 z9:=Tryz.sizeOf9
 v9:=Tryz.zeroValue9
 t20:=Tryz.underlying20
 a20:=Tryz.isAgg20
 z20:=Tryz.sizeOf20
 v20:=Tryz.zeroValue20
 t22:=Tryz.underlying32
 a22:=Tryz.isAgg32
 z22:=Tryz.sizeOf32
 v22:=Tryz.zeroValue32 }
end Go.Proofs

import Derived.Test.YtdfobfjpkjddpaaGreatUG22
set_option linter.unusedVariables false
set_option linter.unusedSimpArgs false
set_option maxRecDepth 10000
set_option maxHeartbeats 8000000
namespace Go.Proofs.YtdfobfjpkjddpaaGreat
open Go.RowKit Go.Own Go.Quo Go.Wire Go.Raft
theorem grant_w (w:World)(col:Nat→Nat)(p v j l f:Nat)(s:Nd)(outs:List Msg)(h:NS w col p v j l f s false outs){k:Nat}(hw:Wf k s)(hk:k≤1900)(t n:Int)(ht:1≤t∧t≤k+1)(hn:0≤n∧n<9)(hs:s.term≤t)(hno:¬ (t=s.term∧0≤s.voted)) :
 Calls Tryz.prog 78 #[.pointer (some ⟨v,0,none⟩),.int .i64 t,.int .i64 n] w fun e w'=>e=.returned (.int .i64 0)∧NP w col p v j l f { s with recs:=s.recs ++ [(86,Wire.za t ++ Wire.za n)],term:=t,voted:=n } false outs w':=by
 obtain ⟨mi,mm,Ao,co,ms,dur,hz,hm⟩:=h
 have hfit:=(hw.voteIn (t:=t) (j:=n) ⟨ht.1,by unfold MT;omega⟩ ht.2 hn hs hno).fit (by omega)
 have hrn:=hw.rn
 refine (grant_ok w _ f j v s.recs s.term s.voted t n hz.vs (by unfold validT;simp;omega) (by unfold validN;simp;omega) (by omega) hno hfit (by omega)).mono ?_
 rintro e w2 ⟨rfl,Z',hv2,hZ2,hf2⟩
 obtain ⟨col',h2,ag2,fr2⟩:=hz.voted hv2 hZ2 hf2
 exact ⟨rfl,col',⟨mi,mm,Ao,co,ms,_,h2,hm⟩,ag2,fr2⟩
theorem NS.clearv {w:World}{col:Nat→Nat}{p v j l f:Nat}{s:Nd}{un:Bool}{outs:List Msg}(h:NS w col p v j l f s un outs):NB w col p v j l f { s with vs:=List.replicate 9 false } un outs ((((((((((w.setCell ⟨p,17,none⟩ (.bool false)).setCell ⟨p,18,none⟩ (.bool false)).setCell ⟨p,19,none⟩ (.bool false)).setCell ⟨p,20,none⟩ (.bool false)).setCell ⟨p,21,none⟩ (.bool false)).setCell ⟨p,22,none⟩ (.bool false)).setCell ⟨p,23,none⟩ (.bool false)).setCell ⟨p,24,none⟩ (.bool false)).setCell ⟨p,25,none⟩ (.bool false))) col:=by
 have h0:=h.stv (k:=0) (by decide) false
 have h1:=h0.trans (h0.n.stv (k:=1) (by decide) false)
 have h2:=h1.trans (h1.n.stv (k:=2) (by decide) false)
 have h3:=h2.trans (h2.n.stv (k:=3) (by decide) false)
 have h4:=h3.trans (h3.n.stv (k:=4) (by decide) false)
 have h5:=h4.trans (h4.n.stv (k:=5) (by decide) false)
 have h6:=h5.trans (h5.n.stv (k:=6) (by decide) false)
 have h7:=h6.trans (h6.n.stv (k:=7) (by decide) false)
 have h8:=h7.trans (h7.n.stv (k:=8) (by decide) false)
 have e:((((((((s.vs.set 0 false).set 1 false).set 2 false).set 3 false).set 4 false).set 5 false).set 6 false).set 7 false).set 8 false=List.replicate 9 false:=by
  have hl:=h.l9.1
  have r0:s.vs.set 0 false=List.replicate 1 false ++ s.vs.drop 1:=set_rep s.vs false 0 (by omega)
  have r1:(List.replicate 1 false ++ s.vs.drop 1).set 1 false=List.replicate 2 false ++ s.vs.drop 2:=set_rep s.vs false 1 (by omega)
  have r2:(List.replicate 2 false ++ s.vs.drop 2).set 2 false=List.replicate 3 false ++ s.vs.drop 3:=set_rep s.vs false 2 (by omega)
  have r3:(List.replicate 3 false ++ s.vs.drop 3).set 3 false=List.replicate 4 false ++ s.vs.drop 4:=set_rep s.vs false 3 (by omega)
  have r4:(List.replicate 4 false ++ s.vs.drop 4).set 4 false=List.replicate 5 false ++ s.vs.drop 5:=set_rep s.vs false 4 (by omega)
  have r5:(List.replicate 5 false ++ s.vs.drop 5).set 5 false=List.replicate 6 false ++ s.vs.drop 6:=set_rep s.vs false 5 (by omega)
  have r6:(List.replicate 6 false ++ s.vs.drop 6).set 6 false=List.replicate 7 false ++ s.vs.drop 7:=set_rep s.vs false 6 (by omega)
  have r7:(List.replicate 7 false ++ s.vs.drop 7).set 7 false=List.replicate 8 false ++ s.vs.drop 8:=set_rep s.vs false 7 (by omega)
  have r8:(List.replicate 8 false ++ s.vs.drop 8).set 8 false=List.replicate 9 false ++ s.vs.drop 9:=set_rep s.vs false 8 (by omega)
  rw[r0,r1,r2,r3,r4,r5,r6,r7,r8,List.drop_eq_nil_of_le (by omega),List.append_nil]
 rw[←e]
 exact h8
section
variable (w:World) (col:Nat→Nat) (p v j l f:Nat) (s:Nd) (outs:List Msg) (h:NS w col p v j l f s false outs)
include h
theorem start48 {k:Nat}(hw:Wf k s)(hk:k≤1700)(ho:outs.length≤700)(now:Int)(hti:0≤now∧now≤MT) :
 Calls Tryz.prog 48 #[.pointer (some ⟨p,0,none⟩),.int .i64 now] w (UPost w col p v j l f (s.start now) outs):=by
 have HH:=ħ h
 have hid:=hw.id
 have htk:=hw.tk
 have ht0:=hw.t0
 have H44:=ħ (term44 w v j _ _ h.vb)
 have H78:=ħ (grant_w w col p v j l f s outs h hw (by omega) (s.term+1) s.id ⟨by omega,by omega⟩ hid (by omega) (fun e=>by omega))
 have HWS:=ħ (show Wf (k+1) (s.start0 now) from hw.start0 (by unfold MT;omega) hti)
 have HST:=ħ (show s.start now=if (s.start0 now).elected=true then (s.start0 now).lead now else (s.start0 now,(s.start0 now).others.map fun u=>(s.start0 now).msg 1 u s.log.length (lastT s.log) 0 false []) from by unfold Nd.start;rw[if_neg (by unfold MT;omega)])
 have hw1:IntKind.i64.wrap (s.term+1)=s.term+1:=IntWalk.i64_in _ (by omega)
 have hng:decide ((1099511627776:Int)<s.term+1)=false:=by simp;omega
 obtain ⟨c0,c1,x0,x1,x2,x3,x4,x5,x10,x11,x12,x13,x14,x15,x44⟩:=h.x
 clear h x1 x2 x3 x5 x10 x11 x12 x13 x14 x15 x44
 have HW:=ħ hw
 clear hw
 go_enter Tryz.func48,Tryz.ntmps48
 go_upto_region 1 with (go_at_call 44;((with_reducible refine H44.out.mono ?_);rintro e w2 ⟨rfl,rfl⟩))
 go_cut [31] (fun vx wx=>vx=.bool false∧NP w col p v j l f { s with recs:=s.recs ++ [(86,Wire.za (s.term+1) ++ Wire.za s.id)],term:=s.term+1,voted:=s.id } false outs wx)
 case first=>
  have HH2:=ħ fun W cr s' (x:NS W cr p v j l f s' false outs)=>ok72 W cr p v j l f s' false outs x
  have H78d:=ħ (grant_w w.drew col p v j l f s outs (HH.out.below (Below.refl _ _).drew) HW.out (by omega) (s.term+1) s.id ⟨by omega,by omega⟩ hid (by omega) (fun e=>by omega))
  have HK:=ħ fun W cr s' (x:NS W cr p v j l f s' false outs) (e:s'.id=s.id)=>(show W.cell? ⟨p,0,none⟩=some (.int .i64 s.id)∧W.cell? ⟨p,4,none⟩=some (.pointer (some ⟨v,0,none⟩)) from e ▸ ⟨x.x.2.2.1,x.x.2.2.2.2.2.2.1⟩)
  have K1:=HK.out w col s HH.out rfl
  clear x0 x4
  go_region_held (fun W'=>W'.cell? ⟨p,0,none⟩=some (.int .i64 s.id)∧W'.cell? ⟨p,4,none⟩=some (.pointer (some ⟨v,0,none⟩))) (first | assumption | exact K1) (first
   | (((with_reducible refine H78d.out.mono ?_);rintro e w3 ⟨rfl,c3,hb3⟩;have H72:=ħ (HH2.out w3 c3 _ hb3.n);have K2:=HK.out w3 c3 _ hb3.n rfl;have HB3:=ħ hb3;clear hb3))
   | (((with_reducible refine H72.out.mono ?_);rintro e w4 ⟨rfl,rfl⟩)))
  all_goals
   go_wp2_with fail
   go_meet
   exact ⟨rfl,((NB.start HH.out).below (Below.refl _ _).drew).call ⟨c3,HB3.out⟩⟩
 case rest=>
  obtain ⟨rfl,c3,hb3⟩:=hcut
  have HB3:=ħ hb3
  have N3:=hb3.n.st11 2
  have N4:=N3.trans (N3.n.st12 (-1))
  have N5:=N4.trans (N4.n.st14 now)
  have HB5:=ħ (HB3.out.trans N5)
  clear c0 c1 x0 x4
  obtain ⟨c0,c1,x0,x1,x2,x3,x4,x5,x10,x11,x12,x13,x14,x15,x44⟩:=hb3.n.x
  clear hb3 N3 N4 N5 x0 x1 x2 x3 x4 x5 x10 x13 x15 x44
  go_upto_region 3 with fail
  generalize ((wc.setCell ⟨p,11,none⟩ (.int .i64 2)).setCell ⟨p,12,none⟩ (.int .i64 (-1))).setCell ⟨p,14,none⟩ (.int .i64 now)=W5 at *
  clear c0 c1 x11 x12 x14
  have HB6:=ħ (HB5.out.trans HB5.out.n.clearv)
  obtain ⟨c0,c1,x0,-⟩:=HB5.out.n.x
  have y0:=HB5.out.n.vc (k:=0) (by decide)
  have y1:=HB5.out.n.vc (k:=1) (by decide)
  have y2:=HB5.out.n.vc (k:=2) (by decide)
  have y3:=HB5.out.n.vc (k:=3) (by decide)
  have y4:=HB5.out.n.vc (k:=4) (by decide)
  have y5:=HB5.out.n.vc (k:=5) (by decide)
  have y6:=HB5.out.n.vc (k:=6) (by decide)
  have y7:=HB5.out.n.vc (k:=7) (by decide)
  have y8:=HB5.out.n.vc (k:=8) (by decide)
  go_upto_region 4 with fail
  generalize ((((((((W5.setCell ⟨p,17,none⟩ (.bool false)).setCell ⟨p,18,none⟩ (.bool false)).setCell ⟨p,19,none⟩ (.bool false)).setCell ⟨p,20,none⟩ (.bool false)).setCell ⟨p,21,none⟩ (.bool false)).setCell ⟨p,22,none⟩ (.bool false)).setCell ⟨p,23,none⟩ (.bool false)).setCell ⟨p,24,none⟩ (.bool false)).setCell ⟨p,25,none⟩ (.bool false)=W6 at *
  clear c0 c1 x0 y0 y1 y2 y3 y4 y5 y6 y7 y8
  obtain ⟨i,hi⟩:∃ i:Nat,s.id=(i:Int):=⟨s.id.toNat,by omega⟩
  have hi9:i<9:=by omega
  have hin:s.id.toNat=i:=by omega
  have HB7:=ħ (show NB w col p v j l f (s.start0 now) false outs (W6.setCell ⟨p,17+i,none⟩ (.bool true)) c3 from by
   have h1:=HB6.out.trans (HB6.out.n.stv hi9 true)
   unfold Nd.start0
   rw[hin]
   exact h1)
  obtain ⟨c0,c1,x0,-⟩:=HB6.out.n.x
  have y0:=HB6.out.n.vc hi9
  have x0':W6.cell? ⟨p,0,none⟩=some (.int .i64 (i:Int)):=x0.trans (by rw[←hi])
  have hid2:(i:Int)<9:=by omega
  clear x0 hin hid hi
  go_region
  have HB8:=ħ (HB7.out.below (Below.refl _ _).drew)
  generalize (W6.setCell ⟨p,17+i,none⟩ (.bool true)).drew=W8 at *
  have HT:=ħ (show 1≤(s.start0 now).term from (show 1≤s.term+1 by omega))
  have hlog:(s.start0 now).log=s.log:=rfl
  rw[←hlog] at HST
  clear c0 c1 x0' y0 hid2 HB7 HB6 HB5 HB3 HH H78 H44 HW hng hw1 hlog htk ht0
  generalize s.start0 now=t at *
  have H79:=ħ (elected79 W8 c3 p v j l f t false outs HB8.out.n HWS.out.vB)
  cases hel:t.elected with
  | true=>
   rw[hel] at H79
   have HE:=ħ (show s.start now=t.lead now by rw[HST.out,if_pos hel])
   have H80:=ħ fun W (x:NS W c3 p v j l f t false outs)=>lead80 W c3 p v j l f t false outs x HWS.out (by omega) HT.out (by omega) now
   clear hel HST
   go_upto_region 6 with (go_at_call 79;((with_reducible refine H79.out.mono ?_);rintro e w9 ⟨rfl,b9⟩))
   have HB9:=ħ (HB8.out.below b9)
   go_wp2_with (go_at_call 80;((with_reducible refine (H80.out w9 HB9.out.n).mono ?_);rintro e w10 ⟨rfl,un',hnp⟩))
   refine bodyPost_ret (v:=.tuple #[]) (by simp[results,Tryz.results48,go_sem]) rfl ⟨rfl,un',?_⟩
   rw[HE.out]
   exact HB9.out.call hnp
  | false=>
   rw[hel] at H79
   have HE:=ħ (show s.start now=(t,t.others.map fun u=>t.msg 1 u t.log.length (lastT t.log) 0 false []) by rw[HST.out,if_neg (by rw[hel];simp)])
   clear hel HST
   go_upto_region 7 with (go_at_call 79;((with_reducible refine H79.out.mono ?_);rintro e w9 ⟨rfl,b9⟩))
   have HB9:=ħ (HB8.out.below b9)
   have hll:t.log.length≤40000:=by have:=HWS.out.ln;omega
   have H42:=ħ (last_any w9 _ l t.log HB9.out.n.ls (by omega))
   obtain ⟨c0,c1,x0,x1,x2,x3,x4,x5,-⟩:=HB9.out.n.x
   clear x0 x1 x2 x3 x4
   go_upto_region 8 with (go_at_call 42;((with_reducible refine H42.out.mono ?_);rintro e w10 ⟨rfl,b10⟩))
   have HB10:=ħ (HB9.out.below b10)
   clear c0 c1 x5 HB9 HB8 b9 b10 H42 H79
   have HO:=ħ (others75 w10 c3 p v j l f t false outs HB10.out.n HWS.out.vB)
   have HL:=ħ HB10.out.n.lt
   have hol:=others_len t
   generalize hlt:lastT t.log=lt at *
   clear hlt
   go_wp2_with (go_at_call 75;((with_reducible refine HO.out.mono ?_);rintro e w1 ⟨A,c,rfl,hr,b1⟩;have HR:=ħ hr;have HP:=ħ (hr.plain (by omega));have N1:=ħ (HB10.out.below b1);clear hr))
   clear HO
   go_loopw [70] (fun vi wr=>∃ (i:Nat) (cr:Nat→Nat),i≤t.others.length∧vi=.int .i64 (i:Int)∧NB w1 c3 p v j l f t false (outs ++ (t.others.take i).map fun u=>t.msg 1 u t.log.length lt 0 false []) wr cr) (fun vi _=>t.others.length - (intOf vi).toNat)
   case atStart=>exact ⟨0,c3,Nat.zero_le _,rfl,by simpa using NB.start N1.out.n⟩
   case round=>
    obtain ⟨q,cr,hq,rfl,hnb⟩:=hrel
    have HB:=ħ hnb
    clear hnb
    by_cases hlt:q<t.others.length
    ·have hlt':(q:Int)<t.others.length:=by omega
     have hix:=fun W=>ix22 HP.out c q hlt W
     have hr1:RI wr (fun k=>w10.heap.size≤k∧k<w1.heap.size) A t.others:=HR.out.old (by omega) |>.fr HB.out.fr (fun g hg hc=>by have:=HL.out g hc;omega)
     have d0:=RI.at_ hr1 hlt
     have H81:=ħ (show Calls Tryz.prog 81 #[.pointer (some ⟨p,0,none⟩),.agg (mvC 1 0 (gd t.others q) 0 t.log.length lt 0 false none 0 0)] wr _ from send81 wr cr p v j l f t false _ HB.out.n 1 0 (gd t.others q) 0 t.log.length lt 0 false none 0 [] ⟨ES.nil,Nat.le_refl _⟩ (by rw[List.length_append,List.length_map,List.length_take];omega))
     have HT2:=ħ (show ((t.others.take (q+1)).map fun u=>t.msg 1 u t.log.length lt 0 false [])=((t.others.take q).map fun u=>t.msg 1 u t.log.length lt 0 false []) ++ [t.msg 1 (gd t.others q) t.log.length lt 0 false []] by rw[take_gd hlt,List.map_append];rfl)
     clear hr1
     go_wp2_with (go_at_call 81;((with_reducible refine H81.out.mono ?_);rintro e w9 ⟨rfl,hnp⟩))
     obtain ⟨c9,h9⟩:=HB.out.call hnp
     exact ⟨⟨q+1,c9,hlt,by go_num,by rw[HT2.out,←List.append_assoc];exact h9⟩,by simp[intOf];omega⟩
    ·have hge:¬ (q:Int)<t.others.length:=by omega
     go_wp2_with fail
     refine bodyPost_end (v:=.tuple #[]) (by simp[results,Tryz.results48,go_sem]) rfl ⟨rfl,false,?_⟩
     have hb:=HB.out
     rw[List.take_of_length_le (by omega)] at hb
     rw[HE.out]
     exact N1.out.call ⟨cr,hb⟩
end
def Clean (col:Nat→Nat):Prop:=∀ k,col k≠6∧col k≠7
def TPo (w:World)(col:Nat→Nat)(p v j l f:Nat)(r:Nd × List Msg)(A:Option Addr)(c:Nat)(ms:List MV)(w':World)(col':Nat→Nat):Prop:=
 ms.map MV.m=r.2∧Msgs w' (fun k=>w.heap.size≤k∧col' k=0) A ms∧NB w col p v j l f r.1 false [] w' col'∧Clean col'
def TP (w:World)(col:Nat→Nat)(p v j l f:Nat)(r:Nd × List Msg)(e:Ending)(w':World):Prop:=
 ∃ A c ms col',e=.returned (.slice A ms.length c)∧TPo w col p v j l f r A c ms w' col'
section
variable {w W w':World} {col cr:Nat→Nat} {p v j l f:Nat} {s':Nd} {un':Bool} {outs:List Msg} {e:Ending}
theorem strip_clean (col:Nat→Nat):Clean (strip col):=fun k=>by unfold strip;split <;> omega
theorem TP.of_sent (hc:Clean col)(hb:NB w col p v j l f s' un' outs W cr)(h:SentP W cr p v j l f s' outs e w'):TP w col p v j l f (s',outs) e w':=by
 obtain ⟨A,c,ms,rfl,hm,hM,hn,hf⟩:=h
 have hB:∀ k,cr k=6∨cr k=7→w.heap.size≤k∧strip cr k=0:=fun k hk=>by
  refine ⟨?_,?_⟩
  ·rcases Nat.lt_or_ge k w.heap.size with h1 | h1
   ·have:=hb.ag k h1;have:=hc k;omega
   ·exact h1
  ·unfold strip;rw[if_pos hk]
 refine ⟨A,c,ms,strip cr,rfl,hm,⟨hM.1.more hB,hM.2.more hB⟩,⟨hn,fun k hk=>?_,?_⟩,strip_clean cr⟩
 ·have h1:=hb.ag k hk
  have h2:=hc k
  rw[strip_of rfl (by omega) (by omega),h1]
 ·exact fr_col hb.fr hb.ag hf
theorem TP.of_nil (hc:Clean cr)(hb:NB w col p v j l f s' false [] W cr):TP w col p v j l f (s',[]) (.returned (.slice none 0 0)) W:=
 ⟨none,0,[],cr,rfl,rfl,⟨Reads.none_,fun x hx=>by cases hx⟩,hb,hc⟩
end
section
variable (w:World) (col:Nat→Nat) (p v j l f:Nat) (s:Nd) (h:NS w col p v j l f s false [])
include h
theorem tick25 (hc:Clean col){k:Nat}(hw:Wf k s)(hk:k≤1600)(now:Int) :
 Calls Tryz.prog 25 #[.pointer (some ⟨p,0,none⟩),.int .i64 now] w (TP w col p v j l f (s.tick now)):=by
 have NB0:=ħ (NB.start h)
 have H37:=ħ (tick37 w col p v j l f s false [] h now)
 have HWC:=ħ (hw.clock now)
 obtain ⟨ht0,ht1⟩:=tick_range hw now
 have HE:=ħ (show s.tick now=(s.clock now).tick1 (s.tickT now) from rfl)
 have hti:=(hw.clock now).ti
 unfold MT at hti ht1
 have H49:=ħ fun W cr s' un' outs (x:NS W cr p v j l f s' un' outs)=>sent49 W cr p v j l f s' un' outs x
 have HC:=ħ hc
 clear h hw hc
 generalize s.tickT now=t at *
 generalize s.clock now=sc at *
 have hw1:IntKind.i64.wrap (t - sc.hb)=t - sc.hb:=IntWalk.i64_in _ (by omega)
 have hw2:IntKind.i64.wrap (t - sc.since)=t - sc.since:=IntWalk.i64_in _ (by omega)
 go_enter Tryz.func25,Tryz.ntmps25
 go_upto_region 3 with (go_at_call 37;((with_reducible refine H37.out.mono ?_);rintro e w2 ⟨rfl,hb2⟩;have NB2:=ħ hb2;obtain ⟨c0,c1,x0,x1,x2,x3,x4,x5,x10,x11,x12,x13,x14,x15,x44⟩:=hb2.n.x;clear hb2))
 by_cases hr:sc.role=3
 ·have hr1:(sc.role == 3)=true:=by simpa using hr
  have HR:=ħ hr
  have HT:=ħ (show sc.tick1 t=if sc.beat≤t - sc.hb then ({ sc with hb:=t },sc.apps) else (sc,[]) by unfold Nd.tick1;rw[if_pos hr])
  clear hr
  by_cases hb:sc.beat≤t - sc.hb
  ·have hb1:decide (sc.beat≤t - sc.hb)=true:=by simpa using hb
   have HTE:=ħ (show s.tick now=({ sc with hb:=t },sc.apps) by rw[HE.out,HT.out,if_pos hb])
   have HA:=ħ (show AppOk { sc with hb:=t } from (HWC.out.hb (t:=t) ⟨ht0,by unfold MT;omega⟩).appOk (by omega) (fun j hj=>(HWC.out.lr HR.out j hj).1.1))
   go_upto_region 4 with fail
   go_quiet (fail)
   go_upto_region 5 with fail
   have NB3:=ħ (NB2.out.below (below_drewN (Below.refl _ _) nq))
   generalize w2.drewN nq=W3 at *
   clear c0 c1 x0 x1 x2 x3 x4 x5 x10 x11 x12 x13 x14 x15 x44 hr1 hb1 hb
   have NB4:=ħ (NB3.out.trans (NB3.out.n.st15 t))
   have H46:=ħ (sendAppends46 _ col p v j l f _ false [] NB4.out.n HA.out (by simp))
   obtain ⟨c0,c1,x0,x1,x2,x3,x4,x5,x10,x11,x12,x13,x14,x15,x44⟩:=NB3.out.n.x
   clear x0 x1 x2 x3 x4 x5 x10 x11 x12 x13 x14 x44
   go_upto_region 9 with (go_at_call 46;((with_reducible refine H46.out.mono ?_);rintro e w5 ⟨rfl,c5,hb5⟩;have NB5:=ħ (NB4.out.trans hb5);clear hb5))
   go_wp2_with (go_at_call 49;((with_reducible refine (H49.out w5 c5 _ _ _ NB5.out.n).mono ?_);rintro e w6 hs6;have HT6:=ħ (TP.of_sent HC.out NB5.out hs6);obtain ⟨A,c,ms,rfl,hs7⟩:=hs6;clear hs7))
   go_ret
   rw[HTE.out]
   exact HT6.out
  ·have hb1:decide (sc.beat≤t - sc.hb)=false:=by simpa using hb
   have HTE:=ħ (show s.tick now=(sc,[]) by rw[HE.out,HT.out,if_neg hb])
   go_upto_region 4 with fail
   go_quiet (fail)
   have NB3:=ħ (NB2.out.below (below_drewN (Below.refl _ _) nq))
   generalize w2.drewN nq=W3 at *
   go_wp2_with (go_at_call 49;((with_reducible refine (H49.out W3 col _ _ _ NB3.out.n).mono ?_);rintro e w6 hs6;have HT6:=ħ (TP.of_sent HC.out NB3.out hs6);obtain ⟨A,c,ms,rfl,hs7⟩:=hs6;clear hs7))
   go_ret
   rw[HTE.out]
   exact HT6.out
 ·have hr1:(sc.role == 3)=false:=by simpa using hr
  have HT:=ħ (show sc.tick1 t=if sc.wait≤t - sc.since∧sc.id∈sc.mem then sc.start t else (sc,[]) by unfold Nd.tick1;rw[if_neg hr])
  by_cases hb:sc.wait≤t - sc.since
  ·have hb1:decide (sc.wait≤t - sc.since)=true:=by simpa using hb
   obtain ⟨z,hz⟩:∃ z,decide (sc.id∈sc.mem)=z:=⟨_,rfl⟩
   have HTE:=ħ (show s.tick now=if z=true then sc.start t else (sc,[]) by
    rw[HE.out,HT.out,←hz]
    by_cases hm:sc.id∈sc.mem
    ·rw[if_pos ⟨hb,hm⟩,if_pos (by simpa using hm)]
    ·rw[if_neg (fun h=>hm h.2),if_neg (by simpa using hm)])
   have H47:=ħ fun W (x:NS W col p v j l f sc false [])=>member47 W col p v j l f sc false [] x HWC.out.vB
   rw[hasB_iff,hz] at H47
   have H48:=ħ fun W (x:NS W col p v j l f sc false [])=>start48 W col p v j l f sc [] x HWC.out (by omega) (by simp) t ⟨ht0,by unfold MT;omega⟩
   clear HT hz hr hb
   go_upto_region 7 with fail
   go_cut [37] (fun vx wx=>vx=.bool z∧NB w col p v j l f sc false [] wx col)
   case first=>
    have HK:=ħ fun W (x:NS W col p v j l f sc false [])=>(show W.cell? ⟨p,14,none⟩=some (.int .i64 sc.since)∧W.cell? ⟨p,1,none⟩=some (.int .i64 sc.wait) from ⟨x.x.2.2.2.2.2.2.2.2.2.2.2.2.1,x.x.2.2.2.1⟩)
    have K1:=HK.out w2 NB2.out.n
    have N2:=NB2.out.n.below (Below.refl _ _).drew
    clear x0 x1 x2 x3 x4 x5 x10 x11 x12 x13 x14 x15 x44
    go_region_held (fun W=>W.cell? ⟨p,14,none⟩=some (.int .i64 sc.since)∧W.cell? ⟨p,1,none⟩=some (.int .i64 sc.wait)) (first | assumption | exact K1) (first
     | (((with_reducible refine (H47.out _ N2).mono ?_);rintro e w3 ⟨rfl,b3⟩;have B3:=((Below.refl w2.heap.size w2).drew).trans b3;clear b3;have K2:=HK.out _ (NB2.out.n.below B3))))
    all_goals
     go_wp2_with fail
     go_meet
     exact ⟨rfl,NB2.out.below B3⟩
   case rest=>
    obtain ⟨rfl,hb3⟩:=hcut
    have NB3:=ħ hb3
    clear hb3 x0 x1 x2 x3 x4 x5 x10 x11 x12 x13 x14 x15 x44
    cases z with
    | true=>
     go_upto_region 9 with (go_at_call 48;((with_reducible refine (H48.out wc NB3.out.n).mono ?_);rintro e w5 ⟨rfl,un5,c5,hb5⟩;have NB5:=ħ (NB3.out.trans hb5);clear hb5))
     go_wp2_with (go_at_call 49;((with_reducible refine (H49.out w5 c5 _ _ _ NB5.out.n).mono ?_);rintro e w6 hs6;have HT6:=ħ (TP.of_sent HC.out NB5.out hs6);obtain ⟨A,c,ms,rfl,hs7⟩:=hs6;clear hs7))
     go_ret
     rw[HTE.out]
     exact HT6.out
    | false=>
     go_wp2_with (go_at_call 49;((with_reducible refine (H49.out wc col _ _ _ NB3.out.n).mono ?_);rintro e w6 hs6;have HT6:=ħ (TP.of_sent HC.out NB3.out hs6);obtain ⟨A,c,ms,rfl,hs7⟩:=hs6;clear hs7))
     go_ret
     rw[HTE.out]
     exact HT6.out
  ·have hb1:decide (sc.wait≤t - sc.since)=false:=by simpa using hb
   have HTE:=ħ (show s.tick now=(sc,[]) by rw[HE.out,HT.out,if_neg (fun h=>hb h.1)])
   go_upto_region 7 with fail
   go_quiet (fail)
   have NB3:=ħ (NB2.out.below (below_drewN (Below.refl _ _) nq))
   generalize w2.drewN nq=W3 at *
   go_wp2_with (go_at_call 49;((with_reducible refine (H49.out W3 col _ _ _ NB3.out.n).mono ?_);rintro e w6 hs6;have HT6:=ħ (TP.of_sent HC.out NB3.out hs6);obtain ⟨A,c,ms,rfl,hs7⟩:=hs6;clear hs7))
   go_ret
   rw[HTE.out]
   exact HT6.out
end
def PP (w:World)(col:Nat→Nat)(p v j l f:Nat)(r:Nd × List Msg)(n er:Int)(e:Ending)(w':World):Prop:=
 ∃ A c ms col',e=.returned (.tuple #[.int .i64 n,.slice A ms.length c,.int .i64 er])∧TPo w col p v j l f r A c ms w' col'
section
variable (w:World) (col:Nat→Nat) (p v j l f:Nat) (s:Nd) (h:NS w col p v j l f s false [])
include h
theorem propose45 (hc:Clean col){k:Nat}(hw:Wf k s)(hk:k≤1600)(hr:s.role=3)(ht:1≤s.term)(kind:Int)(h1:1≤kind∧kind≤3)(A:Option Addr)(c:Nat)(b:List Int)(B:Nat→Prop)(hb:Reads w B 1 A b.length (bys b))(hBc:∀ k,B k→col k=0)(hbb:b.length≤200∧Bytes b) :
 Calls Tryz.prog 45 #[.pointer (some ⟨p,0,none⟩),.int .i64 kind,.slice A b.length c] w (PP w col p v j l f (s.prop kind b) (s.log.length+1) 0):=by
 have NB0:=ħ (NB.start h)
 have hln:s.log.length≤40000:=by have:=hw.ln;omega
 have H17:=ħ (lastIndex17 w col p v j l f s false [] h (by omega))
 have H72:=ħ fun W (x:NS W col p v j l f s false [])=>ok72 W col p v j l f s false [] x
 have HR:=ħ (hb.old (by omega))
 have H73:=ħ fun W (x:NS W col p v j l f s false []) (y:Reads W (fun k=>B k∧k<w.heap.size) 1 A b.length (bys b))=>add_w W col p v j l f s false [] x hw (by omega) ht kind h1 A c b _ y (fun k hk=>hBc k hk.1) hbb
 have htm:s.term≤MT:=by have:=hw.tk;unfold MT;omega
 have HW1:=ħ (hw.add (kind:=kind) (body:=b) (by omega) ht htm h1 hbb)
 have HT1:=ħ (show 1≤(s.add kind b).term by rw[add_eq];exact ht)
 have HW2:=ħ (HW1.out.adv (by omega) HT1.out (by rw[add_eq];exact htm))
 have HA2:=ħ (HW2.out.appOk (by omega) (fun j hj=>by
  rw[(adv_same _).2.2.1,add_eq]
  exact (hw.lr hr j hj).1.1))
 have HE:=ħ (show s.prop kind b=((s.add kind b).adv,(s.add kind b).adv.apps) from rfl)
 have HC:=ħ hc
 have H49:=ħ fun W cr s' un' outs (x:NS W cr p v j l f s' un' outs)=>sent49 W cr p v j l f s' un' outs x
 have hw1:IntKind.i64.wrap ((s.log.length:Int)+1)=(s.log.length:Int)+1:=IntWalk.i64_in _ (by omega)
 clear h hw hc hb hBc htm hr ht
 generalize s.add kind b=s1 at *
 have H74:=ħ fun W cr un' (x:NS W cr p v j l f s1 un' [])=>advance74 W cr p v j l f _ un' [] x HW1.out (by omega) HT1.out
 generalize s1.adv=s2 at *
 have H46:=ħ fun W cr un' (x:NS W cr p v j l f s2 un' [])=>sendAppends46 W cr p v j l f _ un' [] x HA2.out (by simp)
 go_enter Tryz.func45,Tryz.ntmps45
 go_upto_region 5 with (first
  | (go_at_call 17;((with_reducible refine H17.out.mono ?_);rintro e w2 ⟨rfl,b2⟩;have NB2:=ħ (NB0.out.below b2);have HR2:=ħ (HR.out.below b2 (fun _ h=>h.2));clear b2))
  | (go_at_call 72;((with_reducible refine (H72.out w2 NB2.out.n).mono ?_);rintro e w3 ⟨rfl,rfl⟩))
  | (go_at_call 73;((with_reducible refine (H73.out w2 NB2.out.n HR2.out).mono ?_);rintro e w5 ⟨rfl,un5,c5,hb5⟩;have N5:=ħ (NB2.out.trans hb5);clear hb5))
  | (go_at_call 74;((with_reducible refine (H74.out w5 c5 un5 N5.out.n).mono ?_);rintro e w6 ⟨rfl,un6,c6,hb6⟩;have N6:=ħ (N5.out.trans hb6);clear hb6)))
 go_upto_region 7 with (first
  | (go_at_call 46;((with_reducible refine (H46.out w6 c6 un6 N6.out.n).mono ?_);rintro e w7 ⟨rfl,c7,hb7⟩;have N7:=ħ (N6.out.trans hb7);clear hb7))
  | (go_at_call 49;((with_reducible refine (H49.out w7 c7 _ _ _ N7.out.n).mono ?_);rintro e w8 hs8;have HT8:=ħ (TP.of_sent HC.out N7.out hs8);clear hs8;obtain ⟨A8,c8,ms8,col8,rfl,hs9⟩:=HT8.out;have HS9:=ħ hs9;clear hs9 HT8)))
 obtain ⟨c0,c1,x0,x1,x2,x3,x4,x5,x10,x11,x12,x13,x14,x15,x44⟩:=HS9.out.2.2.1.n.x
 clear x0 x1 x2 x3 x4 x5 x10 x11 x12 x13 x14 x15
 go_wp2_with fail
 refine bodyPost_ret (v:=.tuple #[.int .i64 (s.log.length+1),.slice A8 ms8.length c8,.int .i64 0]) (by simp[results,Tryz.results45,go_sem]) rfl ⟨A8,c8,ms8,col8,rfl,?_⟩
 rw[HE.out]
 exact HS9.out
def prN (s:Nd):Int × Int:=if s.role≠3 then (14,0) else (0,s.log.length+1)
theorem propose24 (hc:Clean col){k:Nat}(hw:Wf k s)(hk:k≤1600)(ht:s.role=3→1≤s.term)(A:Option Addr)(c:Nat)(b:List Int)(B:Nat→Prop)(hb:Reads w B 1 A b.length (bys b))(hBc:∀ k,B k→col k=0)(hbb:b.length≤200∧Bytes b) :
 Calls Tryz.prog 24 #[.pointer (some ⟨p,0,none⟩),.slice A b.length c] w (PP w col p v j l f (s.propose b) (prN s).2 (prN s).1):=by
 obtain ⟨c0,c1,x0,x1,x2,x3,x4,x5,x10,x11,x12,x13,x14,x15,x44⟩:=h.x
 clear x0 x1 x2 x3 x4 x5 x10 x12 x13 x14 x15 x44
 by_cases hr:s.role=3
 ·have H45:=ħ (propose45 w col p v j l f s h hc hw hk hr (ht hr) 2 ⟨by decide,by decide⟩ A c b B hb hBc hbb)
  have HE:=ħ (show s.propose b=s.prop 2 b∧prN s=(0,(s.log.length:Int)+1) by unfold Nd.propose prN;rw[if_neg (by simpa using hr),if_neg (by simpa using hr)];exact ⟨rfl,rfl⟩)
  have hr1:(s.role == 3)=true:=by simpa using hr
  have hl:¬ (4096:Int)<(b.length:Int):=by omega
  clear h hw hc hr ht hb hBc hbb
  rw[HE.out.1,HE.out.2]
  go_enter Tryz.func24,Tryz.ntmps24
  go_wp2_with (go_at_call 45;((with_reducible refine H45.out.mono ?_);rintro e w2 ⟨A8,c8,ms8,col8,rfl,hs9⟩;have HS9:=ħ hs9;clear hs9))
  refine bodyPost_ret (v:=.tuple #[.int .i64 (s.log.length+1),.slice A8 ms8.length c8,.int .i64 0]) (by simp[results,Tryz.results24,go_sem]) rfl ⟨A8,c8,ms8,col8,rfl,HS9.out⟩
 ·have HE:=ħ (show s.propose b=(s,[])∧prN s=(14,0) by unfold Nd.propose prN;rw[if_pos hr,if_pos hr];exact ⟨rfl,rfl⟩)
  have hr1:(s.role == 3)=false:=by simpa using hr
  have NB0:=ħ (NB.start h)
  have HC:=ħ hc
  clear h hw hc hr ht hb hBc hbb
  rw[HE.out.1,HE.out.2]
  go_enter Tryz.func24,Tryz.ntmps24
  go_wp2
  refine bodyPost_ret (v:=.tuple #[.int .i64 0,.slice none 0 0,.int .i64 14]) (by simp[results,Tryz.results24,go_sem]) rfl ⟨none,0,[],col,rfl,rfl,⟨Reads.none_,fun x hx=>by cases hx⟩,NB0.out,HC.out⟩
end
def CP (w:World)(col:Nat→Nat)(p v j l f:Nat)(r:Nd × List Msg)(e:Ending)(w':World):Prop:=∃ n er,PP w col p v j l f r n er e w'
theorem CP.nil_ {w W:World}{col:Nat→Nat}{p v j l f:Nat}{s:Nd}(hc:Clean col)(hb:NB w col p v j l f s false [] W col)(er:Int):CP w col p v j l f (s,[]) (.returned (.tuple #[.int .i64 0,.slice none 0 0,.int .i64 er])) W:=⟨0,er,none,0,[],col,rfl,rfl,⟨Reads.none_,fun x hx=>by cases hx⟩,hb,hc⟩
section
variable (w:World) (col:Nat→Nat) (p v j l f:Nat) (s:Nd) (h:NS w col p v j l f s false [])
include h
theorem change41 (hc:Clean col){k:Nat}(hw:Wf k s)(hk:k≤1600)(ht:s.role=3→1≤s.term)(A:Option Addr)(c:Nat)(nx:List Int)(B:Nat→Prop)(hb:RI w B A nx)(hBc:∀ k,B k→col k=0)(hl:nx.length≤1000) :
 Calls Tryz.prog 41 #[.pointer (some ⟨p,0,none⟩),.slice A nx.length c] w (CP w col p v j l f (s.change nx)):=by
 have NB0:=ħ (NB.start h)
 have HC:=ħ hc
 by_cases hr:s.role=3
 ·have hr1:(s.role == 3)=true:=by simpa using hr
  have HCH:=ħ (show s.change nx=if s.mb.n≠[]∨s.commit<posC s.log then (s,[]) else if mlB nx=true∧permB s.mb.o nx=true then s.prop 3 (encM s.mb.o nx) else (s,[]) by unfold Nd.change;rw[if_neg (by simpa using hr)])
  have HW:=ħ hw
  have HT:=ħ (ht hr)
  have HR:=ħ hr
  obtain ⟨mi,mm,Ao,co,ms,dur,hz,hm⟩:=h
  have HMO:=ħ hz.mmo
  have HZ:=ħ hz
  have HNX:=ħ (hb.old (by omega))
  have HBc:=ħ hBc
  obtain ⟨c0,c1,x0,x1,x2,x3,x4,x5,x6,x7,x8,x9,x10,x11,x12,x13,x14,x15,x16,x44,x45,x46⟩:=hz.c
  clear x0 x1 x2 x3 x4 x5 x6 x7 x12 x14 x15 x16 x44 x45 x46 hz hm hc hw ht hb hBc hr
  generalize hP:posC s.log=P at *
  clear hP
  by_cases hn:0<mm.n.length
  ·have hn1:decide ((0:Int)<(mm.n.length:Int))=true:=by simp;omega
   have hnn:s.mb.n≠[]:=fun e=>by have:=HMO.out.2;rw[e] at this;rw[this] at hn;simp at hn
   rw[HCH.out,if_pos (.inl hnn)]
   clear hnn
   go_enter Tryz.func41,Tryz.ntmps41
   go_upto_region 3 with fail
   go_quiet (fail)
   have NB3:=ħ (NB0.out.below (below_drewN (Below.refl _ _) nq))
   generalize w.drewN nq=W3 at *
   go_wp2
   exact bodyPost_ret (v:=.tuple #[.int .i64 0,.slice none 0 0,.int .i64 10]) (by simp[results,Tryz.results41,go_sem]) rfl (CP.nil_ HC.out NB3.out 10)
  ·have hn1:decide ((0:Int)<(mm.n.length:Int))=false:=decide_eq_false (by omega)
   have hnn:s.mb.n=[]:=by have:=HMO.out.2;rw[←this];exact List.eq_nil_of_length_eq_zero (by omega)
   by_cases hp:s.commit<P
   ·have hp1:decide (s.commit<(P:Int))=true:=by simpa using hp
    rw[HCH.out,if_pos (.inr hp)]
    clear hnn
    go_enter Tryz.func41,Tryz.ntmps41
    go_upto_region 3 with fail
    go_quiet (fail)
    have NB3:=ħ (NB0.out.below (below_drewN (Below.refl _ _) nq))
    generalize w.drewN nq=W3 at *
    go_wp2
    exact bodyPost_ret (v:=.tuple #[.int .i64 0,.slice none 0 0,.int .i64 10]) (by simp[results,Tryz.results41,go_sem]) rfl (CP.nil_ HC.out NB3.out 10)
   ·have hp1:decide (s.commit<(P:Int))=false:=by simpa using hp
    have hbg:begF mm.o mm.n nx=if mlB nx=true then (s.mb.o,nx,0) else ([],[],1):=by
     unfold begF
     rw[HMO.out.1,HMO.out.2,HW.out.vB,hnn,Bool.true_and]
     rfl
    have HCH2:=ħ (show s.change nx=if mlB nx=true∧permB s.mb.o nx=true then s.prop 3 (encM s.mb.o nx) else (s,[]) by rw[HCH.out,if_neg (fun h=>h.elim (fun e=>e hnn) hp)])
    have HBG:=ħ hbg
    have H69:=ħ fun W (x:MR W (fun k=>col k=5) mm) (y:RI W (fun k=>B k∧k<w.heap.size) A nx)=>begin_any _ _ mm A c nx W x y hl
    rw[hbg] at H69
    clear hnn hbg hp HCH
    go_enter Tryz.func41,Tryz.ntmps41
    go_upto_region 3 with fail
    go_quiet (fail)
    have B3:=below_drewN (Below.refl w.heap.size w) nq
    have NB3:=ħ (NB0.out.below B3)
    have Z3:=HZ.out.below B3
    have R3:=HNX.out.below B3 (fun _ h=>h.2)
    generalize w.drewN nq=W3 at *
    clear c0 c1 x8 x9 x10 x11 x13
    obtain ⟨c0,c1,x0,x1,x2,x3,x4,x5,x6,x7,x8,x9,-⟩:=Z3.c
    have H69:=ħ (H69.out W3 Z3.rm R3)
    clear x0 x1 x2 x3 x4 x5 x6 x7 Z3 R3
    cases hml:mlB nx with
    | false=>
     have HE:=ħ (show s.change nx=(s,[]) by rw[HCH2.out,hml];simp)
     have H69:=ħ (show Calls Tryz.prog 69 #[msV mm,.slice A nx.length c] W3 (ChPost _ [] [] 1 W3) by have:=H69.out;rw[hml] at this;exact this)
     clear hml HCH2 HBG
     go_upto_region 6 with (go_at_call 69;((with_reducible refine H69.out.mono ?_);rintro e w4 ⟨m',hm1,hm2,rfl,hm3,b4⟩;have HM1:=ħ hm1;have HM2:=ħ hm2;have HM3:=ħ hm3;clear hm1 hm2 hm3))
     have NB5:=ħ (NB3.out.below (b4.alloc b4.size (.cells (msC m') 24)))
     generalize w4.alloc (.cells (msC m') 24)=W5 at *
     go_wp2
     exact bodyPost_ret (v:=.tuple #[.int .i64 0,.slice none 0 0,.int .i64 1]) (by simp[results,Tryz.results41,go_sem]) rfl (by rw[HE.out];exact CP.nil_ HC.out NB5.out 1)
    | true=>
     have H69:=ħ (show Calls Tryz.prog 69 #[msV mm,.slice A nx.length c] W3 (ChPost _ s.mb.o nx 0 W3) by have:=H69.out;rw[hml] at this;exact this)
     cases hpm:permB s.mb.o nx with
     | false=>
      have HE:=ħ (show s.change nx=(s,[]) by rw[HCH2.out,hpm];simp)
      have HPM:=ħ hpm
      clear hml HCH2 HBG hpm
      go_upto_region 6 with (go_at_call 69;((with_reducible refine H69.out.mono ?_);rintro e w4 ⟨m',hm1,hm2,rfl,hm3,b4⟩;have HM1:=ħ hm1;have HM2:=ħ hm2;have HM3:=ħ hm3;clear hm1 hm2 hm3))
      have b5:=b4.alloc b4.size (.cells (msC m') 24)
      have NB5:=ħ (NB3.out.below b5)
      have g5:Blk (w4.alloc (.cells (msC m') 24)) w4.heap.size 24 (msC m'):=Blk.new w4 24 _
      have m5:=HM3.out.alloc (.cells (msC m') 24)
      generalize w4.alloc (.cells (msC m') 24)=W5 at *
      have H30:=ħ (permitted30 _ m' W5 m5 false (by rw[HM1.out,HM2.out];exact HPM.out))
      have y0:W5.cell? ⟨w4.heap.size,0,none⟩=some (.slice m'.A m'.o.length m'.c):=g5.cell 0
      have y1:W5.cell? ⟨w4.heap.size,1,none⟩=some (.slice m'.A' m'.n.length m'.c'):=g5.cell 1
      have y2:=g5.lt
      clear c0 c1 x8 x9 m5 b5
      go_wp2_with (go_at_call 30;((with_reducible refine H30.out.mono ?_);rintro e w6 ⟨rfl,b6⟩))
      exact bodyPost_ret (v:=.tuple #[.int .i64 0,.slice none 0 0,.int .i64 1]) (by simp[results,Tryz.results41,go_sem]) rfl (by rw[HE.out];exact CP.nil_ HC.out (NB5.out.below b6) 1)
     | true=>
      have HE:=ħ (show s.change nx=s.prop 3 (encM s.mb.o nx) by rw[HCH2.out,if_pos ⟨hml,hpm⟩])
      have HPM:=ħ hpm
      clear hml HCH2 HBG hpm
      go_upto_region 6 with (go_at_call 69;((with_reducible refine H69.out.mono ?_);rintro e w4 ⟨m',hm1,hm2,rfl,hm3,b4⟩;have HM1:=ħ hm1;have HM2:=ħ hm2;have HM3:=ħ hm3;clear hm1 hm2 hm3))
      have b5:=b4.alloc b4.size (.cells (msC m') 24)
      have NB5:=ħ (NB3.out.below b5)
      have g5:Blk (w4.alloc (.cells (msC m') 24)) w4.heap.size 24 (msC m'):=Blk.new w4 24 _
      have m5:=HM3.out.alloc (.cells (msC m') 24)
      generalize w4.alloc (.cells (msC m') 24)=W5 at *
      have H30:=ħ (permitted30 _ m' W5 m5 true (by rw[HM1.out,HM2.out];exact HPM.out))
      have HM5:=ħ m5.old
      have y0:W5.cell? ⟨w4.heap.size,0,none⟩=some (.slice m'.A m'.o.length m'.c):=g5.cell 0
      have y1:W5.cell? ⟨w4.heap.size,1,none⟩=some (.slice m'.A' m'.n.length m'.c'):=g5.cell 1
      have y2:=g5.lt
      clear c0 c1 x8 x9 m5 b5
      go_upto_region 8 with (go_at_call 30;((with_reducible refine H30.out.mono ?_);rintro e w6 ⟨rfl,b6⟩))
      have NB6:=ħ (NB5.out.below b6)
      have g6:=g5.below b6 g5.lt
      have H70:=ħ (encode_any _ m' w6 (HM5.out.below b6))
      have H45:=ħ fun W (b:Below w6.heap.size w6 W) A c (hb:Reads W (w6.heap.size≤·) 1 A (encM m'.o m'.n).length (bys (encM m'.o m'.n)))=>propose45 W col p v j l f s (NB6.out.below b).n HC.out HW.out hk HR.out HT.out 3 ⟨by decide,by decide⟩ A c _ _ hb (fun g hg=>NB6.out.n.free hg) (encM_small _ _)
      rw[HM1.out,HM2.out] at H45 H70
      have z0:w6.cell? ⟨w4.heap.size,0,none⟩=some (.slice m'.A m'.o.length m'.c):=g6.cell 0
      have z1:w6.cell? ⟨w4.heap.size,1,none⟩=some (.slice m'.A' m'.n.length m'.c'):=g6.cell 1
      have z2:=g6.lt
      clear y0 y1 y2 H30
      go_wp2_with (first
       | (go_at_call 70;((with_reducible refine H70.out.mono ?_);rintro e w7 ⟨A7,c7,rfl,hr7,b7⟩))
       | (go_at_call 45;((with_reducible refine (H45.out w7 b7 A7 c7 hr7).mono ?_);rintro e w8 ⟨A8,c8,ms8,col8,rfl,hs9⟩;have HS9:=ħ hs9;clear hs9)))
      refine bodyPost_ret (v:=.tuple #[.int .i64 (s.log.length+1),.slice A8 ms8.length c8,.int .i64 0]) (by simp[results,Tryz.results41,go_sem]) rfl ⟨_,_,A8,c8,ms8,col8,rfl,?_⟩
      rw[HE.out]
      obtain ⟨t1,t2,t3,t4⟩:=HS9.out
      exact ⟨t1,⟨t2.1.more (fun k hk=>⟨Nat.le_trans (Nat.le_trans NB6.out.fr.size b7.size) hk.1,hk.2⟩),t2.2.more (fun k hk=>⟨Nat.le_trans (Nat.le_trans NB6.out.fr.size b7.size) hk.1,hk.2⟩)⟩,(NB6.out.below b7).trans t3,t4⟩
 ·have HE:=ħ (show s.change nx=(s,[]) by unfold Nd.change;rw[if_pos hr])
  have hr1:(s.role == 3)=false:=by simpa using hr
  obtain ⟨c0,c1,x0,x1,x2,x3,x4,x5,x10,x11,x12,x13,x14,x15,x44⟩:=h.x
  clear x0 x1 x2 x3 x4 x5 x10 x12 x13 x14 x15 x44
  clear h hw hc hr ht hb hBc
  rw[HE.out]
  go_enter Tryz.func41,Tryz.ntmps41
  go_wp2
  exact bodyPost_ret (v:=.tuple #[.int .i64 0,.slice none 0 0,.int .i64 14]) (by simp[results,Tryz.results41,go_sem]) rfl (CP.nil_ HC.out NB0.out 14)
end
end Go.Proofs.YtdfobfjpkjddpaaGreat

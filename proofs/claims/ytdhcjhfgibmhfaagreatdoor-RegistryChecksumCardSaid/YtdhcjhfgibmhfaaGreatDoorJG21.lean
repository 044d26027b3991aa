import Derived.Test.YtdhcjhfgibmhfaaGreatDoorJRr17
import Derived.Test.YtdhcjhfgibmhfaaGreatDoorJG15
import Derived.Test.YtdhcjhfgibmhfaaGreatDoorJG19
set_option linter.unusedVariables false
set_option linter.unusedSimpArgs false
set_option maxRecDepth 10000
set_option maxHeartbeats 8000000
namespace Go.Proofs.YtdhcjhfgibmhfaaGreatDoor
open Go.RowKit Go.Own Go.Quo Go.Inc
theorem Ad:∀ w,(zeroValue 34).run Tryz.prog w=.ok (.agg κ) w:=fun w=>by kernel_rfl
theorem Ex:∀ w,(zeroValue 48).run Tryz.prog w=.ok (.agg ζ) w:=fun w=>by kernel_rfl
def Ji (r:Bk × Int)(p mc mi mh:Nat)(w:World)(e:Ending)(w':World):Prop:=e=.returned (ι r.2)∧PI w' p mc mi mh r.1∧Fr (Sq p mc mi mh) w w'
theorem QA {w:World}{mc:Nat}{kc:List (Int × Value)}(k:Int){v:Value}{f:Bool}(hv:(zn kc k).getD (.agg κ)=v)(hf:(zn kc k).isSome=f):∀ W:World,zF W mc .i64 kc→(Instr.lookup 85 (.map (some mc)) (ι k) true).run Tryz.prog W=.ok (.tuple #[v,.bool f]) W:=fun W hW=>by
 have:=zF.lookup (P:=Tryz.prog) hW Tryz.underlying85 Tryz.underlying2 Ad k true
 rw[hv,hf] at this
 simpa using this
theorem yG {w:World}{mi:Nat}{ki:List (Int × Value)}(k:Int){v:Value}{f:Bool}(hv:(zn ki k).getD (.agg ζ)=v)(hf:(zn ki k).isSome=f):∀ W:World,zF W mi .i64 ki→(Instr.lookup 86 (.map (some mi)) (ι k) true).run Tryz.prog W=.ok (.tuple #[v,.bool f]) W:=fun W hW=>by
 have:=zF.lookup (P:=Tryz.prog) hW Tryz.underlying86 Tryz.underlying2 Ex k true
 rw[hv,hf] at this
 simpa using this
theorem lY (p mc mi mh:Nat)(b:Bk)(call:Int)(w:World)(h:PI w p mc mi mh b)(hs:Asc Cr.call b.C) :
 Calls Tryz.prog 44 #[.pointer (some ⟨p,0,none⟩),ι call] w (Ji (Z8 b call) p mc mi mh w):=by
 have H:=ħ h
 obtain ⟨kc,ki,kh,hw,hc,hi,hh⟩:=h
 have p0:=hw.P.facts
 have hbc:=hw.bc
 have uY:=hbc.lt
 cases hg:yP b.C call with
 | none=>
  have hE:Z8 b call=(b,4):=by unfold Z8;rw[hg]
  have hk:=hc.no call (fun t ht e=>by have e2:yP b.C t.call=some t:=yR Cr.call hs ht;rw[e,hg] at e2;cases e2)
  have hlk:=QA (w:=w) (mc:=mc) call (show (zn kc call).getD (.agg κ)=.agg κ by rw[hk];rfl) (show (zn kc call).isSome=false by simp[hk])
  have HE:=ħ hE
  clear hE hg hk hw hc hi hh
  go_enter Tryz.func44,Tryz.ntmps44
  go_wp2_with fail
  go_ret
  rw[HE.out]
  exact ⟨rfl,H.out.alloc _,(Fr.refl _ w).alloc _⟩
 | some y=>
  obtain ⟨hy,xq⟩:=yC hg
  obtain ⟨A,k,hk,hr⟩:=hc.at_ y hy
  subst xq
  have hlk:=QA (w:=w) (mc:=mc) y.call (show (zn kc y.call).getD (.agg κ)=.agg (χ y A k) by rw[hk];rfl) (show (zn kc y.call).isSome=true by simp[hk])
  by_cases hcl:y.closed=true
  ·have HE:=ħ (show Z8 b y.call=(b,8) by unfold Z8;rw[hg];dsimp only;rw[if_pos hcl])
   clear hg hk hw hc hi hh hy hr
   go_enter Tryz.func44,Tryz.ntmps44
   go_wp2_with fail
   go_ret
   rw[HE.out]
   exact ⟨rfl,H.out.alloc _,(Fr.refl _ w).alloc _⟩
  ·have hcf:y.closed=false:=by simpa using hcl
   have HE:=ħ (show Z8 b y.call=(⟨b.L,zG b.C { y with closed:=true }⟩,0) by unfold Z8;rw[hg];dsimp only;rw[if_neg hcl])
   have HX:=ħ (show ∀ W:World,PW W p mc mi mh kc ki kh→Fr (fun _=>False) w W→PI (mput W mc .i64 y.call (.agg #[ι y.call,ι y.inc,ι y.urg,.string y.code,.slice A y.nodes.length k,ι y.dist,ι y.since,.bool true])) p mc mi mh ⟨b.L,zG b.C { y with closed:=true }⟩ from fun W hW hf=>by
    have hcW:=hc.fr hf (fun _ _ e=>e)
    have hf2:Fr (fun j=>j=mc) W (mput W mc .i64 y.call (.agg #[ι y.call,ι y.inc,ι y.urg,.string y.code,.slice A y.nodes.length k,ι y.dist,ι y.since,.bool true])):=(Fr.refl (fun j=>j=mc) W).mput (b:=mc) (.inl rfl) .i64 y.call _
    have hq:∀ j,Bq p mc mi mh j→¬ j=mc:=fun j hj=>hj.2.1
    have c2:=(hcW.put hs { y with closed:=true } A k (hr.fr hf (fun _ _ e=>e))).fr hf2 hq
    exact ⟨_,_,_,hW.putC y.call _,c2,(hi.fr hf (fun _ _ e=>e)).fr hf2 hq,hh⟩)
   have HW:=ħ hw
   have hup:=fun (W:World) (hW:zF W mc .i64 kc)=>zF.update (P:=Tryz.prog) hW Tryz.underlying85 Tryz.underlying2 y.call (.agg #[ι y.call,ι y.inc,ι y.urg,.string y.code,.slice A y.nodes.length k,ι y.dist,ι y.since,.bool true])
   clear hg hk hw hc hi hh hy hr H hcl
   go_enter Tryz.func44,Tryz.ntmps44
   go_upto_region 7 with fail
   have XD:=ħ (HW.out.alloc (.cells #[ι y.call,ι y.inc,ι y.urg,.string y.code,.slice A y.nodes.length k,ι y.dist,ι y.since,.bool true] 34))
   have wy:=ħ ((Fr.refl (fun _=>False) w).alloc (.cells #[ι y.call,ι y.inc,ι y.urg,.string y.code,.slice A y.nodes.length k,ι y.dist,ι y.since,.bool true] 34))
   have hxb:=zb.new w 34 #[ι y.call,ι y.inc,ι y.urg,.string y.code,.slice A y.nodes.length k,ι y.dist,ι y.since,.bool true]
   generalize w.alloc _=W1 at *
   have p0:=XD.out.P.facts
   have hbc:=XD.out.bc
   have x0:=hxb.facts
   refine yJ 6 (by kernel_rfl) (by kernel_rfl) (fun T hT=>?_)
   simp only[List.take_succ_cons,List.take_zero]
   repeat still_step
   refine wpStill_nil (hT _ ?_)
   clear hT T
   simp only[List.drop_succ_cons,List.drop_zero]
   go_wp2
   go_ret
   rw[HE.out]
   exact ⟨rfl,(HX.out _ XD.out wy.out).below ((Below.refl _ _).drew),((wy.out.mono (T:=Sq p mc mi mh) (fun _ _ e=>e.elim)).mput (b:=mc) (.inl (.inr (.inl rfl))) .i64 y.call _).drew⟩
def fB (x:Ic)(f:Bool)(w:World)(e:Ending)(w':World):Prop:=∃ An Ac Au cn cc cu,e=.returned (.tuple #[oN x An Ac Au cn cc cu,.bool f]) ∧
 w'.ownsRow w.heap.size 3 1 (.slice An x.nodes.length cn) x.nodes.length (x.nodes.map (Value.int .i64))∧w'.ownsRow w.heap.size 2 1 (.slice Ac x.calls.length cc) x.calls.length (x.calls.map (Value.int .i64))∧w'.ownsRow w.heap.size 3 1 (.slice Au x.units.length cu) x.units.length (x.units.map (Value.int .i64))∧Below w.heap.size w w'
def QF (b:Bk)(id:Int):Ic × Bool:=match zw b.L id with | some x=>(x,true) | none=>(zO,false)
theorem Eu (p mc mi mh:Nat)(kc ki kh:List (Int × Value))(id:Int)(a:Xa)(f:Bool)(B:Nat→Prop)(w:World)(hw:PW w p mc mi mh kc ki kh)(hv:(zn ki id).getD (.agg ζ)=.agg (ξ a.x a.An a.cn a.Ac a.cc a.Au a.cu))(hf:(zn ki id).isSome=f)(hr:XR w B a)(hl:a.x.nodes.length≤100000∧a.x.calls.length≤100000∧a.x.units.length≤100000) :
 Calls Tryz.prog 19 #[.pointer (some ⟨p,0,none⟩),ι id] w (fB a.x f w):=by
 have HR:=ħ hr
 have hlk:=yG (w:=w) (mi:=mi) id hv hf
 have p0:=hw.P.facts
 have hbi:=hw.bi
 have uY:=hbi.lt
 have HL:=ħ hl
 have HZ:=ħ (zb.new w 48 ζ)
 have HB:=ħ ((Below.refl w.heap.size w).alloc (Nat.le_refl _) (.cells ζ 48))
 clear hv hf hr hl
 have sU:=ħ fun (W:World) (hb:Below w.heap.size w W)=>(show Calls Tryz.prog 62 #[.agg (ξ a.x a.An a.cn a.Ac a.cc a.Au a.cu)] W (Vu a.x W) from gQ B a.x.id a.x.urg a.x.dist a.x.since a.x.merged a.x.code a.x.nodes a.x.calls a.x.units a.An a.Ac a.Au a.cn a.cc a.cu a.x.closed W (zl HR.out.n hb) (zl HR.out.c hb) (zl HR.out.u hb) HL.out.1 HL.out.2.1 HL.out.2.2)
 clear hw
 go_enter Tryz.func19,Tryz.ntmps19
 go_upto_region 2 with fail
 have HZ2:=ħ (HZ.out.alloc (.cells (ξ a.x a.An a.cn a.Ac a.cc a.Au a.cu) 48))
 have HB2:=ħ (HB.out.alloc HB.out.size (.cells (ξ a.x a.An a.cn a.Ac a.cc a.Au a.cu) 48))
 have Zo:=ħ (show zb ((w.alloc (.cells ζ 48)).alloc (.cells (ξ a.x a.An a.cn a.Ac a.cc a.Au a.cu) 48)) (w.heap.size+1) 48 (ξ a.x a.An a.cn a.Ac a.cc a.Au a.cu) by
  have:=zb.new (w.alloc (.cells ζ 48)) 48 (ξ a.x a.An a.cn a.Ac a.cc a.Au a.cu)
  simpa using this)
 clear HZ HB p0 hbi uY hlk
 generalize (w.alloc _).alloc _=W2 at *
 have x0:=Zo.out.facts
 go_wp2_with (first | (go_at_call 62;((with_reducible refine (sU.out _ HB2.out).mono ?_);rintro e w3 ⟨A2,A3,A4,c2,c3,c4,rfl,h1,h2,h3,hb⟩;have HO:=ħ (And.intro h1 (And.intro h2 h3));have HZ3:=ħ (HZ2.out.below hb HZ2.out.lt);have HB3:=ħ (HB2.out.trans (hb.mono HB2.out.size));clear h1 h2 h3 hb x0)) | (refine z8 rfl (.tmp 4) (.tmp 18) 48 rfl w.heap.size 48 _ (ξ a.x A2 c2 A3 c3 A4 c4) _ 10 136 zJ rfl rfl rfl HZ3.out rfl (zH (by simp[Value.oneCell'])) ?_;intro w8 zW zI yL))
 refine bodyPost_ret (za (p:=4) (u:=5) (ty:=48) Tryz.results19 _ _ w.heap.size 48 (ξ a.x A2 c2 A3 c3 A4 c4) (0,0) _ rfl zW Tryz.underlying48 rfl qo) rfl ?_
 have hx:=Zo.out.lt
 refine ⟨A2,A3,A4,c2,c3,c4,rfl,?_,?_,?_,HB3.out.trans (zI.below HB3.out.size (fun j hj e=>by have e2:j=w.heap.size:=e;omega))⟩
 ·exact World.ownsRow.mono (zY HO.out.1 zI (fun g hg e=>by have:=(HO.out.1.lt g hg).1;have e2:g=w.heap.size:=e;omega)) HB2.out.size
 ·exact World.ownsRow.mono (zY HO.out.2.1 zI (fun g hg e=>by have:=(HO.out.2.1.lt g hg).1;have e2:g=w.heap.size:=e;omega)) HB2.out.size
 ·exact World.ownsRow.mono (zY HO.out.2.2 zI (fun g hg e=>by have:=(HO.out.2.2.lt g hg).1;have e2:g=w.heap.size:=e;omega)) HB2.out.size
theorem Q8 {b:Bk}{id:Int}(h:zw b.L id=none):∀ x∈b.L,x.id≠id:=(qM Ic.id).1 h
theorem o_ (p mc mi mh:Nat)(b:Bk)(id:Int)(w:World)(h:PI w p mc mi mh b)(hv:∀ x∈b.L,jC x=true∧x.nodes.length≤60) :
 Calls Tryz.prog 19 #[.pointer (some ⟨p,0,none⟩),ι id] w (fB (QF b id).1 (QF b id).2 w):=by
 obtain ⟨kc,ki,kh,hw,hc,hi,hh⟩:=h
 cases hg:zw b.L id with
 | none=>
  have hE:QF b id=(zO,false):=by unfold QF;rw[hg]
  have hk:=hi.no id (Q8 hg)
  rw[hE]
  exact Eu p mc mi mh kc ki kh id ⟨zO,none,none,none,0,0,0⟩ false (fun _=>True) w hw (by rw[hk];rfl) (by simp[hk]) ⟨Reads.none_,Reads.none_,Reads.none_⟩ ⟨by decide,by decide,by decide⟩
 | some x=>
  have hE:QF b id=(x,true):=by unfold QF;rw[hg]
  obtain ⟨hx,hxi⟩:=zi hg
  obtain ⟨a,ha,hk,hr⟩:=hi.at_ x hx
  rw[hxi] at hk
  subst ha
  rw[hE]
  have hl:=yO (hv _ hx).1
  exact Eu p mc mi mh kc ki kh id a true _ w hw (by rw[hk];rfl) (by simp[hk]) hr ⟨by have:=(hv _ hx).2;omega,hl.2.1,by omega⟩
def uG (x:Cr)(f:Bool)(w:World)(e:Ending)(w':World):Prop:=∃ A k,e=.returned (.tuple #[uy ⟨x,A,k⟩,.bool f])∧w'.ownsRow w.heap.size 3 1 (.slice A x.nodes.length k) x.nodes.length (x.nodes.map (Value.int .i64))∧Below w.heap.size w w'
def Qf:Cr:=⟨0,0,0,⟨#[]⟩,[],0,0,false⟩
theorem QJ {v0 v1 v2 v3 v4 v5 v6 v7:Value}(h:v0.oneCell'=true∧v1.oneCell'=true∧v2.oneCell'=true∧v3.oneCell'=true∧v4.oneCell'=true∧v5.oneCell'=true∧v6.oneCell'=true∧v7.oneCell'=true):∀ u∈(#[v0,v1,v2,v3,v4,v5,v6,v7]:Array Value).toList,u.oneCell'=true:=by
 intro u hu
 obtain ⟨h0,h1,h2,h3,h4,h5,h6,h7⟩:=h
 simp at hu
 rcases hu with rfl | rfl | rfl | rfl | rfl | rfl | rfl | rfl <;> assumption
def ZE (kh:List (Int × Value))(us:List Int):List (Int × Value):=us.foldl Yv kh
theorem KP (kh:List (Int × Value))(us:List Int){k:Nat}(hk:k<us.length):ZE kh (us.take (k+1))=Yv (ZE kh (us.take k)) us[k]:=by
 unfold ZE
 rw[List.take_succ_eq_append_getElem hk,List.foldl_append]
 rfl
theorem XV:∀ (us:List Int)(kh:List (Int × Value)),(kh.map (·.1)).Nodup→((ZE kh us).map (·.1)).Nodup∧∀ u,zn (ZE kh us) u=if u∈us then none else zn kh u
 | [],kh,h=>⟨h,fun u=>by simp[ZE]⟩
 | a :: r,kh,h=>by
  obtain ⟨h1,h2⟩:=ET h a
  obtain ⟨h3,h4⟩:=XV r (Yv kh a) h1
  refine ⟨h3,fun u=>?_⟩
  show zn (ZE (Yv kh a) r) u=_
  rw[h4,h2]
  by_cases e1:u∈r
  ·rw[if_pos e1,if_pos (List.mem_cons_of_mem _ e1)]
  ·rw[if_neg e1]
   by_cases e2:u=a
   ·rw[if_pos e2,if_pos (by rw[e2];exact List.mem_cons_self)]
   ·rw[if_neg e2,if_neg (by rw[List.mem_cons];exact fun h=>h.elim e2 e1)]
theorem U4 {kh:List (Int × Value)}{L:List Ic}(h:HM kh L)(hs:Asc Ic.id L){x x':Ic}(hx:x∈L)(hid:x'.id=x.id)(us:List Int)(MZ:∀ u∈us,u∈x.units)(hx':∀ u,u∈x'.units↔u∈x.units∧u∉us)
 (hun:∀ y∈L,∀ u,u∈x.units→u∈y.units→x.id=y.id):HM (ZE kh us) (zz L x'):=by
 obtain ⟨h1,h2⟩:=XV us kh h.nd
 refine ⟨h1,fun y hy u hu=>?_,fun u hu=>?_⟩
 ·rw[h2]
  rcases zK.1 hy with rfl | ⟨g1,g2⟩
  ·obtain ⟨a,b⟩:=(hx' u).1 hu
   rw[if_neg b,h.at_ x hx u a,hid]
  ·rw[if_neg (fun e=>g2 (by rw[hid,hun y g1 u (MZ u e) hu]))]
   exact h.at_ y g1 u hu
 ·rw[h2]
  by_cases e:u∈us
  ·rw[if_pos e]
  ·rw[if_neg e]
   refine h.no u (fun y hy hyu=>?_)
   by_cases e2:y.id=x'.id
   ·have e3:y=x:=qj Ic.id hs hy hx (by rw[e2,hid])
    rw[e3] at hyu
    exact hu x' (zK.2 (.inl rfl)) ((hx' u).2 ⟨hyu,e⟩)
   ·exact hu y (zK.2 (.inr ⟨hy,e2⟩)) hyu
def rG (w:World)(e:Ending)(w':World):Prop:=∃ p mc mi mh,e=.returned (.pointer (some ⟨p,0,none⟩))∧w.heap.size≤p∧w.heap.size≤mc∧w.heap.size≤mi∧w.heap.size≤mh∧PI w' p mc mi mh ⟨[],[]⟩∧Below w.heap.size w w'
theorem dW (w:World):Calls Tryz.prog 36 #[] w (rG w):=by
 have hmm:=@run_makeMap Tryz.prog
 have HFin:=ħ (show rG w (.returned (.pointer (some ⟨w.heap.size+3,0,none⟩))) ((((w.alloc (.map #[] 0)).alloc (.map #[] 0)).alloc (.map #[] 0)).alloc (.cells #[.map (some w.heap.size),.map (some (w.heap.size+1)),.map (some (w.heap.size+2))] 89)) from by
  refine ⟨w.heap.size+3,w.heap.size,w.heap.size+1,w.heap.size+2,rfl,by omega,by omega,by omega,by omega,?_,?_⟩
  ·refine ⟨[],[],[],⟨?_,?_,?_,?_,⟨by omega,by omega,by omega⟩⟩,⟨List.nodup_nil,(fun t ht=>by cases ht),fun _ _=>rfl⟩,⟨List.nodup_nil,(fun t ht=>by cases ht),fun _ _=>rfl⟩,⟨List.nodup_nil,(fun t ht=>by cases ht),fun _ _=>rfl⟩⟩
   ·have:=zb.new (((w.alloc (.map #[] 0)).alloc (.map #[] 0)).alloc (.map #[] 0)) 89 #[.map (some w.heap.size),.map (some (w.heap.size+1)),.map (some (w.heap.size+2))]
    simpa using this
   ·exact (((zF.new w .i64).alloc _).alloc _).alloc _
   ·have:=((zF.new (w.alloc (.map #[] 0)) .i64).alloc (.map #[] 0)).alloc (.cells #[.map (some w.heap.size),.map (some (w.heap.size+1)),.map (some (w.heap.size+2))] 89)
    simpa using this
   ·have:=(zF.new ((w.alloc (.map #[] 0)).alloc (.map #[] 0)) .i64).alloc (.cells #[.map (some w.heap.size),.map (some (w.heap.size+1)),.map (some (w.heap.size+2))] 89)
    simpa using this
  ·exact ((((Below.refl w.heap.size w).alloc (Nat.le_refl _) _).alloc (by simp) _).alloc (by simp;omega) _).alloc (by simp;omega) _)
 go_enter Tryz.func36,Tryz.ntmps36
 go_wp2_with fail
 go_ret
 exact HFin.out
def vU (L:List Ic):Nat→Int→Nat
 | 0,_=>0
 | n+1,id=>match zw L id with | none=>0 | some x=>if x.merged=0 then 0 else vU L n x.merged+1
theorem Dc {L:List Ic}{id:Int}{n:Nat}{r:Int}(h:j3 L id n r):∀ {m:Nat},n<m→vU L m id=n:=by
 induction h with
 | here h hm=>
  intro m hn
  obtain ⟨k,rfl⟩:∃ k,m=k+1:=⟨m - 1,by omega⟩
  unfold vU;rw[h];dsimp only;rw[if_pos hm]
 | up h hm hr ih=>
  intro m hn
  obtain ⟨k,rfl⟩:∃ k,m=k+1:=⟨m - 1,by omega⟩
  unfold vU;rw[h];dsimp only;rw[if_neg hm,ih (by omega)]
theorem kz {w:World}{B:Nat→Prop}{ki:List (Int × Value)}{L:List Ic}(h:IM w B ki L){id:Int}{x:Ic}(hg:zw L id=some x):∃ a:Xa,a.x=x∧zn ki id=some (.agg (ξ a.x a.An a.cn a.Ac a.cc a.Au a.cu))∧XR w B a:=by
 obtain ⟨hx,hxi⟩:=zi hg
 obtain ⟨a,ha,hk,hr⟩:=h.at_ x hx
 rw[hxi] at hk
 exact ⟨a,ha,hk,hr⟩
theorem DT (p mc mi mh:Nat)(b:Bk)(Vw:Int)(w:World)(h:PI w p mc mi mh b)(hrt:∀ x∈b.L,∃ k r,j3 b.L x.id k r) :
 Calls Tryz.prog 18 #[.pointer (some ⟨p,0,none⟩),ι Vw] w (fun e w'=>e=.returned (ι (jd b Vw))∧Below w.heap.size w w'):=by
 obtain ⟨kc,ki,kh,hw,hc,hi,hh⟩:=h
 have HW:=ħ hw
 have HI:=ħ hi
 clear hc hh
 have p0:=hw.P.facts
 have hbi:=hw.bi
 have uY:=hbi.lt
 clear hw hi
 cases hg:zw b.L Vw with
 | none=>
  have hk:=HI.out.no Vw (Q8 hg)
  have HE:=ħ (show jd b Vw=0 from vX hg)
  have hlk:=yG (w:=w) (mi:=mi) Vw (show (zn ki Vw).getD (.agg ζ)=.agg ζ by rw[hk];rfl) (show (zn ki Vw).isSome=false by simp[hk])
  clear hk hg
  go_enter Tryz.func18,Tryz.ntmps18
  go_upto_region 1 with fail
  go_wp2_with fail
  go_loopw [6] (fun vf wr=>vf=.bool false∧Below w.heap.size w wr) (fun _ _=>0)
  case atStart=>exact ⟨rfl,(Below.refl _ _).alloc (Nat.le_refl _) _⟩
  case round=>
   obtain ⟨rfl,hb⟩:=hrel
   go_wp2_with fail
   go_ret
   exact ⟨by rw[HE.out];rfl,hb⟩
 | some x0=>
  obtain ⟨a0,ha0,hk0,hr0⟩:=kz HI.out hg
  obtain ⟨n0,r,hR0⟩:=hrt x0 (zi hg).1
  rw[(zi hg).2] at hR0
  have HE:=ħ (show jd b Vw=r from uw hR0)
  have hlk:=yG (w:=w) (mi:=mi) Vw (show (zn ki Vw).getD (.agg ζ)=.agg (ξ a0.x a0.An a0.cn a0.Ac a0.cc a0.Au a0.cu) by rw[hk0];rfl) (show (zn ki Vw).isSome=true by simp[hk0])
  have iY:=ħ hR0
  have Nb:=ħ (show zw b.L Vw=some a0.x by rw[ha0];exact hg)
  clear hk0 hr0 hR0 ha0 hg
  have HX0:=ħ (zb.new w 48 (ξ a0.x a0.An a0.cn a0.Ac a0.cc a0.Au a0.cu))
  go_enter Tryz.func18,Tryz.ntmps18
  go_upto_region 1 with fail
  go_wp2_with fail
  go_loopw [1,6] (fun vd vf wr=>∃ (id:Int) (a:Xa) (n:Nat),vd=ι id∧vf=.bool true∧j3 b.L id n r∧zw b.L id=some a.x∧zb wr w.heap.size 48 (ξ a.x a.An a.cn a.Ac a.cc a.Au a.cu)∧Below w.heap.size w wr) (fun vd _ _=>vU b.L (b.L.length+1) (intOf vd))
  case atStart=>exact ⟨Vw,a0,n0,rfl,rfl,iY.out,Nb.out,HX0.out,(Below.refl _ _).alloc (Nat.le_refl _) _⟩
  case round=>
   obtain ⟨id,a,n,rfl,rfl,hR,hga,hx,hb⟩:=hrel
   clear hlk p0 hbi uY
   have HR:=ħ hR
   have HX:=ħ hx
   have HB:=ħ hb
   have HP:=ħ (HW.out.below hb)
   have p0:=HP.out.P.facts
   have hbi:=HP.out.bi
   have uY:=hbi.lt
   obtain ⟨x0,x1,x2⟩:=HX.out.facts
   clear hx hb
   by_cases hm:a.x.merged=0
   ·have hmb:(a.x.merged != 0)=false:=by simp[hm]
    have hrr:r=id:=by
     cases hR with
     | here h1 h2=>rfl
     | up h1 h2 h3=>rw[hga] at h1;injection h1 with e;rw[←e] at h2;exact absurd hm h2
    clear hR
    go_wp2_with fail
    go_ret
    exact ⟨by rw[HE.out,hrr];rfl,HB.out⟩
   ·have hmb:(a.x.merged != 0)=true:=by simpa using hm
    obtain ⟨m,hnm,hR2⟩:∃ m,n=m+1∧j3 b.L a.x.merged m r:=by
     cases hR with
     | here h1 h2=>rw[hga] at h1;injection h1 with e;rw[←e] at h2;exact absurd h2 hm
     | up h1 h2 h3=>rw[hga] at h1;injection h1 with e;rw[←e] at h3;exact ⟨_,rfl,h3⟩
    obtain ⟨LF,hx2⟩:∃ LF,zw b.L a.x.merged=some LF:=by
     cases hR2 with
     | here h1 h2=>exact ⟨_,h1⟩
     | up h1 h2 h3=>exact ⟨_,h1⟩
    obtain ⟨a2,ha2,hk2,hr2⟩:=kz HI.out hx2
    have hlk:=yG (w:=w) (mi:=mi) a.x.merged (show (zn ki a.x.merged).getD (.agg ζ)=.agg (ξ a2.x a2.An a2.cn a2.Ac a2.cc a2.Au a2.cu) by rw[hk2];rfl) (show (zn ki a.x.merged).isSome=true by simp[hk2])
    have HR2:=ħ hR2
    have HG2:=ħ (show zw b.L a.x.merged=some a2.x by rw[ha2];exact hx2)
    have hd1:=Dc hR (show n<b.L.length+1 by have:=hR.lt;omega)
    have hd2:=Dc hR2 (show m<b.L.length+1 by have:=hR2.lt;omega)
    have HD:=ħ (show vU b.L (b.L.length+1) a.x.merged<vU b.L (b.L.length+1) id by omega)
    clear hR hR2 hk2 hr2 hx2 ha2 hd1 hd2 hm hga
    go_wp2_with (refine z8 rfl (.tmp 5) (.tmp 31) 48 rfl w.heap.size 48 _ (ξ a2.x a2.An a2.cn a2.Ac a2.cc a2.Au a2.cu) _ 10 136 zJ rfl rfl rfl HX.out rfl (zH (by simp[Value.oneCell'])) ?_;intro w8 zW zI yL)
    exact ⟨⟨a.x.merged,a2,m,rfl,rfl,HR2.out,HG2.out,zW,HB.out.trans (zI.below HB.out.size (fun j hj e=>by have e2:j=w.heap.size:=e;omega))⟩,HD.out⟩
end Go.Proofs.YtdhcjhfgibmhfaaGreatDoor

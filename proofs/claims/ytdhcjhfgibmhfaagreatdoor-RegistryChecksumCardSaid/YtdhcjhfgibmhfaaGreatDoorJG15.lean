import Derived.Test.YtdhcjhfgibmhfaaGreatDoorJAnw7
import Derived.Deep.MidRow
import Derived.Test.YtdhcjhfgibmhfaaGreatDoorJG13
import Derived.Test.YtdhcjhfgibmhfaaGreatDoorJG1
import Derived.Test.YtdhcjhfgibmhfaaGreatDoorJG0
import Derived.Test.YtdhcjhfgibmhfaaGreatDoorJG3
set_option linter.unusedVariables false
set_option linter.unusedSimpArgs false
set_option maxRecDepth 10000
set_option maxHeartbeats 8000000
namespace Go.Proofs.YtdhcjhfgibmhfaaGreatDoor
open Go.RowKit Go.Own Go.Quo Go.Inc
theorem lM (D:Nat→Prop)(x:Ic)(An Ac Au:Option Addr)(cn cc cu:Nat)(ts:List Ca)(A:Option Addr)(c:Nat)(w:World)(hn:RI w (fun b=>b<w.heap.size∧D b) An x.nodes)(hc:RI w (fun b=>b<w.heap.size∧D b) Ac x.calls)(hu:RI w (fun b=>b<w.heap.size∧D b) Au x.units)(h:Reads w (· < w.heap.size) 8 A ts.length (ts.flatMap qC))(hts:∀ t∈ts,RI w (fun b=>b<w.heap.size∧D b) t.A t.c.nodes)(hs:x.code.size≤100000)(ln:x.nodes.length≤100000)(lc:x.calls.length≤100000)(lu:x.units.length≤100000)(lt:ts.length≤1000)(Gb:∀ t∈ts,t.c.code.size≤100000∧t.c.nodes.length≤100000):Calls Tryz.prog 30 #[.agg (ξ x An cn Ac cc Au cu),.slice A ts.length c] w (yY D x (ts.map (·.c)) w):=by
 by_cases h0:jC x=false∨ts=[]
 ·exact FR D x An Ac Au cn cc cu ts A c w hn hc hu h hts hs ln lc lu lt Gb h0
 have hi:jC x=true:=by cases hq:jC x with
  | true=>rfl
  | false=>exact absurd (.inl hq) h0
 have hpos:0<ts.length:=by
  rcases Nat.eq_zero_or_pos ts.length with e | e
  ·exact absurd (.inr (List.eq_nil_of_length_eq_zero e)) h0
  ·exact e
 clear h0
 have hp:=h.plain (by omega)
 have HR:=ħ h
 have HN:=ħ hn
 have HC:=ħ hc
 have HU:=ħ hu
 have Bz:=ħ hts
 have HL:=ħ Gb
 have BU:=ħ fun (W:World) (hb:Below w.heap.size w W)=>(show Calls Tryz.prog 69 #[.agg (ξ x An cn Ac cc Au cu)] W (qX (jC x) W) from uU _ x.id x.urg x.dist x.since x.merged x.code An Ac Au cn cc cu x.nodes x.calls x.units x.closed W hs (HN.out.below hb (fun k hk=>by first | exact hk | exact hk.1)) (HC.out.below hb (fun k hk=>by first | exact hk | exact hk.1)) (HU.out.below hb (fun k hk=>by first | exact hk | exact hk.1)) ln lc lu)
 have HB:=ħ (((Below.refl w.heap.size w).alloc (Nat.le_refl _) (.cells (ξ x An cn Ac cc Au cu) 48)).alloc (by simp) (.cells ζ 48))
 have HX:=ħ ((zb.new w 48 (ξ x An cn Ac cc Au cu)).alloc (.cells ζ 48))
 have HY:=ħ (show zb ((w.alloc (.cells (ξ x An cn Ac cc Au cu) 48)).alloc (.cells ζ 48)) (w.heap.size+1) 48 ζ by
  have:=zb.new (w.alloc (.cells (ξ x An cn Ac cc Au cu) 48)) 48 ζ
  simpa using this)
 have x0:=HX.out.facts
 have dX:=ħ fun (t:Ca) (hm:t∈ts) (W:World) (hb:Below w.heap.size w W)=>(show Calls Tryz.prog 70 #[.agg (χ t.c t.A t.k)] W (qX (yz t.c) W) from vY _ t.c.call t.c.inc t.c.urg t.c.dist t.c.since t.c.code t.A t.k t.c.nodes t.c.closed W (HL.out t hm).1 ((Bz.out t hm).below hb (fun k hk=>by first | exact hk | exact hk.1)) (HL.out t hm).2)
 clear hn hc hu h hts Gb
 have mV:=ħ hi
 rw[hi] at BU
 clear hi
 have d0:((ts.length:Int) == 0)=false:=by have:(ts.length:Int)≠0:=by omega
                                          rw[beq_eq_false_iff_ne];exact this
 go_enter Tryz.func30,Tryz.ntmps30
 go_upto_block 0 with (first | (go_at_call 69;((with_reducible refine (BU.out _ HB.out).mono ?_);rintro e w2 ⟨rfl,hb⟩;have HX:=ħ (HX.out.below hb HX.out.lt);have HY:=ħ (HY.out.below hb HY.out.lt);have HB:=ħ (HB.out.trans (hb.mono HB.out.size));clear hb x0;have x0:=HX.out.facts)))
 have HI:=ħ (show ∃ (k:Nat) (ss:List Ca) (A6:Option Addr) (c6:Nat),k≤ts.length∧ι 0=ι (k:Int)∧Value.slice none 0 0=.slice A6 ss.length c6∧ss.length=k∧ss.map (·.c)=jQ ((ts.take k).map (·.c))∧(∀ y∈ss,y∈ts∧yz y.c=true)∧(∀ (i:Nat) t,i<k→ts[i]?=some t→yz t.c=true)∧w2.ownsRow (w.heap.size+2) 34 8 (.slice A6 ss.length c6) ss.length (ss.flatMap qC)∧zb w2 w.heap.size 48 (ξ x An cn Ac cc Au cu)∧zb w2 (w.heap.size+1) 48 ζ∧Below w.heap.size w w2 from ⟨0,[],none,0,Nat.zero_le _,rfl,rfl,rfl,rfl,fun y hy=>by simp at hy,fun i t hi=>by omega,World.ownsRow_nil _ _ _ _,HX.out,HY.out,HB.out⟩)
 clear HX HY HB x0 BU d0
 go_wp2_with fail
 go_loopw [6,27] (fun v6 vi wr=>∃ (k:Nat) (ss:List Ca) (A6:Option Addr) (c6:Nat),k≤ts.length∧vi=ι (k:Int)∧v6=.slice A6 ss.length c6∧ss.length=k∧ss.map (·.c)=jQ ((ts.take k).map (·.c))∧(∀ y∈ss,y∈ts∧yz y.c=true)∧(∀ (i:Nat) t,i<k→ts[i]?=some t→yz t.c=true)∧wr.ownsRow (w.heap.size+2) 34 8 (.slice A6 ss.length c6) ss.length (ss.flatMap qC)∧zb wr w.heap.size 48 (ξ x An cn Ac cc Au cu)∧zb wr (w.heap.size+1) 48 ζ∧Below w.heap.size w wr) (fun _ vi _=>ts.length - (intOf vi).toNat)
 case atStart=>exact HI.out
 case round=>
  obtain ⟨k,ss,A6,c6,hk,rfl,rfl,hss,hm1,hm2,hv,hO,hX,hY,hB⟩:=hrel
  have gK:=ħ (And.intro hss (And.intro hm1 hm2))
  have HV:=ħ hv
  have HO:=ħ hO
  have HX:=ħ hX
  have HY:=ħ hY
  have HB:=ħ hB
  have sK:ss.length≤1000:=by omega
  clear hss hm1 hm2 hv hO hX hY hB HI
  by_cases hlt:k<ts.length
  ·have hlt':(k:Int)<ts.length:=by omega
   have hix:=fun W=>VD hp c k hlt W
   obtain ⟨t,htk⟩:∃ t,t=ts[k]:=⟨_,rfl⟩
   have hr:wr.rangeAt (bk A) (qP A+k * 8) [ι t.c.call,ι t.c.inc,ι t.c.urg,.string t.c.code,.slice t.A t.c.nodes.length t.k,ι t.c.dist,ι t.c.since,.bool t.c.closed]:=by
    have:=jG (HR.out.below HB.out (fun k hk=>by first | exact hk | exact hk.1)) hlt
    rw[←htk] at this
    exact this
   have Ko:t∈ts:=by rw[htk];exact List.getElem_mem hlt
   have HG:=ħ (show ts[k]?=some t by rw[htk];exact List.getElem?_eq_getElem hlt)
   have Vt:=ħ (show ts.take (k+1)=ts.take k ++ [t] by rw[List.take_succ_eq_append_getElem hlt,←htk])
   clear htk
   have bn:=ħ (HX.out.alloc (.cells (χ t.c t.A t.k) 34))
   have xC:=ħ (HY.out.alloc (.cells (χ t.c t.A t.k) 34))
   have eX:=ħ (zb.new wr 34 (χ t.c t.A t.k))
   have dU:=ħ (own_below HO.out ((Below.refl wr.heap.size wr).alloc (Nat.le_refl _) (.cells (χ t.c t.A t.k) 34)) (fun g hg=>(HO.out.lt g hg).2))
   have Jb:=ħ (HB.out.alloc HB.out.size (.cells (χ t.c t.A t.k) 34))
   have EZ:=ħ (dX.out t Ko _ Jb.out)
   have x0:=eX.out.facts
   clear HX HB
   cases hq:yz t.c with
   | false=>
    have lH:=ħ (show ∃ y∈ts.map (·.c),yz y=false from ⟨t.c,List.mem_map_of_mem Ko,hq⟩)
    rw[hq] at EZ
    clear hq HY
    go_wp2_with (first | (refine wpList_load_mid rfl 34 _ rfl (bk A) (qP A+k * 8) rfl [ι t.c.call,ι t.c.inc,ι t.c.urg,.string t.c.code,.slice t.A t.c.nodes.length t.k,ι t.c.dist,ι t.c.since,.bool t.c.closed] _ hr Tryz.underlying34 rfl Jw ?_) | (go_at_call 70;((with_reducible refine EZ.out.mono ?_);rintro e w4 ⟨rfl,hb4⟩;have HY:=ħ (xC.out.below hb4 xC.out.lt);have HB:=ħ (Jb.out.trans (hb4.mono Jb.out.size));clear hb4)) | (refine z8 rfl (.tmp 4) (.tmp 34) 48 rfl (w.heap.size+1) 48 _ ζ _ 10 136 zJ rfl rfl rfl HY.out rfl (zH (by simp[Value.oneCell'])) ?_;intro w8 zW zI yL))
    refine bodyPost_ret (za (p:=4) (u:=5) (ty:=48) Tryz.results30 _ _ (w.heap.size+1) 48 ζ (0,0) _ rfl zW Tryz.underlying48 rfl qo) rfl ?_
    unfold yY;rw[UZ (.inr (.inr lH.out))]
    exact YX (HB.out.trans (zI.below HB.out.size (fun k hk e=>by omega)))
   | true=>
    have vg:=ħ (show ∀ (i:Nat) t,i<k+1→ts[i]?=some t→yz t.c=true from fun i t' hi hg=>by
     rcases (by omega:i<k∨i=k) with e | rfl
     ·exact HV.out i t' e hg
     ·rw[HG.out] at hg;injection hg with hg;rw[←hg];exact hq)
    have CX:=ħ (And.intro Ko hq)
    rw[hq] at EZ
    clear hq
    go_upto_region 9 with (first | (refine wpList_load_mid rfl 34 _ rfl (bk A) (qP A+k * 8) rfl [ι t.c.call,ι t.c.inc,ι t.c.urg,.string t.c.code,.slice t.A t.c.nodes.length t.k,ι t.c.dist,ι t.c.since,.bool t.c.closed] _ hr Tryz.underlying34 rfl Jw ?_) | (go_at_call 70;((with_reducible refine EZ.out.mono ?_);rintro e w4 ⟨rfl,hb4⟩;have hb5:=ħ hb4;clear hb4)))
    have jv:=ħ (bn.out.below hb5.out bn.out.lt)
    have Yy:=ħ (xC.out.below hb5.out xC.out.lt)
    have p_:=ħ (eX.out.below hb5.out eX.out.lt)
    have zP:=ħ (own_below dU.out hb5.out (fun g hg=>(dU.out.lt g hg).2))
    have Zp:=ħ (Jb.out.trans (hb5.out.mono Jb.out.size))
    have hs4:=Yy.out.lt
    clear bn xC eX dU Jb HO HY EZ hb5 x0 hr hix HR HV HG
    iterate 6 go_step
    rename_i KK hKK
    refine hKK _ _ ?_
    refine ZZ (c':=Q5 [true,true,true,false,true,false,false,true,true,false,false,true,true,true] (Tryz.f30.body.getD .skip)) (by kernel_rfl) ?_
    refine bH ss t A6 c6 _ _ w4 sK zP p_ _ _ _ _ _ _ _ _ _ _ _ _ _ _ _ _ _ _ _ _ _ _ _ _ _ _ _ _ _ _ _ _ _ _ _ _ _ _ _ _ _ _ _ _ _ _ _ _ _ _ _ _ _ _ _ _ _ _ _ _ _ _ _ _ _ _ _ _ _ _ _ _ _ _ _ _ _ _ _ _ _ _ _ _ _ _ _ _ _ _ _ _ _ _ _ _ _ _ _ _ _ _ _ _ _ _ _ _ _ _ _ _ _ _ _ _ _ _ _ _ _ _ _ _ _ _ _ _ _ _ _ _ _ _ ?_
    intro j A9 c9 wx v9 v10 v35 v36 v37 v38 v39 v40 v41 v42 v43 v44 v45 v46 v47 v48 v49 v50 v51 v52 v53 v54 v55 v56 v57 v58 v59 v60 v61 v62 v63 v64 v65 v66 v67 v68 v69 v70 v71 v72 v73 v74 v75 v76 v77 v78 v79 v80 v81 v82 v83 v84 hj hK LU ZK
    have Z5:=ħ LU
    have Z_:=ħ ZK
    have HK:=ħ hK
    have HJ:=ħ hj
    clear LU ZK hK hj
    dsimp only [Exit.inBlock,Exit.then]
    go_wp2_with fail
    obtain ⟨l1,l2,l3⟩:=gK.out
    refine ⟨⟨k+1,Ql ss j t,A9,c9,by omega,by go_num,rfl,by rw[KF t HJ.out];omega,?_,?_,vg.out,World.ownsRow.mono Z5.out (by omega),jv.out.below Z_.out jv.out.lt,Yy.out.below Z_.out Yy.out.lt,Zp.out.trans (Z_.out.mono Zp.out.size)⟩,by simp[intOf];omega⟩
    ·rw[Vt.out,List.map_append,List.map_cons,List.map_nil,um,←l2,Et HK.out]
    ·intro y hy
     rcases AX hy with rfl | hy
     ·exact CX.out
     ·exact l3 y hy
  ·have hlt':¬ (k:Int)<ts.length:=by omega
   have hk3:k=ts.length:=by omega
   subst hk3
   have iO:=HO.out
   have Ev:=xh iO
   have Ir:=(Reads.of_own iO).old (by omega) |>.more (B':=fun k=>k<wr.heap.size) (fun k hk=>hk.2)
   have u7:=ħ (show ∀ t∈ts,yz t.c=true from fun t ht=>by
    obtain ⟨i,hi,rfl⟩:=List.mem_iff_getElem.1 ht
    exact HV.out i _ hi (List.getElem?_eq_getElem hi))
   obtain ⟨l1,l2,l3⟩:=gK.out
   rw[List.take_of_length_le (Nat.le_refl _)] at l2
   have mD:=ħ (show zQ x.id 1=true by
    have:=mV.out
    unfold jC at this
    simp only[Bool.and_eq_true] at this
    exact this.1.1.1.1.1)
   clear dX HR HV gK HO
   go_upto_region 5 with (fail)
   iterate 14 go_step
   refine ZZ (c':=Q5 [true,true,true,true] (Tryz.f30.body.getD .skip)) (by kernel_rfl) ?_
   cases ss with
   | nil=>exfalso;simp at l1;omega
   | cons t0 r=>
    have hAn:qF x (ts.map (·.c))=match Zc (zt x.id t0.c) (r.map (·.c)) with | none=>(zO,5) | some y=>if x.merged≠0 then (zO,8) else (⟨x.id,y.urg,y.code,y.nodes,x.dist,y.since,y.calls,x.units,x.merged,x.closed⟩,0):=by
     unfold qF
     rw[if_neg (by
      rintro (h | h)
      ·rw[mV.out] at h;cases h
      ·have:=congrArg List.length h;simp at this;rw[this] at hpos;simp at hpos),if_neg (by
      rw[Bool.not_eq_false,List.all_eq_true]
      intro c hc
      obtain ⟨t,ht,rfl⟩:=List.mem_map.1 hc
      exact u7.out t ht),←l2]
     rfl
    exact av D x An Ac Au cn cc cu t0 r (ts.map (·.c)) A6 c6 (t0 :: r).length w wr sK Ev HU HX HY HB (ħ rfl) (ħ Ir) (ħ (fun t ht=>⟨(l3 t ht).2,Bz.out t (l3 t ht).1,HL.out t (l3 t ht).1⟩)) mD (ħ hAn) _ _ _ _ _ _ _ _ _ _ _ _ _ _ _ _ _ _ _ _ _ _ _ _ _ _ _ _ _ _ _ _ _ _ _ _ _ _ _ _ _ _ _ _ _ _ _ _ _ _ _ _ _ _ _ _ _ _ _ _ _ _ _ _ _ _ _ _ _ _ _ _ _ _ _ _ _ _ _ _ _ _ _ _ _ _ _ _ _ _ _ _ _ _ _ _ _ _ _ _ _ _ _ _ _ _ _ _ _ _ _ _ _ _ _ _ _ _ _ _ _ _ _ _ _ _ _ _ _ _ _ _ _
end Go.Proofs.YtdhcjhfgibmhfaaGreatDoor
namespace Go.Proofs.YtdhcjhfgibmhfaaGreatDoor
open Go.RowKit Go.Own Go.Quo Go.Inc
def Yz (a:Xa):List Value:=[ι a.x.id,ι a.x.urg,.string a.x.code,.slice a.An a.x.nodes.length a.cn,ι a.x.dist,ι a.x.since,.slice a.Ac a.x.calls.length a.cc,.slice a.Au a.x.units.length a.cu,ι a.x.merged,.bool a.x.closed]
structure XR (w:World) (B:Nat→Prop) (a:Xa):Prop where
 n:RI w B a.An a.x.nodes
 c:RI w B a.Ac a.x.calls
 u:RI w B a.Au a.x.units
section
variable {w w':World} {B B' S:Nat→Prop}
theorem XR.fr {a:Xa}(h:XR w B a)(hf:Fr S w w')(hS:∀ k,B k→¬ S k):XR w' B a:=⟨h.n.fr hf hS,h.c.fr hf hS,h.u.fr hf hS⟩
theorem XR.below {a:Xa}(h:XR w B a)(hb:Below w.heap.size w w'):XR w' B a:=h.fr (S:=fun _=>False) (Fr.of_below hb) (fun _ _ e=>e)
theorem XR.more {a:Xa}(h:XR w B a)(hB:∀ k,B k→B' k):XR w B' a:=⟨h.n.more hB,h.c.more hB,h.u.more hB⟩
theorem zl {A:Option Addr}{l:List Int}(h:RI w B A l)(hb:Below w.heap.size w w'):RI w' B A l:=h.fr (S:=fun _=>False) (Fr.of_below hb) (fun _ _ e=>e)
theorem yD {A:Option Addr}{n size:Nat}{xs:List Value}(h:Reads w B size A n xs)(hb:Below w.heap.size w w'):Reads w' B size A n xs:=h.fr (S:=fun _=>False) (Fr.of_below hb) (fun _ _ e=>e)
end
structure Bv where
 la:List Xa
 AL:Option Addr
 cL:Nat
 lc:List Ca
 AC:Option Addr
 cC:Nat
def Bv.bk (v:Bv):Bk:=⟨v.la.map (·.x),v.lc.map (·.c)⟩
abbrev YW (v:Bv):Value:=.agg #[.slice v.AL v.la.length v.cL,.slice v.AC v.lc.length v.cC]
structure zX (w:World) (B:Nat→Prop) (v:Bv):Prop where
 rl:Reads w B 10 v.AL v.la.length (v.la.flatMap Yz)
 xl:∀ a∈v.la,XR w B a
 rc:Reads w B 8 v.AC v.lc.length (v.lc.flatMap qC)
 xc:∀ t∈v.lc,RI w B t.A t.c.nodes
section
variable {w w':World} {B B' S:Nat→Prop}
theorem zX.fr {v:Bv}(h:zX w B v)(hf:Fr S w w')(hS:∀ k,B k→¬ S k):zX w' B v:=
 ⟨h.rl.fr hf hS,fun a ha=>(h.xl a ha).fr hf hS,h.rc.fr hf hS,fun t ht=>(h.xc t ht).fr hf hS⟩
theorem zX.below {v:Bv}(h:zX w B v)(hb:Below w.heap.size w w'):zX w' B v:=h.fr (S:=fun _=>False) (Fr.of_below hb) (fun _ _ e=>e)
theorem zX.alloc {v:Bv}(h:zX w B v)(o:Obj):zX (w.alloc o) B v:=h.below ((Below.refl _ _).alloc (Nat.le_refl _) o)
end
structure PW (w:World) (p mc mi mh:Nat) (kc ki kh:List (Int × Value)):Prop where
 P:zb w p 89 #[.map (some mc),.map (some mi),.map (some mh)]
 bc:zF w mc .i64 kc
 bi:zF w mi .i64 ki
 bh:zF w mh .i64 kh
 ne:mc≠mi∧mc≠mh∧mi≠mh
def Bq (p mc mi mh k:Nat):Prop:=k≠p∧k≠mc∧k≠mi∧k≠mh
def Sq (p mc mi mh k:Nat):Prop:=k=p∨k=mc∨k=mi∨k=mh
theorem qh {p mc mi mh k:Nat}(h:Bq p mc mi mh k):¬ Sq p mc mi mh k:=by unfold Bq at h;unfold Sq;omega
section
variable {w w':World} {p mc mi mh:Nat} {kc ki kh:List (Int × Value)}
theorem PW.al (h:PW w p mc mi mh kc ki kh):(p<w.heap.size∧(∀ i:Nat,w.cell? ⟨p,i,none⟩=(#[.map (some mc),.map (some mi),.map (some mh)]:Array Value)[i]?)∧∀ i:Nat,w.frozen? ⟨p,i,none⟩=false)∧zF w mc .i64 kc∧zF w mi .i64 ki∧zF w mh .i64 kh∧mc<w.heap.size∧mi<w.heap.size∧mh<w.heap.size:=
 ⟨h.P.facts,h.bc,h.bi,h.bh,h.bc.lt,h.bi.lt,h.bh.lt⟩
theorem PW.below (h:PW w p mc mi mh kc ki kh)(hb:Below w.heap.size w w'):PW w' p mc mi mh kc ki kh:=
 ⟨h.P.below hb h.P.lt,h.bc.below hb h.bc.lt,h.bi.below hb h.bi.lt,h.bh.below hb h.bh.lt,h.ne⟩
theorem PW.alloc (h:PW w p mc mi mh kc ki kh)(o:Obj):PW (w.alloc o) p mc mi mh kc ki kh:=h.below ((Below.refl _ _).alloc (Nat.le_refl _) o)
theorem PW.lt (h:PW w p mc mi mh kc ki kh):p<w.heap.size∧mc<w.heap.size∧mi<w.heap.size∧mh<w.heap.size:=⟨h.P.lt,h.bc.lt,h.bi.lt,h.bh.lt⟩
theorem PW.fresh (h:PW w p mc mi mh kc ki kh){k:Nat}(hk:w.heap.size≤k):Bq p mc mi mh k:=by
 obtain ⟨a,b,c,d⟩:=h.lt
 unfold Bq;omega
theorem PW.putC (h:PW w p mc mi mh kc ki kh)(k:Int)(v:Value):PW (mput w mc .i64 k v) p mc mi mh (yg kc k v) ki kh:=
 ⟨h.P.mput mc .i64 k v,h.bc.put k v,h.bi.mput_far h.ne.1.symm k v,h.bh.mput_far h.ne.2.1.symm k v,h.ne⟩
theorem PW.putI (h:PW w p mc mi mh kc ki kh)(k:Int)(v:Value):PW (mput w mi .i64 k v) p mc mi mh kc (yg ki k v) kh:=
 ⟨h.P.mput mi .i64 k v,h.bc.mput_far h.ne.1 k v,h.bi.put k v,h.bh.mput_far h.ne.2.2.symm k v,h.ne⟩
theorem PW.putH (h:PW w p mc mi mh kc ki kh)(k:Int)(v:Value):PW (mput w mh .i64 k v) p mc mi mh kc ki (yg kh k v):=
 ⟨h.P.mput mh .i64 k v,h.bc.mput_far h.ne.2.1 k v,h.bi.mput_far h.ne.2.2 k v,h.bh.put k v,h.ne⟩
theorem PW.delH (h:PW w p mc mi mh kc ki kh)(k:Int):PW (mdel w mh .i64 k) p mc mi mh kc ki (Yv kh k):=
 ⟨h.P.mdel mh .i64 k,h.bc.mdel_far h.ne.2.1 k,h.bi.mdel_far h.ne.2.2 k,h.bh.del k,h.ne⟩
end
theorem Zk (qg:List (Int × Value))(k:Int)(v:Value)(j:Int):zn (yg qg k v) j=if j=k then some v else zn qg j:=by
 induction qg with
 | nil=>
  unfold yg zn
  by_cases h:j=k
  ·subst h;simp
  ·have:¬ k=j:=fun e=>h e.symm
   simp[h,this]
 | cons a r ih=>
  unfold yg
  by_cases h1:a.1=k
  ·rw[if_pos (by simpa using h1)]
   unfold zn
   by_cases h:j=k
   ·subst h;simp
   ·have e1:¬ k=j:=fun e=>h e.symm
    have e2:¬ a.1=j:=fun e=>h (e ▸ h1)
    simp[e1,e2,h]
  ·rw[if_neg (by simpa using h1)]
   unfold zn at ih⊢
   by_cases h2:a.1=j
   ·have:¬ j=k:=fun e=>h1 (h2.trans e)
    simp[h2,this]
   ·have e:(a.1 == j)=false:=by simpa using h2
    rw[List.find?_cons,List.find?_cons,e]
    exact ih
theorem Ah (qg:List (Int × Value))(k:Int)(v:Value)(j:Int):j∈(yg qg k v).map (·.1)↔j=k∨j∈qg.map (·.1):=by
 induction qg with
 | nil=>simp[yg]
 | cons a r ih=>
  unfold yg
  by_cases h1:a.1=k
  ·rw[if_pos (by simpa using h1)]
   rw[List.map_cons,List.map_cons,List.mem_cons,List.mem_cons,h1]
   constructor
   ·rintro (h | h)
    ·exact .inl h
    ·exact .inr (.inr h)
   ·rintro (h | h | h)
    ·exact .inl h
    ·exact .inl h
    ·exact .inr h
  ·rw[if_neg (by simpa using h1),List.map_cons,List.map_cons,List.mem_cons,List.mem_cons,ih]
   constructor
   ·rintro (h | h | h)
    ·exact .inr (.inl h)
    ·exact .inl h
    ·exact .inr (.inr h)
   ·rintro (h | h | h)
    ·exact .inr (.inl h)
    ·exact .inl h
    ·exact .inr (.inr h)
theorem Qc {qg:List (Int × Value)}(h:(qg.map (·.1)).Nodup)(k:Int)(v:Value):((yg qg k v).map (·.1)).Nodup:=by
 induction qg with
 | nil=>simp[yg]
 | cons a r ih=>
  obtain ⟨h1,h2⟩:=List.nodup_cons.1 h
  unfold yg
  by_cases e:a.1=k
  ·rw[if_pos (by simpa using e),List.map_cons]
   exact List.nodup_cons.2 ⟨by rw[←e];exact h1,h2⟩
  ·rw[if_neg (by simpa using e),List.map_cons]
   refine List.nodup_cons.2 ⟨fun hm=>?_,ih h2⟩
   rcases (Ah r k v a.1).1 hm with h3 | h3
   ·exact e h3
   ·exact h1 h3
theorem G8 {qg:List (Int × Value)}{k:Int}{v:Value}(h:zn qg k=some v):k∈qg.map (·.1):=by
 unfold zn at h
 cases hf:qg.find? (·.1 == k) with
 | none=>rw[hf] at h;cases h
 | some p=>
  have h1:=List.mem_of_find?_eq_some hf
  have h2:p.1=k:=by simpa using List.find?_some hf
  exact List.mem_map.2 ⟨p,h1,h2⟩
theorem T9 {qg:List (Int × Value)}{k:Int}(h:zn qg k=none):k∉qg.map (·.1):=by
 unfold zn at h
 intro hm
 obtain ⟨p,hp,e⟩:=List.mem_map.1 hm
 cases hf:qg.find? (·.1 == k) with
 | none=>exact absurd (List.find?_eq_none.1 hf p hp) (by simpa using e)
 | some p=>rw[hf] at h;cases h
theorem ET {qg:List (Int × Value)}(h:(qg.map (·.1)).Nodup)(k:Int):((Yv qg k).map (·.1)).Nodup∧∀ j,zn (Yv qg k) j=if j=k then none else zn qg j:=by
 induction qg with
 | nil=>
  refine ⟨by simp[Yv],fun j=>?_⟩
  have:zn (Yv [] k) j=none:=rfl
  have h2:zn [] j=none:=rfl
  rw[this,h2];simp
 | cons a r ih=>
  obtain ⟨h1,h2⟩:=List.nodup_cons.1 h
  obtain ⟨i1,i2⟩:=ih h2
  unfold Yv at i1 i2⊢
  by_cases e:a.1=k
  ·have ek:(a.1 == k)=true:=by simpa using e
   rw[List.eraseP_cons_of_pos (p:=fun x:Int × Value=>x.1 == k) ek]
   refine ⟨h2,fun j=>?_⟩
   by_cases hj:j=k
   ·rw[if_pos hj]
    cases hg:zn r j with
    | none=>rfl
    | some v=>exact absurd (G8 hg) (by rw[hj,←e];exact h1)
   ·rw[if_neg hj]
    have:(a.1 == j)=false:=by simpa using (fun q=>hj (q.symm.trans e):¬ a.1=j)
    unfold zn
    rw[List.find?_cons,this]
  ·have ek:¬ (a.1 == k)=true:=by simpa using e
   rw[List.eraseP_cons_of_neg (p:=fun x:Int × Value=>x.1 == k) ek]
   refine ⟨?_,fun j=>?_⟩
   ·rw[List.map_cons]
    refine List.nodup_cons.2 ⟨fun hm=>h1 ?_,i1⟩
    obtain ⟨q,hq,e2⟩:=List.mem_map.1 hm
    exact List.mem_map.2 ⟨q,List.mem_of_mem_eraseP hq,e2⟩
   ·unfold zn at i2⊢
    by_cases hj:a.1=j
    ·have h3:(a.1 == j)=true:=by simpa using hj
     have h4:¬ j=k:=fun q=>e (hj.trans q)
     rw[List.find?_cons,List.find?_cons,h3,if_neg h4]
    ·have h3:(a.1 == j)=false:=by simpa using hj
     rw[List.find?_cons,List.find?_cons,h3]
     exact i2 j
structure CM (w:World) (B:Nat→Prop) (qg:List (Int × Value)) (C:List Cr):Prop where
 nd:(qg.map (·.1)).Nodup
 at_:∀ t∈C,∃ A k,zn qg t.call=some (uy ⟨t,A,k⟩)∧RI w B A t.nodes
 no:∀ k,(∀ t∈C,t.call≠k)→zn qg k=none
structure IM (w:World) (B:Nat→Prop) (qg:List (Int × Value)) (L:List Ic):Prop where
 nd:(qg.map (·.1)).Nodup
 at_:∀ x∈L,∃ a:Xa,a.x=x∧zn qg x.id=some (BJ a)∧XR w B a
 no:∀ k,(∀ x∈L,x.id≠k)→zn qg k=none
structure HM (qg:List (Int × Value)) (L:List Ic):Prop where
 nd:(qg.map (·.1)).Nodup
 at_:∀ x∈L,∀ u∈x.units,zn qg u=some (ι x.id)
 no:∀ u,(∀ x∈L,u∉x.units)→zn qg u=none
def PI (w:World)(p mc mi mh:Nat)(b:Bk):Prop:=
 ∃ kc ki kh,PW w p mc mi mh kc ki kh∧CM w (Bq p mc mi mh) kc b.C∧IM w (Bq p mc mi mh) ki b.L∧HM kh b.L
section
variable {w w':World} {B S:Nat→Prop} {qg:List (Int × Value)} {C:List Cr} {L:List Ic}
theorem CM.fr (h:CM w B qg C)(hf:Fr S w w')(hS:∀ k,B k→¬ S k):CM w' B qg C:=
 ⟨h.nd,fun t ht=>by obtain ⟨A,k,h1,h2⟩:=h.at_ t ht;exact ⟨A,k,h1,h2.fr hf hS⟩,h.no⟩
theorem IM.fr (h:IM w B qg L)(hf:Fr S w w')(hS:∀ k,B k→¬ S k):IM w' B qg L:=
 ⟨h.nd,fun t ht=>by obtain ⟨a,h0,h1,h2⟩:=h.at_ t ht;exact ⟨a,h0,h1,h2.fr hf hS⟩,h.no⟩
theorem CM.below (h:CM w B qg C)(hb:Below w.heap.size w w'):CM w' B qg C:=h.fr (S:=fun _=>False) (Fr.of_below hb) (fun _ _ e=>e)
theorem IM.below (h:IM w B qg L)(hb:Below w.heap.size w w'):IM w' B qg L:=h.fr (S:=fun _=>False) (Fr.of_below hb) (fun _ _ e=>e)
theorem CM.put (h:CM w B qg C)(hC:Asc Cr.call C)(t:Cr)(A:Option Addr)(k:Nat)(hr:RI w B A t.nodes):CM w B (yg qg t.call (uy ⟨t,A,k⟩)) (zG C t):=by
 refine ⟨Qc h.nd _ _,fun u hu=>?_,fun j hj=>?_⟩
 ·rw[Zk]
  rcases qc.1 hu with rfl | ⟨h1,h2⟩
  ·rw[if_pos rfl];exact ⟨A,k,rfl,hr⟩
  ·rw[if_neg h2];exact h.at_ u h1
 ·rw[Zk]
  have h1:j≠t.call:=fun e=>hj t (qc.2 (.inl rfl)) e.symm
  rw[if_neg h1]
  refine h.no j (fun u hu e=>?_)
  exact hj u (qc.2 (.inr ⟨hu,by omega⟩)) e
theorem IM.put (h:IM w B qg L)(hL:Asc Ic.id L)(a:Xa)(hr:XR w B a):IM w B (yg qg a.x.id (BJ a)) (zz L a.x):=by
 refine ⟨Qc h.nd _ _,fun u hu=>?_,fun j hj=>?_⟩
 ·rw[Zk]
  rcases zK.1 hu with rfl | ⟨h1,h2⟩
  ·rw[if_pos rfl];exact ⟨a,rfl,rfl,hr⟩
  ·rw[if_neg h2];exact h.at_ u h1
 ·rw[Zk]
  have h1:j≠a.x.id:=fun e=>hj a.x (zK.2 (.inl rfl)) e.symm
  rw[if_neg h1]
  refine h.no j (fun u hu e=>?_)
  exact hj u (zK.2 (.inr ⟨hu,by omega⟩)) e
end
section
variable {w w':World} {p mc mi mh:Nat} {b:Bk}
theorem PI.below (h:PI w p mc mi mh b)(hb:Below w.heap.size w w'):PI w' p mc mi mh b:=by
 obtain ⟨kc,ki,kh,h1,h2,h3,h4⟩:=h
 exact ⟨kc,ki,kh,h1.below hb,h2.below hb,h3.below hb,h4⟩
theorem PI.alloc (h:PI w p mc mi mh b)(o:Obj):PI (w.alloc o) p mc mi mh b:=h.below ((Below.refl _ _).alloc (Nat.le_refl _) o)
end
end Go.Proofs.YtdhcjhfgibmhfaaGreatDoor
namespace Go
abbrev β (v:Proofs.YtdhcjhfgibmhfaaGreatDoor.Bv):Array Value:=#[.slice v.AL v.la.length v.cL,.slice v.AC v.lc.length v.cC]
end Go
namespace Go.Proofs.YtdhcjhfgibmhfaaGreatDoor
open Go.RowKit Go.Own Go.Quo Go.Inc
theorem gQ (B:Nat→Prop)(id urg dist since merged:Int)(code:ByteArray)(nodes calls units:List Int)(An Ac Au:Option Addr)(cn cc cu:Nat)(closed:Bool)(w:World)
 (hn:RI w B An nodes) (hc:RI w B Ac calls) (hu:RI w B Au units) (hln:nodes.length≤100000) (hlc:calls.length≤100000) (Gv:units.length≤100000) :
 Calls Tryz.prog 62 #[.agg #[ι id,ι urg,.string code,.slice An nodes.length cn,ι dist,ι since,.slice Ac calls.length cc,.slice Au units.length cu,ι merged,.bool closed]] w (Vu ⟨id,urg,code,nodes,dist,since,calls,units,merged,closed⟩ w):=by
 have HX:=ħ ((zb.new w 48 #[ι id,ι urg,.string code,.slice An nodes.length cn,ι dist,ι since,.slice Ac calls.length cc,.slice Au units.length cu,ι merged,.bool closed]).alloc (.cells ζ 48))
 have HY:=ħ (show zb ((w.alloc (.cells #[ι id,ι urg,.string code,.slice An nodes.length cn,ι dist,ι since,.slice Ac calls.length cc,.slice Au units.length cu,ι merged,.bool closed] 48)).alloc (.cells ζ 48)) (w.heap.size+1) 48 ζ by
  have:=zb.new (w.alloc (.cells #[ι id,ι urg,.string code,.slice An nodes.length cn,ι dist,ι since,.slice Ac calls.length cc,.slice Au units.length cu,ι merged,.bool closed] 48)) 48 ζ
  simpa using this)
 have HN:=ħ ((hn.alloc (.cells #[ι id,ι urg,.string code,.slice An nodes.length cn,ι dist,ι since,.slice Ac calls.length cc,.slice Au units.length cu,ι merged,.bool closed] 48)).alloc (.cells ζ 48))
 have HC:=ħ ((hc.old (by omega)).more (B':=fun k=>k<w.heap.size) (fun k hk=>hk.2))
 have HU:=ħ ((hu.old (by omega)).more (B':=fun k=>k<w.heap.size) (fun k hk=>hk.2))
 have HB:=ħ (((Below.refl w.heap.size w).alloc (Nat.le_refl _) (.cells #[ι id,ι urg,.string code,.slice An nodes.length cn,ι dist,ι since,.slice Ac calls.length cc,.slice Au units.length cu,ι merged,.bool closed] 48)).alloc (by simp) (.cells ζ 48))
 clear hn hc hu
 go_enter Tryz.func62,Tryz.ntmps62
 go_upto_region 1 with (fail)
 have HS:=ħ (show w.heap.size+2≤((w.alloc (.cells #[ι id,ι urg,.string code,.slice An nodes.length cn,ι dist,ι since,.slice Ac calls.length cc,.slice Au units.length cu,ι merged,.bool closed] 48)).alloc (.cells ζ 48)).heap.size by simp)
 generalize (w.alloc _).alloc _=W at *
 have x0:=HX.out.facts
 go_upto_region 2 with (go_at_call 54;((with_reducible refine (Zd B An cn nodes _ HN.out hln).mono ?_);rintro e w2 ⟨A2,c2,rfl,ho2,hb2⟩;have zk:=ħ ho2;have Zo:=ħ (HX.out.below hb2 HX.out.lt);have vR:=ħ (HY.out.below hb2 HY.out.lt);have HB2:=ħ (HB.out.trans (hb2.mono HB.out.size));have hs2:=ħ hb2.size;clear ho2 hb2 x0;have z0:=Zo.out.facts))
 have qx:=ħ (show zb (w2.setCell ⟨w.heap.size,3,none⟩ (.slice A2 nodes.length c2)) w.heap.size 48 #[ι id,ι urg,.string code,.slice A2 nodes.length c2,ι dist,ι since,.slice Ac calls.length cc,.slice Au units.length cu,ι merged,.bool closed] by have:=Zo.out.set_ 3 (.slice A2 nodes.length c2);simpa using this)
 have RF:=ħ (vR.out.far (p:=⟨w.heap.size,3,none⟩) (by simp) (.slice A2 nodes.length c2))
 have zC:=ħ (ownsRow_setCell_below (World.ownsRow.mono zk.out HS.out) (a:=⟨w.heap.size,3,none⟩) (by simp) (.slice A2 nodes.length c2))
 have HB3:=ħ (HB2.out.setCell (p:=⟨w.heap.size,3,none⟩) (Nat.le_refl _) (.slice A2 nodes.length c2))
 have rC:=ħ (HC.out.below HB3.out (fun k hk=>hk))
 have hs3:=ħ (show W.heap.size≤(w2.setCell ⟨w.heap.size,3,none⟩ (.slice A2 nodes.length c2)).heap.size by rw[World.size_setCell];exact hs2.out)
 clear Zo vR zk HB2 HN HX HY HB z0
 generalize w2.setCell _ _=W3 at *
 have x0:=qx.out.facts
 go_upto_region 3 with (go_at_call 85;((with_reducible refine (XM _ Ac cc calls _ rC.out hlc).mono ?_);rintro e w3 ⟨A3,c3,rfl,jW,hb4⟩;have zP:=ħ (World.ownsRow.mono jW (show w.heap.size+2≤W3.heap.size from Nat.le_trans HS.out (hs3.out)));have bM:=ħ (own_below zC.out hb4 (fun g hg=>(zC.out.lt g hg).2));have jv:=ħ (qx.out.below hb4 qx.out.lt);have Yy:=ħ (RF.out.below hb4 RF.out.lt);have Zp:=ħ (HB3.out.trans (hb4.mono HB3.out.size));have hs4:=ħ (Nat.le_trans hs3.out hb4.size);clear jW hb4 x0;have z0:=jv.out.facts))
 have jq:=ħ (show zb (w3.setCell ⟨w.heap.size,6,none⟩ (.slice A3 calls.length c3)) w.heap.size 48 #[ι id,ι urg,.string code,.slice A2 nodes.length c2,ι dist,ι since,.slice A3 calls.length c3,.slice Au units.length cu,ι merged,.bool closed] by have:=jv.out.set_ 6 (.slice A3 calls.length c3);simpa using this)
 have J9:=ħ (Yy.out.far (p:=⟨w.heap.size,6,none⟩) (by simp) (.slice A3 calls.length c3))
 have qm:=ħ (ownsRow_setCell_below bM.out (a:=⟨w.heap.size,6,none⟩) (by simp) (.slice A3 calls.length c3))
 have BD:=ħ (ownsRow_setCell_below zP.out (a:=⟨w.heap.size,6,none⟩) (by simp) (.slice A3 calls.length c3))
 have ZN:=ħ (Zp.out.setCell (p:=⟨w.heap.size,6,none⟩) (Nat.le_refl _) (.slice A3 calls.length c3))
 have BO:=ħ (HU.out.below ZN.out (fun k hk=>hk))
 have hs5:=ħ (show W.heap.size≤(w3.setCell ⟨w.heap.size,6,none⟩ (.slice A3 calls.length c3)).heap.size by rw[World.size_setCell];exact hs4.out)
 clear jv Yy zP bM Zp qx RF zC HB3 rC HC z0
 generalize w3.setCell _ _=W5 at *
 have x0:=jq.out.facts
 go_upto_region 4 with (go_at_call 54;((with_reducible refine (Zd _ Au cu units _ BO.out Gv).mono ?_);rintro e w4 ⟨A4,c4,rfl,aQ,hb6⟩;have yS:=ħ (World.ownsRow.mono aQ (show w.heap.size+2≤W5.heap.size from Nat.le_trans HS.out hs5.out));have kT:=ħ (own_below qm.out hb6 (fun g hg=>(qm.out.lt g hg).2));have Dm:=ħ (own_below BD.out hb6 (fun g hg=>(BD.out.lt g hg).2));have ZI:=ħ (jq.out.below hb6 jq.out.lt);have U6:=ħ (J9.out.below hb6 J9.out.lt);have Qq:=ħ (ZN.out.trans (hb6.mono ZN.out.size));clear aQ hb6 x0;have z0:=ZI.out.facts))
 have Kn:=ħ (show zb (w4.setCell ⟨w.heap.size,7,none⟩ (.slice A4 units.length c4)) w.heap.size 48 #[ι id,ι urg,.string code,.slice A2 nodes.length c2,ι dist,ι since,.slice A3 calls.length c3,.slice A4 units.length c4,ι merged,.bool closed] by have:=ZI.out.set_ 7 (.slice A4 units.length c4);simpa using this)
 have RZ:=ħ (U6.out.far (p:=⟨w.heap.size,7,none⟩) (by simp) (.slice A4 units.length c4))
 have ZM:=ħ (ownsRow_setCell_below kT.out (a:=⟨w.heap.size,7,none⟩) (by simp) (.slice A4 units.length c4))
 have cK:=ħ (ownsRow_setCell_below yS.out (a:=⟨w.heap.size,7,none⟩) (by simp) (.slice A4 units.length c4))
 have iG:=ħ (ownsRow_setCell_below Dm.out (a:=⟨w.heap.size,7,none⟩) (by simp) (.slice A4 units.length c4))
 have Z7:=ħ (Qq.out.setCell (p:=⟨w.heap.size,7,none⟩) (Nat.le_refl _) (.slice A4 units.length c4))
 clear ZI U6 yS kT Qq Dm jq J9 qm ZN BD BO HU z0
 generalize w4.setCell _ _=W7 at *
 have x0:=Kn.out.facts
 have hy:=RZ.out
 go_wp2_with (refine z8 rfl (.tmp 2) (.tmp 15) 48 rfl (w.heap.size+1) 48 _ #[ι id,ι urg,.string code,.slice A2 nodes.length c2,ι dist,ι since,.slice A3 calls.length c3,.slice A4 units.length c4,ι merged,.bool closed] _ 10 136 zJ rfl rfl rfl hy rfl (by intro u hu;simp at hu;rcases hu with rfl | rfl | rfl | rfl | rfl | rfl | rfl | rfl | rfl | rfl <;> rfl) ?_;intro w8 zW zI yL)
 refine bodyPost_ret (results_cell_row (p:=2) (ty:=48) Tryz.results62 _ w8 (w.heap.size+1) 48 #[ι id,ι urg,.string code,.slice A2 nodes.length c2,ι dist,ι since,.slice A3 calls.length c3,.slice A4 units.length c4,ι merged,.bool closed] (0,0) _ rfl zW Tryz.underlying48 rfl qo) rfl ?_
 refine ⟨A2,A3,A4,c2,c3,c4,rfl,?_,?_,?_,?_⟩
 ·exact World.ownsRow.mono (zY ZM.out zI (fun g hg e=>by have:=(ZM.out.lt g hg).1;omega)) (by omega)
 ·exact World.ownsRow.mono (zY iG.out zI (fun g hg e=>by have:=(iG.out.lt g hg).1;omega)) (by omega)
 ·exact World.ownsRow.mono (zY cK.out zI (fun g hg e=>by have:=(cK.out.lt g hg).1;omega)) (by omega)
 ·exact Z7.out.trans (zI.below (by have:=Z7.out.size;exact this) (fun k hk e=>by omega))
end Go.Proofs.YtdhcjhfgibmhfaaGreatDoor

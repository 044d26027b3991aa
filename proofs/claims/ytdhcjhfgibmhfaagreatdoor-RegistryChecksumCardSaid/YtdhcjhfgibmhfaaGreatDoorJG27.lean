import Derived.Test.YtdhcjhfgibmhfaaGreatDoorJG26
import Derived.Test.YtdhcjhfgibmhfaaGreatDoorJG21
import Derived.Test.YtdhcjhfgibmhfaaGreatDoorJG1
set_option linter.unusedVariables false
set_option linter.unusedSimpArgs false
set_option maxRecDepth 100000
set_option maxHeartbeats 8000000
namespace Go.Proofs.YtdhcjhfgibmhfaaGreatDoor
open Go.RowKit Go.Own Go.Quo Go.Inc
theorem Wp:(Tryz.prog.info? 36).map (fun i=>(i.zero,i.size,i.bytes))=some (some (.agg #[ι 0,ι 0,ι 0,ι 0,.string ⟨#[]⟩,.slice none 0 0,ι 0,ι 0,.bool false,ι 0,ι 0,ι 0,ι 0]),13,128):=by kernel_rfl
theorem uH:(Tryz.prog.info? 36).map (·.size)=some 13:=by kernel_rfl
theorem Aw {A:Option Addr}{n:Nat}(hA:Plain A n)(c k:Nat)(hk:k<n)(w:World):(Instr.indexAt 22 (.slice A n c) (ι (k:Int))).run Tryz.prog w=.ok (.pointer (some ⟨bk A,qP A+k * 13,none⟩)) w:=by
 obtain ⟨i,h1,h2,h3,_⟩:=info_parts Wp
 exact jk (P:=Tryz.prog) Tryz.underlying22 h1 h3 hA c k hk w
theorem Vh {w:World}{B:Nat→Prop}{A:Option Addr}{l:List Av}(h:Reads w B 13 A l.length (l.flatMap Bd)){k:Nat}(hk:k<l.length):w.rangeAt (bk A) (qP A+k * 13) (Bd l[k]):=Jf Bd 13 (by omega) (fun _=>rfl) h hk
def Qm (l:List Av):Bool:=l.all (fun a=>jU a.t.c) && decide (l.length≤40)
theorem dN {l:List Av}{k:Nat}(hk:k<l.length)(hs:jU l[k].t.c=false):Qm l=false:=by
 unfold Qm
 rw[Bool.and_eq_false_iff];left
 rw[List.all_eq_false]
 exact ⟨l[k],List.getElem_mem hk,by simp[hs]⟩
theorem aF {l:List Av}(h:∀ j,∀ hj:j<l.length,jU l[j].t.c=true):Qm l=decide (l.length≤40):=by
 unfold Qm
 have:l.all (fun a=>jU a.t.c)=true:=by
  rw[List.all_eq_true]
  intro x hx
  obtain ⟨j,hj,rfl⟩:=List.mem_iff_getElem.1 hx
  exact h j hj
 rw[this,Bool.true_and]
theorem KX (t:Ca)(f:Bool)(hf:jU t.c=f)(w:World):Calls Tryz.prog 35 #[.agg (χ t.c t.A t.k)] w (qX f w):=hf ▸ dF t w
theorem uW (B:Nat→Prop)(A:Option Addr)(c:Nat)(l:List Av)(w:World)(h:Reads w B 13 A l.length (l.flatMap Bd))(hm:l.length≤9223372036854775807) :
 Calls Tryz.prog 11 #[.slice A l.length c] w (qX (Qm l) w):=by
 have hits:=(h.old (by omega)).more (B':=(· < w.heap.size)) (fun k hk=>hk.2)
 have hp:=hits.plain (by omega)
 have HI:=ħ hits
 clear h hits
 go_enter Tryz.func11,Tryz.ntmps11
 go_wp2_with fail
 go_loopw [7] (fun i wr=>∃ k:Nat,k≤l.length∧i=ι (k:Int)∧(∀ j,∀ hj:j<l.length,j<k→jU l[j].t.c=true)∧Below w.heap.size w wr) (fun i _=>l.length - (intOf i).toNat)
 case atStart=>exact ⟨0,Nat.zero_le _,rfl,fun j hj h=>by omega,Below.refl _ _⟩
 case round=>
  obtain ⟨k,hk,rfl,hall,hbel⟩:=hrel
  have u7:=ħ hall
  have HB:=ħ hbel
  clear hall hbel
  by_cases hlt:k<l.length
  ·have hlt':(k:Int)<l.length:=by omega
   have hix:=fun W=>Aw hp c k hlt W
   obtain ⟨a,ha⟩:∃ a,a=l[k]:=⟨_,rfl⟩
   have hr:wr.rangeAt (bk A) (qP A+k * 13) [ι a.kind,ι a.t.c.call,ι a.t.c.inc,ι a.t.c.urg,.string a.t.c.code,.slice a.t.A a.t.c.nodes.length a.t.k,ι a.t.c.dist,ι a.t.c.since,.bool a.t.c.closed,ι a.id,ι a.a,ι a.b,ι a.unit]:=by
    have:=Vh (HI.out.below HB.out (fun j hj=>hj)) hlt
    rw[←ha] at this;exact this
   have HA:=ħ ha
   clear ha
   go_upto_region 4 with (refine wpList_load_mid rfl 36 _ rfl (bk A) (qP A+k * 13) rfl [ι a.kind,ι a.t.c.call,ι a.t.c.inc,ι a.t.c.urg,.string a.t.c.code,.slice a.t.A a.t.c.nodes.length a.t.k,ι a.t.c.dist,ι a.t.c.since,.bool a.t.c.closed,ι a.id,ι a.a,ι a.b,ι a.unit] _ hr Tryz.underlying36 rfl uH ?_)
   have HX:=ħ (zb.new wr 36 (φ a))
   have HB2:=ħ (HB.out.alloc HB.out.size (.cells (φ a) 36))
   obtain ⟨q,hq⟩:∃ q,q=wr.heap.size:=⟨_,rfl⟩
   rw[←hq] at HX⊢
   clear hq hr
   generalize wr.alloc _=W2 at *
   have x0:=HX.out.facts
   cases hs:jU a.t.c with
   | false=>
    have HE:=ħ (show Qm l=false from dN hlt (by rw[←HA.out];exact hs))
    have VR:=ħ fun (W:World)=>KX a.t false hs W
    clear hs
    go_wp2_with (go_at_call 35;((with_reducible refine (VR.out _).mono ?_);rintro e w3 ⟨rfl,hb⟩;have HB3:=ħ (HB2.out.trans (hb.mono HB2.out.size));clear hb))
    go_ret
    rw[HE.out]
    exact ⟨rfl,HB3.out⟩
   | true=>
    have HN:=ħ (show ∀ j,∀ hj:j<l.length,j<k+1→jU l[j].t.c=true from fun j hj h=>by
     rcases (by omega:j<k∨j=k) with h2 | rfl
     ·exact u7.out j hj h2
     ·rw[←HA.out];exact hs)
    have VR:=ħ fun (W:World)=>KX a.t true hs W
    clear hs
    go_wp2_with (go_at_call 35;((with_reducible refine (VR.out _).mono ?_);rintro e w3 ⟨rfl,hb⟩;have HB3:=ħ (HB2.out.trans (hb.mono HB2.out.size));clear hb))
    exact ⟨⟨k+1,by omega,by go_num,HN.out,HB3.out⟩,by simp[intOf];omega⟩
  ·have hlt':¬ (k:Int)<l.length:=by omega
   have hk3:k=l.length:=by omega
   subst hk3
   have HE:=ħ (aF (fun j hj=>u7.out j hj hj))
   by_cases h4:l.length≤40
   ·have i4:(l.length:Int)≤40:=by omega
    have HF:=ħ (show Qm l=true by rw[HE.out,decide_eq_true h4])
    clear h4
    go_wp2_with fail
    go_ret
    exact ⟨by rw[HF.out];rfl,HB.out⟩
   ·have i4:¬ (l.length:Int)≤40:=by omega
    have HF:=ħ (show Qm l=false by rw[HE.out,decide_eq_false h4])
    clear h4
    go_wp2_with fail
    go_ret
    exact ⟨by rw[HF.out];rfl,HB.out⟩
theorem Jt {P:Program}{fn:Func}{t p u:Tmp}{ty:TypeId}(h:fn.results=#[.tmp t,.cell p ty,.tmp u])(tmps:Array Value)(w:World)(g:Nat)(t':TypeId)(cs:Array Value)(fr:Nat × Nat)(d:TypeDesc)
 (hp:tmps.getD p undef=.pointer (some ⟨g,0,none⟩)) (hg:w.heap[g]?=some (.cells cs t' fr))
 (hu:P.underlying ty=some d) (hd:(match d with | .struct _ | .array _ _=>true | _=>false)=true) (hi:(P.info? ty).map (·.size)=some cs.size) :
 (results fn tmps).run P w=.ok (.tuple #[tmps.getD t undef,.agg cs,tmps.getD u undef]) w:=by
 have h2:(asAddr (tmps.getD p undef)).run P w=.ok ⟨g,0,none⟩ w:=by rw[hp];rfl
 have h3:=run_loadVar_row (P:=P) w g t' ty cs fr d hg hu hd hi
 have e:(results fn tmps).run P w=((asAddr (tmps.getD p undef)).run P w).andThen fun a w₁=>((loadVar ty a).run P w₁).andThen fun v w₂=>.ok (.tuple #[tmps.getD t undef,v,tmps.getD u undef]) w₂:=by
  simp only[results,h]
  simp[Sem.run_bind,Result.andThen]
 rw[e,h2]
 simp only[Result.andThen]
 rw[h3]
def yU (l:List Av):Bk:=l.foldl jY ⟨[],[]⟩
theorem vP (l:List Av){k:Nat}(hk:k<l.length):yU (l.take (k+1))=jY (yU (l.take k)) l[k]:=by
 unfold yU
 rw[List.take_succ_eq_append_getElem hk,List.foldl_append]
 rfl
theorem Qg:∀ (l:List Av)(b:Bk)(n:Nat),Good n b→n+l.length+1≤1000→(∀ a∈l,a.t.c.nodes.length≤60)→Good (n+l.length) (l.foldl jY b)
 | [],b,n,h,_,_=>h
 | a :: l,b,n,h,hl,ha=>by
  have h1:=Qg l (jY b a) (n+1) (kY h (by simp only[List.length_cons] at hl;omega) (ha a (by simp))) (by simp only[List.length_cons] at hl;omega) (fun x hx=>ha x (by simp[hx]))
  have e:n+(a :: l).length=n+1+l.length:=by simp only[List.length_cons];omega
  rw[e]
  exact h1
theorem Zj (l:List Av)(hl:l.length≤900)(ha:∀ a∈l,a.t.c.nodes.length≤60):Good l.length (yU l):=by
 have:=Qg l ⟨[],[]⟩ 0 (Good.nil 0) (by omega) ha
 rwa [Nat.zero_add] at this
def nH (l:List Av)(w:World)(e:Ending)(w':World):Prop:=∃ (p mc mi mh:Nat) (v:Bv),e=.returned (.tuple #[.pointer (some ⟨p,0,none⟩),YW v,.bool true])∧v.bk=yU l∧PI w' p mc mi mh (yU l)∧zX w' (Bq p mc mi mh) v∧(w.heap.size≤p∧w.heap.size≤mc∧w.heap.size≤mi∧w.heap.size≤mh)∧Below w.heap.size w w'
theorem vM (B:Nat→Prop)(A:Option Addr)(c:Nat)(l:List Av)(w:World)(h:Reads w B 13 A l.length (l.flatMap Bd))(hr:∀ a∈l,RI w B a.t.A a.t.c.nodes)(hf:Qm l=true)(htb:jg w) :
 Calls Tryz.prog 13 #[.slice A l.length c] w (nH l w):=by
 have iL:l.length≤40:=by
  unfold Qm at hf
  simp only[Bool.and_eq_true,decide_eq_true_eq] at hf
  exact hf.2
 have iy:=ħ (show ∀ a∈l,a.t.c.nodes.length≤60∧a.t.c.code.size≤100 from by
  intro a ha
  unfold Qm at hf
  simp only[Bool.and_eq_true,List.all_eq_true] at hf
  have:=hf.1 a ha
  unfold jU at this
  simpa using this)
 have hits:=(h.old (by omega)).more (B':=(· < w.heap.size)) (fun k hk=>hk.2)
 have hp:=hits.plain (by omega)
 have HI:=ħ hits
 have NA:=ħ (show ∀ a∈l,RI w (· < w.heap.size) a.t.A a.t.c.nodes from fun a ha=>((hr a ha).old (by omega)).more (fun k hk=>hk.2))
 have Yi:=ħ htb
 have fE:=ħ (show Calls Tryz.prog 11 #[.slice A l.length c] (w.alloc (.cells #[.slice none 0 0,.slice none 0 0] 29)) (qX true (w.alloc (.cells #[.slice none 0 0,.slice none 0 0] 29))) from hf ▸ uW B A c l _ (h.alloc _) (by omega))
 clear h hits hr htb hf
 have hres:Below w.heap.size w (w.alloc (.cells #[.slice none 0 0,.slice none 0 0] 29)):=(Below.refl _ w).alloc (Nat.le_refl _) _
 have HZ0:=ħ (zb.new w 29 #[.slice none 0 0,.slice none 0 0])
 have HB0:=ħ hres
 clear hres
 go_enter Tryz.func13,Tryz.ntmps13
 go_upto_region 1 with fail
 generalize w.alloc _=W0 at *
 go_upto_region 4 with (first
  | (go_at_call 11;((with_reducible refine fE.out.mono ?_);rintro e w1 ⟨rfl,hb⟩;have HZ1:=ħ (HZ0.out.below hb HZ0.out.lt);have HB1:=ħ (HB0.out.trans (hb.mono HB0.out.size));clear hb))
  | (go_at_call 36;((with_reducible refine (dW _).mono ?_);rintro e w2 ⟨p,mc,mi,mh,rfl,hp1,hp2,hp3,tC,hpi,hb⟩;have YL:=ħ hpi;have HZ2:=ħ (HZ1.out.below hb HZ1.out.lt);have HB2:=ħ (HB1.out.trans (hb.mono HB1.out.size));have XD:=ħ (show (w.heap.size<p∧w.heap.size<mc∧w.heap.size<mi∧w.heap.size<mh)∧(p<w2.heap.size∧mc<w2.heap.size∧mi<w2.heap.size∧mh<w2.heap.size) from by have:=HZ1.out.lt;have:=hpi.lt;omega);clear hpi hb hp1 hp2 hp3 tC)))
 go_upto_region 7 with fail
 have qx:=ħ (zb.new w2 29 #[.slice none 0 0,.slice none 0 0])
 have HB3:=ħ (HB2.out.alloc HB2.out.size (.cells #[.slice none 0 0,.slice none 0 0] 29))
 have HZ3:=ħ (HZ2.out.alloc (.cells #[.slice none 0 0,.slice none 0 0] 29))
 have ah:=ħ (YL.out.alloc (.cells #[.slice none 0 0,.slice none 0 0] 29))
 obtain ⟨q6,dY⟩:∃ q,q=w2.heap.size:=⟨_,rfl⟩
 rw[←dY] at qx XD⊢
 have Gy:=ħ (show w.heap.size<q6 by rw[dY];exact HZ2.out.lt)
 clear dY HZ2 HB2 YL HZ1 HB1
 generalize w2.alloc _=W3 at *
 go_wp2_with fail
 go_loopw [7,21] (fun vo vi wr=>∃ (k:Nat) (v:Bv),k≤l.length∧vi=ι (k:Int)∧vo=.bool true∧v.bk=yU (l.take k)∧zb wr q6 29 (β v)∧zb wr w.heap.size 29 #[.slice none 0 0,.slice none 0 0]∧PI wr p mc mi mh v.bk∧zX wr (fun j=>Bq p mc mi mh j∧j≠q6∧j≠w.heap.size) v∧Below w.heap.size w wr) (fun _ vi _=>l.length - (intOf vi).toNat)
 case atStart=>exact ⟨0,⟨[],none,0,[],none,0⟩,Nat.zero_le _,rfl,rfl,rfl,qx.out,HZ3.out,ah.out,⟨Reads.none_,fun a ha=>by simp at ha,Reads.none_,fun a ha=>by simp at ha⟩,HB3.out⟩
 case round=>
  obtain ⟨k,v,hk,rfl,rfl,hbk,hx,hz,hpi,hv,hb⟩:=hrel
  have Q0:=ħ hbk
  have HX:=ħ hx
  have HZ:=ħ hz
  have YL:=ħ hpi
  have HV:=ħ hv
  have HB:=ħ hb
  clear hbk hx hz hpi hv hb
  have x0:=HX.out.facts
  by_cases hlt:k<l.length
  ·have hlt':(k:Int)<l.length:=by omega
   have hix:=fun W=>Aw hp c k hlt W
   obtain ⟨a,ha⟩:∃ a,a=l[k]:=⟨_,rfl⟩
   have hr:wr.rangeAt (bk A) (qP A+k * 13) [ι a.kind,ι a.t.c.call,ι a.t.c.inc,ι a.t.c.urg,.string a.t.c.code,.slice a.t.A a.t.c.nodes.length a.t.k,ι a.t.c.dist,ι a.t.c.since,.bool a.t.c.closed,ι a.id,ι a.a,ι a.b,ι a.unit]:=by
    have:=Vh (HI.out.below HB.out (fun j hj=>hj)) hlt
    rw[←ha] at this;exact this
   have eU:a∈l:=by rw[ha];exact List.getElem_mem hlt
   have Xj:=ħ (show yU (l.take (k+1))=jY (yU (l.take k)) a by rw[ha];exact vP l hlt)
   have Wx:=ħ (show Good k (yU (l.take k)) from by
    have:=Zj (l.take k) (by rw[List.length_take];omega) (fun a h=>(iy.out a (List.mem_of_mem_take h)).1)
    rwa [List.length_take,Nat.min_eq_left hk] at this)
   have IV:=ħ (NA.out a eU)
   have bS:=ħ (iy.out a eU)
   clear ha eU
   go_upto_region 11 with (refine wpList_load_mid rfl 36 _ rfl (bk A) (qP A+k * 13) rfl [ι a.kind,ι a.t.c.call,ι a.t.c.inc,ι a.t.c.urg,.string a.t.c.code,.slice a.t.A a.t.c.nodes.length a.t.k,ι a.t.c.dist,ι a.t.c.since,.bool a.t.c.closed,ι a.id,ι a.a,ι a.b,ι a.unit] _ hr Tryz.underlying36 rfl uH ?_)
   have Yy:=ħ (zb.new wr 36 (φ a))
   have jv:=ħ (HX.out.alloc (.cells (φ a) 36))
   have fU:=ħ (HZ.out.alloc (.cells (φ a) 36))
   have ZL:=ħ (YL.out.alloc (.cells (φ a) 36))
   have fV:=ħ (HV.out.alloc (.cells (φ a) 36))
   have Zp:=ħ (HB.out.alloc HB.out.size (.cells (φ a) 36))
   obtain ⟨q9,YF⟩:∃ q,q=wr.heap.size:=⟨_,rfl⟩
   rw[←YF] at Yy⊢
   have OG:q6<q9:=by have:=HX.out.lt;omega
   clear YF hr x0 HX HZ YL HV HB
   generalize wr.alloc _=W4 at *
   have x0:=jv.out.facts
   have y0:=Yy.out.facts
   have GG:=ħ (show Calls Tryz.prog 14 #[.pointer (some ⟨p,0,none⟩),.agg (β v),.agg (φ a)] W4 (Ff (fun j=>Bq p mc mi mh j∧j≠q6∧j≠w.heap.size) (jY (yU (l.take k)) a) p mc mi mh W4) from
    EL p mc mi mh _ v a k W4 (Q0.out ▸ ZL.out) Q0.out (fun j=>Bq p mc mi mh j∧j≠q6∧j≠w.heap.size) (fun j hj=>hj.1) (fun j hj=>by have h1:=XD.out;have h2:=jv.out.lt;have h3:=fU.out.lt;unfold Bq;omega) fV.out Wx.out (by omega) (Yi.out.below Zp.out Yi.out.lt) ((IV.out.below Zp.out (fun j hj=>hj)).more (fun j hj=>by have:=XD.out;have h2:j<w.heap.size:=hj;have h4:=Gy.out;unfold Bq;omega)) (by have:=bS.out;omega) bS.out.1)
   go_upto_region 13 with (go_at_call 14;((with_reducible refine GG.out.mono ?_);rintro e w5 ⟨⟨la,AL,cL,lc,AC,cC⟩,rfl,Ak,hv5,AU,uC⟩;have E_:=ħ Ak;have HV5:=ħ hv5;have ZJ:=ħ AU;have wD:=ħ uC;have jq:=ħ (jv.out.fr uC (by have:=XD.out;unfold Sq;omega));have GH:=ħ (fU.out.fr uC (by have:=XD.out;unfold Sq;omega));clear Ak hv5 AU uC x0 y0;have x0:=jq.out.facts))
   obtain ⟨w6,Y3⟩:∃ W,W=(w5.setCell ⟨q6,0,none⟩ (.slice AL la.length cL)).setCell ⟨q6,1,none⟩ (.slice AC lc.length cC):=⟨_,rfl⟩
   have jK:=((Fr.refl (fun j=>j=q6) w5).setCell (p:=⟨q6,0,none⟩) (.inl rfl) (.slice AL la.length cL)).setCell (p:=⟨q6,1,none⟩) (.inl rfl) (.slice AC lc.length cC)
   have hx6:zb ((w5.setCell ⟨q6,0,none⟩ (.slice AL la.length cL)).setCell ⟨q6,1,none⟩ (.slice AC lc.length cC)) q6 29 #[.slice AL la.length cL,.slice AC lc.length cC]:=by
    have:=(jq.out.set_ 0 (.slice AL la.length cL)).set_ 1 (.slice AC lc.length cC)
    simpa using this
   rw[←Y3] at jK hx6⊢
   clear Y3 x0
   have ZI:=ħ hx6
   have ZR:=ħ jK
   clear jK hx6
   go_wp2_with fail
   refine ⟨⟨k+1,⟨la,AL,cL,lc,AC,cC⟩,by omega,by go_num,rfl,by rw[Xj.out];exact E_.out,ZI.out,GH.out.fr ZR.out (by have:=Gy.out;show ¬ (w.heap.size=q6);omega),?_,HV5.out.fr ZR.out (fun j hj e=>hj.2.1 e),?_⟩,by simp[intOf];omega⟩
   ·have e:(⟨la,AL,cL,lc,AC,cC⟩:Bv).bk=jY (yU (l.take k)) a:=E_.out
    rw[e]
    exact ZJ.out.box jq.out (by have:=XD.out;unfold Bq;omega) ZR.out
   ·have h1:=Zp.out.trans (wD.out.below Zp.out.size (fun j hj e=>by have:=XD.out;unfold Sq at e;omega))
    exact h1.trans (ZR.out.below h1.size (fun j hj e=>by have e2:j=q6:=e;have:=Gy.out;omega))
  ·have hlt':¬ (k:Int)<l.length:=by omega
   have hk3:k=l.length:=by omega
   subst hk3
   rw[List.take_length] at Q0
   obtain ⟨la,AL,cL,lc,AC,cC⟩:=v
   have z0:=HZ.out.facts
   go_upto_region 15 with fail
   have HK:=ħ fun (W':World) (hf:Fr (fun j=>j=w.heap.size) wr W')=>(show W'.cell? ⟨q6,0,none⟩=some (.slice AL la.length cL)∧W'.cell? ⟨q6,1,none⟩=some (.slice AC lc.length cC) from by
    have h1:=HX.out.fr hf (by have:=Gy.out;show ¬ (q6=w.heap.size);omega)
    exact ⟨h1.cell 0,h1.cell 1⟩)
   have Zz:=((Fr.refl (fun j=>j=w.heap.size) wr).setCell (p:=⟨w.heap.size,0,none⟩) (.inl rfl) (.slice AL la.length cL)).setCell (p:=⟨w.heap.size,1,none⟩) (.inl rfl) (.slice AC lc.length cC)
   have K0:=HK.out _ (Fr.refl _ wr).drew
   have K2:=HK.out _ Zz.drew
   go_region_held (fun W'=>W'.cell? ⟨q6,0,none⟩=some (.slice AL la.length cL)∧W'.cell? ⟨q6,1,none⟩=some (.slice AC lc.length cC)) (with_reducible assumption) (fail)
   all_goals
    clear x0 z0 K0 K2
    go_wp2_with fail
    have ZO:zb ((wr.setCell ⟨w.heap.size,0,none⟩ (.slice AL la.length cL)).setCell ⟨w.heap.size,1,none⟩ (.slice AC lc.length cC)) w.heap.size 29 #[.slice AL la.length cL,.slice AC lc.length cC]:=by
     have:=(HZ.out.set_ 0 (.slice AL la.length cL)).set_ 1 (.slice AC lc.length cC)
     simpa using this
    refine bodyPost_ret (Jt (p:=3) (t:=2) (u:=4) (ty:=29) Tryz.results13 _ _ w.heap.size 29 #[.slice AL la.length cL,.slice AC lc.length cC] (0,0) _ rfl ZO.drew Tryz.underlying29 rfl zm) rfl ?_
    have hpl:=XD.out
    have CQ:=(YL.out.box HZ.out (by unfold Bq;omega) Zz).below ((Below.refl _ _).drew)
    refine ⟨p,mc,mi,mh,⟨la,AL,cL,lc,AC,cC⟩,rfl,Q0.out,by rw[←Q0.out];exact CQ,((HV.out.fr Zz (fun j hj e=>hj.2.2 e)).more (fun j hj=>hj.1)).below0 ((Below.refl _ _).drew),by omega,?_⟩
    exact (HB.out.trans (Zz.below HB.out.size (fun j hj e=>by have e2:j=w.heap.size:=e;omega))).trans ((Below.refl _ _).drew)
def tl (c:Int):Cr:=⟨c,0,2,⟨#[102,97,108,108]⟩,[3],0,0,false⟩
theorem DL (c:Int):(tl c).code.size≤100000:=by show 4≤100000;omega
theorem xw (c:Int):(tl c).nodes.length≤60:=by show 1≤60;omega
def ru:Bk:=(qQ ⟨[],[]⟩ (tl 1) 7).1
def pU:Bk:=(qy ru (tl 2) 7).1
def Hf:Bk:=(zS pU 2 7 9 5).1
def lJ:Bk:=(zM Hf 9 7).1
theorem wY:(qQ ⟨[],[]⟩ (tl 1) 7).2=0:=by decide +kernel
theorem Ci:(qy ru (tl 2) 7).2=0:=by decide +kernel
theorem wW:(zS pU 2 7 9 5).2=0:=by decide +kernel
theorem CG:(zM Hf 9 7).2=0:=by decide +kernel
theorem nN:(QF Hf 7).2=true∧(QF Hf 7).1.calls.length=1:=by decide +kernel
theorem nS:(QF Hf 9).2=true∧(QF Hf 9).1.calls=[2]:=by decide +kernel
theorem oP:(QF lJ 7).2=true∧(QF lJ 7).1.calls.length=2:=by decide +kernel
theorem CO:jd lJ 9=7:=by decide +kernel
theorem eG:Good 1 ru:=U2 (Good.nil 0) (t:=tl 1) (by decide) 7
theorem fO:Good 2 pU:=Um eG (by omega) (t:=tl 2) (by decide) 7
theorem kV:Good 3 Hf:=Ub fO (by omega) 2 7 9 5
theorem fe:Good 3 lJ:=XW kV (by omega) 9 7
def ry (c:Int)(w:World)(e:Ending)(w':World):Prop:=∃ A k,e=.returned (.agg #[ι c,ι 0,ι 2,.string ⟨#[102,97,108,108]⟩,.slice A 1 k,ι 0,ι 0,.bool false])∧RI w' (fun j=>w.heap.size≤j) A [3]∧Below w.heap.size w w'
theorem AP (c:Int)(w:World):Calls Tryz.prog 38 #[ι c] w (ry c w):=by
 have HZ:=ħ (zb.new w 34 κ)
 have HB:=ħ ((Below.refl w.heap.size w).alloc (Nat.le_refl _) (.cells κ 34))
 go_enter Tryz.func38,Tryz.ntmps38
 go_upto_region 1 with fail
 generalize w.alloc _=W1 at *
 have HZ2:=ħ (HZ.out.alloc (.cells #[ι 3] 3))
 have HR:=ħ (show RI (W1.alloc (.cells #[ι 3] 3)) (fun j=>j=W1.heap.size) (some ⟨W1.heap.size,0,none⟩) [3] from Reads.newS W1 [ι 3] 3 (0,0) 1 1 rfl _ rfl)
 have HB2:=ħ (HB.out.alloc HB.out.size (.cells #[ι 3] 3))
 have hne:w.heap.size<W1.heap.size:=HZ.out.lt
 have x0:=HZ.out.facts
 go_wp2_with (refine z8 rfl (.tmp 2) (.tmp 5) 34 rfl w.heap.size 34 _ #[ι c,ι 0,ι 2,.string ⟨#[102,97,108,108]⟩,.slice (some ⟨W1.heap.size,0,none⟩) 1 1,ι 0,ι 0,.bool false] _ 8 88 jM rfl rfl rfl HZ2.out rfl (QJ (by simp[Value.oneCell'])) ?_;intro w8 zW zI yL)
 refine bodyPost_ret (results_cell_row (p:=2) (ty:=34) Tryz.results38 _ w8 w.heap.size 34 #[ι c,ι 0,ι 2,.string ⟨#[102,97,108,108]⟩,.slice (some ⟨W1.heap.size,0,none⟩) 1 1,ι 0,ι 0,.bool false] (0,0) _ rfl zW Tryz.underlying34 rfl jN) rfl ?_
 refine ⟨_,_,rfl,(HR.out.fr zI (fun j hj e=>by have e2:j=w.heap.size:=e;have e3:j=W1.heap.size:=hj;omega)).more (fun j hj=>by have e3:j=W1.heap.size:=hj;show w.heap.size≤j;omega),HB2.out.trans (zI.below HB2.out.size (fun j hj e=>by have e2:j=w.heap.size:=e;omega))⟩
def wC (x:Ic)(n:Nat)(w:World)(e:Ending)(w':World):Prop:=∃ An Ac Au cn cc cu,e=.returned (.tuple #[.agg #[ι x.id,ι x.urg,.string x.code,.slice An x.nodes.length cn,ι x.dist,ι x.since,.slice Ac n cc,.slice Au x.units.length cu,ι x.merged,.bool x.closed],.bool true])∧w'.ownsRow w.heap.size 2 1 (.slice Ac n cc) n (x.calls.map (Value.int .i64))∧Below w.heap.size w w'
theorem gN {p mc mi mh:Nat}{b:Bk}{n:Nat}(hG:Good n b)(id:Int)(x:Ic)(m:Nat)(hx:x=(QF b id).1)(h2:(QF b id).2=true)(hm:x.calls.length=m)(W:World)(h:PI W p mc mi mh b):Calls Tryz.prog 19 #[.pointer (some ⟨p,0,none⟩),ι id] W (wC x m W):=by
 subst hx hm
 refine (o_ p mc mi mh b id W h (zg.vL hG)).mono ?_
 rintro e w' ⟨An,Ac,Au,cn,cc,cu,rfl,h1,h3,h4,hb⟩
 rw[h2]
 exact ⟨An,Ac,Au,cn,cc,cu,rfl,h3,hb⟩
def BC (b:Bk)(p mc mi mh:Nat)(w:World)(e:Ending)(w':World):Prop:=e=.returned (ι 0)∧PI w' p mc mi mh b∧Fr (Sq p mc mi mh) w w'
theorem BC.of {r:Bk × Int}{p mc mi mh:Nat}{w w':World}{e:Ending}(h:Ji r p mc mi mh w e w')(h0:r.2=0):BC r.1 p mc mi mh w e w':=⟨by rw[h.1,h0],h.2.1,h.2.2⟩
theorem uQ {p mc mi mh:Nat}{w a b:World}(h:Below w.heap.size w a)(hf:Fr (Sq p mc mi mh) a b)(hl:w.heap.size≤p∧w.heap.size≤mc∧w.heap.size≤mi∧w.heap.size≤mh):Below w.heap.size w b:=
 h.trans (hf.below h.size (fun j hj e=>by unfold Sq at e;omega))
theorem UX (w:World)(htb:jg w):Calls Tryz.prog 12 #[] w (qX true w):=by
 have Yi:=ħ htb
 obtain ⟨x7,hx7⟩:∃ x:Ic,x=(QF Hf 7).1:=⟨_,rfl⟩
 obtain ⟨x9,Lb⟩:∃ x:Ic,x=(QF Hf 9).1:=⟨_,rfl⟩
 obtain ⟨y7,AY⟩:∃ x:Ic,x=(QF lJ 7).1:=⟨_,rfl⟩
 have H7:=ħ (show x7.calls.length=1 by rw[hx7];exact nN.2)
 have H9:=ħ (show x9.calls=[2] by rw[Lb];exact nS.2)
 have HY:=ħ (show y7.calls.length=2 by rw[AY];exact oP.2)
 have Kn:=ħ hx7
 have VM:=ħ Lb
 have RZ:=ħ AY
 clear htb hx7 Lb AY
 go_enter Tryz.func12,Tryz.ntmps12
 go_upto_region 4 with (first
  | (go_at_call 16;((with_reducible refine NV.out.mono ?_);rintro e w6 ⟨rfl,hpi,hf⟩;have kT:=ħ hpi;have Qq:=ħ (uQ ZN.out hf XD.out);have IJ:=ħ (gN kV 7 x7 1 Kn.out nN.1 H7.out w6 hpi);clear hpi hf))
  | (go_at_call 39;((with_reducible refine Xv.out.mono ?_);rintro e w5 ⟨rfl,hpi,hf⟩;have Nw:=ħ hpi;have ZN:=ħ (uQ Zp.out hf XD.out);have NV:=ħ (show Calls Tryz.prog 16 #[.pointer (some ⟨p,0,none⟩),ι 2,ι 7,ι 9,ι 5] w5 (BC Hf p mc mi mh w5) from (kr p mc mi mh pU 2 7 9 5 2 w5 hpi fO (by omega) (Yi.out.below ZN.out Yi.out.lt)).mono (fun e w' h=>BC.of h wW));clear hpi hf))
  | (go_at_call 38;((with_reducible refine Jo.out.mono ?_);rintro e w4 ⟨A2,k2,rfl,hr,hb⟩;have Zp:=ħ (HB3.out.trans (hb.mono HB3.out.size));have Xv:=ħ (show Calls Tryz.prog 39 #[.pointer (some ⟨p,0,none⟩),.agg #[ι 2,ι 0,ι 2,.string ⟨#[102,97,108,108]⟩,.slice A2 1 k2,ι 0,ι 0,.bool false],ι 7] w4 (BC pU p mc mi mh w4) from (uX p mc mi mh ru ⟨tl 2,A2,k2⟩ 7 1 _ w4 (sN.out.below hb) eG (by omega) (Yi.out.below Zp.out Yi.out.lt) hr (DL 2) (xw 2)).mono (fun e w' h=>BC.of h Ci));clear hr hb))
  | (go_at_call 37;((with_reducible refine Km.out.mono ?_);rintro e w3 ⟨rfl,hpi,hf⟩;have sN:=ħ hpi;have HB3:=ħ (uQ HB2.out hf XD.out);have Jo:=ħ (AP 2 w3);clear hpi hf))
  | (go_at_call 38;((with_reducible refine Ib.out.mono ?_);rintro e w2 ⟨A1,k1,rfl,hr,hb⟩;have HB2:=ħ (HB1.out.trans (hb.mono HB1.out.size));have Km:=ħ (show Calls Tryz.prog 37 #[.pointer (some ⟨p,0,none⟩),.agg #[ι 1,ι 0,ι 2,.string ⟨#[102,97,108,108]⟩,.slice A1 1 k1,ι 0,ι 0,.bool false],ι 7] w2 (BC ru p mc mi mh w2) from (kU p mc mi mh ⟨[],[]⟩ ⟨tl 1,A1,k1⟩ 7 _ w2 (gP.out.below hb) List.Pairwise.nil List.Pairwise.nil hr (DL 1) (Nat.le_trans (xw 1) (by omega))).mono (fun e w' h=>BC.of h wY));clear hr hb))
  | (go_at_call 36;((with_reducible refine (dW _).mono ?_);rintro e w1 ⟨p,mc,mi,mh,rfl,hp1,hp2,hp3,tC,hpi,hb⟩;have XD:=ħ (show w.heap.size≤p∧w.heap.size≤mc∧w.heap.size≤mi∧w.heap.size≤mh from ⟨hp1,hp2,hp3,tC⟩);have gP:=ħ hpi;have HB1:=ħ hb;have Ib:=ħ (AP 1 w1);clear hp1 hp2 hp3 tC hpi hb)))
 go_upto_region 5 with (go_at_call 19;((with_reducible refine IJ.out.mono ?_);rintro e w7 ⟨ww,I1,CF,IC,La,Ck,rfl,ho,hb⟩;have Z7:=ħ (Qq.out.trans (hb.mono Qq.out.size));have KR:=ħ (kT.out.below hb);clear ho hb))
 have dx:=ħ (zb.new w7 48 #[ι x7.id,ι x7.urg,.string x7.code,.slice ww x7.nodes.length IC,ι x7.dist,ι x7.since,.slice I1 1 La,.slice CF x7.units.length Ck,ι x7.merged,.bool x7.closed])
 have Jy:=ħ (Z7.out.alloc Z7.out.size (.cells #[ι x7.id,ι x7.urg,.string x7.code,.slice ww x7.nodes.length IC,ι x7.dist,ι x7.since,.slice I1 1 La,.slice CF x7.units.length Ck,ι x7.merged,.bool x7.closed] 48))
 have gI:=ħ (KR.out.alloc (.cells #[ι x7.id,ι x7.urg,.string x7.code,.slice ww x7.nodes.length IC,ι x7.dist,ι x7.since,.slice I1 1 La,.slice CF x7.units.length Ck,ι x7.merged,.bool x7.closed] 48))
 obtain ⟨q2,hq2⟩:∃ q,q=w7.heap.size:=⟨_,rfl⟩
 rw[←hq2] at dx⊢
 have Pg:=ħ (show w.heap.size≤q2 by rw[hq2];exact Z7.out.size)
 have nZ:=ħ (show ¬ Sq p mc mi mh q2 from qh (by obtain ⟨kc,ki,kh,hw,-⟩:=KR.out;exact hw.fresh (by omega)))
 clear hq2
 generalize w7.alloc _=W8 at *
 have w_:=ħ (gN kV 9 x9 1 VM.out nS.1 (by rw[H9.out];rfl) W8 gI.out)
 go_upto_region 6 with (go_at_call 19;((with_reducible refine w_.out.mono ?_);rintro e w9 ⟨iQ,kv,rO,gW,b_,sH,rfl,ho,hb⟩;have Z_:=ħ (Jy.out.trans (hb.mono Jy.out.size));have eu:=ħ (gI.out.below hb);have pW:=ħ (dx.out.below hb dx.out.lt);have Z5:=ħ (show RI w9 (fun j=>W8.heap.size≤j) kv [2] from by rw[H9.out] at ho;exact qK (l:=[2]) ho);clear ho hb))
 have wI:=ħ (pW.out.alloc (.cells #[ι x9.id,ι x9.urg,.string x9.code,.slice iQ x9.nodes.length gW,ι x9.dist,ι x9.since,.slice kv 1 b_,.slice rO x9.units.length sH,ι x9.merged,.bool x9.closed] 48))
 have nD:=ħ (zb.new w9 48 #[ι x9.id,ι x9.urg,.string x9.code,.slice iQ x9.nodes.length gW,ι x9.dist,ι x9.since,.slice kv 1 b_,.slice rO x9.units.length sH,ι x9.merged,.bool x9.closed])
 have EI:=ħ (Z_.out.alloc Z_.out.size (.cells #[ι x9.id,ι x9.urg,.string x9.code,.slice iQ x9.nodes.length gW,ι x9.dist,ι x9.since,.slice kv 1 b_,.slice rO x9.units.length sH,ι x9.merged,.bool x9.closed] 48))
 have mG:=ħ (eu.out.alloc (.cells #[ι x9.id,ι x9.urg,.string x9.code,.slice iQ x9.nodes.length gW,ι x9.dist,ι x9.since,.slice kv 1 b_,.slice rO x9.units.length sH,ι x9.merged,.bool x9.closed] 48))
 have pM:=ħ (Z5.out.alloc (.cells #[ι x9.id,ι x9.urg,.string x9.code,.slice iQ x9.nodes.length gW,ι x9.dist,ι x9.since,.slice kv 1 b_,.slice rO x9.units.length sH,ι x9.merged,.bool x9.closed] 48))
 obtain ⟨q4,hq4⟩:∃ q,q=w9.heap.size:=⟨_,rfl⟩
 rw[←hq4] at nD⊢
 clear hq4 pW dx
 generalize w9.alloc _=W10 at *
 have x0:=wI.out.facts
 have y0:=nD.out.facts
 have lw:Plain kv 1:=pM.out.plain (by omega)
 have hix:∀ W:World,(Instr.indexAt 46 (.slice kv 1 b_) (ι 0)).run Tryz.prog W=.ok (.pointer (some ⟨bk kv,qP kv,none⟩)) W:=fun W=>by have:=Ki lw b_ 0 (by omega) W;simpa using this
 have wQ:W10.cell? ⟨bk kv,qP kv,none⟩=some (ι 2):=qJ pM.out (k:=0) (by decide)
 have Oc:=ħ (show Calls Tryz.prog 17 #[.pointer (some ⟨p,0,none⟩),ι 9,ι 7] W10 (BC lJ p mc mi mh W10) from (xE p mc mi mh Hf 9 7 3 W10 mG.out kV (by omega) (Yi.out.below EI.out Yi.out.lt)).mono (fun e w' h=>BC.of h CG))
 go_upto_region 8 with (go_at_call 17;((with_reducible refine Oc.out.mono ?_);rintro e w11 ⟨rfl,hpi,hf⟩;have aM:=ħ hpi;have EA:=ħ (uQ EI.out hf XD.out);have Cn:=ħ (gN fe 7 y7 2 RZ.out oP.1 HY.out w11 hpi);clear hpi hf x0 y0))
 go_upto_region 9 with (go_at_call 19;((with_reducible refine Cn.out.mono ?_);rintro e w12 ⟨Y4,Qs,Il,YA,Qu,I9,rfl,ho,hb⟩;have aJ:=ħ (EA.out.trans (hb.mono EA.out.size));have Iq:=ħ (aM.out.below hb);clear ho hb))
 have I4:=ħ (zb.new w12 48 #[ι y7.id,ι y7.urg,.string y7.code,.slice Y4 y7.nodes.length YA,ι y7.dist,ι y7.since,.slice Qs 2 Qu,.slice Il y7.units.length I9,ι y7.merged,.bool y7.closed])
 have pz:=ħ (aJ.out.alloc aJ.out.size (.cells #[ι y7.id,ι y7.urg,.string y7.code,.slice Y4 y7.nodes.length YA,ι y7.dist,ι y7.since,.slice Qs 2 Qu,.slice Il y7.units.length I9,ι y7.merged,.bool y7.closed] 48))
 have IB:=ħ (Iq.out.alloc (.cells #[ι y7.id,ι y7.urg,.string y7.code,.slice Y4 y7.nodes.length YA,ι y7.dist,ι y7.since,.slice Qs 2 Qu,.slice Il y7.units.length I9,ι y7.merged,.bool y7.closed] 48))
 generalize w12.alloc _=W13 at *
 have x0:=I4.out.facts
 have mQ:=ħ (show Calls Tryz.prog 18 #[.pointer (some ⟨p,0,none⟩),ι 9] W13 (fun e w'=>e=.returned (ι 7)∧Below W13.heap.size W13 w') from by
  have h:=DT p mc mi mh lJ 9 W13 IB.out (zg.rt fe)
  rw[CO] at h
  exact h)
 go_wp2_with (((with_reducible refine mQ.out.mono ?_);rintro e w14 ⟨rfl,hb⟩;have wo:=ħ (pz.out.trans (hb.mono pz.out.size));clear hb))
 go_ret
 exact ⟨rfl,wo.out⟩
theorem FJ (B:Nat→Prop)(A:Option Addr)(c:Nat)(l:List Av)(w:World)(h:Reads w B 13 A l.length (l.flatMap Bd))(hm:l.length≤9223372036854775807)(hf:Qm l=false) :
 Calls Tryz.prog 13 #[.slice A l.length c] w (fun e w'=>e=.returned (.tuple #[.pointer none,.agg #[.slice none 0 0,.slice none 0 0],.bool true])∧Below w.heap.size w w'):=by
 have fE:=ħ (show Calls Tryz.prog 11 #[.slice A l.length c] (w.alloc (.cells #[.slice none 0 0,.slice none 0 0] 29)) (qX false (w.alloc (.cells #[.slice none 0 0,.slice none 0 0] 29))) from hf ▸ uW B A c l _ (h.alloc _) hm)
 have HZ0:=ħ (zb.new w 29 #[.slice none 0 0,.slice none 0 0])
 have HB0:=ħ ((Below.refl w.heap.size w).alloc (Nat.le_refl _) (.cells #[.slice none 0 0,.slice none 0 0] 29))
 clear h hf
 go_enter Tryz.func13,Tryz.ntmps13
 go_upto_region 1 with fail
 generalize w.alloc _=W0 at *
 go_upto_region 2 with (go_at_call 11;((with_reducible refine fE.out.mono ?_);rintro e w1 ⟨rfl,hb⟩;have HZ1:=ħ (HZ0.out.below hb HZ0.out.lt);have HB1:=ħ (HB0.out.trans (hb.mono HB0.out.size));clear hb))
 have x0:=HZ1.out.facts
 go_wp2_with (refine z8 rfl (.tmp 3) (.tmp 14) 29 rfl w.heap.size 29 _ #[.slice none 0 0,.slice none 0 0] _ 2 48 zy rfl rfl rfl HZ1.out rfl zq ?_;intro w8 zW zI yL)
 refine bodyPost_ret (Jt (p:=3) (t:=2) (u:=4) (ty:=29) Tryz.results13 _ _ w.heap.size 29 #[.slice none 0 0,.slice none 0 0] (0,0) _ rfl zW Tryz.underlying29 rfl zm) rfl ?_
 exact ⟨rfl,HB1.out.trans (zI.below HB1.out.size (fun j hj e=>by have e2:j=w.heap.size:=e;omega))⟩
section
variable {H:Type} {enc:TypeId × Value→H} {w:World}
theorem z1C:Tryz.prog.cellsOf 36=13:=by kernel_rfl
structure Mo where
 l:List Av
 A:Option Addr
 c:Nat
structure n_ (w:World) (s:Mo):Prop where
 r:Reads w (· < w.heap.size) 13 s.A s.l.length (s.l.flatMap Bd)
 t:∀ a∈s.l,RI w (· < w.heap.size) a.t.A a.t.c.nodes
 n:s.l.length≤9223372036854775807
theorem dE (es:List Value)(h:Qn enc Tryz.prog w 36 es):∃ a:Av,es=Bd a∧RI w (· < w.heap.size) a.t.A a.t.c.nodes:=by
 obtain ⟨hl,hf⟩:=h.struct Tryz.underlying36
 rw[z1C] at hl
 match es,hl with
 | [e0,e1,e2,e3,e4,e5,e6,e7,e8,e9,e10,e11,e12],_=>
  have f0:Qn enc Tryz.prog w 3 (([e0,e1,e2,e3,e4,e5,e6,e7,e8,e9,e10,e11,e12].drop 0).take (Tryz.prog.cellsOf 3)):=hf 0 _ rfl
  have f1:Qn enc Tryz.prog w 34 (([e0,e1,e2,e3,e4,e5,e6,e7,e8,e9,e10,e11,e12].drop 1).take (Tryz.prog.cellsOf 34)):=hf 1 _ rfl
  have f2:Qn enc Tryz.prog w 2 (([e0,e1,e2,e3,e4,e5,e6,e7,e8,e9,e10,e11,e12].drop 9).take (Tryz.prog.cellsOf 2)):=hf 2 _ rfl
  have f3:Qn enc Tryz.prog w 2 (([e0,e1,e2,e3,e4,e5,e6,e7,e8,e9,e10,e11,e12].drop 10).take (Tryz.prog.cellsOf 2)):=hf 3 _ rfl
  have f4:Qn enc Tryz.prog w 2 (([e0,e1,e2,e3,e4,e5,e6,e7,e8,e9,e10,e11,e12].drop 11).take (Tryz.prog.cellsOf 2)):=hf 4 _ rfl
  have f5:Qn enc Tryz.prog w 3 (([e0,e1,e2,e3,e4,e5,e6,e7,e8,e9,e10,e11,e12].drop 12).take (Tryz.prog.cellsOf 3)):=hf 5 _ rfl
  rw[Ih] at f0 f5
  rw[MX] at f2 f3 f4
  rw[M9] at f1
  obtain ⟨n0,k0,-⟩:=f0.int Tryz.underlying3
  obtain ⟨t,k1,ht⟩:=bZ f1
  obtain ⟨n2,k2,-⟩:=f2.int Tryz.underlying2
  obtain ⟨n3,k3,-⟩:=f3.int Tryz.underlying2
  obtain ⟨n4,k4,-⟩:=f4.int Tryz.underlying2
  obtain ⟨n5,k5,-⟩:=f5.int Tryz.underlying3
  simp[qC] at k0 k1 k2 k3 k4 k5
  obtain ⟨r0,r1,r2,r3,r4,r5,r6,r7⟩:=k1
  subst k0 k2 k3 k4 k5 r0 r1 r2 r3 r4 r5 r6 r7
  exact ⟨⟨n0,t,n2,n3,n4,n5⟩,rfl,ht.n⟩
theorem open_avs {v:Value}{d:DataW H}{p:List MemPlace}(h:DataW.Trod enc Tryz.prog w 0 (fun _=>true) true 22 v d p){A:Option Addr}{n c:Nat}(hv:v=.slice A n c):∃ s:Mo,A=s.A∧n=s.l.length∧c=s.c∧n_ w s:=by
 subst hv
 obtain ⟨A',c',l,e,h2,h3,h4,h5⟩:=(Qn.of_trod h).rows Tryz.underlying22 z1C (by omega) Bd (fun _=>rfl) (fun a=>RI w (· < w.heap.size) a.t.A a.t.c.nodes) dE
 simp[Value.cells] at e
 obtain ⟨rfl,rfl,rfl⟩:=e
 exact ⟨⟨l,A,c⟩,rfl,rfl,rfl,⟨h4,h5,by show l.length≤9223372036854775807;unfold maxLen at h3;omega⟩⟩
end
end Go.Proofs.YtdhcjhfgibmhfaaGreatDoor

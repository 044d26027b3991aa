import Derived.Test.YtdhcjhfgibmhfaaGreatDoorJG8
import Derived.Deep.DeepCutAuto
set_option linter.unusedVariables false
set_option linter.unusedSimpArgs false
set_option maxRecDepth 10000
set_option maxHeartbeats 8000000
namespace Go.Proofs.YtdhcjhfgibmhfaaGreatDoor
open Go.RowKit Go.Own Go.Quo Go.Inc
theorem uL {l:List Int}{n:Int}{k:Nat}(hk:k≤l.length)(h1:∀ i,i<k→gd l i<n)(h2:k<l.length→¬ gd l k<n):Q9 l n=k:=by
 unfold Q9
 have e:(l.take k ++ l.drop k)=l:=List.take_append_drop k l
 rw[←e,List.takeWhile_append_of_pos (fun a ha=>by
  obtain ⟨i,hi,rfl⟩:=List.mem_iff_getElem.1 ha
  have hi2:i<k:=by rw[List.length_take] at hi;omega
  have:=h1 i hi2
  rw[qd (by omega)] at this
  simpa using this)]
 have h3:(l.drop k).takeWhile (fun a=>decide (a<n))=[]:=by
  rcases Nat.lt_or_ge k l.length with h | h
  ·rw[List.drop_eq_getElem_cons h]
   have:=h2 h
   rw[qd h] at this
   rw[List.takeWhile_cons,if_neg (by simpa using this)]
  ·rw[List.drop_eq_nil_of_le h];rfl
 rw[h3,List.append_nil,List.length_take]
 omega
theorem Vm {A:Option Addr}{n c k:Nat}(hk:k≤c)(W:World):(Instr.slice 46 (.slice A n c) none (some (ι (k:Int))) none).run Tryz.prog W=.ok (.slice A k c) W:=by
 have hu:Tryz.prog.underlying 46=some (.slice (Tryz.prog.elem 46)):=by kernel_rfl
 have he:Tryz.prog.elem 46=2:=by kernel_rfl
 rw[run_slice_h W 46 A n c hu .i64 (k:Int) (by omega) (by omega),he,Tryz.sizeOf2]
 cases A with
 | none=>simp[sliced,Result.andThen]
 | some a=>simp[sliced,Result.andThen,Addr.add]
theorem Ug {A:Option Addr}{n c k:Nat}(hk:k≤c)(W:World):(Instr.sliceAt 46 (.slice A n c) none (some (ι (k:Int))) none).run Tryz.prog W=.ok (.slice A k c) W:=by
 have hu:Tryz.prog.underlying 46=some (.slice (Tryz.prog.elem 46)):=by kernel_rfl
 rw[run_sliceAt_slice W 46 _ _ _ _ hu]
 exact Vm hk W
def Ew (A:Option Addr)(c k:Nat):Option Addr:=if c=k then A else A.map (·.add (k * 1))
theorem Vp {A:Option Addr}{n c k:Nat}(hk:k≤n)(W:World):(Instr.slice 46 (.slice A n c) (some (ι (k:Int))) none none).run Tryz.prog W=.ok (.slice (Ew A c k) (n - k) (c - k)) W:=by
 have hu:Tryz.prog.underlying 46=some (.slice (Tryz.prog.elem 46)):=by kernel_rfl
 have he:Tryz.prog.elem 46=2:=by kernel_rfl
 rw[run_slice_l W 46 A n c hu .i64 (k:Int) (by omega) (by omega),he,Tryz.sizeOf2]
 simp[sliced,Ew,Result.andThen]
theorem Uk {A:Option Addr}{n c k:Nat}(hk:k≤n)(W:World):(Instr.sliceAt 46 (.slice A n c) (some (ι (k:Int))) none none).run Tryz.prog W=.ok (.slice (Ew A c k) (n - k) (c - k)) W:=by
 have hu:Tryz.prog.underlying 46=some (.slice (Tryz.prog.elem 46)):=by kernel_rfl
 rw[run_sliceAt_slice W 46 _ _ _ _ hu]
 exact Vp hk W
theorem ZA (l:List Int)(n:Int):(yF l n).length=l.length+1:=by
 have:=(QL l n).length_eq;simpa using this
theorem Reads.front1 {w:World}{B:Nat→Prop}{A:Option Addr}{l:List Int}(h:RI w B A l){k:Nat}(hk:k≤l.length):RI w B A (l.take k):=by
 refine ⟨by simp,fun h0=>?_⟩
 have h1:0<l.length:=by rw[List.length_take] at h0;omega
 obtain ⟨ad,e,hb,hc⟩:=h.2 h1
 refine ⟨ad,e,hb,fun j u hu=>hc j u ?_⟩
 rw[←hu]
 have hj:j<k:=by
  have:=(List.getElem?_eq_some_iff.1 hu).1
  simp at this;omega
 rw[List.map_take,List.getElem?_take_of_lt hj]
def QU (l:List Int)(n:Int)(A:Option Addr)(c:Nat)(w:World)(e:Ending)(w':World):Prop:=
 if Q9 l n<l.length∧gd l (Q9 l n)=n then e=.returned (.tuple #[.slice A l.length c,.bool false])∧w'=w
 else ∃ A' c',e=.returned (.tuple #[.slice A' (yF l n).length c',.bool true])∧w'.ownsRow w.heap.size 2 1 (.slice A' (yF l n).length c') (yF l n).length ((yF l n).map (Value.int .i64))∧Below w.heap.size w w'
theorem nR (B:Nat→Prop)(A:Option Addr)(c:Nat)(l:List Int)(n:Int)(w:World)(h:RI w B A l)(hc:l.length≤c)(hl:l.length≤100000) :
 Calls Tryz.prog 122 #[.slice A l.length c,ι n] w (QU l n A c w):=by
 have hp:=h.plain (by omega)
 have HR:=ħ h
 clear h
 go_enter Tryz.func122,Tryz.ntmps122
 go_wp2_with fail
 go_loopw [6] (fun vi wr=>∃ (k:Nat),k≤l.length∧vi=ι (k:Int)∧(∀ i,i<k→gd l i<n)∧wr=w) (fun vi _=>l.length - (intOf vi).toNat)
 case atStart=>exact ⟨0,Nat.zero_le _,rfl,fun i hi=>by omega,rfl⟩
 case round=>
  obtain ⟨k,hk,rfl,hv,rfl⟩:=hrel
  have HV:=ħ hv
  clear hv
  by_cases hlt:k<l.length
  ·have hlt':(k:Int)<l.length:=by omega
   have O3:decide ((k:Int)<l.length)=true:=by simpa using hlt
   have hix:=fun W=>Ki hp c k hlt W
   have hc1:wr.cell? ⟨bk A,qP A+k,none⟩=some (ι (gd l k)):=by
    have:=HR.out.cell2 k (by omega) (by omega);rw[this];simp[qd hlt,hlt]
   by_cases hq:gd l k<n
   ·have dq:decide (gd l k<n)=true:=by simpa using hq
    have vg:=ħ (show ∀ i,i<k+1→gd l i<n from fun i hi=>by
     rcases (by omega:i<k∨i=k) with e | rfl
     ·exact HV.out i e
     ·exact hq)
    go_wp2_with fail
    exact ⟨⟨k+1,by omega,by go_num,vg.out,by first | rfl | trivial⟩,by simp[intOf];omega⟩
   ·have dq:decide (gd l k<n)=false:=by simpa using hq
    have HK:=ħ (uL hk HV.out (fun _=>hq))
    by_cases he:gd l k=n
    ·have de:(gd l k == n)=true:=by simpa using he
     go_wp2_with fail
     go_ret2
     unfold QU
     rw[if_pos (by rw[HK.out];exact ⟨hlt,he⟩)]
     exact ⟨rfl,rfl⟩
    ·have de:(gd l k == n)=false:=by simpa using he
     have hne:=he
     have ho:=World.ownsRow_made (base:=wr.heap.size) (e:=2) (size:=1) wr #[] 0 (Nat.le_refl _) (by simp) (by simp)
     have zD:=ħ ho
     have HB1:=ħ ((Below.refl wr.heap.size wr).alloc (Nat.le_refl _) (.cells #[] 2))
     have iY:=ħ ((HR.out.old (by omega)).more (B':=fun j=>j<wr.heap.size) (fun j hj=>hj.2))
     have eQ:=ħ (show Reads (wr.alloc (.cells #[] 2)) (fun j=>j<wr.heap.size) 1 A k ((l.take k).map (Value.int .i64)) by
      have:=Reads.front1 (iY.out.alloc (.cells #[] 2)) hk
      unfold RI at this
      rw[List.length_take,Nat.min_eq_left hk] at this
      exact this)
     have LB:=fun W=>Vm (A:=A) (n:=l.length) (k:=k) (c:=c) (by omega) W
     have LY:=fun W=>Ug (A:=A) (n:=l.length) (k:=k) (c:=c) (by omega) W
     have hl1:=fun W=>Vp (A:=A) (n:=l.length) (k:=k) (c:=c) hk W
     have hl2:=fun W=>Uk (A:=A) (n:=l.length) (k:=k) (c:=c) hk W
     have HKK:=ħ HK.out
     clear ho HK
     go_upto_region 7 with (at_builtin;refine ze _ rfl _ _ _ rfl wr.heap.size 2 _ 1 8 Tryz.underlying46 Yd rfl (by omega) (.slice (some ⟨wr.heap.size,0,none⟩) 0 0) 0 [] rfl zD.out _ A k c ((l.take k).map (Value.int .i64)) rfl eQ.out (by intro u hu;obtain ⟨x,-,rfl⟩:=List.mem_map.1 hu;rfl) (by simp only[maxLen];omega) (by omega) (by simp) ?_;intro A7 c7 w7 hown hgr hat;rw[Nat.zero_add] at hown⊢;rw[List.nil_append] at hown;have Z7:=ħ (Below.grown HB1.out hgr (by simp) (fun j hj=>by simp[Value.ownBlock] at hj;omega));have oU:=ħ (iY.out.below Z7.out (fun j hj=>hj));have Jy:=ħ (Z7.out.alloc Z7.out.size (.cells #[ι n] 2));have YY:=ħ (own_below hown ((Below.refl w7.heap.size w7).alloc (Nat.le_refl _) (.cells #[ι n] 2)) (fun g hg=>(hown.lt g hg).2));have V6:=ħ (Reads.newS w7 [ι n] 2 (0,0) 1 1 rfl _ rfl);have fD:=Jy.out.size;clear hown hgr hat zD eQ)
     go_upto_region 8 with (at_builtin;refine ze _ rfl _ _ _ rfl wr.heap.size 2 _ 1 8 Tryz.underlying46 Yd rfl (by omega) (.slice A7 k c7) k ((l.take k).map (Value.int .i64)) rfl YY.out _ (some ⟨w7.heap.size,0,none⟩) 1 1 [ι n] rfl V6.out (by simp[Value.oneCell']) (by simp only[maxLen];omega) (by omega) fD ?_;intro A8 c8 w8 hown hgr hat;have Z_:=ħ (Below.grown Jy.out hgr Jy.out.size (fun j hj=>(YY.out.lt j hj).1));have Z5:=ħ hown;have lF:=ħ ((oU.out.alloc (.cells #[ι n] 2)).below (w':=w8) (Below.grown (Below.refl wr.heap.size _) hgr fD (fun j hj=>(YY.out.lt j hj).1)) (fun j hj=>hj) |>.cut (k:=k) (cap:=c) hk hc);have p9:=Z_.out.size;clear hown hgr hat)
     go_wp2_with (at_builtin;refine ze _ rfl _ _ _ rfl wr.heap.size 2 _ 1 8 Tryz.underlying46 Yd rfl (by omega) (.slice A8 (k+1) c8) (k+1) _ rfl Z5.out _ (Ew A c k) (l.length - k) (c - k) ((l.map (Value.int .i64)).drop (k * 1)) rfl lF.out (by intro u hu;obtain ⟨x,-,rfl⟩:=List.mem_map.1 (List.mem_of_mem_drop hu);rfl) (by simp only[maxLen];omega) (by omega) p9 ?_;intro A9 c9 w9 hown hgr hat;have oQ:=ħ (Below.grown Z_.out hgr Z_.out.size (fun j hj=>(Z5.out.lt j hj).1));have rU:=ħ hown;clear hown hgr hat)
     go_ret2
     unfold QU
     rw[if_neg (by rw[HKK.out];intro h;first | exact absurd h.1 hlt | exact hne h.2)]
     have hlen:k+1+(l.length - k)=(yF l n).length:=by rw[ZA];omega
     have mo:List.map (Value.int .i64) (List.take k l) ++ [ι n] ++ List.drop (k * 1) (List.map (Value.int .i64) l)=(yF l n).map (Value.int .i64):=by
      unfold yF;rw[HKK.out];simp
     rw[←hlen]
     refine ⟨A9,c9,rfl,?_,oQ.out⟩
     rw[←mo]
     exact rU.out
  ·have hlt':¬ (k:Int)<l.length:=by omega
   have O3:decide ((k:Int)<l.length)=false:=by simpa using hlt
   have HK:=ħ (uL hk HV.out (fun h=>absurd h hlt))
   have ho:=World.ownsRow_made (base:=wr.heap.size) (e:=2) (size:=1) wr #[] 0 (Nat.le_refl _) (by simp) (by simp)
   have zD:=ħ ho
   have HB1:=ħ ((Below.refl wr.heap.size wr).alloc (Nat.le_refl _) (.cells #[] 2))
   have iY:=ħ ((HR.out.old (by omega)).more (B':=fun j=>j<wr.heap.size) (fun j hj=>hj.2))
   have eQ:=ħ (show Reads (wr.alloc (.cells #[] 2)) (fun j=>j<wr.heap.size) 1 A k ((l.take k).map (Value.int .i64)) by
    have:=Reads.front1 (iY.out.alloc (.cells #[] 2)) hk
    unfold RI at this
    rw[List.length_take,Nat.min_eq_left hk] at this
    exact this)
   have LB:=fun W=>Vm (A:=A) (n:=l.length) (k:=k) (c:=c) (by omega) W
   have LY:=fun W=>Ug (A:=A) (n:=l.length) (k:=k) (c:=c) (by omega) W
   have hl1:=fun W=>Vp (A:=A) (n:=l.length) (k:=k) (c:=c) hk W
   have hl2:=fun W=>Uk (A:=A) (n:=l.length) (k:=k) (c:=c) hk W
   have HKK:=ħ HK.out
   clear ho HK
   go_upto_region 7 with (at_builtin;refine ze _ rfl _ _ _ rfl wr.heap.size 2 _ 1 8 Tryz.underlying46 Yd rfl (by omega) (.slice (some ⟨wr.heap.size,0,none⟩) 0 0) 0 [] rfl zD.out _ A k c ((l.take k).map (Value.int .i64)) rfl eQ.out (by intro u hu;obtain ⟨x,-,rfl⟩:=List.mem_map.1 hu;rfl) (by simp only[maxLen];omega) (by omega) (by simp) ?_;intro A7 c7 w7 hown hgr hat;rw[Nat.zero_add] at hown⊢;rw[List.nil_append] at hown;have Z7:=ħ (Below.grown HB1.out hgr (by simp) (fun j hj=>by simp[Value.ownBlock] at hj;omega));have oU:=ħ (iY.out.below Z7.out (fun j hj=>hj));have Jy:=ħ (Z7.out.alloc Z7.out.size (.cells #[ι n] 2));have YY:=ħ (own_below hown ((Below.refl w7.heap.size w7).alloc (Nat.le_refl _) (.cells #[ι n] 2)) (fun g hg=>(hown.lt g hg).2));have V6:=ħ (Reads.newS w7 [ι n] 2 (0,0) 1 1 rfl _ rfl);have fD:=Jy.out.size;clear hown hgr hat zD eQ)
   go_upto_region 8 with (at_builtin;refine ze _ rfl _ _ _ rfl wr.heap.size 2 _ 1 8 Tryz.underlying46 Yd rfl (by omega) (.slice A7 k c7) k ((l.take k).map (Value.int .i64)) rfl YY.out _ (some ⟨w7.heap.size,0,none⟩) 1 1 [ι n] rfl V6.out (by simp[Value.oneCell']) (by simp only[maxLen];omega) (by omega) fD ?_;intro A8 c8 w8 hown hgr hat;have Z_:=ħ (Below.grown Jy.out hgr Jy.out.size (fun j hj=>(YY.out.lt j hj).1));have Z5:=ħ hown;have lF:=ħ ((oU.out.alloc (.cells #[ι n] 2)).below (w':=w8) (Below.grown (Below.refl wr.heap.size _) hgr fD (fun j hj=>(YY.out.lt j hj).1)) (fun j hj=>hj) |>.cut (k:=k) (cap:=c) hk hc);have p9:=Z_.out.size;clear hown hgr hat)
   go_wp2_with (at_builtin;refine ze _ rfl _ _ _ rfl wr.heap.size 2 _ 1 8 Tryz.underlying46 Yd rfl (by omega) (.slice A8 (k+1) c8) (k+1) _ rfl Z5.out _ (Ew A c k) (l.length - k) (c - k) ((l.map (Value.int .i64)).drop (k * 1)) rfl lF.out (by intro u hu;obtain ⟨x,-,rfl⟩:=List.mem_map.1 (List.mem_of_mem_drop hu);rfl) (by simp only[maxLen];omega) (by omega) p9 ?_;intro A9 c9 w9 hown hgr hat;have oQ:=ħ (Below.grown Z_.out hgr Z_.out.size (fun j hj=>(Z5.out.lt j hj).1));have rU:=ħ hown;clear hown hgr hat)
   go_ret2
   unfold QU
   rw[if_neg (by rw[HKK.out];intro h;first | exact absurd h.1 hlt | exact hne h.2)]
   have hlen:k+1+(l.length - k)=(yF l n).length:=by rw[ZA];omega
   have mo:List.map (Value.int .i64) (List.take k l) ++ [ι n] ++ List.drop (k * 1) (List.map (Value.int .i64) l)=(yF l n).map (Value.int .i64):=by
    unfold yF;rw[HKK.out];simp
   rw[←hlen]
   refine ⟨A9,c9,rfl,?_,oQ.out⟩
   rw[←mo]
   exact rU.out
theorem DN {w:World}{base:Nat}{t:TypeId}{A:Option Addr}{n c:Nat}{xs:List Value}(h:w.ownsRow base t 1 (.slice A n c) n xs):n≤c:=by
 rcases h.2 with ⟨hv,h0⟩ | ⟨g,cap,cur,hv,hb,hg,hnc,_⟩
 ·omega
 ·injection hv with _ _ h3;omega
def yV (x:Ic)(c:Cr):Ic:={ qV x c with calls:=yF x.calls c.call }
def Zt (l:List Int)(n:Int):Prop:=Q9 l n<l.length∧gd l (Q9 l n)=n
def Ae (B:Nat→Prop)(x:Ic)(An Ac Au:Option Addr)(cn cc cu:Nat)(c:Cr)(w:World)(e:Ending)(w':World):Prop:=
 (Zt x.calls c.call∧e=.returned (.tuple #[.agg (ξ x An cn Ac cc Au cu),.bool false])∧Below w.heap.size w w') ∨
 (¬ Zt x.calls c.call∧∃ (y:Ic) (Y4 Qs:Option Addr) (YA Qu:Nat),y=yV x c∧e=.returned (.tuple #[.agg #[ι x.id,ι y.urg,.string y.code,.slice Y4 y.nodes.length YA,ι x.dist,ι y.since,.slice Qs y.calls.length Qu,.slice Au x.units.length cu,ι x.merged,.bool x.closed],.bool true])∧RI w' (fun k=>(B k∨w.heap.size≤k)∧k<w'.heap.size) Y4 y.nodes∧RI w' (fun k=>(B k∨w.heap.size≤k)∧k<w'.heap.size) Qs y.calls∧y.calls.length≤Qu∧Below w.heap.size w w')
theorem lU (B:Nat→Prop)(x:Ic)(An Ac Au:Option Addr)(cn cc cu:Nat)(t:Ca)(w:World)(hn:RI w B An x.nodes)(hc:RI w B Ac x.calls)(ht:RI w B t.A t.c.nodes)(hcap:x.calls.length≤cc)(ln:x.nodes.length≤100000)(lc:x.calls.length≤100000)(lt:t.c.nodes.length≤100000) :
 Calls Tryz.prog 72 #[.agg (ξ x An cn Ac cc Au cu),.agg (χ t.c t.A t.k)] w (Ae B x An Ac Au cn cc cu t.c w):=by
 have HN:=ħ ((hn.old (by omega)).more (B':=fun k=>B k∧k<w.heap.size) (fun k hk=>hk))
 have HC:=ħ ((hc.old (by omega)).more (B':=fun k=>B k∧k<w.heap.size) (fun k hk=>hk))
 have HR:=ħ ((ht.old (by omega)).more (B':=fun k=>B k∧k<w.heap.size) (fun k hk=>hk))
 have HB:=ħ ((((Below.refl w.heap.size w).alloc (Nat.le_refl _) (.cells (ξ x An cn Ac cc Au cu) 48)).alloc (by simp) (.cells (χ t.c t.A t.k) 34)).alloc (by simp;omega) (.cells ζ 48))
 have HX:=ħ (((zb.new w 48 (ξ x An cn Ac cc Au cu)).alloc (.cells (χ t.c t.A t.k) 34)).alloc (.cells ζ 48))
 have HT:=ħ (show zb (((w.alloc (.cells (ξ x An cn Ac cc Au cu) 48)).alloc (.cells (χ t.c t.A t.k) 34)).alloc (.cells ζ 48)) (w.heap.size+1) 34 (χ t.c t.A t.k) by
  have:=(zb.new (w.alloc (.cells (ξ x An cn Ac cc Au cu) 48)) 34 (χ t.c t.A t.k)).alloc (.cells ζ 48)
  simpa using this)
 have HY:=ħ (show zb (((w.alloc (.cells (ξ x An cn Ac cc Au cu) 48)).alloc (.cells (χ t.c t.A t.k) 34)).alloc (.cells ζ 48)) (w.heap.size+2) 48 ζ by
  have:=zb.new ((w.alloc (.cells (ξ x An cn Ac cc Au cu) 48)).alloc (.cells (χ t.c t.A t.k) 34)) 48 ζ
  simpa using this)
 have JF:=ħ (nR _ Ac cc x.calls t.c.call (((w.alloc (.cells (ξ x An cn Ac cc Au cu) 48)).alloc (.cells (χ t.c t.A t.k) 34)).alloc (.cells ζ 48)) (HC.out.below HB.out (fun j hj=>hj.2)) hcap lc)
 have x0:=HX.out.facts
 have y0:=HT.out.facts
 clear hn hc ht
 by_cases hh:Zt x.calls t.c.call
 ·have H:=ħ (show Calls Tryz.prog 122 #[.slice Ac x.calls.length cc,ι t.c.call] (((w.alloc (.cells (ξ x An cn Ac cc Au cu) 48)).alloc (.cells (χ t.c t.A t.k) 34)).alloc (.cells ζ 48)) (fun e w'=>e=.returned (.tuple #[.slice Ac x.calls.length cc,.bool false])∧w'=(((w.alloc (.cells (ξ x An cn Ac cc Au cu) 48)).alloc (.cells (χ t.c t.A t.k) 34)).alloc (.cells ζ 48))) from JF.out.mono (fun e w' h=>by
   unfold QU at h
   rw[if_pos (show Q9 x.calls t.c.call<x.calls.length∧gd x.calls (Q9 x.calls t.c.call)=t.c.call from hh)] at h
   exact h))
  clear JF
  go_enter Tryz.func72,Tryz.ntmps72
  go_wp2_with (first
   | (go_at_call 122;((with_reducible refine H.out.mono ?_);rintro e w4 ⟨rfl,rfl⟩))
   | (refine z8 rfl (.tmp 4) (.tmp 19) 48 rfl (w.heap.size+2) 48 _ (ξ x An cn Ac cc Au cu) _ 10 136 zJ rfl rfl rfl HY.out rfl (zH (by simp[Value.oneCell'])) ?_;intro w8 zW zI yL))
  refine bodyPost_ret (za (p:=4) (u:=5) (ty:=48) Tryz.results72 _ _ (w.heap.size+2) 48 (ξ x An cn Ac cc Au cu) (0,0) _ rfl zW Tryz.underlying48 rfl qo) rfl ?_
  exact .inl ⟨hh,rfl,HB.out.trans (zI.below HB.out.size (fun k hk e=>by omega))⟩
 ·have H:=ħ (show Calls Tryz.prog 122 #[.slice Ac x.calls.length cc,ι t.c.call] (((w.alloc (.cells (ξ x An cn Ac cc Au cu) 48)).alloc (.cells (χ t.c t.A t.k) 34)).alloc (.cells ζ 48)) (fun e w'=>∃ A' c',e=.returned (.tuple #[.slice A' (yF x.calls t.c.call).length c',.bool true])∧w'.ownsRow (((w.alloc (.cells (ξ x An cn Ac cc Au cu) 48)).alloc (.cells (χ t.c t.A t.k) 34)).alloc (.cells ζ 48)).heap.size 2 1 (.slice A' (yF x.calls t.c.call).length c') (yF x.calls t.c.call).length ((yF x.calls t.c.call).map (Value.int .i64))∧Below (((w.alloc (.cells (ξ x An cn Ac cc Au cu) 48)).alloc (.cells (χ t.c t.A t.k) 34)).alloc (.cells ζ 48)).heap.size (((w.alloc (.cells (ξ x An cn Ac cc Au cu) 48)).alloc (.cells (χ t.c t.A t.k) 34)).alloc (.cells ζ 48)) w') from JF.out.mono (fun e w' h=>by
   unfold QU at h
   rw[if_neg (show ¬ (Q9 x.calls t.c.call<x.calls.length∧gd x.calls (Q9 x.calls t.c.call)=t.c.call) from hh)] at h
   exact h))
  clear JF
  go_enter Tryz.func72,Tryz.ntmps72
  go_upto_region 5 with (go_at_call 122;((with_reducible refine H.out.mono ?_);rintro e w4 ⟨A4,c4,rfl,jW,hb4⟩;have zP:=ħ jW;have jv:=ħ (HX.out.below hb4 HX.out.lt);have p_:=ħ (HT.out.below hb4 HT.out.lt);have Yy:=ħ (HY.out.below hb4 HY.out.lt);have Zp:=ħ (HB.out.trans (hb4.mono HB.out.size));clear jW hb4 x0 y0;have x0:=jv.out.facts;have y0:=p_.out.facts))
  have jq:=ħ (show zb (w4.setCell ⟨w.heap.size,6,none⟩ (.slice A4 (yF x.calls t.c.call).length c4)) w.heap.size 48 #[ι x.id,ι x.urg,.string x.code,.slice An x.nodes.length cn,ι x.dist,ι x.since,.slice A4 (yF x.calls t.c.call).length c4,.slice Au x.units.length cu,ι x.merged,.bool x.closed] by have:=jv.out.set_ 6 (.slice A4 (yF x.calls t.c.call).length c4);simpa using this)
  have bB:=ħ (p_.out.far (p:=⟨w.heap.size,6,none⟩) (by simp) (.slice A4 (yF x.calls t.c.call).length c4))
  have J9:=ħ (Yy.out.far (p:=⟨w.heap.size,6,none⟩) (by simp) (.slice A4 (yF x.calls t.c.call).length c4))
  have ZN:=ħ (Zp.out.setCell (p:=⟨w.heap.size,6,none⟩) (Nat.le_refl _) (.slice A4 (yF x.calls t.c.call).length c4))
  have y9:=ħ (HN.out.below ZN.out (fun j hj=>hj.2))
  have Ef:=ħ (HR.out.below ZN.out (fun j hj=>hj.2))
  have HL:=ħ (ZA x.calls t.c.call)
  have Mx:=ħ (show w.heap.size+3≤w4.heap.size by have:=Yy.out.lt;omega)
  have OP:=ħ (DN zP.out)
  have qm:=ħ ((Ke zP.out).more (B':=fun k=>w.heap.size+3≤k) (fun k hk=>by have h2:(((w.alloc (.cells (ξ x An cn Ac cc Au cu) 48)).alloc (.cells (χ t.c t.A t.k) 34)).alloc (.cells ζ 48)).heap.size≤k:=hk;simp at h2;omega) |>.setCell (p:=⟨w.heap.size,6,none⟩) (by simp) (.slice A4 (yF x.calls t.c.call).length c4))
  have QE:=ħ (show w.heap.size+3≤(w4.setCell ⟨w.heap.size,6,none⟩ (.slice A4 (yF x.calls t.c.call).length c4)).heap.size by have:=Mx.out;simp;omega)
  clear jv p_ Yy Zp zP Mx x0 y0 HX HT HY HB H HN HR HC
  generalize w4.setCell _ _=W5 at *
  have x0:=jq.out.facts
  have y0:=bB.out.facts
  go_upto_if 26 with (fail)
  go_cut [] (fun wx=>zb wx w.heap.size 48 #[ι x.id,ι (if t.c.urg<x.urg then t.c.urg else x.urg),.string (if t.c.urg<x.urg then t.c.code else x.code),.slice An x.nodes.length cn,ι x.dist,ι x.since,.slice A4 (yF x.calls t.c.call).length c4,.slice Au x.units.length cu,ι x.merged,.bool x.closed]∧zb wx (w.heap.size+1) 34 (χ t.c t.A t.k)∧Fr (fun k=>k=w.heap.size) W5 wx)
  case first=>
   by_cases hq:t.c.urg<x.urg
   ·rw[decide_eq_true hq]
    have HU:=ħ hq
    have H1:=ħ (show zb ((W5.setCell ⟨w.heap.size,1,none⟩ (ι t.c.urg)).setCell ⟨w.heap.size,2,none⟩ (.string t.c.code)) w.heap.size 48 #[ι x.id,ι t.c.urg,.string t.c.code,.slice An x.nodes.length cn,ι x.dist,ι x.since,.slice A4 (yF x.calls t.c.call).length c4,.slice Au x.units.length cu,ι x.merged,.bool x.closed] by have:=(jq.out.set_ 1 (ι t.c.urg)).set_ 2 (.string t.c.code);simpa using this)
    have H2:=ħ ((bB.out.far (p:=⟨w.heap.size,1,none⟩) (by simp) (ι t.c.urg)).far (p:=⟨w.heap.size,2,none⟩) (by simp) (.string t.c.code))
    have H3:=ħ (((Fr.refl (fun k=>k=w.heap.size) W5).setCell (p:=⟨w.heap.size,1,none⟩) (.inl rfl) (ι t.c.urg)).setCell (p:=⟨w.heap.size,2,none⟩) (.inl rfl) (.string t.c.code))
    clear hq
    go_upto_region 6 with (fail)
    go_region_law (fail)
    all_goals
     go_wp2_with fail
     go_meet
     case rel=>exact ⟨by rw[if_pos HU.out,if_pos HU.out];exact H1.out,H2.out,H3.out.drew⟩
   ·rw[decide_eq_false hq]
    have HU:=ħ hq
    clear hq
    go_wp2_with fail
    go_meet
    case rel=>exact ⟨by rw[if_neg (by have:=HU.out;omega),if_neg (by have:=HU.out;omega)];exact jq.out,bB.out,Fr.refl _ _⟩
  case rest=>
   obtain ⟨hx1,ht1,hf1⟩:=hcut
   have OE:=ħ (show (yV x t.c).urg=(if t.c.urg<x.urg then t.c.urg else x.urg) from rfl)
   have tO:=ħ (show (yV x t.c).code=(if t.c.urg<x.urg then t.c.code else x.code) from rfl)
   generalize huu:(if t.c.urg<x.urg then t.c.urg else x.urg)=uu at *
   generalize hss:(if t.c.urg<x.urg then t.c.code else x.code)=ss at *
   clear huu hss
   have ZI:=ħ hx1
   have fQ:=ħ ht1
   have U6:=ħ (J9.out.fr hf1 (by omega))
   have Qq:=ħ (ZN.out.trans (hf1.below (B:=w.heap.size) (by have:=QE.out;omega) (fun k hk=>by omega)))
   have yx:=ħ (y9.out.fr hf1 (fun k hk=>by omega))
   have E8:=ħ (Ef.out.fr hf1 (fun k hk=>by omega))
   have yS:=ħ (qm.out.fr hf1 (fun k hk=>by omega))
   have GL:=ħ (show w.heap.size+3≤wc.heap.size from Nat.le_trans QE.out hf1.size)
   clear hx1 ht1 hf1 jq bB J9 ZN y9 Ef qm QE x0 y0
   have x0:=ZI.out.facts
   have y0:=fQ.out.facts
   have Mr:=ħ (Jl _ An t.A cn t.k x.nodes t.c.nodes wc yx.out E8.out ln lt)
   go_upto_if 40 with (go_at_call 96;((with_reducible refine Mr.out.mono ?_);rintro e w7 ⟨A7,c7,rfl,Mq,ZO⟩;have Kn:=ħ (ZI.out.below ZO ZI.out.lt);have ng:=ħ (fQ.out.below ZO fQ.out.lt);have RZ:=ħ (U6.out.below ZO U6.out.lt);have Z7:=ħ (Qq.out.trans (ZO.mono Qq.out.size));have ZM:=ħ (yx.out.below ZO (fun k hk=>Nat.lt_of_lt_of_le hk.2 Qq.out.size));have j_:=ħ ((yS.out.old (by omega)).below ZO (fun k hk=>hk.2) |>.more (B':=fun k=>w.heap.size+3≤k) (fun k hk=>hk.1));have Gc:=ħ ((Ke Mq).more (B':=fun k=>w.heap.size+3≤k) (fun k hk=>Nat.le_trans GL.out hk));have xm:=ħ (Nat.le_trans GL.out ZO.size);clear Mq ZO x0 y0;have x0:=Kn.out.facts;have y0:=ng.out.facts))
   clear ZI fQ U6 Qq yx E8 yS GL Mr
   have Dh:=ħ (show (yV x t.c).nodes=(if 0<(zT x.nodes t.c.nodes).length then zT x.nodes t.c.nodes else x.nodes) from rfl)
   generalize zT x.nodes t.c.nodes=L at *
   go_cut [] (fun wx=>∃ A8 c8,zb wx w.heap.size 48 #[ι x.id,ι uu,.string ss,.slice A8 (if 0<L.length then L else x.nodes).length c8,ι x.dist,ι x.since,.slice A4 (yF x.calls t.c.call).length c4,.slice Au x.units.length cu,ι x.merged,.bool x.closed]∧zb wx (w.heap.size+1) 34 (χ t.c t.A t.k)∧RI wx (fun k=>(B k∧k<w.heap.size)∨w.heap.size+3≤k) A8 (if 0<L.length then L else x.nodes)∧Fr (fun k=>k=w.heap.size) w7 wx)
   case first=>
    by_cases h0:0<L.length
    ·have h0':(0:Int)<L.length:=by omega
     have E1:=ħ (show zb (w7.setCell ⟨w.heap.size,3,none⟩ (.slice A7 L.length c7)) w.heap.size 48 #[ι x.id,ι uu,.string ss,.slice A7 L.length c7,ι x.dist,ι x.since,.slice A4 (yF x.calls t.c.call).length c4,.slice Au x.units.length cu,ι x.merged,.bool x.closed] by have:=Kn.out.set_ 3 (.slice A7 L.length c7);simpa using this)
     have E2:=ħ (ng.out.far (p:=⟨w.heap.size,3,none⟩) (by simp) (.slice A7 L.length c7))
     have E0:=ħ ((Fr.refl (fun k=>k=w.heap.size) w7).setCell (p:=⟨w.heap.size,3,none⟩) (.inl rfl) (.slice A7 L.length c7))
     have E3:=ħ (Gc.out.fr E0.out (fun k hk=>by omega) |>.more (B':=fun k=>(B k∧k<w.heap.size)∨w.heap.size+3≤k) (fun k hk=>.inr hk))
     go_wp2_with fail
     go_meet
     case rel=>exact ⟨A7,c7,by rw[if_pos (by omega)];exact E1.out,E2.out,by rw[if_pos (by omega)];exact E3.out,E0.out⟩
    ·have h0':¬ (0:Int)<L.length:=by omega
     go_wp2_with fail
     go_meet
     case rel=>exact ⟨An,cn,by rw[if_neg (by omega)];exact Kn.out,ng.out,by rw[if_neg (by omega)];exact ZM.out.more (fun k hk=>.inl hk),Fr.refl _ _⟩
   case rest=>
    obtain ⟨A8,c8,Mj,Lt,eB,zI⟩:=hcut
    generalize (if 0<L.length then L else x.nodes)=NN at *
    have BG:=ħ Mj
    have gG:=ħ Lt
    have V6:=ħ eB
    have E9:=ħ (RZ.out.fr zI (by omega))
    have Jy:=ħ (Z7.out.trans (zI.below (B:=w.heap.size) (by have:=xm.out;omega) (fun k hk=>by omega)))
    have YY:=ħ (j_.out.fr zI (fun k hk=>by omega))
    have lC:=ħ (show w.heap.size+3≤wc.heap.size from Nat.le_trans xm.out zI.size)
    clear Mj Lt eB zI Kn ng RZ Z7 ZM j_ xm Gc x0 y0
    have x0:=BG.out.facts
    have y0:=gG.out.facts
    go_upto_region 10 with (fail)
    go_cut [] (fun wx=>wx=(wc.setCell ⟨w.heap.size,5,none⟩ (ι (min x.since t.c.since))))
    case first=>
     go_wp2_with fail
     all_goals
      go_meet
      case rel=>rfl
    case rest=>
     subst hcut
     have VM:=ħ (show zb (wc.setCell ⟨w.heap.size,5,none⟩ (ι (min x.since t.c.since))) w.heap.size 48 #[ι x.id,ι uu,.string ss,.slice A8 NN.length c8,ι x.dist,ι (min x.since t.c.since),.slice A4 (yF x.calls t.c.call).length c4,.slice Au x.units.length cu,ι x.merged,.bool x.closed] by have:=BG.out.set_ 5 (ι (min x.since t.c.since));exact (by simpa using this:zb (wc.setCell ⟨w.heap.size,5,none⟩ (ι (min x.since t.c.since))) w.heap.size 48 #[ι x.id,ι uu,.string ss,.slice A8 NN.length c8,ι x.dist,ι (min x.since t.c.since),.slice A4 (yF x.calls t.c.call).length c4,.slice Au x.units.length cu,ι x.merged,.bool x.closed]))
     have gZ:=ħ (show zb (wc.setCell ⟨w.heap.size,5,none⟩ (ι (min x.since t.c.since))) (w.heap.size+2) 48 ζ from E9.out.far (p:=⟨w.heap.size,5,none⟩) (by simp) (ι (min x.since t.c.since)))
     have E0:=ħ (show Fr (fun k=>k=w.heap.size) wc (wc.setCell ⟨w.heap.size,5,none⟩ (ι (min x.since t.c.since))) from ((Fr.refl (fun k=>k=w.heap.size) wc).setCell (p:=⟨w.heap.size,5,none⟩) (.inl rfl) (ι (min x.since t.c.since))))
     have fI:=ħ (V6.out.fr E0.out (fun k hk=>by omega))
     have Z5:=ħ (YY.out.fr E0.out (fun k hk=>by omega))
     have Z_:=ħ (Jy.out.trans (E0.out.below (B:=w.heap.size) (by have:=lC.out;omega) (fun k hk=>by omega)))
     have Uu:=ħ (show (yV x t.c).since=min x.since t.c.since from rfl)
     have nW:=ħ (show (yV x t.c).calls=yF x.calls t.c.call from rfl)
     clear BG gG V6 E9 Jy YY E0 x0 y0
     generalize wc.setCell _ _=W9 at *
     have x0:=VM.out.facts
     go_wp2_with (refine z8 rfl (.tmp 4) (.tmp 49) 48 rfl (w.heap.size+2) 48 _ #[ι x.id,ι uu,.string ss,.slice A8 NN.length c8,ι x.dist,ι (min x.since t.c.since),.slice A4 (yF x.calls t.c.call).length c4,.slice Au x.units.length cu,ι x.merged,.bool x.closed] _ 10 136 zJ rfl rfl rfl gZ.out rfl (zH (by simp[Value.oneCell'])) ?_;intro VT UI Yp aX)
     refine bodyPost_ret (za (p:=4) (u:=5) (ty:=48) Tryz.results72 _ _ (w.heap.size+2) 48 #[ι x.id,ι uu,.string ss,.slice A8 NN.length c8,ι x.dist,ι (min x.since t.c.since),.slice A4 (yF x.calls t.c.call).length c4,.slice Au x.units.length cu,ι x.merged,.bool x.closed] (0,0) _ rfl UI Tryz.underlying48 rfl qo) rfl ?_
     refine .inr ⟨hh,yV x t.c,A8,A4,c8,c4,rfl,?_,?_,?_,?_,?_⟩
     ·rw[OE.out,tO.out,Dh.out,Uu.out,nW.out];rfl
     ·rw[Dh.out];exact ((fI.out.fr Yp (fun k hk=>by omega)).old (by omega)).more (fun k hk=>⟨hk.1.elim (fun h=>.inl h.1) (fun h=>.inr (by omega)),hk.2⟩)
     ·rw[nW.out];exact ((Z5.out.fr Yp (fun k hk=>by omega)).old (by omega)).more (fun k hk=>⟨.inr (by have:=hk.1;omega),hk.2⟩)
     ·rw[nW.out];exact OP.out
     ·exact Z_.out.trans (Yp.below Z_.out.size (fun k hk e=>by omega))
end Go.Proofs.YtdhcjhfgibmhfaaGreatDoor

import Derived.Test.YtdhcjhfgibmhfaaGreatDoorJG16
import Derived.Test.YtdhcjhfgibmhfaaGreatDoorJG3
set_option linter.unusedVariables false
set_option linter.unusedSimpArgs false
set_option maxRecDepth 10000
set_option maxHeartbeats 8000000
namespace Go.Proofs.YtdhcjhfgibmhfaaGreatDoor
open Go.RowKit Go.Own Go.Quo Go.Inc
structure LS (w wr:World) (ty size:Nat) (c0 c1:Array Value) (v:Value) (m:Nat) (row:List Value):Prop where
 bx:zb wr w.heap.size 29 c0
 bt:zb wr (w.heap.size+1) ty c1
 bz:zb wr (w.heap.size+2) 29 #[.slice none 0 0,.slice none 0 0]
 ow:wr.ownsRow (w.heap.size+3) ty size v m row
 be:Below w.heap.size w wr
 sz:w.heap.size+3≤wr.heap.size
theorem LS.alloc {w wr:World}{ty size:Nat}{c0 c1:Array Value}{v:Value}{m:Nat}{row:List Value}(h:LS w wr ty size c0 c1 v m row)(o:Obj):LS w (wr.alloc o) ty size c0 c1 v m row:=
 ⟨h.bx.alloc o,h.bt.alloc o,h.bz.alloc o,h.ow.alloc o,h.be.alloc h.be.size o,by have:=h.sz;simp;omega⟩
theorem LS.app {w wr w2:World}{ty size:Nat}{c0 c1:Array Value}{v v2:Value}{m m2:Nat}{row H_:List Value}(h:LS w wr ty size c0 c1 v m row)(ho:w2.ownsRow (w.heap.size+3) ty size v2 m2 H_)(hg:wr.grownBy w2 v.ownBlock):LS w w2 ty size c0 c1 v2 m2 H_:=by
 have hl:∀ j,v.ownBlock=some j→w.heap.size+3≤j:=fun j hj=>(h.ow.lt j hj).1
 exact ⟨h.bx.grown hg (fun e=>by have:=hl _ e.symm;omega),h.bt.grown hg (fun e=>by have:=hl _ e.symm;omega),h.bz.grown hg (fun e=>by have:=hl _ e.symm;omega),ho,Below.grown h.be hg h.be.size (fun j hj=>by have:=hl j hj;omega),Nat.le_trans h.sz hg.size⟩
theorem uz (a:Xa):∀ u∈Yz a,u.oneCell'=true:=by
 intro u hu
 simp[Yz] at hu
 rcases hu with rfl | rfl | rfl | rfl | rfl | rfl | rfl | rfl | rfl | rfl <;> rfl
theorem Vz (a:Ca):∀ u∈qC a,u.oneCell'=true:=by
 intro u hu
 simp[qC] at hu
 rcases hu with rfl | rfl | rfl | rfl | rfl | rfl | rfl | rfl <;> rfl
theorem zy:(Tryz.prog.info? 29).map (fun i=>(i.zero,i.size,i.bytes))=some (some (.agg #[.slice none 0 0,.slice none 0 0]),2,48):=by kernel_rfl
theorem zm:(Tryz.prog.info? 29).map (·.size)=some 2:=by kernel_rfl
theorem J3 {α:Type}(key:α→Int)(l:List α)(x y:α)(h:y∈yj key l x):y=x∨y∈l:=by
 unfold yj at h
 dsimp only at h
 split at h
 ·rcases Js key x l _ y h with h1 | h1 | h1
  ·simp at h1
  ·exact .inl h1
  ·exact .inr h1
 ·rcases List.mem_append.1 h with h2 | h2
  ·rcases Js key x l _ y h2 with h1 | h1 | h1
   ·simp at h1
   ·exact .inl h1
   ·exact .inr h1
  ·left;simpa using h2
theorem Vf {α:Type}(key:α→Int)(x:α)(l:List α)(k:Nat):((l.take k).foldl (yh key x) ([],false)).1.length≤2 * l.length:=by
 have h1:=U8 key x (l.take k) ([],false)
 have h2:(l.take k).length≤l.length:=List.length_take_le' _ _
 simp only[List.length_nil] at h1
 omega
def FO (v:Bv)(a:Xa)(B:Nat→Prop)(w:World)(e:Ending)(w':World):Prop:=∃ (A':Option Addr) (c':Nat),e=.returned (YW { v with la:=yj (fun a:Xa=>a.x.id) v.la a,AL:=A',cL:=c' })∧zX w' B { v with la:=yj (fun a:Xa=>a.x.id) v.la a,AL:=A',cL:=c' }∧Below w.heap.size w w'
theorem pE (v:Bv)(a:Xa)(B:Nat→Prop)(w:World)(h:zX w B v)(ha:XR w B a)(hB:∀ k,w.heap.size≤k→B k)(hl:v.la.length≤10000) :
 Calls Tryz.prog 90 #[YW v,.agg (ξ a.x a.An a.cn a.Ac a.cc a.Au a.cu)] w (FO v a B w):=by
 have hp:=h.rl.plain (by omega)
 have HV:=ħ h
 have HA:=ħ ha
 have Kq:=ħ hB
 have HR:=ħ ((h.rl.old (by omega)).more (B':=fun k=>k<w.heap.size) (fun k hk=>hk.2))
 have HS:=ħ (show LS w (((w.alloc (.cells (β v) 29)).alloc (.cells (ξ a.x a.An a.cn a.Ac a.cc a.Au a.cu) 48)).alloc (.cells #[.slice none 0 0,.slice none 0 0] 29)) 48 10 (β v) (ξ a.x a.An a.cn a.Ac a.cc a.Au a.cu) (.slice none 0 0) 0 [] from
  ⟨((zb.new w 29 (β v)).alloc _).alloc _,by
   have:=(zb.new (w.alloc (.cells (β v) 29)) 48 (ξ a.x a.An a.cn a.Ac a.cc a.Au a.cu)).alloc (.cells #[.slice none 0 0,.slice none 0 0] 29)
   simpa using this,by
   have:=zb.new ((w.alloc (.cells (β v) 29)).alloc (.cells (ξ a.x a.An a.cn a.Ac a.cc a.Au a.cu) 48)) 29 #[.slice none 0 0,.slice none 0 0]
   simpa using this,World.ownsRow_nil _ _ _ _,(((Below.refl w.heap.size w).alloc (Nat.le_refl _) _).alloc (by simp) _).alloc (by simp;omega) _,by simp⟩)
 clear h ha hB
 obtain ⟨la,AL,cL,lc,AC,cC⟩:=v
 simp only at *
 go_enter Tryz.func90,Tryz.ntmps90
 go_upto_region 3 with fail
 generalize ((w.alloc _).alloc _).alloc _=W1 at *
 have x0:=HS.out.bx.facts
 go_wp2_with fail
 clear x0
 go_loopw [5,6,12] (fun vo vp vi wr=>∃ (k m:Nat) (A:Option Addr) (c:Nat) (out:List Xa) (put:Bool),k≤la.length∧vi=ι (k:Int)∧vp=.bool put∧vo=.slice A m c∧m=out.length∧(la.take k).foldl (yh (fun a:Xa=>a.x.id) a) ([],false)=(out,put)∧LS w wr 48 10 #[.slice AL la.length cL,.slice AC lc.length cC] (ξ a.x a.An a.cn a.Ac a.cc a.Au a.cu) (.slice A m c) m (out.flatMap Yz)) (fun _ _ vi _=>la.length - (intOf vi).toNat)
 case atStart=>exact ⟨0,0,none,0,[],false,Nat.zero_le _,rfl,rfl,rfl,rfl,rfl,HS.out⟩
 case round=>
  obtain ⟨k,m,A,c,out,put,hk,rfl,rfl,rfl,hm,hf,hs⟩:=hrel
  clear HS
  have HF:=ħ hf
  have HM:=ħ hm
  have HS:=ħ hs
  have uY:m≤20000:=by
   have:=Vf (fun a:Xa=>a.x.id) a la k
   rw[hf] at this
   simp only at this
   omega
  have hsz:=hs.sz
  clear hf hm
  by_cases hlt:k<la.length
  ·have hlt':(k:Int)<la.length:=by omega
   have hix:=fun W=>JZ hp cL k hlt W
   have VP:=ħ (XQ (HR.out.below hs.be (fun j hj=>hj)) hlt)
   have uD:=ħ (Vi (fun a:Xa=>a.x.id) a la hlt)
   have jB:=ħ (show ∀ (l:List Xa),(l ++ [la[k]]).flatMap Yz=l.flatMap Yz ++ Yz la[k] from fun l=>by simp)
   have Sg:=ħ (show ∀ (l:List Xa),(l ++ [a]).flatMap Yz=l.flatMap Yz ++ [ι a.x.id,ι a.x.urg,.string a.x.code,.slice a.An a.x.nodes.length a.cn,ι a.x.dist,ι a.x.since,.slice a.Ac a.x.calls.length a.cc,.slice a.Au a.x.units.length a.cu,ι a.x.merged,.bool a.x.closed] from fun l=>by simp[Yz])
   obtain ⟨u,s,A1,n1,c1,d,e,A2,n2,c2,A3,n3,c3,mm,f,hx⟩:=KG la[k]
   have H1:=ħ (uz la[k])
   rw[hx] at VP jB H1
   clear hx hs
   obtain ⟨y,hy⟩:∃ y,y=la[k]:=⟨_,rfl⟩
   rw[←hy] at uD VP jB H1
   clear hy
   obtain ⟨i,hi⟩:∃ i,i=y.x.id:=⟨_,rfl⟩
   rw[←hi] at VP jB H1
   have HI:=ħ hi
   clear hi
   rw[HF.out] at uD
   have hr:=VP.out
   have x0:=HS.out.bt.facts
   have HY:=ħ (zb.new wr 48 #[ι i,ι u,.string s,.slice A1 n1 c1,ι d,ι e,.slice A2 n2 c2,.slice A3 n3 c3,ι mm,.bool f])
   have hwo:∀ j,(Value.slice A m c).ownBlock=some j→j<wr.heap.size:=fun j hj=>(HS.out.ow.lt j hj).2
   cases put with
   | false=>
    by_cases hc:a.x.id≤i
    ·have hc1:decide (a.x.id≤i)=true:=by simpa using hc
     have aS:=ħ hc
     go_upto_region 8 with (first | (refine wpList_load_mid rfl 48 _ rfl (bk AL) (qP AL+k * 10) rfl [ι i,ι u,.string s,.slice A1 n1 c1,ι d,ι e,.slice A2 n2 c2,.slice A3 n3 c3,ι mm,.bool f] _ hr Tryz.underlying48 rfl qo ?_) | (at_builtin;refine ze _ rfl _ _ _ rfl (w.heap.size+3) 48 _ 10 136 Tryz.underlying26 zJ rfl (by omega) (.slice A (m) c) (m) (out.flatMap Yz) rfl ((HS.out.alloc _).ow.alloc _) _ (some ⟨wr.heap.size+1,0,none⟩) 1 1 [ι a.x.id,ι a.x.urg,.string a.x.code,.slice a.An a.x.nodes.length a.cn,ι a.x.dist,ι a.x.since,.slice a.Ac a.x.calls.length a.cc,.slice a.Au a.x.units.length a.cu,ι a.x.merged,.bool a.x.closed] rfl (Reads.newS _ [ι a.x.id,ι a.x.urg,.string a.x.code,.slice a.An a.x.nodes.length a.cn,ι a.x.dist,ι a.x.since,.slice a.Ac a.x.calls.length a.cc,.slice a.Au a.x.units.length a.cu,ι a.x.merged,.bool a.x.closed] 48 (0,0) 1 10 rfl _ (by simp)) (uz a) (by simp only[maxLen];omega) (by omega) (by simp;omega) ?_;intro A5 c5 w5 hown hgr hat;have QE:=ħ (((HS.out.alloc _).alloc _).app hown hgr);have J9:=ħ ((HY.out.alloc _).grown hgr (fun e=>by have:=hwo _ e.symm;omega));clear hown hgr hat;have y0:=QE.out.bt.facts;have z0:=J9.out.facts;have hsz5:=QE.out.sz))
     by_cases he:i=a.x.id
     ·have he1:(i != a.x.id)=false:=by simp[he]
      have HE:=ħ (XC (fun a:Xa=>a.x.id) (x:=a) (y:=y) (acc:=(out,false)) ⟨rfl,by rw[←HI.out];exact aS.out⟩ (by rw[←HI.out];exact he))
      clear he hc hc1 x0
      go_wp2_with fail
      refine ⟨⟨k+1,m+1,A5,c5,out ++ [a],true,by omega,by go_num,rfl,rfl,by rw[List.length_append,HM.out];rfl,by rw[uD.out,HE.out],by rw[Sg.out];exact QE.out⟩,by simp[intOf];omega⟩
     ·have he1:(i != a.x.id)=true:=by simpa using he
      have HE:=ħ (XI (fun a:Xa=>a.x.id) (x:=a) (y:=y) (acc:=(out,false)) ⟨rfl,by rw[←HI.out];exact aS.out⟩ (by rw[←HI.out];exact he))
      clear he hc hc1 x0
      go_wp2_with (at_builtin;refine ze _ rfl _ _ _ rfl (w.heap.size+3) 48 _ 10 136 Tryz.underlying26 zJ rfl (by omega) (.slice A5 (m+1) c5) (m+1) (out.flatMap Yz ++ [ι a.x.id,ι a.x.urg,.string a.x.code,.slice a.An a.x.nodes.length a.cn,ι a.x.dist,ι a.x.since,.slice a.Ac a.x.calls.length a.cc,.slice a.Au a.x.units.length a.cu,ι a.x.merged,.bool a.x.closed]) rfl (QE.out.ow.alloc _) _ (some ⟨w5.heap.size,0,none⟩) 1 1 [ι i,ι u,.string s,.slice A1 n1 c1,ι d,ι e,.slice A2 n2 c2,.slice A3 n3 c3,ι mm,.bool f] rfl (Reads.newS _ [ι i,ι u,.string s,.slice A1 n1 c1,ι d,ι e,.slice A2 n2 c2,.slice A3 n3 c3,ι mm,.bool f] 48 (0,0) 1 10 rfl _ (by simp)) H1.out (by simp only[maxLen];omega) (by omega) (by simp;omega) ?_;intro A6 c6 w6 hown hgr hat;have GL:=ħ ((QE.out.alloc _).app hown hgr);clear hown hgr hat)
      refine ⟨⟨k+1,m+1+1,A6,c6,out ++ [a] ++ [y],true,by omega,by go_num,rfl,rfl,by rw[List.length_append,List.length_append,HM.out];rfl,by rw[uD.out,HE.out],by rw[jB.out,Sg.out];exact GL.out⟩,by simp[intOf];omega⟩
    ·have hc1:decide (a.x.id≤i)=false:=by simpa using hc
     have he:¬ i=a.x.id:=by omega
     have he1:(i != a.x.id)=true:=by simpa using he
     have HE:=ħ (Q6 (fun a:Xa=>a.x.id) (x:=a) (y:=y) (acc:=(out,false)) (fun h=>hc (by rw[HI.out];exact h.2)) (by rw[←HI.out];exact he))
     clear he hc
     go_wp2_with (first | (refine wpList_load_mid rfl 48 _ rfl (bk AL) (qP AL+k * 10) rfl [ι i,ι u,.string s,.slice A1 n1 c1,ι d,ι e,.slice A2 n2 c2,.slice A3 n3 c3,ι mm,.bool f] _ hr Tryz.underlying48 rfl qo ?_) | (at_builtin;refine ze _ rfl _ _ _ rfl (w.heap.size+3) 48 _ 10 136 Tryz.underlying26 zJ rfl (by omega) (.slice A (m) c) (m) (out.flatMap Yz) rfl ((HS.out.alloc _).ow.alloc _) _ (some ⟨wr.heap.size+1,0,none⟩) 1 1 [ι i,ι u,.string s,.slice A1 n1 c1,ι d,ι e,.slice A2 n2 c2,.slice A3 n3 c3,ι mm,.bool f] rfl (Reads.newS _ [ι i,ι u,.string s,.slice A1 n1 c1,ι d,ι e,.slice A2 n2 c2,.slice A3 n3 c3,ι mm,.bool f] 48 (0,0) 1 10 rfl _ (by simp)) H1.out (by simp only[maxLen];omega) (by omega) (by simp;omega) ?_;intro A7 c7 w7 hown hgr hat;have xm:=ħ (((HS.out.alloc _).alloc _).app hown hgr);clear hown hgr hat))
     refine ⟨⟨k+1,m+1,A7,c7,out ++ [y],false,by omega,by go_num,rfl,rfl,by rw[List.length_append,HM.out];rfl,by rw[uD.out,HE.out],by rw[jB.out];exact xm.out⟩,by simp[intOf];omega⟩
   | true=>
    by_cases he:i=a.x.id
    ·have he1:(i != a.x.id)=false:=by simp[he]
     have HE:=ħ (Kg (fun a:Xa=>a.x.id) (x:=a) (y:=y) (acc:=(out,true)) (fun h=>by cases h.1) (by rw[←HI.out];exact he))
     clear he
     go_wp2_with (refine wpList_load_mid rfl 48 _ rfl (bk AL) (qP AL+k * 10) rfl [ι i,ι u,.string s,.slice A1 n1 c1,ι d,ι e,.slice A2 n2 c2,.slice A3 n3 c3,ι mm,.bool f] _ hr Tryz.underlying48 rfl qo ?_)
     refine ⟨⟨k+1,m,A,c,out,true,by omega,by go_num,rfl,rfl,HM.out,by rw[uD.out,HE.out],HS.out.alloc _⟩,by simp[intOf];omega⟩
    ·have he1:(i != a.x.id)=true:=by simpa using he
     have HE:=ħ (Q6 (fun a:Xa=>a.x.id) (x:=a) (y:=y) (acc:=(out,true)) (fun h=>by cases h.1) (by rw[←HI.out];exact he))
     clear he
     go_wp2_with (first | (refine wpList_load_mid rfl 48 _ rfl (bk AL) (qP AL+k * 10) rfl [ι i,ι u,.string s,.slice A1 n1 c1,ι d,ι e,.slice A2 n2 c2,.slice A3 n3 c3,ι mm,.bool f] _ hr Tryz.underlying48 rfl qo ?_) | (at_builtin;refine ze _ rfl _ _ _ rfl (w.heap.size+3) 48 _ 10 136 Tryz.underlying26 zJ rfl (by omega) (.slice A (m) c) (m) (out.flatMap Yz) rfl ((HS.out.alloc _).ow.alloc _) _ (some ⟨wr.heap.size+1,0,none⟩) 1 1 [ι i,ι u,.string s,.slice A1 n1 c1,ι d,ι e,.slice A2 n2 c2,.slice A3 n3 c3,ι mm,.bool f] rfl (Reads.newS _ [ι i,ι u,.string s,.slice A1 n1 c1,ι d,ι e,.slice A2 n2 c2,.slice A3 n3 c3,ι mm,.bool f] 48 (0,0) 1 10 rfl _ (by simp)) H1.out (by simp only[maxLen];omega) (by omega) (by simp;omega) ?_;intro A7 c7 w7 hown hgr hat;have xm:=ħ (((HS.out.alloc _).alloc _).app hown hgr);clear hown hgr hat))
     refine ⟨⟨k+1,m+1,A7,c7,out ++ [y],true,by omega,by go_num,rfl,rfl,by rw[List.length_append,HM.out];rfl,by rw[uD.out,HE.out],by rw[jB.out];exact xm.out⟩,by simp[intOf];omega⟩
  ·have hlt':¬ (k:Int)<la.length:=by omega
   have hk3:k=la.length:=by omega
   subst hk3
   have hF2:la.foldl (yh (fun a:Xa=>a.x.id) a) ([],false)=(out,put):=by have:=HF.out;rw[List.take_length] at this;exact this
   have Dh:=ħ hF2
   have Sg:=ħ (show ∀ (l:List Xa),(l ++ [a]).flatMap Yz=l.flatMap Yz ++ [ι a.x.id,ι a.x.urg,.string a.x.code,.slice a.An a.x.nodes.length a.cn,ι a.x.dist,ι a.x.since,.slice a.Ac a.x.calls.length a.cc,.slice a.Au a.x.units.length a.cu,ι a.x.merged,.bool a.x.closed] from fun l=>by simp[Yz])
   clear hs hF2 HF
   have x0:=HS.out.bt.facts
   cases put with
   | false=>
    have HO:=ħ (show yj (fun a:Xa=>a.x.id) la a=out ++ [a] by unfold yj;rw[Dh.out];rfl)
    go_upto_region 14 with (at_builtin;refine ze _ rfl _ _ _ rfl (w.heap.size+3) 48 _ 10 136 Tryz.underlying26 zJ rfl (by omega) (.slice A (m) c) (m) (out.flatMap Yz) rfl (HS.out.ow.alloc _) _ (some ⟨wr.heap.size,0,none⟩) 1 1 [ι a.x.id,ι a.x.urg,.string a.x.code,.slice a.An a.x.nodes.length a.cn,ι a.x.dist,ι a.x.since,.slice a.Ac a.x.calls.length a.cc,.slice a.Au a.x.units.length a.cu,ι a.x.merged,.bool a.x.closed] rfl (Reads.newS _ [ι a.x.id,ι a.x.urg,.string a.x.code,.slice a.An a.x.nodes.length a.cn,ι a.x.dist,ι a.x.since,.slice a.Ac a.x.calls.length a.cc,.slice a.Au a.x.units.length a.cu,ι a.x.merged,.bool a.x.closed] 48 (0,0) 1 10 rfl _ (by simp)) (uz a) (by simp only[maxLen];omega) (by omega) (by simp;omega) ?_;intro A5 c5 w5 hown hgr hat;have QE:=ħ ((HS.out.alloc _).app hown hgr);clear hown hgr hat;have y0:=QE.out.bx.facts)
    have hm1:m+1=(yj (fun a:Xa=>a.x.id) la a).length:=by rw[HO.out,List.length_append,HM.out];rfl
    have Jr:=ħ (show LS w w5 48 10 #[.slice AL la.length cL,.slice AC lc.length cC] (ξ a.x a.An a.cn a.Ac a.cc a.Au a.cu) (.slice A5 (yj (fun a:Xa=>a.x.id) la a).length c5) (yj (fun a:Xa=>a.x.id) la a).length ((yj (fun a:Xa=>a.x.id) la a).flatMap Yz) by rw[←hm1,HO.out,Sg.out];exact QE.out)
    rw[hm1]
    clear hm1 QE x0 y0
    have Zh:=ħ (fun (u:Xa) (hu:u∈yj (fun a:Xa=>a.x.id) la a)=>J3 (fun a:Xa=>a.x.id) la a u hu)
    obtain ⟨L9,vV⟩:∃ L9,L9=yj (fun a:Xa=>a.x.id) la a:=⟨_,rfl⟩
    rw[←vV] at Jr Zh⊢
    have gp:=ħ vV
    clear vV HO
    have VM:=ħ (show zb (w5.setCell ⟨w.heap.size,0,none⟩ (.slice A5 L9.length c5)) w.heap.size 29 #[.slice A5 L9.length c5,.slice AC lc.length cC] by
     have:=Jr.out.bx.set_ 0 (.slice A5 L9.length c5);simpa using this)
    have Kl:=ħ (Jr.out.bz.far (p:=⟨w.heap.size,0,none⟩) (by simp) (.slice A5 L9.length c5))
    have Z5:=ħ (Xy Jr.out.ow (p:=⟨w.heap.size,0,none⟩) (by simp) (.slice A5 L9.length c5))
    have Z_:=ħ (Jr.out.be.setCell (p:=⟨w.heap.size,0,none⟩) (Nat.le_refl _) (.slice A5 L9.length c5))
    have x0:=Jr.out.bx.facts
    go_upto_region 15 with fail
    generalize w5.setCell _ _=W9 at *
    clear x0
    have x0:=VM.out.facts
    go_wp2_with (refine z8 rfl (.tmp 4) (.tmp 47) 29 rfl (w.heap.size+2) 29 _ #[.slice A5 L9.length c5,.slice AC lc.length cC] _ 2 48 zy rfl rfl rfl Kl.out rfl (by intro u hu;simp at hu;rcases hu with rfl | rfl <;> rfl) ?_;intro VT UI Yp aX)
    refine bodyPost_ret (results_cell_row (p:=4) (ty:=29) Tryz.results90 _ VT (w.heap.size+2) 29 #[.slice A5 L9.length c5,.slice AC lc.length cC] (0,0) _ rfl UI Tryz.underlying29 rfl zm) rfl ?_
    have b10:=Z_.out.trans (Yp.below (B:=w.heap.size) Z_.out.size (fun j hj e=>by have e2:j=w.heap.size+2:=e;omega))
    have iP:Reads VT B 10 A5 L9.length (L9.flatMap Yz):=((Reads.of_own Z5.out).fr Yp (fun j hj e=>by have:=(Z5.out.lt j hj).1;have e2:j=w.heap.size+2:=e;omega)).more (fun j hj=>Kq.out j (by have:=(Z5.out.lt j hj).1;omega))
    have e9:=gp.out
    subst e9
    exact ⟨A5,c5,rfl,⟨iP,fun u hu=>(Zh.out u hu).elim (fun e=>by rw[e];exact HA.out.below b10) (fun h=>(HV.out.xl u h).below b10),yD HV.out.rc b10,fun t ht=>zl (HV.out.xc t ht) b10⟩,b10⟩
   | true=>
    have HO:=ħ (show yj (fun a:Xa=>a.x.id) la a=out by unfold yj;rw[Dh.out];rfl)
    go_upto_region 14 with fail
    have hm1:m=(yj (fun a:Xa=>a.x.id) la a).length:=by rw[HO.out];exact HM.out
    have Jr:=ħ (show LS w wr 48 10 #[.slice AL la.length cL,.slice AC lc.length cC] (ξ a.x a.An a.cn a.Ac a.cc a.Au a.cu) (.slice A (yj (fun a:Xa=>a.x.id) la a).length c) (yj (fun a:Xa=>a.x.id) la a).length ((yj (fun a:Xa=>a.x.id) la a).flatMap Yz) by rw[←hm1,HO.out];exact HS.out)
    rw[hm1]
    clear hm1 HS x0
    have Zh:=ħ (fun (u:Xa) (hu:u∈yj (fun a:Xa=>a.x.id) la a)=>J3 (fun a:Xa=>a.x.id) la a u hu)
    obtain ⟨L9,vV⟩:∃ L9,L9=yj (fun a:Xa=>a.x.id) la a:=⟨_,rfl⟩
    rw[←vV] at Jr Zh⊢
    have gp:=ħ vV
    clear vV HO
    have VM:=ħ (show zb (wr.setCell ⟨w.heap.size,0,none⟩ (.slice A L9.length c)) w.heap.size 29 #[.slice A L9.length c,.slice AC lc.length cC] by
     have:=Jr.out.bx.set_ 0 (.slice A L9.length c);simpa using this)
    have Kl:=ħ (Jr.out.bz.far (p:=⟨w.heap.size,0,none⟩) (by simp) (.slice A L9.length c))
    have Z5:=ħ (Xy Jr.out.ow (p:=⟨w.heap.size,0,none⟩) (by simp) (.slice A L9.length c))
    have Z_:=ħ (Jr.out.be.setCell (p:=⟨w.heap.size,0,none⟩) (Nat.le_refl _) (.slice A L9.length c))
    have x0:=Jr.out.bx.facts
    go_upto_region 15 with fail
    generalize wr.setCell _ _=W9 at *
    clear x0
    have x0:=VM.out.facts
    go_wp2_with (refine z8 rfl (.tmp 4) (.tmp 47) 29 rfl (w.heap.size+2) 29 _ #[.slice A L9.length c,.slice AC lc.length cC] _ 2 48 zy rfl rfl rfl Kl.out rfl (by intro u hu;simp at hu;rcases hu with rfl | rfl <;> rfl) ?_;intro VT UI Yp aX)
    refine bodyPost_ret (results_cell_row (p:=4) (ty:=29) Tryz.results90 _ VT (w.heap.size+2) 29 #[.slice A L9.length c,.slice AC lc.length cC] (0,0) _ rfl UI Tryz.underlying29 rfl zm) rfl ?_
    have b10:=Z_.out.trans (Yp.below (B:=w.heap.size) Z_.out.size (fun j hj e=>by have e2:j=w.heap.size+2:=e;omega))
    have iP:Reads VT B 10 A L9.length (L9.flatMap Yz):=((Reads.of_own Z5.out).fr Yp (fun j hj e=>by have:=(Z5.out.lt j hj).1;have e2:j=w.heap.size+2:=e;omega)).more (fun j hj=>Kq.out j (by have:=(Z5.out.lt j hj).1;omega))
    have e9:=gp.out
    subst e9
    exact ⟨A,c,rfl,⟨iP,fun u hu=>(Zh.out u hu).elim (fun e=>by rw[e];exact HA.out.below b10) (fun h=>(HV.out.xl u h).below b10),yD HV.out.rc b10,fun t ht=>zl (HV.out.xc t ht) b10⟩,b10⟩
end Go.Proofs.YtdhcjhfgibmhfaaGreatDoor

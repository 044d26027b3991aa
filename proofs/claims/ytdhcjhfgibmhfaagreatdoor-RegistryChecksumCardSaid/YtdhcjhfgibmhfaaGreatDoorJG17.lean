import Derived.Test.YtdhcjhfgibmhfaaGreatDoorJRr3
set_option linter.unusedVariables false
set_option linter.unusedSimpArgs false
set_option maxRecDepth 10000
set_option maxHeartbeats 8000000
namespace Go.Proofs.YtdhcjhfgibmhfaaGreatDoor
open Go.RowKit Go.Own Go.Quo Go.Inc
def Gt (v:Bv)(a:Ca)(B:Nat→Prop)(w:World)(e:Ending)(w':World):Prop:=∃ (A':Option Addr) (c':Nat),e=.returned (YW { v with lc:=yj (fun a:Ca=>a.c.call) v.lc a,AC:=A',cC:=c' })∧zX w' B { v with lc:=yj (fun a:Ca=>a.c.call) v.lc a,AC:=A',cC:=c' }∧Below w.heap.size w w'
theorem nM (v:Bv)(a:Ca)(B:Nat→Prop)(w:World)(h:zX w B v)(ha:RI w B a.A a.c.nodes)(hB:∀ k,w.heap.size≤k→B k)(hl:v.lc.length≤10000) :
 Calls Tryz.prog 89 #[YW v,.agg (χ a.c a.A a.k)] w (Gt v a B w):=by
 have hp:=h.rc.plain (by omega)
 have HV:=ħ h
 have HA:=ħ ha
 have Kq:=ħ hB
 have HR:=ħ ((h.rc.old (by omega)).more (B':=fun k=>k<w.heap.size) (fun k hk=>hk.2))
 have HS:=ħ (show LS w (((w.alloc (.cells (β v) 29)).alloc (.cells (χ a.c a.A a.k) 34)).alloc (.cells #[.slice none 0 0,.slice none 0 0] 29)) 34 8 (β v) (χ a.c a.A a.k) (.slice none 0 0) 0 [] from
  ⟨((zb.new w 29 (β v)).alloc _).alloc _,by
   have:=(zb.new (w.alloc (.cells (β v) 29)) 34 (χ a.c a.A a.k)).alloc (.cells #[.slice none 0 0,.slice none 0 0] 29)
   simpa using this,by
   have:=zb.new ((w.alloc (.cells (β v) 29)).alloc (.cells (χ a.c a.A a.k) 34)) 29 #[.slice none 0 0,.slice none 0 0]
   simpa using this,World.ownsRow_nil _ _ _ _,(((Below.refl w.heap.size w).alloc (Nat.le_refl _) _).alloc (by simp) _).alloc (by simp;omega) _,by simp⟩)
 clear h ha hB
 obtain ⟨la,AL,cL,lc,AC,cC⟩:=v
 simp only at *
 go_enter Tryz.func89,Tryz.ntmps89
 go_upto_region 3 with fail
 generalize ((w.alloc _).alloc _).alloc _=W1 at *
 have x0:=HS.out.bx.facts
 go_wp2_with fail
 clear x0
 go_loopw [5,6,12] (fun vo vp vi wr=>∃ (k m:Nat) (A:Option Addr) (c:Nat) (out:List Ca) (put:Bool),k≤lc.length∧vi=ι (k:Int)∧vp=.bool put∧vo=.slice A m c∧m=out.length∧(lc.take k).foldl (yh (fun a:Ca=>a.c.call) a) ([],false)=(out,put)∧LS w wr 34 8 #[.slice AL la.length cL,.slice AC lc.length cC] (χ a.c a.A a.k) (.slice A m c) m (out.flatMap qC)) (fun _ _ vi _=>lc.length - (intOf vi).toNat)
 case atStart=>exact ⟨0,0,none,0,[],false,Nat.zero_le _,rfl,rfl,rfl,rfl,rfl,HS.out⟩
 case round=>
  obtain ⟨k,m,A,c,out,put,hk,rfl,rfl,rfl,hm,hf,hs⟩:=hrel
  clear HS
  have HF:=ħ hf
  have HM:=ħ hm
  have HS:=ħ hs
  have uY:m≤20000:=by
   have:=Vf (fun a:Ca=>a.c.call) a lc k
   rw[hf] at this
   simp only at this
   omega
  have hsz:=hs.sz
  clear hf hm
  by_cases hlt:k<lc.length
  ·have hlt':(k:Int)<lc.length:=by omega
   have hix:=fun W=>UC hp cC k hlt W
   have VP:=ħ (QB (HR.out.below hs.be (fun j hj=>hj)) hlt)
   have uD:=ħ (Vi (fun a:Ca=>a.c.call) a lc hlt)
   have jB:=ħ (show ∀ (l:List Ca),(l ++ [lc[k]]).flatMap qC=l.flatMap qC ++ qC lc[k] from fun l=>by simp)
   have Sg:=ħ (show ∀ (l:List Ca),(l ++ [a]).flatMap qC=l.flatMap qC ++ [ι a.c.call,ι a.c.inc,ι a.c.urg,.string a.c.code,.slice a.A a.c.nodes.length a.k,ι a.c.dist,ι a.c.since,.bool a.c.closed] from fun l=>by simp[qC])
   obtain ⟨gg,u,s,A1,n1,c1,d,e,f,hx⟩:=KS lc[k]
   have H1:=ħ (Vz lc[k])
   rw[hx] at VP jB H1
   clear hx hs
   obtain ⟨y,hy⟩:∃ y,y=lc[k]:=⟨_,rfl⟩
   rw[←hy] at uD VP jB H1
   clear hy
   obtain ⟨i,hi⟩:∃ i,i=y.c.call:=⟨_,rfl⟩
   rw[←hi] at VP jB H1
   have HI:=ħ hi
   clear hi
   rw[HF.out] at uD
   have hr:=VP.out
   have x0:=HS.out.bt.facts
   have HY:=ħ (zb.new wr 34 #[ι i,ι gg,ι u,.string s,.slice A1 n1 c1,ι d,ι e,.bool f])
   have hwo:∀ j,(Value.slice A m c).ownBlock=some j→j<wr.heap.size:=fun j hj=>(HS.out.ow.lt j hj).2
   cases put with
   | false=>
    by_cases hc:a.c.call≤i
    ·have hc1:decide (a.c.call≤i)=true:=by simpa using hc
     have aS:=ħ hc
     go_upto_region 8 with (first | (refine wpList_load_mid rfl 34 _ rfl (bk AC) (qP AC+k * 8) rfl [ι i,ι gg,ι u,.string s,.slice A1 n1 c1,ι d,ι e,.bool f] _ hr Tryz.underlying34 rfl jN ?_) | (at_builtin;refine ze _ rfl _ _ _ rfl (w.heap.size+3) 34 _ 8 88 Tryz.underlying27 jM rfl (by omega) (.slice A (m) c) (m) (out.flatMap qC) rfl ((HS.out.alloc _).ow.alloc _) _ (some ⟨wr.heap.size+1,0,none⟩) 1 1 [ι a.c.call,ι a.c.inc,ι a.c.urg,.string a.c.code,.slice a.A a.c.nodes.length a.k,ι a.c.dist,ι a.c.since,.bool a.c.closed] rfl (Reads.newS _ [ι a.c.call,ι a.c.inc,ι a.c.urg,.string a.c.code,.slice a.A a.c.nodes.length a.k,ι a.c.dist,ι a.c.since,.bool a.c.closed] 34 (0,0) 1 8 rfl _ (by simp)) (Vz a) (by simp only[maxLen];omega) (by omega) (by simp;omega) ?_;intro A5 c5 w5 hown hgr hat;have QE:=ħ (((HS.out.alloc _).alloc _).app hown hgr);have J9:=ħ ((HY.out.alloc _).grown hgr (fun e=>by have:=hwo _ e.symm;omega));clear hown hgr hat;have y0:=QE.out.bt.facts;have z0:=J9.out.facts;have hsz5:=QE.out.sz))
     by_cases he:i=a.c.call
     ·have he1:(i != a.c.call)=false:=by simp[he]
      have HE:=ħ (XC (fun a:Ca=>a.c.call) (x:=a) (y:=y) (acc:=(out,false)) ⟨rfl,by rw[←HI.out];exact aS.out⟩ (by rw[←HI.out];exact he))
      clear he hc hc1 x0
      go_wp2_with fail
      refine ⟨⟨k+1,m+1,A5,c5,out ++ [a],true,by omega,by go_num,rfl,rfl,by rw[List.length_append,HM.out];rfl,by rw[uD.out,HE.out],by rw[Sg.out];exact QE.out⟩,by simp[intOf];omega⟩
     ·have he1:(i != a.c.call)=true:=by simpa using he
      have HE:=ħ (XI (fun a:Ca=>a.c.call) (x:=a) (y:=y) (acc:=(out,false)) ⟨rfl,by rw[←HI.out];exact aS.out⟩ (by rw[←HI.out];exact he))
      clear he hc hc1 x0
      go_wp2_with (at_builtin;refine ze _ rfl _ _ _ rfl (w.heap.size+3) 34 _ 8 88 Tryz.underlying27 jM rfl (by omega) (.slice A5 (m+1) c5) (m+1) (out.flatMap qC ++ [ι a.c.call,ι a.c.inc,ι a.c.urg,.string a.c.code,.slice a.A a.c.nodes.length a.k,ι a.c.dist,ι a.c.since,.bool a.c.closed]) rfl (QE.out.ow.alloc _) _ (some ⟨w5.heap.size,0,none⟩) 1 1 [ι i,ι gg,ι u,.string s,.slice A1 n1 c1,ι d,ι e,.bool f] rfl (Reads.newS _ [ι i,ι gg,ι u,.string s,.slice A1 n1 c1,ι d,ι e,.bool f] 34 (0,0) 1 8 rfl _ (by simp)) H1.out (by simp only[maxLen];omega) (by omega) (by simp;omega) ?_;intro A6 c6 w6 hown hgr hat;have GL:=ħ ((QE.out.alloc _).app hown hgr);clear hown hgr hat)
      refine ⟨⟨k+1,m+1+1,A6,c6,out ++ [a] ++ [y],true,by omega,by go_num,rfl,rfl,by rw[List.length_append,List.length_append,HM.out];rfl,by rw[uD.out,HE.out],by rw[jB.out,Sg.out];exact GL.out⟩,by simp[intOf];omega⟩
    ·have hc1:decide (a.c.call≤i)=false:=by simpa using hc
     have he:¬ i=a.c.call:=by omega
     have he1:(i != a.c.call)=true:=by simpa using he
     have HE:=ħ (Q6 (fun a:Ca=>a.c.call) (x:=a) (y:=y) (acc:=(out,false)) (fun h=>hc (by rw[HI.out];exact h.2)) (by rw[←HI.out];exact he))
     clear he hc
     go_wp2_with (first | (refine wpList_load_mid rfl 34 _ rfl (bk AC) (qP AC+k * 8) rfl [ι i,ι gg,ι u,.string s,.slice A1 n1 c1,ι d,ι e,.bool f] _ hr Tryz.underlying34 rfl jN ?_) | (at_builtin;refine ze _ rfl _ _ _ rfl (w.heap.size+3) 34 _ 8 88 Tryz.underlying27 jM rfl (by omega) (.slice A (m) c) (m) (out.flatMap qC) rfl ((HS.out.alloc _).ow.alloc _) _ (some ⟨wr.heap.size+1,0,none⟩) 1 1 [ι i,ι gg,ι u,.string s,.slice A1 n1 c1,ι d,ι e,.bool f] rfl (Reads.newS _ [ι i,ι gg,ι u,.string s,.slice A1 n1 c1,ι d,ι e,.bool f] 34 (0,0) 1 8 rfl _ (by simp)) H1.out (by simp only[maxLen];omega) (by omega) (by simp;omega) ?_;intro A7 c7 w7 hown hgr hat;have xm:=ħ (((HS.out.alloc _).alloc _).app hown hgr);clear hown hgr hat))
     refine ⟨⟨k+1,m+1,A7,c7,out ++ [y],false,by omega,by go_num,rfl,rfl,by rw[List.length_append,HM.out];rfl,by rw[uD.out,HE.out],by rw[jB.out];exact xm.out⟩,by simp[intOf];omega⟩
   | true=>
    by_cases he:i=a.c.call
    ·have he1:(i != a.c.call)=false:=by simp[he]
     have HE:=ħ (Kg (fun a:Ca=>a.c.call) (x:=a) (y:=y) (acc:=(out,true)) (fun h=>by cases h.1) (by rw[←HI.out];exact he))
     clear he
     go_wp2_with (refine wpList_load_mid rfl 34 _ rfl (bk AC) (qP AC+k * 8) rfl [ι i,ι gg,ι u,.string s,.slice A1 n1 c1,ι d,ι e,.bool f] _ hr Tryz.underlying34 rfl jN ?_)
     refine ⟨⟨k+1,m,A,c,out,true,by omega,by go_num,rfl,rfl,HM.out,by rw[uD.out,HE.out],HS.out.alloc _⟩,by simp[intOf];omega⟩
    ·have he1:(i != a.c.call)=true:=by simpa using he
     have HE:=ħ (Q6 (fun a:Ca=>a.c.call) (x:=a) (y:=y) (acc:=(out,true)) (fun h=>by cases h.1) (by rw[←HI.out];exact he))
     clear he
     go_wp2_with (first | (refine wpList_load_mid rfl 34 _ rfl (bk AC) (qP AC+k * 8) rfl [ι i,ι gg,ι u,.string s,.slice A1 n1 c1,ι d,ι e,.bool f] _ hr Tryz.underlying34 rfl jN ?_) | (at_builtin;refine ze _ rfl _ _ _ rfl (w.heap.size+3) 34 _ 8 88 Tryz.underlying27 jM rfl (by omega) (.slice A (m) c) (m) (out.flatMap qC) rfl ((HS.out.alloc _).ow.alloc _) _ (some ⟨wr.heap.size+1,0,none⟩) 1 1 [ι i,ι gg,ι u,.string s,.slice A1 n1 c1,ι d,ι e,.bool f] rfl (Reads.newS _ [ι i,ι gg,ι u,.string s,.slice A1 n1 c1,ι d,ι e,.bool f] 34 (0,0) 1 8 rfl _ (by simp)) H1.out (by simp only[maxLen];omega) (by omega) (by simp;omega) ?_;intro A7 c7 w7 hown hgr hat;have xm:=ħ (((HS.out.alloc _).alloc _).app hown hgr);clear hown hgr hat))
     refine ⟨⟨k+1,m+1,A7,c7,out ++ [y],true,by omega,by go_num,rfl,rfl,by rw[List.length_append,HM.out];rfl,by rw[uD.out,HE.out],by rw[jB.out];exact xm.out⟩,by simp[intOf];omega⟩
  ·have hlt':¬ (k:Int)<lc.length:=by omega
   have hk3:k=lc.length:=by omega
   subst hk3
   have hF2:lc.foldl (yh (fun a:Ca=>a.c.call) a) ([],false)=(out,put):=by have:=HF.out;rw[List.take_length] at this;exact this
   have Dh:=ħ hF2
   have Sg:=ħ (show ∀ (l:List Ca),(l ++ [a]).flatMap qC=l.flatMap qC ++ [ι a.c.call,ι a.c.inc,ι a.c.urg,.string a.c.code,.slice a.A a.c.nodes.length a.k,ι a.c.dist,ι a.c.since,.bool a.c.closed] from fun l=>by simp[qC])
   clear hs hF2 HF
   have x0:=HS.out.bt.facts
   cases put with
   | false=>
    have HO:=ħ (show yj (fun a:Ca=>a.c.call) lc a=out ++ [a] by unfold yj;rw[Dh.out];rfl)
    go_upto_region 14 with (at_builtin;refine ze _ rfl _ _ _ rfl (w.heap.size+3) 34 _ 8 88 Tryz.underlying27 jM rfl (by omega) (.slice A (m) c) (m) (out.flatMap qC) rfl (HS.out.ow.alloc _) _ (some ⟨wr.heap.size,0,none⟩) 1 1 [ι a.c.call,ι a.c.inc,ι a.c.urg,.string a.c.code,.slice a.A a.c.nodes.length a.k,ι a.c.dist,ι a.c.since,.bool a.c.closed] rfl (Reads.newS _ [ι a.c.call,ι a.c.inc,ι a.c.urg,.string a.c.code,.slice a.A a.c.nodes.length a.k,ι a.c.dist,ι a.c.since,.bool a.c.closed] 34 (0,0) 1 8 rfl _ (by simp)) (Vz a) (by simp only[maxLen];omega) (by omega) (by simp;omega) ?_;intro A5 c5 w5 hown hgr hat;have QE:=ħ ((HS.out.alloc _).app hown hgr);clear hown hgr hat;have y0:=QE.out.bx.facts)
    have hm1:m+1=(yj (fun a:Ca=>a.c.call) lc a).length:=by rw[HO.out,List.length_append,HM.out];rfl
    have Jr:=ħ (show LS w w5 34 8 #[.slice AL la.length cL,.slice AC lc.length cC] (χ a.c a.A a.k) (.slice A5 (yj (fun a:Ca=>a.c.call) lc a).length c5) (yj (fun a:Ca=>a.c.call) lc a).length ((yj (fun a:Ca=>a.c.call) lc a).flatMap qC) by rw[←hm1,HO.out,Sg.out];exact QE.out)
    rw[hm1]
    clear hm1 QE x0 y0
    have Zh:=ħ (fun (u:Ca) (hu:u∈yj (fun a:Ca=>a.c.call) lc a)=>J3 (fun a:Ca=>a.c.call) lc a u hu)
    obtain ⟨L9,vV⟩:∃ L9,L9=yj (fun a:Ca=>a.c.call) lc a:=⟨_,rfl⟩
    rw[←vV] at Jr Zh⊢
    have gp:=ħ vV
    clear vV HO
    have VM:=ħ (show zb (w5.setCell ⟨w.heap.size,1,none⟩ (.slice A5 L9.length c5)) w.heap.size 29 #[.slice AL la.length cL,.slice A5 L9.length c5] by
     have:=Jr.out.bx.set_ 1 (.slice A5 L9.length c5);simpa using this)
    have Kl:=ħ (Jr.out.bz.far (p:=⟨w.heap.size,1,none⟩) (by simp) (.slice A5 L9.length c5))
    have Z5:=ħ (Xy Jr.out.ow (p:=⟨w.heap.size,1,none⟩) (by simp) (.slice A5 L9.length c5))
    have Z_:=ħ (Jr.out.be.setCell (p:=⟨w.heap.size,1,none⟩) (Nat.le_refl _) (.slice A5 L9.length c5))
    have x0:=Jr.out.bx.facts
    go_upto_region 15 with fail
    generalize w5.setCell _ _=W9 at *
    clear x0
    have x0:=VM.out.facts
    go_wp2_with (refine z8 rfl (.tmp 4) (.tmp 47) 29 rfl (w.heap.size+2) 29 _ #[.slice AL la.length cL,.slice A5 L9.length c5] _ 2 48 zy rfl rfl rfl Kl.out rfl (by intro u hu;simp at hu;rcases hu with rfl | rfl <;> rfl) ?_;intro VT UI Yp aX)
    refine bodyPost_ret (results_cell_row (p:=4) (ty:=29) Tryz.results89 _ VT (w.heap.size+2) 29 #[.slice AL la.length cL,.slice A5 L9.length c5] (0,0) _ rfl UI Tryz.underlying29 rfl zm) rfl ?_
    have b10:=Z_.out.trans (Yp.below (B:=w.heap.size) Z_.out.size (fun j hj e=>by have e2:j=w.heap.size+2:=e;omega))
    have iP:Reads VT B 8 A5 L9.length (L9.flatMap qC):=((Reads.of_own Z5.out).fr Yp (fun j hj e=>by have:=(Z5.out.lt j hj).1;have e2:j=w.heap.size+2:=e;omega)).more (fun j hj=>Kq.out j (by have:=(Z5.out.lt j hj).1;omega))
    have e9:=gp.out
    subst e9
    exact ⟨A5,c5,rfl,⟨yD HV.out.rl b10,fun t ht=>(HV.out.xl t ht).below b10,iP,fun u hu=>(Zh.out u hu).elim (fun e=>by rw[e];exact zl HA.out b10) (fun h=>zl (HV.out.xc u h) b10)⟩,b10⟩
   | true=>
    have HO:=ħ (show yj (fun a:Ca=>a.c.call) lc a=out by unfold yj;rw[Dh.out];rfl)
    go_upto_region 14 with fail
    have hm1:m=(yj (fun a:Ca=>a.c.call) lc a).length:=by rw[HO.out];exact HM.out
    have Jr:=ħ (show LS w wr 34 8 #[.slice AL la.length cL,.slice AC lc.length cC] (χ a.c a.A a.k) (.slice A (yj (fun a:Ca=>a.c.call) lc a).length c) (yj (fun a:Ca=>a.c.call) lc a).length ((yj (fun a:Ca=>a.c.call) lc a).flatMap qC) by rw[←hm1,HO.out];exact HS.out)
    rw[hm1]
    clear hm1 HS x0
    have Zh:=ħ (fun (u:Ca) (hu:u∈yj (fun a:Ca=>a.c.call) lc a)=>J3 (fun a:Ca=>a.c.call) lc a u hu)
    obtain ⟨L9,vV⟩:∃ L9,L9=yj (fun a:Ca=>a.c.call) lc a:=⟨_,rfl⟩
    rw[←vV] at Jr Zh⊢
    have gp:=ħ vV
    clear vV HO
    have VM:=ħ (show zb (wr.setCell ⟨w.heap.size,1,none⟩ (.slice A L9.length c)) w.heap.size 29 #[.slice AL la.length cL,.slice A L9.length c] by
     have:=Jr.out.bx.set_ 1 (.slice A L9.length c);simpa using this)
    have Kl:=ħ (Jr.out.bz.far (p:=⟨w.heap.size,1,none⟩) (by simp) (.slice A L9.length c))
    have Z5:=ħ (Xy Jr.out.ow (p:=⟨w.heap.size,1,none⟩) (by simp) (.slice A L9.length c))
    have Z_:=ħ (Jr.out.be.setCell (p:=⟨w.heap.size,1,none⟩) (Nat.le_refl _) (.slice A L9.length c))
    have x0:=Jr.out.bx.facts
    go_upto_region 15 with fail
    generalize wr.setCell _ _=W9 at *
    clear x0
    have x0:=VM.out.facts
    go_wp2_with (refine z8 rfl (.tmp 4) (.tmp 47) 29 rfl (w.heap.size+2) 29 _ #[.slice AL la.length cL,.slice A L9.length c] _ 2 48 zy rfl rfl rfl Kl.out rfl (by intro u hu;simp at hu;rcases hu with rfl | rfl <;> rfl) ?_;intro VT UI Yp aX)
    refine bodyPost_ret (results_cell_row (p:=4) (ty:=29) Tryz.results89 _ VT (w.heap.size+2) 29 #[.slice AL la.length cL,.slice A L9.length c] (0,0) _ rfl UI Tryz.underlying29 rfl zm) rfl ?_
    have b10:=Z_.out.trans (Yp.below (B:=w.heap.size) Z_.out.size (fun j hj e=>by have e2:j=w.heap.size+2:=e;omega))
    have iP:Reads VT B 8 A L9.length (L9.flatMap qC):=((Reads.of_own Z5.out).fr Yp (fun j hj e=>by have:=(Z5.out.lt j hj).1;have e2:j=w.heap.size+2:=e;omega)).more (fun j hj=>Kq.out j (by have:=(Z5.out.lt j hj).1;omega))
    have e9:=gp.out
    subst e9
    exact ⟨A,c,rfl,⟨yD HV.out.rl b10,fun t ht=>(HV.out.xl t ht).below b10,iP,fun u hu=>(Zh.out u hu).elim (fun e=>by rw[e];exact zl HA.out b10) (fun h=>zl (HV.out.xc u h) b10)⟩,b10⟩
theorem Gg (a:Ca):∃ (g u:Int) (s:ByteArray) (A1:Option Addr) (n1 c1:Nat) (d e:Int) (f:Bool),qC a=[ι g,ι a.c.inc,ι u,.string s,.slice A1 n1 c1,ι d,ι e,.bool f]:=⟨_,_,_,_,_,_,_,_,_,rfl⟩
structure LO (w wr:World) (ty size:Nat) (c0:Array Value) (v:Value) (m:Nat) (row:List Value):Prop where
 bx:zb wr w.heap.size 29 c0
 ow:wr.ownsRow (w.heap.size+1) ty size v m row
 be:Below w.heap.size w wr
 sz:w.heap.size+1≤wr.heap.size
theorem LO.alloc {w wr:World}{ty size:Nat}{c0:Array Value}{v:Value}{m:Nat}{row:List Value}(h:LO w wr ty size c0 v m row)(o:Obj):LO w (wr.alloc o) ty size c0 v m row:=
 ⟨h.bx.alloc o,h.ow.alloc o,h.be.alloc h.be.size o,by have:=h.sz;simp;omega⟩
theorem LO.app {w wr w2:World}{ty size:Nat}{c0:Array Value}{v v2:Value}{m m2:Nat}{row H_:List Value}(h:LO w wr ty size c0 v m row)(ho:w2.ownsRow (w.heap.size+1) ty size v2 m2 H_)(hg:wr.grownBy w2 v.ownBlock):LO w w2 ty size c0 v2 m2 H_:=by
 have hl:∀ j,v.ownBlock=some j→w.heap.size+1≤j:=fun j hj=>(h.ow.lt j hj).1
 exact ⟨h.bx.grown hg (fun e=>by have:=hl _ e.symm;omega),ho,Below.grown h.be hg h.be.size (fun j hj=>by have:=hl j hj;omega),Nat.le_trans h.sz hg.size⟩
def Xw (l:List Ca)(id:Int):List Ca:=l.filter (fun t=>t.c.inc == id)
theorem UG (l:List Ca)(id:Int):(Xw l id).map (·.c)=qB (l.map (·.c)) id:=by
 unfold Xw qB
 rw[List.filter_map]
 rfl
theorem Ap {l:List Ca}{k:Nat}(hk:k<l.length)(id:Int):Xw (l.take (k+1)) id=if l[k].c.inc=id then Xw (l.take k) id ++ [l[k]] else Xw (l.take k) id:=by
 unfold Xw
 rw[List.take_succ_eq_append_getElem hk,List.filter_append,List.filter_cons]
 by_cases h:l[k].c.inc=id
 ·rw[if_pos (by simpa using h),if_pos h];rfl
 ·rw[if_neg (by simpa using h),if_neg h];simp
theorem XK (l:List Ca)(id:Int):(Xw l id).length≤l.length:=List.length_filter_le _ _
def ui (v:Bv)(id:Int)(B:Nat→Prop)(w:World)(e:Ending)(w':World):Prop:=∃ (A:Option Addr) (c:Nat),e=.returned (.slice A (Xw v.lc id).length c)∧Reads w' B 8 A (Xw v.lc id).length ((Xw v.lc id).flatMap qC)∧(∀ t∈Xw v.lc id,RI w' B t.A t.c.nodes)∧Below w.heap.size w w'
theorem lN (v:Bv)(B:Nat→Prop)(id:Int)(w:World)(h:zX w B v)(hB:∀ k,w.heap.size≤k→B k)(hl:v.lc.length≤10000) :
 Calls Tryz.prog 94 #[YW v,ι id] w (ui v id B w):=by
 have hp:=h.rc.plain (by omega)
 have HV:=ħ h
 have Kq:=ħ hB
 have HR:=ħ ((h.rc.old (by omega)).more (B':=fun k=>k<w.heap.size) (fun k hk=>hk.2))
 have HS:=ħ (show LO w (w.alloc (.cells (β v) 29)) 34 8 (β v) (.slice none 0 0) 0 [] from
  ⟨zb.new w 29 (β v),World.ownsRow_nil _ _ _ _,(Below.refl w.heap.size w).alloc (Nat.le_refl _) _,by simp⟩)
 clear h hB
 obtain ⟨la,AL,cL,lc,AC,cC⟩:=v
 simp only at *
 go_enter Tryz.func94,Tryz.ntmps94
 go_upto_region 2 with fail
 generalize w.alloc _=W1 at *
 have x0:=HS.out.bx.facts
 go_wp2_with fail
 clear x0
 go_loopw [5,11] (fun vo vi wr=>∃ (k m:Nat) (A:Option Addr) (c:Nat),k≤lc.length∧vi=ι (k:Int)∧vo=.slice A m c∧m=(Xw (lc.take k) id).length∧LO w wr 34 8 #[.slice AL la.length cL,.slice AC lc.length cC] (.slice A m c) m ((Xw (lc.take k) id).flatMap qC)) (fun _ vi _=>lc.length - (intOf vi).toNat)
 case atStart=>exact ⟨0,0,none,0,Nat.zero_le _,rfl,rfl,rfl,HS.out⟩
 case round=>
  obtain ⟨k,m,A,c,hk,rfl,rfl,hm,hs⟩:=hrel
  clear HS
  have HM:=ħ hm
  have HS:=ħ hs
  have uY:m≤10000:=by
   have h1:=XK (lc.take k) id
   have h2:(lc.take k).length≤lc.length:=List.length_take_le' _ _
   omega
  have hsz:=hs.sz
  clear hm
  by_cases hlt:k<lc.length
  ·have hlt':(k:Int)<lc.length:=by omega
   have hix:=fun W=>UC hp cC k hlt W
   have VP:=ħ (QB (HR.out.below hs.be (fun j hj=>hj)) hlt)
   have Xj:=ħ (Ap hlt id)
   have jB:=ħ (show ∀ (l:List Ca),(l ++ [lc[k]]).flatMap qC=l.flatMap qC ++ qC lc[k] from fun l=>by simp)
   obtain ⟨ic,u,s,A1,n1,c1,d,e,f,hx⟩:=Gg lc[k]
   have H1:=ħ (Vz lc[k])
   rw[hx] at VP jB H1
   clear hx hs
   obtain ⟨y,hy⟩:∃ y,y=lc[k]:=⟨_,rfl⟩
   rw[←hy] at VP jB H1 Xj
   clear hy
   obtain ⟨i,hi⟩:∃ i,i=y.c.inc:=⟨_,rfl⟩
   rw[←hi] at VP jB H1 Xj
   clear hi
   have hr:=VP.out
   by_cases he:i=id
   ·have HT2:=ħ (show Xw (lc.take (k+1)) id=Xw (lc.take k) id ++ [y] by rw[Xj.out,if_pos he])
    have O7:=he.symm
    subst O7
    clear he
    clear Xj
    go_wp2_with (first | (refine wpList_load_mid rfl 34 _ rfl (bk AC) (qP AC+k * 8) rfl [ι ic,ι id,ι u,.string s,.slice A1 n1 c1,ι d,ι e,.bool f] _ hr Tryz.underlying34 rfl jN ?_) | (at_builtin;refine ze _ rfl _ _ _ rfl (w.heap.size+1) 34 _ 8 88 Tryz.underlying27 jM rfl (by omega) (.slice A m c) m ((Xw (lc.take k) id).flatMap qC) rfl ((HS.out.alloc _).ow.alloc _) _ (some ⟨wr.heap.size+1,0,none⟩) 1 1 [ι ic,ι id,ι u,.string s,.slice A1 n1 c1,ι d,ι e,.bool f] rfl (Reads.newS _ [ι ic,ι id,ι u,.string s,.slice A1 n1 c1,ι d,ι e,.bool f] 34 (0,0) 1 8 rfl _ (by simp)) H1.out (by simp only[maxLen];omega) (by omega) (by simp;omega) ?_;intro A5 c5 w5 hown hgr hat;have QE:=ħ (((HS.out.alloc _).alloc _).app hown hgr);clear hown hgr hat))
    refine ⟨⟨k+1,m+1,A5,c5,by omega,by go_num,rfl,by rw[HT2.out,List.length_append,HM.out];rfl,by rw[HT2.out,jB.out];exact QE.out⟩,by simp[intOf];omega⟩
   ·have HT2:=ħ (show Xw (lc.take (k+1)) id=Xw (lc.take k) id by rw[Xj.out,if_neg he])
    have he1:(i == id)=false:=by simpa using he
    clear he Xj
    go_wp2_with (refine wpList_load_mid rfl 34 _ rfl (bk AC) (qP AC+k * 8) rfl [ι ic,ι i,ι u,.string s,.slice A1 n1 c1,ι d,ι e,.bool f] _ hr Tryz.underlying34 rfl jN ?_)
    refine ⟨⟨k+1,m,A,c,by omega,by go_num,rfl,by rw[HT2.out];exact HM.out,by rw[HT2.out];exact HS.out.alloc _⟩,by simp[intOf];omega⟩
  ·have hlt':¬ (k:Int)<lc.length:=by omega
   have hk3:k=lc.length:=by omega
   subst hk3
   rw[List.take_length] at HM HS
   clear hs
   go_wp2_with fail
   go_ret
   have hm:=HM.out
   subst hm
   exact ⟨A,c,rfl,(Reads.of_own HS.out.ow).more (fun j hj=>Kq.out j (by have:=(HS.out.ow.lt j hj).1;omega)),fun t ht=>zl (HV.out.xc t (List.mem_filter.1 ht).1) HS.out.be,HS.out.be⟩
end Go.Proofs.YtdhcjhfgibmhfaaGreatDoor

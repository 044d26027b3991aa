import Derived.Test.YtdhcjhfgibmhfaaGreatDoorKG30
set_option linter.unusedVariables false
set_option linter.unusedSimpArgs false
set_option maxRecDepth 10000
set_option maxHeartbeats 8000000
namespace Go.Proofs.YtdhcjhfgibmhfaaGreatDoor
open Go.RowKit Go.Own Go.Quo Go.Inc
structure Wb (w:World) (B:Nat→Prop) (A:Option Addr) (n:Nat):Prop where
 p:Plain A n
 c:∀ j,j<n→(w.cell? ⟨bk A,qP A+j,none⟩).isSome=true∧w.frozen? ⟨bk A,qP A+j,none⟩=false
 b:0<n→B (bk A)
theorem Wb.of {w:World}{B:Nat→Prop}{A:Option Addr}{l:List Int}(h:RI w B A l)(hf:∀ j,B j→∀ i,w.frozen? ⟨j,i,none⟩=false):Wb w B A l.length:=
 ⟨h.plain (by omega),fun j hj=>⟨by
  have:=h.cell2 j (by omega) (by omega)
  rw[this,List.getElem?_eq_getElem (by rw[List.length_map];exact hj)];rfl,hf _ (h.bk (by omega)) _⟩,fun hn=>h.bk hn⟩
theorem z0E (w:World)(p q:Addr)(u:Value)(h:(w.cell? q).isSome=true):((w.setCell p u).cell? q).isSome=true:=by
 by_cases e:q=p
 ·subst e
  rw[World.cell?_setCell_same' w q u h];rfl
 ·rw[World.cell?_setCell_other w p q u (by first | exact e | exact fun h=>e h.symm)];exact h
theorem Wb.setCell {w:World}{B:Nat→Prop}{A:Option Addr}{n:Nat}(h:Wb w B A n)(p:Addr)(u:Value):Wb (w.setCell p u) B A n:=
 ⟨h.p,fun j hj=>⟨z0E _ _ _ _ (h.c j hj).1,by rw[World.frozen?_setCell];exact (h.c j hj).2⟩,h.b⟩
theorem Wb.more {w:World}{B B':Nat→Prop}{A:Option Addr}{n:Nat}(h:Wb w B A n)(hB:∀ k,B k→B' k):Wb w B' A n:=⟨h.p,h.c,fun hn=>hB _ (h.b hn)⟩
theorem Wb.keep {w w':World}{B:Nat→Prop}{A:Option Addr}{n:Nat}(h:Wb w B A n)(hk:∀ k,k<w.heap.size→w'.heap[k]?=w.heap[k]?):Wb w' B A n:=
 ⟨h.p,fun j hj=>by
  obtain ⟨h1,h2⟩:=h.c j hj
  have hlt:bk A<w.heap.size:=by
   cases hc:w.cell? ⟨bk A,qP A+j,none⟩ with
   | none=>rw[hc] at h1;cases h1
   | some v=>have h9:=block_lt_of_cell hc;exact h9
  exact ⟨by rw[World.cell?_of_block (a:=⟨bk A,qP A+j,none⟩) (hk _ hlt)];exact h1,by rw[World.frozen?_of_block (a:=⟨bk A,qP A+j,none⟩) (hk _ hlt)];exact h2⟩,h.b⟩
structure Sp (B:Nat→Prop) (w w':World):Prop where
 f:Fr B w w'
 k:∀ (B':Nat→Prop) A n,Wb w B' A n→Wb w' B' A n
theorem Sp.refl (B:Nat→Prop)(w:World):Sp B w w:=⟨Fr.refl _ _,fun _ _ _ h=>h⟩
theorem Sp.trans {B:Nat→Prop}{a b c:World}(h:Sp B a b)(k:Sp B b c):Sp B a c:=⟨h.f.trans k.f,fun B' A n x=>k.k B' A n (h.k B' A n x)⟩
theorem Sp.below {B:Nat→Prop}{a b c:World}(h:Sp B a b)(hb:Below b.heap.size b c):Sp B a c:=
 ⟨h.f.trans_ (Fr.of_below (S:=fun _=>False) hb) (fun i e=>False.elim e),fun B' A n x=>(h.k B' A n x).keep (fun k hk=>hb.block k hk)⟩
theorem Sp.set {B:Nat→Prop}{a b:World}(h:Sp B a b){p:Addr}(hp:B p.block)(u:Value):Sp B a (b.setCell p u):=
 ⟨h.f.setCell (.inl hp) u,fun B' A n x=>(h.k B' A n x).setCell p u⟩
theorem Sp.mono {B C:Nat→Prop}{a b:World}(h:Sp B a b)(hB:∀ k,B k→C k):Sp C a b:=⟨h.f.mono (fun k _ e=>hB k e),h.k⟩
theorem KC (y:Xa)(B:Nat→Prop)(w:World)(hB:∀ j,B j→j<w.heap.size)(hn:Wb w B y.An y.x.nodes.length)(hc:Wb w B y.Ac y.x.calls.length)(hu:Wb w B y.Au y.x.units.length)(ln:y.x.nodes.length≤100000)(lc:y.x.calls.length≤100000)(lu:y.x.units.length≤100000) :
 Calls Tryz.prog 32 #[.agg (ξ y.x y.An y.cn y.Ac y.cc y.Au y.cu)] w (fun e w'=>e=.returned (.tuple #[])∧Sp B w w'):=by
 have HN:=ħ hn
 have HC:=ħ hc
 have HU:=ħ hu
 have HB:=ħ hB
 have hpn:=hn.p
 have hpc:=hc.p
 have mJ:=hu.p
 have HI0:=ħ (zb.new w 48 (ξ y.x y.An y.cn y.Ac y.cc y.Au y.cu))
 have mU:=ħ ((Sp.refl B w).below ((Below.refl _ w).alloc (Nat.le_refl _) (.cells (ξ y.x y.An y.cn y.Ac y.cc y.Au y.cu) 48)))
 clear hn hc hu hB
 go_enter Tryz.func32,Tryz.ntmps32
 go_upto_region 1 with fail
 obtain ⟨s,hs⟩:∃ s,s=w.heap.size:=⟨_,rfl⟩
 have HsB:=ħ (show ¬ B s from fun e=>by have:=HB.out s e;omega)
 rw[←hs] at HI0⊢
 clear hs
 generalize w.alloc _=W0 at *
 have y0:=HI0.out.facts
 go_wp2_with fail
 go_loopw [8] (fun vi wr=>∃ k:Nat,k≤y.x.nodes.length∧vi=ι (k:Int)∧Sp B w wr∧zb wr s 48 (ξ y.x y.An y.cn y.Ac y.cc y.Au y.cu)) (fun vi _=>y.x.nodes.length - (intOf vi).toNat)
 case atStart=>exact ⟨0,Nat.zero_le _,rfl,mU.out,HI0.out⟩
 case round=>
  obtain ⟨k,hk,rfl,hsp,hbx⟩:=hrel
  have HS:=ħ hsp
  have HI:=ħ hbx
  clear hsp hbx y0
  have y0:=HI.out.facts
  by_cases hlt:k<y.x.nodes.length
  ·have hlt':(k:Int)<y.x.nodes.length:=by omega
   have hix:=fun W=>JI hpn y.cn k hlt W
   have hwb:=HS.out.k _ _ _ HN.out
   obtain ⟨h1,h2⟩:=hwb.c k hlt
   obtain ⟨v,hv⟩:∃ v,wr.cell? ⟨bk y.An,qP y.An+k,none⟩=some v:=Option.isSome_iff_exists.1 h1
   have HS2:=ħ (HS.out.set (p:=⟨bk y.An,qP y.An+k,none⟩) (hwb.b (by omega)) (ι 4000))
   have HI2:=ħ (HI.out.fr ((Fr.refl B wr).setCell (p:=⟨bk y.An,qP y.An+k,none⟩) (.inl (hwb.b (by omega))) (ι 4000)) HsB.out)
   clear h1 hwb
   go_wp2_with fail
   exact ⟨⟨k+1,by omega,by go_num,HS2.out,HI2.out⟩,by simp[intOf];omega⟩
  ·have hlt':¬ (k:Int)<y.x.nodes.length:=by omega
   go_wp2_with fail
   have SI:=ħ HS.out
   have HIa:=ħ HI.out
   clear HS HI hlt hlt' hk
   go_loopw [19] (fun vi wr=>∃ k:Nat,k≤y.x.calls.length∧vi=ι (k:Int)∧Sp B w wr∧zb wr s 48 (ξ y.x y.An y.cn y.Ac y.cc y.Au y.cu)) (fun vi _=>y.x.calls.length - (intOf vi).toNat)
   case atStart=>exact ⟨0,Nat.zero_le _,rfl,SI.out,HIa.out⟩
   case round=>
    obtain ⟨k,hk,rfl,hsp,hbx⟩:=hrel
    have HS:=ħ hsp
    have HI:=ħ hbx
    clear hsp hbx y0
    have y0:=HI.out.facts
    by_cases hlt:k<y.x.calls.length
    ·have hlt':(k:Int)<y.x.calls.length:=by omega
     have hix:=fun W=>Ki hpc y.cc k hlt W
     have hwb:=HS.out.k _ _ _ HC.out
     obtain ⟨h1,h2⟩:=hwb.c k hlt
     obtain ⟨v,hv⟩:∃ v,wr.cell? ⟨bk y.Ac,qP y.Ac+k,none⟩=some v:=Option.isSome_iff_exists.1 h1
     have HS2:=ħ (HS.out.set (p:=⟨bk y.Ac,qP y.Ac+k,none⟩) (hwb.b (by omega)) (ι 4000))
     have HI2:=ħ (HI.out.fr ((Fr.refl B wr).setCell (p:=⟨bk y.Ac,qP y.Ac+k,none⟩) (.inl (hwb.b (by omega))) (ι 4000)) HsB.out)
     clear h1 hwb
     go_wp2_with fail
     exact ⟨⟨k+1,by omega,by go_num,HS2.out,HI2.out⟩,by simp[intOf];omega⟩
    ·have hlt':¬ (k:Int)<y.x.calls.length:=by omega
     go_wp2_with fail
     have Lr:=ħ HS.out
     have HIb:=ħ HI.out
     clear HS HI hlt hlt' hk
     go_loopw [30] (fun vi wr=>∃ k:Nat,k≤y.x.units.length∧vi=ι (k:Int)∧Sp B w wr∧zb wr s 48 (ξ y.x y.An y.cn y.Ac y.cc y.Au y.cu)) (fun vi _=>y.x.units.length - (intOf vi).toNat)
     case atStart=>exact ⟨0,Nat.zero_le _,rfl,Lr.out,HIb.out⟩
     case round=>
      obtain ⟨k,hk,rfl,hsp,hbx⟩:=hrel
      have HS:=ħ hsp
      have HI:=ħ hbx
      clear hsp hbx y0
      have y0:=HI.out.facts
      by_cases hlt:k<y.x.units.length
      ·have hlt':(k:Int)<y.x.units.length:=by omega
       have hix:=fun W=>JI mJ y.cu k hlt W
       have hwb:=HS.out.k _ _ _ HU.out
       obtain ⟨h1,h2⟩:=hwb.c k hlt
       obtain ⟨v,hv⟩:∃ v,wr.cell? ⟨bk y.Au,qP y.Au+k,none⟩=some v:=Option.isSome_iff_exists.1 h1
       have HS2:=ħ (HS.out.set (p:=⟨bk y.Au,qP y.Au+k,none⟩) (hwb.b (by omega)) (ι 200))
       have HI2:=ħ (HI.out.fr ((Fr.refl B wr).setCell (p:=⟨bk y.Au,qP y.Au+k,none⟩) (.inl (hwb.b (by omega))) (ι 200)) HsB.out)
       clear h1 hwb
       go_wp2_with fail
       exact ⟨⟨k+1,by omega,by go_num,HS2.out,HI2.out⟩,by simp[intOf];omega⟩
      ·have hlt':¬ (k:Int)<y.x.units.length:=by omega
       go_wp2_with fail
       exact bodyPost_end (v:=.tuple #[]) (by simp[results,Tryz.results32,go_sem]) rfl ⟨rfl,HS.out⟩
structure Wx (w:World) (B:Nat→Prop) (y:Xa):Prop where
 n:Wb w B y.An y.x.nodes.length
 c:Wb w B y.Ac y.x.calls.length
 u:Wb w B y.Au y.x.units.length
theorem Wx.of {w:World}{B:Nat→Prop}{y:Xa}(h:XR w B y)(hf:∀ j,B j→∀ i,w.frozen? ⟨j,i,none⟩=false):Wx w B y:=⟨Wb.of h.n hf,Wb.of h.c hf,Wb.of h.u hf⟩
theorem Wx.more {w:World}{B B':Nat→Prop}{y:Xa}(h:Wx w B y)(hB:∀ k,B k→B' k):Wx w B' y:=⟨h.n.more hB,h.c.more hB,h.u.more hB⟩
theorem Wx.keep {w w':World}{B:Nat→Prop}{y:Xa}(h:Wx w B y)(hk:∀ k,k<w.heap.size→w'.heap[k]?=w.heap[k]?):Wx w' B y:=⟨h.n.keep hk,h.c.keep hk,h.u.keep hk⟩
theorem Wx.sp {w w':World}{B C:Nat→Prop}{y:Xa}(h:Wx w B y)(hs:Sp C w w'):Wx w' B y:=⟨hs.k _ _ _ h.n,hs.k _ _ _ h.c,hs.k _ _ _ h.u⟩
theorem Wb.keep2 {w w':World}{B C:Nat→Prop}{A:Option Addr}{n:Nat}(h:Wb w B A n)(hs:Sp C w w'):Wb w' B A n:=hs.k _ _ _ h
theorem Wb.lt {w:World}{B:Nat→Prop}{A:Option Addr}{n:Nat}(h:Wb w B A n):Wb w (fun j=>B j∧j<w.heap.size) A n:=⟨h.p,h.c,fun hn=>⟨h.b hn,by
 obtain ⟨h1,-⟩:=h.c 0 hn
 cases hc:w.cell? ⟨bk A,qP A+0,none⟩ with
 | none=>rw[hc] at h1;cases h1
 | some v=>have h9:=block_lt_of_cell hc;exact h9⟩⟩
theorem Wx.lt {w:World}{B:Nat→Prop}{y:Xa}(h:Wx w B y):Wx w (fun j=>B j∧j<w.heap.size) y:=⟨h.n.lt,h.c.lt,h.u.lt⟩
def Bz (w0:World)(A:Option Addr)(j:Nat):Prop:=w0.heap.size≤j∧(Value.slice A 0 0).ownBlock≠some j
theorem z0C {w wr:World}{A:Option Addr}{c:Nat}{xs:List Xa}(h:XL Yz PR 48 10 w wr A c xs []){y:Xa}(hy:y∈xs):XR wr (OB w wr A) y:=
 ⟨h.rw y hy (y.An,y.x.nodes) (by simp[PR]),h.rw y hy (y.Ac,y.x.calls) (by simp[PR]),h.rw y hy (y.Au,y.x.units) (by simp[PR])⟩
structure CJ (w0 w5:World) (A5:Option Addr) (zs:List Xa):Prop where
 r:Reads w5 (fun j=>(Value.slice A5 0 0).ownBlock=some j) 10 A5 zs.length (zs.flatMap Yz)
 x:∀ y∈zs,Wx w5 (Bz w0 A5) y
 b:Below w0.heap.size w0 w5
 o:∀ j,(Value.slice A5 0 0).ownBlock=some j→w0.heap.size≤j∧j<w5.heap.size
theorem z0u {w0 w1 w2 w5:World}{A1 A2 A5:Option Addr}{c1 c2 c5:Nat}{xs ys:List Xa}(h1:XL Yz PR 48 10 w0 w1 A1 c1 xs [])(h2:XL Yz PR 48 10 w1 w2 A2 c2 ys [])
 (hown:w5.ownsRow w0.heap.size 48 10 (.slice A5 (xs.length+ys.length) c5) (xs.length+ys.length) (xs.flatMap Yz ++ ys.flatMap Yz))
 (hgr:w2.grownBy w5 (Value.slice A1 xs.length c1).ownBlock) (hat:(Value.slice A5 (xs.length+ys.length) c5).ownBlock=(Value.slice A1 xs.length c1).ownBlock∨(Value.slice A5 (xs.length+ys.length) c5).ownBlock=some w2.heap.size):CJ w0 w5 A5 (xs ++ ys):=by
 rw[R7 A5,R7 A1] at hat
 have ho1:∀ j,(Value.slice A1 0 0).ownBlock=some j→w0.heap.size≤j∧j<w1.heap.size:=fun j hj=>h1.ow.lt j (by rw[R7];exact hj)
 rw[R7 A1] at hgr
 have hkeep:∀ k,k<w2.heap.size→(Value.slice A1 0 0).ownBlock≠some k→w5.heap[k]?=w2.heap[k]?:=fun k hk e=>hgr.block k hk (fun h=>e h.symm)
 have key:∀ (y:Xa) (B:Nat→Prop),XR w2 B y→(∀ j,B j→w0.heap.size≤j∧j<w2.heap.size∧(Value.slice A1 0 0).ownBlock≠some j∧∀ i,w2.frozen? ⟨j,i,none⟩=false)→Wx w5 (Bz w0 A5) y:=fun y B h hB=>by
  have hg:∀ {C:Option Addr} {l:List Int},RI w2 B C l→RI w5 B C l:=fun h=>h.grown hgr (fun k hk e=>(hB k hk).2.2.1 e.symm)
  refine (Wx.of (B:=B) ⟨hg h.n,hg h.c,hg h.u⟩ (fun j hj i=>?_)).more (fun j hj=>⟨(hB j hj).1,fun e=>?_⟩)
  ·exact (World.frozen?_of_block (a:=⟨j,i,none⟩) (hkeep j (hB j hj).2.1 (hB j hj).2.2.1)).trans ((hB j hj).2.2.2 i)
  ·rcases hat with h2 | h2
   ·exact (hB j hj).2.2.1 (h2 ▸ e)
   ·rw[h2] at e
    have e2:w2.heap.size=j:=Option.some.inj e
    have:=(hB j hj).2.1
    omega
 refine ⟨?_,fun y hy=>?_,?_,fun j hj=>hown.lt j (by rw[R7];exact hj)⟩
 ·have:=(Reads.of_own hown).more (B':=fun j=>(Value.slice A5 0 0).ownBlock=some j) (fun k hk=>by rw[R7] at hk;exact hk)
  rw[List.length_append,List.flatMap_append]
  exact this
 ·rcases List.mem_append.1 hy with hy | hy
  ·have hx:=z0C h1 hy
   refine key y (OB w0 w1 A1) ⟨zl hx.n h2.be,zl hx.c h2.be,zl hx.u h2.be⟩ (fun j hj=>⟨hj.1,Nat.lt_of_lt_of_le hj.2.1 h2.be.size,hj.2.2.1,fun i=>(h2.be.frozen (p:=⟨j,i,none⟩) hj.2.1).trans (hj.2.2.2 i)⟩)
  ·refine key y (OB w1 w2 A2) (z0C h2 hy) (fun j hj=>⟨Nat.le_trans h1.be.size hj.1,hj.2.1,fun e=>?_,hj.2.2.2⟩)
   have:=(ho1 j e).2
   have:=hj.1
   omega
 ·exact Below.grown (h1.be.trans (h2.be.mono h1.be.size)) hgr (Nat.le_trans h1.be.size h2.be.size) (fun j hj=>(ho1 j hj).1)
end Go.Proofs.YtdhcjhfgibmhfaaGreatDoor

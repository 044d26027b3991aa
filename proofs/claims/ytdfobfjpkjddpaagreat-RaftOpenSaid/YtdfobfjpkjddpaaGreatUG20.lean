import Derived.Test.YtdfobfjpkjddpaaGreatUG19
set_option linter.unusedVariables false
set_option linter.unusedSimpArgs false
set_option maxRecDepth 10000
set_option maxHeartbeats 8000000
namespace Go.Proofs.YtdfobfjpkjddpaaGreat
open Go.RowKit Go.Own Go.Quo Go.Wire Go.Raft
structure ZB (w:World) (col:Nat→Nat) (p v j l f:Nat) (s:Nd) (un:Bool) (mb:Mb) (pos:Int) (mi mm:Ms) (Ao:Option Addr) (co:Nat) (ms:List MV) (dur:Int) (w':World) (col':Nat→Nat):Prop where
 n:NZ w' col' p v j l f s un mb pos mi mm Ao co ms dur
 ag:∀ k,k<w.heap.size→col' k=col k
 fr:Fr (fun k=>col k≠0) w w'
section
variable {w w1 w2:World} {col col1 col2:Nat→Nat} {p v j l f:Nat} {s s1 s2:Nd} {un un1 un2:Bool} {mb mb1 mb2:Mb} {pos pos1 pos2:Int} {mi mm mm1 mm2:Ms} {Ao:Option Addr} {co:Nat} {ms:List MV} {dur dur1 dur2:Int} {Z:Nat→Prop}
theorem ZB.start (h:NZ w col p v j l f s un mb pos mi mm Ao co ms dur):ZB w col p v j l f s un mb pos mi mm Ao co ms dur w col:=⟨h,fun _ _=>rfl,Fr.refl _ _⟩
theorem NZ.below (h:NZ w1 col p v j l f s un mb pos mi mm Ao co ms dur)(hb:Below w1.heap.size w1 w2):NZ w2 col p v j l f s un mb pos mi mm Ao co ms dur:=h.fr (S:=fun _=>False) (Fr.of_below hb) (fun _ _=>id)
theorem ZB.below (h:ZB w col p v j l f s un mb pos mi mm Ao co ms dur w1 col1)(hb:Below w1.heap.size w1 w2):ZB w col p v j l f s un mb pos mi mm Ao co ms dur w2 col1:=
 ⟨h.n.below hb,h.ag,h.fr.trans (Fr.of_below hb)⟩
theorem ZB.trans (h:ZB w col p v j l f s1 un1 mb1 pos1 mi mm1 Ao co ms dur1 w1 col1)(k:ZB w1 col1 p v j l f s2 un2 mb2 pos2 mi mm2 Ao co ms dur2 w2 col2):ZB w col p v j l f s2 un2 mb2 pos2 mi mm2 Ao co ms dur2 w2 col2:=
 ⟨k.n,fun i hi=>(k.ag i (Nat.lt_of_lt_of_le hi h.fr.size)).trans (h.ag i hi),fr_col h.fr h.ag k.fr⟩
theorem ZB.set (h:ZB w col p v j l f s1 un1 mb1 pos1 mi mm1 Ao co ms dur1 w1 col1)(k:∃ col2:Nat→Nat,NZ w2 col2 p v j l f s2 un2 mb2 pos2 mi mm2 Ao co ms dur2∧(∀ k,k<w1.heap.size→col2 k=col1 k)∧Fr (fun k=>col1 k≠0) w1 w2):∃ col2,ZB w col p v j l f s2 un2 mb2 pos2 mi mm2 Ao co ms dur2 w2 col2:=by
 obtain ⟨c2,k1,k2,k3⟩:=k
 exact ⟨c2,h.trans ⟨k1,k2,k3⟩⟩
theorem freC_of {c:Nat}(h:NZ w1 col p v j l f s un mb pos mi mm Ao co ms dur)(hs:w1.heap.size≤w2.heap.size):(∀ k,col k≠0→freC c col w1.heap.size w2.heap.size k=col k)∧(∀ k,freC c col w1.heap.size w2.heap.size k≠0→k<w2.heap.size)∧(∀ k,k<w1.heap.size→freC c col w1.heap.size w2.heap.size k=col k)∧(∀ k,(col k=c∨w1.heap.size≤k)∧k<w2.heap.size→freC c col w1.heap.size w2.heap.size k=c):=by
 refine ⟨fun k hk=>if_neg (by have:=h.lt k hk;omega),fun k hk=>?_,fun k hk=>if_neg (by omega),fun k hk=>?_⟩
 ·rcases Nat.lt_or_ge k w2.heap.size with h1 | h1
  ·exact h1
  ·exfalso;apply hk
   unfold freC
   rw[if_neg (by omega)]
   cases hc:col k with
   | zero=>rfl
   | succ n=>have:=h.lt k (by omega);omega
 ·obtain ⟨hk,h2⟩:=hk
  unfold freC
  by_cases h3:w1.heap.size≤k∧k<w2.heap.size
  ·rw[if_pos h3]
  ·rw[if_neg h3]
   rcases hk with hk | hk
   ·exact hk
   ·exact absurd ⟨hk,h2⟩ h3
theorem NZ.jour (h:NZ w1 col p v j l f s un mb pos mi mm Ao co ms dur){r:Int × List Int}(js:JS w2 (fun k=>col k=3∨w1.heap.size≤k) f j (s.recs ++ [r]) dur1 false)(hf:Fr (fun k=>col k=3) w1 w2) :
 ∃ col',NZ (w2.setCell ⟨p,45,none⟩ (.bool true)) col' p v j l f { s with recs:=s.recs ++ [r] } true mb pos mi mm Ao co ms dur1∧(∀ k,k<w1.heap.size→col' k=col k)∧Fr (fun k=>col k≠0) w1 (w2.setCell ⟨p,45,none⟩ (.bool true)):=by
 obtain ⟨t1,t2,t3,t4⟩:=freC_of (c:=3) h hf.size
 have hf2:Fr (fun k=>k=p) w2 (w2.setCell ⟨p,45,none⟩ (.bool true)):=(Fr.refl (fun k=>k=p) w2).setCell (p:=⟨p,45,none⟩) (.inl rfl) _
 have f6:Fr (fun k=>k=p∨col k=3) w1 (w2.setCell ⟨p,45,none⟩ (.bool true)):=(hf.mono (T:=fun k=>k=p∨col k=3) (fun k _ hk=>Or.inr hk)).trans (hf2.mono (fun k _ hk=>Or.inl hk))
 have ne:∀ {c:Nat} (k:Nat),col k=c→c≠1→c≠3→¬ (k=p∨col k=3):=by
  rintro c k hk h1 h3 (rfl | e)
  ·rw[h.cp] at hk;omega
  ·omega
 have to':∀ {c:Nat} (k:Nat),c≠0→col k=c→freC 3 col w1.heap.size w2.heap.size k=c:=fun k hc hk=>by rw[t1 k (by rw[hk];exact hc),hk]
 have g:=(h.b.fr hf (by rw[h.cp];decide)).set_ 45 (.bool true)
 rw[nd45 h.l9] at g
 have hj:=(js.cut.wider t4).fr hf2 (fun k hk e=>by
  rw[e,t1 p (by rw[h.cp];decide),h.cp] at hk;omega)
 refine ⟨freC 3 col w1.heap.size w2.heap.size,⟨g,h.vb.fr f6 (ne v h.cv (by decide) (by decide)),hj,(fun e=>by cases e),(h.ls.fr f6 (fun g hg=>ne g hg (by decide) (by decide))).wider (fun k hk=>to' k (by decide) hk),(h.ri.fr f6 (fun g hg=>ne g hg (by decide) (by decide))).more' (fun k hk=>to' k (by decide) hk),h.mio,(h.rm.fr f6 (fun g hg=>ne g hg (by decide) (by decide))).more' (fun k hk=>to' k (by decide) hk),h.mmo,own_fr h.oo f6 (fun g hg=>ne g (h.ob g hg) (by decide) (by decide)),fun g hg=>to' g (by decide) (h.ob g hg),(h.om.fr f6 (fun g hg=>ne g hg (by decide) (by decide))).more (fun k hk=>to' k (by decide) hk),to' p (by decide) h.cp,to' v (by decide) h.cv,fun k hk=>?_,h.l9⟩,t3,f6.mono (fun k _ hk=>?_)⟩
 ·have:=t2 k hk
  simpa using this
 ·rcases hk with e | e
  ·rw[e,h.cp];decide
  ·rw[e];decide
theorem NZ.logd (h:NZ w1 col p v j l f s un mb pos mi mm Ao co ms dur){L:List Ent}(ls:LS w2 (fun k=>col k=4∨w1.heap.size≤k) l L)(hf:Fr (fun k=>col k=4) w1 w2) :
 ∃ col',NZ w2 col' p v j l f { s with log:=L } un mb pos mi mm Ao co ms dur∧(∀ k,k<w1.heap.size→col' k=col k)∧Fr (fun k=>col k≠0) w1 w2:=by
 obtain ⟨t1,t2,t3,t4⟩:=freC_of (c:=4) h hf.size
 have ne:∀ {c:Nat} (k:Nat),col k=c→c≠4→¬ (col k=4):=by
  rintro c k hk h3 e
  omega
 have to':∀ {c:Nat} (k:Nat),c≠0→col k=c→freC 4 col w1.heap.size w2.heap.size k=c:=fun k hc hk=>by rw[t1 k (by rw[hk];exact hc),hk]
 exact ⟨freC 4 col w1.heap.size w2.heap.size,⟨h.b.fr hf (ne p h.cp (by decide)),h.vb.fr hf (ne v h.cv (by decide)),(h.js.fr hf (fun g hg=>ne g hg (by decide))).wider (fun k hk=>to' k (by decide) hk),h.du,ls.cut.wider t4,(h.ri.fr hf (fun g hg=>ne g hg (by decide))).more' (fun k hk=>to' k (by decide) hk),h.mio,(h.rm.fr hf (fun g hg=>ne g hg (by decide))).more' (fun k hk=>to' k (by decide) hk),h.mmo,own_fr h.oo hf (fun g hg=>ne g (h.ob g hg) (by decide)),fun g hg=>to' g (by decide) (h.ob g hg),(h.om.fr hf (fun g hg=>ne g hg (by decide))).more (fun k hk=>to' k (by decide) hk),to' p (by decide) h.cp,to' v (by decide) h.cv,t2,h.l9⟩,t3,hf.mono (fun k _ e=>by rw[e];decide)⟩
end
theorem ok72b {w:World}{p:Nat}{cs:Array Value}(h:Blk w p 88 cs)(h44:cs[44]?=some (.int .i64 0)):Calls Tryz.prog 72 #[.pointer (some ⟨p,0,none⟩),.int .i64 0] w fun e w'=>e=.returned (.bool true)∧w=w':=by
 have c0:=h.lt
 have c1:=h.frozen
 have x44:=(h.cell 44).trans h44
 clear h h44
 go_enter Tryz.func72,Tryz.ntmps72
 go_wp2
 go_ret
 exact ⟨rfl,rfl⟩
theorem NZ.x44 {w:World}{col:Nat→Nat}{p v j l f:Nat}{s:Nd}{un:Bool}{mb:Mb}{pos:Int}{mi mm:Ms}{Ao:Option Addr}{co:Nat}{ms:List MV}{dur:Int}(h:NZ w col p v j l f s un mb pos mi mm Ao co ms dur):(ndL v j l s un pos mi mm (.slice Ao ms.length co)).toArray[44]?=some (.int .i64 0):=by
 have:=h.c.2.2.2.2.2.2.2.2.2.2.2.2.2.2.2.2.2.2.2.1
 rw[h.b.cell] at this
 exact this
theorem encJ_mono (a b:List (Int × List Int)):(encJ initS a).length≤(encJ initS (a ++ b)).length:=by
 induction b generalizing a with
 | nil=>simp
 | cons x b ih=>
  obtain ⟨k,y⟩:=x
  have h1:=ih (a ++ [(k,y)])
  have h2:=encJ_snoc a initS k y
  rw[h2,List.length_append] at h1
  rw[show a ++ (k,y) :: b=a ++ [(k,y)] ++ b by simp]
  omega
theorem recsOf_split:∀ (k:Nat) (es:List Ent) (n:Nat),k≤es.length→recsOf n (es.take k) ++ recsOf (n+k) (es.drop k)=recsOf n es
 | 0,es,n,_=>by simp[recsOf]
 | k+1,[],n,h=>by simp at h
 | k+1,e :: r,n,h=>by
  have:=recsOf_split k r (n+1) (by simpa using h)
  simp only[List.take_succ_cons,List.drop_succ_cons,recsOf,List.cons_append]
  rw[show n+(k+1)=n+1+k by omega,this]
theorem recsOf_at:∀ (es:List Ent) (n k:Nat) (e:Ent),es[k]?=some e→recsOf n (es.take (k+1))=recsOf n (es.take k) ++ [(69,Wire.za ((n+k:Nat):Int) ++ encE e)]
 | [],n,k,e,h=>by simp at h
 | x :: r,n,0,e,h=>by
  simp at h
  subst h
  simp[recsOf]
 | x :: r,n,k+1,e,h=>by
  have:=recsOf_at r (n+1) k e (by simpa using h)
  simp only[List.take_succ_cons,recsOf,List.cons_append]
  rw[this,show n+1+k=n+(k+1) by omega]
def JInv (w2:World)(col:Nat→Nat)(p v j l f:Nat)(s:Nd)(F:Nat)(D:List EV)(mb:Mb)(pos:Int)(mi mm:Ms)(Ao:Option Addr)(co:Nat)(ms:List MV)(k:Nat)(wr:World):Prop:=
 ∃ (cr:Nat→Nat) (un':Bool) (dur':Int),ZB w2 col p v j l f { s with recs:=s.recs ++ recsOf F ((D.map EV.e).take k) } un' mb pos mi mm Ao co ms dur' wr cr
theorem conf_all (c0:Mb)(X:List Ent)(m:Nat)(hm:m≤X.length)(h:posC X≤m):conf cfE c0 (X.take m)=conf cfE c0 X∧posC (X.take m)=posC X:=by
 obtain ⟨h1,h2⟩:=conf_skip c0 X m X.length hm (Nat.le_refl _) (fun k e hk hk2 he=>by
  cases hc:cfE e with
  | none=>rfl
  | some c=>have:=posC_at X k ⟨e,c,he,hc⟩;omega)
 rw[List.take_length] at h1 h2
 exact ⟨h1.symm,h2.symm⟩
def MInv2 (w2:World)(col:Nat→Nat)(p v j l f:Nat)(s:Nd)(un:Bool)(NL:List Ent)(mi:Ms)(Ao:Option Addr)(co:Nat)(ms:List MV)(dur:Int)(m:Nat)(wr:World):Prop:=
 ∃ (cr:Nat→Nat) (mm':Ms),ZB w2 col p v j l f { s with log:=NL } un (conf cfE s.c0 (NL.take m)) (posC (NL.take m)) mi mm' Ao co ms dur wr cr
def WrPost (w:World)(col:Nat→Nat)(p v j l f:Nat)(s:Nd)(outs:List Msg)(e:Ending)(w':World):Prop:=e=.returned (.bool true)∧∃ un',NP w col p v j l f s un' outs w'
section
variable (w:World) (col:Nat→Nat) (p v j l f:Nat) (s:Nd) (un:Bool) (mi mm:Ms) (Ao:Option Addr) (co:Nat) (ms:List MV) (dur:Int) (hz:NZ w col p v j l f s un s.mb (posC s.log) mi mm Ao co ms dur)
include hz
theorem write108 (p0:Nat)(term:Int)(A:Option Addr)(c:Nat)(L:List EV)(B:Nat→Prop)(hE:ES w B A L)(hBc:∀ k,B k→col k=0)(hc:L.length≤c)(hP:AaPre s.log p0 term L)(hb1:∀ e∈L.map EV.e,EW e)(hb2:Bd s.log)
 (hfit:(encJ initS (s.write p0 (L.map EV.e)).recs).length≤16777216) (hrl:s.recs.length≤900000) :
 Calls Tryz.prog 108 #[.pointer (some ⟨p,0,none⟩),.int .i64 (p0:Int),.int .i64 term,.slice A L.length c] w (WrPost w col p v j l f (s.write p0 (L.map EV.e)) (ms.map MV.m)):=by
 have HZ:=ħ hz
 have HE:=ħ (hE.old)
 have HP:=ħ hP
 have hn:L.length≤1000:=hP.n.1
 have hln:s.log.length≤800000:=hP.n.2
 have hpl:p0≤s.log.length:=hP.pl
 have HB1:=ħ hb1
 have HB2:=ħ hb2
 have HBC:=ħ hBc
 have HF:=ħ hfit
 have hPl:=hE.1.plain
 obtain ⟨c0,c1,x0,x1,x2,x3,x4,x5,x6,x7,x8,x9,x10,x11,x12,x13,x14,x15,x16,x44,x45,x46⟩:=hz.c
 clear x0 x1 x2 x3 x4 x5 x6 x7 x8 x9 x10 x11 x12 x13 x14 x15 x16 x44 x45 x46
 clear hz hE hP hb1 hb2 hBc hfit
 go_enter Tryz.func108,Tryz.ntmps108
 go_wp2_with fail
 go_loopw [9] (fun vi wr=>∃ i:Nat,i≤L.length∧vi=.int .i64 (i:Int)∧Below w.heap.size w wr∧(∀ k,k<i→s.log[p0+k]?=(L.map EV.e)[k]?)) (fun vi _=>L.length - (intOf vi).toNat)
 case atStart=>exact ⟨0,Nat.zero_le _,rfl,Below.refl _ _,fun k h=>by omega⟩
 case round=>
  obtain ⟨i,hi,rfl,hb,hsm⟩:=hrel
  have HSM:=ħ hsm
  clear hsm
  have hlt2:=hi
  by_cases hlt:i<L.length
  ·have hlt':(i:Int)<L.length:=by omega
   obtain ⟨x,hgx⟩:∃ x,L[i]?=some x:=⟨_,List.getElem?_eq_getElem hlt⟩
   have HEr:=HE.out.below hb (fun _ h=>h.2)
   obtain ⟨y0,y1,y2⟩:=HEr.at_ hgx
   have hix:=fun W=>ixE (hPl (by omega)) c i hlt W
   have hxm:=List.mem_of_getElem? hgx
   have hzr:=HZ.out.below hb
   have hmx:(L.map EV.e)[i]?=some x.e:=by rw[List.getElem?_map,hgx];rfl
   obtain ⟨q,hq⟩:∃ q,decide (s.log[p0+i]?=some x.e)=q:=⟨_,rfl⟩
   have H134:=ħ (same134 wr col p v j l f s un _ _ mi mm Ao co ms dur hzr (p0+i) x _ (HEr.2 x hxm) (by omega) HB2.out.sm (HB1.out _ (List.mem_map_of_mem hxm)).2.2.2.2.2 q hq)
   rw[show ((p0+i:Nat):Int)+1=(p0:Int)+1+(i:Int) by omega] at H134
   have hw1:IntKind.i64.wrap ((p0:Int)+1)=(p0:Int)+1:=IntWalk.i64_in _ (by omega)
   have hw2:IntKind.i64.wrap ((p0:Int)+1+(i:Int))=(p0:Int)+1+(i:Int):=IntWalk.i64_in _ (by omega)
   have HQ:=ħ hq
   have HX:=ħ hmx
   obtain ⟨xt,xk,xA,xc,xb⟩:=x
   simp only at y0 y1 y2
   have zl:=Nat.lt_of_lt_of_le c0 hb.size
   clear hgx HEr hxm hzr hmx hq
   cases q with
   | true=>
    go_wp2_with (go_at_call 134;((with_reducible refine H134.out.mono ?_);rintro e w2 ⟨rfl,b2⟩))
    refine ⟨⟨i+1,hlt,by go_num,hb.trans (b2.mono hb.size),fun k hk=>?_⟩,by simp[intOf];omega⟩
    rcases Nat.lt_or_ge k i with h1 | h1
    ·exact HSM.out k h1
    ·obtain rfl:k=i:=by omega
     rw[HX.out];exact of_decide_eq_true HQ.out
   | false=>
    go_upto_region 6 with (go_at_call 134;((with_reducible refine H134.out.mono ?_);rintro e w2 ⟨rfl,b2⟩))
    have hpr:pres s.log p0 (L.map EV.e)=i:=pres_of (by rw[List.length_map];exact hlt) HSM.out (fun h=>by rw[HX.out] at h;exact of_decide_eq_false HQ.out h)
    have HPR:=ħ hpr
    have bb2:=hb.trans (b2.mono hb.size)
    have HE2:=ħ ((HE.out.below bb2 (fun _ h=>h.2)).drop hi hc)
    clear hpr b2 y0 y1 y2 zl hix H134 HX HQ hb
    obtain ⟨F,hF⟩:∃ F:Nat,F=p0+1+i:=⟨_,rfl⟩
    have hF':(p0:Int)+1+(i:Int)=(F:Int):=by omega
    rw[hF'] at hw2
    have hFb:(F:Int)≤900000:=by omega
    have r1:=fun W=>run_lo45 (A:=A) (c:=c) (n:=L.length) (k:=i) (by omega) W
    have r2:=fun W=>run_lo45b (A:=A) (c:=c) (n:=L.length) (k:=i) (by omega) W
    have hcc:=hPl (by omega)
    have hne:¬ ((i:Int)=(L.length:Int)):=by omega
    have HZ2:=ħ (HZ.out.below bb2)
    have HFF:=ħ hF
    clear hF hF'
    go_wp2_with fail
    have HFb:=ħ hFb
    have hdl:(L.drop i).length=L.length - i:=List.length_drop
    have hdr:(L.map EV.e).drop i=(L.drop i).map EV.e:=by rw[List.map_drop]
    obtain ⟨D,hD⟩:∃ D,D=L.drop i:=⟨_,rfl⟩
    rw[←hD] at hdl hdr HE2
    have hNb:∃ N,N=D.length:=⟨_,rfl⟩
    obtain ⟨N,hN⟩:=hNb
    rw[←hdl,←hN]
    have HDL:=ħ hdl
    have HN:=ħ hN
    have HD:=ħ hD
    clear hdl hN hD
    go_loopw [50] (fun vi wr=>∃ k:Nat,k≤N∧vi=.int .i64 (k:Int)∧JInv w2 col p v j l f s F D s.mb (posC s.log) mi mm Ao co ms k wr) (fun vi _=>N - (intOf vi).toNat)
    case atStart=>exact ⟨0,Nat.zero_le _,rfl,col,un,dur,by simpa [recsOf] using ZB.start HZ2.out⟩
    case round=>
     obtain ⟨k,hk,rfl,cr,un',dur',hzb⟩:=hrel
     have HZB:=ħ hzb
     obtain ⟨zl,zf,z0,z1,z2,z3,z4,z5,z6,z7,z8,z9,z10,z11,z12,z13,z14,z15,z16,z44,z45,z46⟩:=hzb.n.c
     clear hzb z0 z1 z2 z4 z5 z6 z7 z8 z9 z10 z11 z12 z13 z14 z15 z16
     by_cases hkN:k<N
     ·have hkN':(k:Int)<(N:Int):=by omega
      have hkb:k≤1000:=by have:=HN.out;have:=HDL.out;omega
      have hkD:k<D.length:=by have:=HN.out;omega
      have HEr:=HE2.out.fr HZB.out.fr (fun g hg hc=>hc (HBC.out g hg.1))
      obtain ⟨x,hgx⟩:∃ x,D[k]?=some x:=⟨_,List.getElem?_eq_getElem hkD⟩
      obtain ⟨y0,y1,y2⟩:=HEr.at_ hgx
      have hix:∀ W:World,(Instr.indexAt 45 (.slice (cutE A c i) N (c - i)) (.int .i64 (k:Int))).run Tryz.prog W=.ok (.pointer (some ⟨bk (cutE A c i),ofs (cutE A c i)+k * 3,none⟩)) W:=by
       rw[HN.out]
       exact fun W=>ixE (HEr.1.plain (by omega)) (c - i) k hkD W
      have hxm:=List.mem_of_getElem? hgx
      have hrx:=(HEr.2 x hxm).old (by omega)
      have HXL:=ħ (HB1.out x.e (by rw[HD.out] at hxm;exact List.mem_map_of_mem (List.mem_of_mem_drop hxm)))
      have HXV:=HXL.out
      have hxs:(x.e.term≤MT∧1≤x.e.term)∧(1≤x.e.kind∧x.e.kind≤3)∧x.e.body.length≤200:=⟨⟨HXV.2.1,HXV.1⟩,⟨HXV.2.2.1,HXV.2.2.2.1⟩,HXV.2.2.2.2.1⟩
      clear HXV
      have HGX:=ħ hgx
      clear hgx HEr hxm
      obtain ⟨xt,xk,xA,xc,xb⟩:=x
      simp only[EV.e,MT] at y0 y1 y2 hrx HXL hxs
      obtain ⟨⟨hx1,hx2⟩,⟨hx3,hx4⟩,hx5⟩:=hxs
      have b4:Below wr.heap.size wr ((wr.alloc (.cells (evC xt xk xA xb.length xc) 58)).alloc (.cells #[.slice none 0 0] 160)):=((Below.refl _ _).alloc (Nat.le_refl _) _).alloc (by simp) _
      have g4:Blk ((wr.alloc (.cells (evC xt xk xA xb.length xc) 58)).alloc (.cells #[.slice none 0 0] 160)) wr.heap.size 58 (evC xt xk xA xb.length xc):=(Blk.new wr 58 _).alloc _
      have wp4:WrP ((wr.alloc (.cells (evC xt xk xA xb.length xc) 58)).alloc (.cells #[.slice none 0 0] 160)) (wr.heap.size+1) []:=by simpa using WrP.new (wr.alloc (.cells (evC xt xk xA xb.length xc) 58))
      have hs4:((wr.alloc (.cells (evC xt xk xA xb.length xc) 58)).alloc (.cells #[.slice none 0 0] 160)).heap.size=wr.heap.size+2:=by simp
      go_upto_region 11 with (fail)
      generalize (wr.alloc (.cells (evC xt xk xA xb.length xc) 58)).alloc (.cells #[.slice none 0 0] 160)=W4 at *
      have kl4:KL W4 (wr.heap.size+1) [(wr.heap.size,58,evC xt xk xA xb.length xc)]:=⟨by intro y hy;rw[List.mem_singleton] at hy;subst hy;exact ⟨g4,show (58:TypeId)≠5 by decide,show wr.heap.size≠wr.heap.size+1 by omega⟩⟩
      have hw3:IntKind.i64.wrap ((p0:Int)+1+(i:Int)+(k:Int))=((F+k:Nat):Int):=by rw[IntWalk.i64_in _ (by have:=HFb.out;have:=HFF.out;omega)];have:=HFF.out;omega
      have H117:=ħ (int_b (wr.heap.size+1) ((F:Int)+(k:Int)) [] W4 wp4 _ kl4 (by omega) (by have:=HFb.out;omega) (by simp))
      have hel:=encI_len (n:=(F:Int)+(k:Int)) (by omega) (by have:=HFb.out;omega)
      have H135:=ħ fun W (b:Below wr.heap.size wr W) (z:WrP W (wr.heap.size+1) ([] ++ Wire.za ((F:Int)+(k:Int))))=>writeEntry_any (wr.heap.size+1) _ xt xk xA xc xb _ W z (hrx.below b (fun _ h=>h.2)) (fun j hj=>by have:=hj.2;omega) (by simp only[List.nil_append];omega) (by omega) (by omega) (by omega)
      clear kl4 wp4 hrx hel
      obtain ⟨t0,t1,t2⟩:=g4.facts
      have z3':=(b4.cell (p:=⟨p,3,none⟩) zl).trans z3
      go_upto_region 13 with (first
       | (go_at_call 117;((with_reducible refine H117.out.mono ?_);rintro e w5 ⟨rfl,wp5,b5,kl5⟩;have b5':=b4.trans (b5.mono (Nat.le_succ _));have g5:=(kl5.al _ (List.mem_singleton.2 rfl)).1;have s0:=g5.lt;have s1:w5.cell? ⟨wr.heap.size,0,none⟩=some (.int .i64 xt):=g5.cell 0;have s2:w5.cell? ⟨wr.heap.size,1,none⟩=some (.int .i64 xk):=g5.cell 1;have s3:w5.cell? ⟨wr.heap.size,2,none⟩=some (.slice xA xb.length xc):=g5.cell 2))
       | (go_at_call 135;((with_reducible refine (H135.out w5 b5' wp5).mono ?_);rintro e w6 ⟨rfl,wp6,b6⟩)))
      have b6':=b5'.trans (b6.mono (Nat.le_succ _))
      have n6:=HZB.out.n.below b6'
      obtain ⟨out,hout⟩:∃ out,out=[] ++ Wire.za ((F:Int)+(k:Int)) ++ encE ⟨xt,xk,xb⟩:=⟨_,rfl⟩
      rw[←hout] at wp6
      have hout2:out=Wire.za ((F+k:Nat):Int) ++ encE ⟨xt,xk,xb⟩:=by rw[hout,List.nil_append];rfl
      obtain ⟨ro1,ro2,-,-⟩:=HXL.out.rec (n:=F+k) (by have:=HFb.out;omega)
      rw[←hout2] at ro1 ro2
      have HO:=ħ hout2
      have hrc:recsOf F ((D.map EV.e).take (k+1))=recsOf F ((D.map EV.e).take k) ++ [(69,out)]:=by
       rw[hout2]
       exact recsOf_at _ F k _ (by rw[List.getElem?_map,HGX.out];rfl)
      have HRC:=ħ hrc
      have hfit2:(encJ initS ((s.recs ++ recsOf F ((D.map EV.e).take k)) ++ [(69,out)])).length≤16777216:=by
       refine Nat.le_trans (encJ_mono _ (recsOf (F+(k+1)) ((D.map EV.e).drop (k+1)))) ?_
       rw[List.append_assoc s.recs,←hrc,List.append_assoc,recsOf_split (k+1) (D.map EV.e) F (by rw[List.length_map];have:=HN.out;omega)]
       have hw:=HF.out
       unfold Nd.write at hw
       rw[HPR.out,if_neg (by rw[List.length_map];omega)] at hw
       rw[HFF.out,HD.out,List.map_drop]
       exact hw
      have H107:=ħ fun W (z:WrP W (wr.heap.size+1) out)=>encoded_cap (wr.heap.size+1) out W z (by have:=ro2;simp at this;omega)
      have HJ:=ħ fun W A7 c7 (z:JS W (fun k=>cr k=3) f j (s.recs ++ recsOf F ((D.map EV.e).take k)) dur' false) (y:Reads W (fun k=>¬ cr k=3) 1 A7 out.length (bys out))=>js_append W _ f j _ dur' 69 A7 c7 out z (by omega) (by omega) (by simpa using ro1) (by have:=ro2;simp at this;omega) y hfit2 (by rw[List.length_append,recs_len,List.length_take];omega)
      have HN6:=ħ n6
      have zl6:=n6.b.lt
      have hd6:w6.drew.heap.size=w6.heap.size:=rfl
      have z36:=n6.c.2.2.2.2.2.1
      clear hout hout2 hrc n6 s0 s1 s2 s3 g5 t0 t1 t2 z3' g4 hs4
      go_cut [70] (fun vx wx=>vx=.bool false∧JS wx (fun k=>cr k=3∨wr.heap.size≤k) f j ((s.recs ++ recsOf F ((D.map EV.e).take k)) ++ [(69,out)]) dur' false∧Fr (fun k=>cr k=3) wr wx)
      case first=>
       go_region_law (first
        | (go_simp;((with_reducible refine (H107.out _ (by exact wp6.below (Below.refl _ _).drew)).mono ?_);rintro e w7 ⟨A7,c7,rfl,r7,b7,hc7⟩;have b7':=((Below.refl w6.heap.size w6).drew).trans b7;have n7:=HN6.out.below b7';have z37:=n7.c.2.2.2.2.2.1;have zl7:=n7.b.lt))
        | (go_simp;((with_reducible refine (HJ.out w7 A7 c7 (by exact n7.js) (by exact r7.more (fun g hg h3=>by have:=HZB.out.n.lt g (by omega);have:=b6'.size;omega))).mono ?_);rintro e w8 ⟨rfl,js8,f8⟩;have k8:=n7.b.fr f8 (by rw[n7.cp];decide);have H72:=ħ (ok72b k8 n7.x44)))
        | (go_simp;((with_reducible refine H72.out.mono ?_);rintro e w9 ⟨rfl,rfl⟩)))
       all_goals
        go_wp2_with fail
        go_meet
        case rel=>
         have b67:=b6'.trans (b7'.mono b6'.size)
         exact ⟨rfl,js8.wider (fun k hk=>hk.elim .inl (fun h=>.inr (Nat.le_trans b67.size h))),(Fr.of_below b67).trans f8⟩
      case rest=>
       obtain ⟨rfl,jsx,fx⟩:=hcut
       have kx:=HZB.out.n.b.fr fx (by rw[HZB.out.n.cp];decide)
       have lx:=kx.lt
       have qx:=kx.frozen
       have x45:wc.cell? ⟨p,45,none⟩=some (.bool un'):=(kx.cell 45).trans ((HZB.out.n.b.cell 45).symm.trans z45)
       have HNX:=ħ (HZB.out.set (HZB.out.n.jour jsx fx))
       clear kx jsx fx
       go_wp2_with fail
       obtain ⟨c9,h9⟩:=HNX.out
       refine ⟨⟨_,_,_,_,_,⟨k+1,hkN,by go_num,c9,true,dur',?_⟩,rfl,rfl,rfl,rfl,rfl⟩,by simp[intOf];omega⟩
       rw[HRC.out,←List.append_assoc]
       exact h9
     ·have hge:¬ (k:Int)<(N:Int):=by omega
      have hkE:k=N:=by omega
      have htk:(D.map EV.e).take k=D.map EV.e:=List.take_of_length_le (by rw[List.length_map];have:=HN.out;omega)
      have HZ3:=HZB.out
      rw[htk] at HZ3
      have HZB:=ħ HZ3
      have HEr:=(HE.out.below bb2 (fun _ h=>h.2)).fr HZB.out.fr (fun g hg hc=>hc (HBC.out g hg.1))
      have hs2:=bb2.size
      have H137:=ħ (appendAfter_any wr (fun k=>cr k=4) _ l s.log p0 term A c L HZB.out.n.ls HEr (fun g hg h4=>by have:=HZB.out.ag g (Nat.lt_of_lt_of_le hg.2 hs2);rw[HBC.out g hg.1] at this;omega) HP.out hc)
      have y5:=HZB.out.n.c.2.2.2.2.2.2.2.1
      clear HEr htk HZ3
      go_upto_region 18 with (go_at_call 137;((with_reducible refine H137.out.mono ?_);rintro e w3 ⟨rfl,ls3,f3⟩))
      obtain ⟨c3,h3⟩:=HZB.out.set (HZB.out.n.logd ls3 f3)
      have H3:=ħ h3
      have H72:=ħ (ok72b h3.n.b h3.n.x44)
      obtain ⟨t0,tf,t1,t2,t3,t4,t5,t6,t7,t8,t9,t10,t11,t12,t13,t14,t15,t16,t17,t18,t19,t20⟩:=h3.n.c
      clear h3 ls3 f3 t1 t2 t3 t4 t5 t6 t7 t8 t9 t10 t12 t13 t14 t15 t16 t17 t18 t19 t20 y5 H137
      go_upto_region 20 with (go_at_call 72;((with_reducible refine H72.out.mono ?_);rintro e w4 ⟨rfl,rfl⟩))
      obtain ⟨M,hM⟩:∃ M,M=p0+i:=⟨_,rfl⟩
      obtain ⟨NL,hNL⟩:∃ NL,NL=newLog s.log p0 (L.map EV.e):=⟨_,rfl⟩
      have hMl:M≤s.log.length:=by
       rcases Nat.eq_zero_or_pos i with h0 | h0
       ·omega
       ·have:=HSM.out (i - 1) (by omega)
        rw[List.getElem?_eq_getElem (l:=L.map EV.e) (by rw[List.length_map];omega)] at this
        have:=(List.getElem?_eq_some_iff.1 this).1
        omega
      have hNL2:NL=s.log.take M ++ D.map EV.e:=by
       rw[hNL]
       unfold newLog
       rw[HPR.out,if_neg (by rw[List.length_map];omega),←hM,HD.out,List.map_drop]
      have htk2:NL.take M=s.log.take M:=by
       rw[hNL2,List.take_append_of_le_length (by rw[List.length_take];omega),List.take_take,Nat.min_self]
      rw[←hNL] at H3
      obtain ⟨q,hq⟩:∃ q,decide ((F:Int)≤(posC s.log:Int))=q:=⟨_,rfl⟩
      have hF1:=HFF.out
      have HN2:=ħ hNL2
      have HMl:=ħ hMl
      have HT2:=ħ htk2
      have HQ:=ħ hq
      have HMM:=ħ hM
      clear hNL hNL2 htk2 hM hMl hq
      rw[show (p0:Int)+1+(i:Int)=(F:Int) by omega]
      have hNLl:NL.length≤1000000∧M≤NL.length:=by
       rw[HN2.out,List.length_append,List.length_take,List.length_map]
       have:=HN.out;have:=HDL.out;have:=HMl.out;have:=hln
       omega
      have hBd:Bd NL:=fun e he=>by
       rw[HN2.out] at he
       rcases List.mem_append.1 he with he | he
       ·exact HB2.out e (List.mem_of_mem_take he)
       ·rw[HD.out,List.map_drop] at he
        have:=HB1.out e (List.mem_of_mem_drop he)
        exact ⟨this.2.2.2.2.1,this.2.2.2.2.2⟩
      have hwf:IntKind.i64.wrap ((F:Int) - 1)=(M:Int):=by rw[IntWalk.i64_in _ (by have:=HFb.out;omega)];have:=HMM.out;omega
      have H36:=ħ (findMembership36 w3 c3 p v j l f _ un' _ _ mi mm Ao co ms dur' H3.out.n M hNLl.2 hNLl.1 hBd)
      have HF1:=ħ hF1
      clear hF1 hBd hNLl
      have hMF:M<F:=by have:=HF1.out;have:=HMM.out;omega
      have HKK:=ħ (show posC s.log≤M→conf cfE s.c0 (NL.take M)=s.mb∧posC (NL.take M)=posC s.log from fun h=>by
       rw[HT2.out];exact conf_all s.c0 s.log M HMl.out h)
      cases q
      case' false=>
       have hqt:¬ (F:Int)≤(posC s.log:Int):=of_decide_eq_false HQ.out
       go_upto_region 22 with (fail)
       have HM5:Hid (MInv2 w2 col p v j l f { s with recs:=s.recs ++ recsOf F (D.map EV.e) } un' NL mi Ao co ms dur' M w3):=by
        obtain ⟨k1,k2⟩:=HKK.out (by have:=HF1.out;have:=HMM.out;omega)
        refine ħ ⟨c3,mm,?_⟩
        show ZB w2 col p v j l f _ un' (conf cfE s.c0 (NL.take M)) (posC (NL.take M)) mi mm Ao co ms dur' w3 c3
        rw[k1,k2]
        exact H3.out
       clear H3 H36 t0 tf t11 H72
       generalize w3=w5 at *
      case' true=>
       have hqt:(F:Int)≤(posC s.log:Int):=of_decide_eq_true HQ.out
       go_upto_region 22 with (go_at_call 36;((with_reducible refine H36.out.mono ?_);rintro e w5 ⟨rfl,hfm⟩))
       have HM5:Hid (MInv2 w2 col p v j l f { s with recs:=s.recs ++ recsOf F (D.map EV.e) } un' NL mi Ao co ms dur' M w5):=by
        obtain ⟨c5,mm5,n1,n2,n3⟩:=hfm
        obtain ⟨c6,h6⟩:=H3.out.set ⟨c5,n1,n2,n3⟩
        exact ħ ⟨c6,mm5,h6⟩
       clear hfm H3 H36 t0 tf t11 H72
      all_goals
       clear hqt HQ HKK
       go_wp2_with fail
       rw[←HDL.out,←HN.out]
       go_loopw [108] (fun vi wr=>∃ k:Nat,k≤N∧vi=.int .i64 (k:Int)∧MInv2 w2 col p v j l f { s with recs:=s.recs ++ recsOf F (D.map EV.e) } un' NL mi Ao co ms dur' (M+k) wr) (fun vi _=>N - (intOf vi).toNat)
       case atStart=>exact ⟨0,Nat.zero_le _,rfl,HM5.out⟩
       case round=>
        obtain ⟨k5,hk5,rfl,cr5,mm5,hzb5⟩:=hrel
        have HZ5:=ħ hzb5
        have zl5:=hzb5.n.b.lt
        clear hzb5
        by_cases hkN5:k5<N
        ·have hkN5':(k5:Int)<(N:Int):=by omega
         have hkD5:k5<D.length:=by have:=HN.out;omega
         have hkb5:k5≤1000:=by have:=HN.out;have:=HDL.out;omega
         have HEr5:=HE2.out.fr HZ5.out.fr (fun g hg hc=>hc (HBC.out g hg.1))
         obtain ⟨x5,hgx5⟩:∃ x,D[k5]?=some x:=⟨_,List.getElem?_eq_getElem hkD5⟩
         obtain ⟨y0,y1,y2⟩:=HEr5.at_ hgx5
         have hix5:∀ W:World,(Instr.indexAt 45 (.slice (cutE A c i) N (c - i)) (.int .i64 (k5:Int))).run Tryz.prog W=.ok (.pointer (some ⟨bk (cutE A c i),ofs (cutE A c i)+k5 * 3,none⟩)) W:=by
          rw[HN.out]
          exact fun W=>ixE (HEr5.1.plain (by omega)) (c - i) k5 hkD5 W
         have hxm5:=List.mem_of_getElem? hgx5
         have hrx5:=(HEr5.2 x5 hxm5).old (by omega)
         have HXL5:=ħ (HB1.out x5.e (by rw[HD.out] at hxm5;exact List.mem_map_of_mem (List.mem_of_mem_drop hxm5)))
         have HAT:=ħ (show NL[M+k5]?=some x5.e by
          rw[HN2.out,List.getElem?_append_right (by rw[List.length_take];omega),List.length_take,Nat.min_eq_left HMl.out,show M+k5 - M=k5 by omega,List.getElem?_map,hgx5];rfl)
         clear hgx5 HEr5 hxm5
         obtain ⟨xt5,xk5,xA5,xc5,xb5⟩:=x5
         simp only[EV.e] at y0 y1 y2 hrx5 HXL5 HAT
         have b6:Below wr.heap.size wr (wr.alloc (.cells (evC xt5 xk5 xA5 xb5.length xc5) 58)):=(Below.refl _ _).alloc (Nat.le_refl _) _
         have g6:Blk (wr.alloc (.cells (evC xt5 xk5 xA5 xb5.length xc5) 58)) wr.heap.size 58 (evC xt5 xk5 xA5 xb5.length xc5):=Blk.new wr 58 _
         have r6:=hrx5.below b6 (fun _ h=>h.2)
         go_upto_region 25 with (fail)
         generalize wr.alloc (.cells (evC xt5 xk5 xA5 xb5.length xc5) 58)=W6 at *
         have H67:=ħ (membershipOf67 _ ⟨xt5,xk5,xA5,xc5,xb5⟩ W6 r6 HXL5.out.2.2.2.2.2 (Nat.le_trans HXL5.out.2.2.2.2.1 (by decide)))
         obtain ⟨t0,t1,t2⟩:=g6.facts
         clear r6 hrx5 y0 y1 y2
         go_upto_region 26 with (go_at_call 67;((with_reducible refine H67.out.mono ?_);rintro e w7 ⟨m',rfl,hmb,hm7,b7⟩))
         have b8:Below W6.heap.size W6 (w7.alloc (.cells (msC m') 24)):=b7.alloc b7.size _
         have g8:Blk (w7.alloc (.cells (msC m') 24)) w7.heap.size 24 (msC m'):=Blk.new w7 24 _
         have m8:=hm7.alloc (.cells (msC m') 24)
         generalize w7.alloc (.cells (msC m') 24)=W8 at *
         have bb8:=b6.trans (b8.mono b6.size)
         have hb6s:=b6.size
         clear t0 t1 t2 H67 hm7 b7 g6
         obtain ⟨v0,vf,v1,v2,v3,v4,v5,v6,v7,v8,v9,v10,v11,v12,v13,v14,v15,v16,v17,v18,v19,v20⟩:=(HZ5.out.n.below bb8).c
         clear v1 v2 v3 v4 v5 v6 v7 v8 v12 v13 v14 v15 v16 v17 v18 v19 v20
         have u0:W8.cell? ⟨w7.heap.size,0,none⟩=some (.slice m'.A m'.o.length m'.c):=g8.cell 0
         have u1:W8.cell? ⟨w7.heap.size,1,none⟩=some (.slice m'.A' m'.n.length m'.c'):=g8.cell 1
         have u2:=g8.lt
         have hNL5:M+k5+1≤NL.length:=by have:=(List.getElem?_eq_some_iff.1 HAT.out).1;omega
         cases hc5:cfE ⟨xt5,xk5,xb5⟩ with
         | none=>
          have hc':(cfE ({ t:=xt5,k:=xk5,A:=xA5,c:=xc5,b:=xb5 }:EV).e).isSome=false:=by
           show (cfE (⟨xt5,xk5,xb5⟩:Ent)).isSome=false
           rw[hc5];rfl
          rw[hc']
          have HST:=ħ (conf_skip s.c0 NL (M+k5) (M+(k5+1)) (by omega) (by omega) (fun k' e' h1 h2 h3=>by
           obtain rfl:k'=M+k5:=by omega
           rw[HAT.out] at h3;injection h3 with h3;rw[←h3];exact hc5))
          clear hc5 hc' hmb
          go_wp2_with fail
          refine ⟨⟨k5+1,hkN5,by go_num,cr5,mm5,?_⟩,by simp[intOf];omega⟩
          show ZB w2 col p v j l f _ un' (conf cfE s.c0 (NL.take (M+(k5+1)))) (posC (NL.take (M+(k5+1)))) mi mm5 Ao co ms dur' W8 cr5
          rw[HST.out.1,HST.out.2]
          exact HZ5.out.below bb8
         | some mb'=>
          have hc':(cfE ({ t:=xt5,k:=xk5,A:=xA5,c:=xc5,b:=xb5 }:EV).e).isSome=true:=by
           show (cfE (⟨xt5,xk5,xb5⟩:Ent)).isSome=true
           rw[hc5];rfl
          have hmb2:=hmb mb' hc5
          rw[hc']
          have HST:=ħ (conf_hit s.c0 NL (M+k5) _ mb' HAT.out hc5)
          have hw5:IntKind.i64.wrap ((F:Int)+(k5:Int))=(F:Int)+(k5:Int):=IntWalk.i64_in _ (by have:=HFb.out;omega)
          have HC:=ħ (HZ5.out.set (HZ5.out.n.conf bb8 ((F:Int)+(k5:Int)) (mb':=mb') (m':=m') ⟨m8.o.more (fun k hk=>.inl (Nat.le_trans hb6s hk)),m8.n.more (fun k hk=>.inl (Nat.le_trans hb6s hk)),m8.ol,m8.nl⟩ hmb2))
          clear hc5 hc' hmb hmb2
          go_wp2_with fail
          refine ⟨⟨k5+1,hkN5,by go_num,?_⟩,by simp[intOf];omega⟩
          obtain ⟨c9,h9⟩:=HC.out
          refine ⟨c9,m',?_⟩
          show ZB w2 col p v j l f _ un' (conf cfE s.c0 (NL.take (M+k5+1))) (posC (NL.take (M+k5+1))) mi m' Ao co ms dur' _ c9
          rw[HST.out.1,HST.out.2]
          rw[show ((M+k5+1:Nat):Int)=(F:Int)+(k5:Int) by have:=HF1.out;have:=HMM.out;omega]
          exact h9
        ·have hge5:¬ (k5:Int)<(N:Int):=by omega
         have hkE5:=ħ (show k5=N by omega)
         clear hk5 hkN5
         go_wp2_with fail
         go_ret
         have hz9:=HZ5.out
         have hNLe:NL.length=M+N:=by
          rw[HN2.out,List.length_append,List.length_take,List.length_map,Nat.min_eq_left HMl.out,HN.out]
         rw[List.take_of_length_le (by have:=hkE5.out;omega)] at hz9
         have hwr:s.write p0 (L.map EV.e) = { s with recs:=s.recs ++ recsOf F (D.map EV.e),log:=NL }:=by
          unfold Nd.write
          rw[HPR.out,if_neg (by rw[List.length_map];omega),HN2.out,HD.out,List.map_drop,HMM.out,HFF.out]
         rw[hwr]
         refine ⟨rfl,un',cr5,⟨mi,mm5,Ao,co,ms,dur',hz9.n,rfl⟩,fun k hk=>?_,?_⟩
         ·exact hz9.ag k (Nat.lt_of_lt_of_le hk bb2.size)
         ·exact (Fr.of_below (S:=fun k=>col k≠0) bb2).trans hz9.fr
  ·have hge:¬ (i:Int)<L.length:=by omega
   have hpr:pres s.log p0 (L.map EV.e)=L.length:=by rw[←List.length_map (f:=EV.e)];exact pres_full (fun k hk=>HSM.out k (by rw[List.length_map] at hk;omega))
   have HW:=ħ (show s.write p0 (L.map EV.e)=s from by unfold Nd.write;rw[hpr,if_pos (by rw[List.length_map])])
   have heq:(i:Int)=(L.length:Int):=by omega
   clear hpr hi hlt hlt2
   go_wp2_with fail
   go_ret
   rw[HW.out]
   exact ⟨rfl,un,col,⟨mi,mm,Ao,co,ms,dur,HZ.out.below hb,rfl⟩,fun _ _=>rfl,Fr.of_below hb⟩
end
theorem termAt_last (L:List Ent):termAt L L.length=some (lastT L):=by
 unfold termAt lastT
 rcases Nat.eq_zero_or_pos L.length with h0 | h0
 ·have:L=[]:=List.eq_nil_of_length_eq_zero h0
  subst this;rfl
 ·rw[if_neg (by omega),if_neg (by omega)]
  rw[Int.toNat_natCast,←List.getLast?_eq_getElem?]
  cases h:L.getLast? with
  | none=>rw[List.getLast?_eq_none_iff] at h;subst h;simp at h0
  | some x=>simp
section
variable (w:World) (col:Nat→Nat) (p v j l f:Nat) (s:Nd) (un:Bool) (outs:List Msg) (h:NS w col p v j l f s un outs)
include h
theorem add73 (kind:Int)(A:Option Addr)(c:Nat)(b:List Int)(B:Nat→Prop)(hb:Reads w B 1 A b.length (bys b))(hBc:∀ k,B k→col k=0)(he:EW ⟨s.term,kind,b⟩)(hT:lastT s.log≤s.term)(hT0:0≤lastT s.log)(hln:s.log.length≤800000)(hbd:Bd s.log)
 (hfit:(encJ initS (s.add kind b).recs).length≤16777216) (hrl:s.recs.length≤900000) :
 Calls Tryz.prog 73 #[.pointer (some ⟨p,0,none⟩),.int .i64 kind,.slice A b.length c] w (WrPost w col p v j l f (s.add kind b) outs):=by
 have N:=ħ h
 obtain ⟨mi,mm,Ao,co,ms,dur,hz,hm⟩:=h
 have H42:=ħ (last_any w _ l s.log hz.ls (by omega))
 obtain ⟨c0,c1,x0,x1,x2,x3,x4,x5,x6,x7,x8,x9,x10,x11,x12,x13,x14,x15,x16,x44,x45,x46⟩:=hz.c
 clear x0 x1 x2 x3 x6 x7 x8 x9 x10 x11 x12 x13 x14 x15 x16 x44 x45 x46
 have HZ:=ħ hz
 clear hz
 go_enter Tryz.func73,Tryz.ntmps73
 go_upto_region 2 with (go_at_call 42;((with_reducible refine H42.out.mono ?_);rintro e w2 ⟨rfl,b2⟩))
 have h2:=HZ.out.below b2
 have H44:=ħ (term44 w2 v j _ _ h2.vb)
 obtain ⟨zl,zf,z0,z1,z2,z3,z4,z5,z6⟩:=h2.c
 clear z6 z0 z1 z2 z3 z5 x4 x5
 have hs2:=b2.size
 have b3:Below w.heap.size w (w2.alloc (.cells (evC s.term kind A b.length c) 58)):=b2.alloc b2.size _
 have hES:ES (w2.alloc (.cells (evC s.term kind A b.length c) 58)) (fun k=>(B k∧k<w.heap.size)∨k=w2.heap.size) (some ⟨w2.heap.size,0,none⟩) [⟨s.term,kind,A,c,b⟩]:=
  ⟨(Reads.newS w2 (evL ⟨s.term,kind,A,c,b⟩) 58 (0,0) 1 3 rfl _ rfl).more (fun k hk=>.inr hk),fun y hy=>by
   rw[List.mem_singleton] at hy;subst hy
   exact ((hb.old (by omega)).below b3 (fun _ h=>h.2)).more (fun k hk=>.inl hk)⟩
 have hBc':∀ k,(B k∧k<w.heap.size)∨k=w2.heap.size→col k=0:=by
  rintro k (hk | rfl)
  ·exact hBc k hk.1
  ·cases hc:col w2.heap.size with
   | zero=>rfl
   | succ n=>have:=N.out.lt _ (show col w2.heap.size≠0 by omega);omega
 have H108:=ħ (show Calls Tryz.prog 108 #[.pointer (some ⟨p,0,none⟩),.int .i64 (s.log.length:Int),.int .i64 (lastT s.log),.slice (some ⟨w2.heap.size,0,none⟩) 1 1] (w2.alloc (.cells (evC s.term kind A b.length c) 58)) (WrPost _ col p v j l f (s.add kind b) (ms.map MV.m)) from write108 _ col p v j l f s un mi mm Ao co ms dur (HZ.out.below b3) s.log.length (lastT s.log) (some ⟨w2.heap.size,0,none⟩) 1 [⟨s.term,kind,A,c,b⟩] _ hES hBc' (Nat.le_refl _) ⟨Nat.le_refl _,termAt_last _,hT0,(fun y hy=>by rw[List.mem_singleton] at hy;subst hy;exact ⟨he.val,he.2.2.2.2.2⟩),(fun y hy=>by injection hy with hy;subst hy;exact hT),(fun i x y h1 h2=>by simp at h2),⟨by simp,hln⟩,hbd.sm⟩ (fun e h'=>by simp at h';subst h';exact he) hbd hfit hrl)
 have HM:=ħ hm
 clear hES hBc' hm
 go_wp2_with (first
  | (go_at_call 44;((with_reducible refine H44.out.mono ?_);rintro e w3 ⟨rfl,rfl⟩))
  | (go_at_call 108;((with_reducible refine H108.out.mono ?_);rintro e w5 ⟨rfl,hwp⟩)))
 go_ret
 obtain ⟨un',col',n1,n2,n3⟩:=hwp
 rw[HM.out] at n1
 exact ⟨rfl,un',col',n1,fun k hk=>n2 k (Nat.lt_of_lt_of_le hk b3.size),(Fr.of_below (S:=fun k=>col k≠0) b3).trans n3⟩
end
end Go.Proofs.YtdfobfjpkjddpaaGreat

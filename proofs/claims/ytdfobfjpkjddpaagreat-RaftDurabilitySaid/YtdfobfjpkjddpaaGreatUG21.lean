import Derived.Test.YtdfobfjpkjddpaaGreatUG20
set_option linter.unusedVariables false
set_option linter.unusedSimpArgs false
set_option maxRecDepth 10000
set_option maxHeartbeats 4000000
namespace Go.Proofs.YtdfobfjpkjddpaaGreat
open Go.RowKit Go.Own Go.Quo Go.Wire Go.Raft
theorem clos110 (w:World)(col:Nat→Nat)(p v j l f:Nat)(s:Nd)(un:Bool)(mb:Mb)(pos:Int)(mi mm:Ms)(Ao:Option Addr)(co:Nat)(ms:List MV)(dur:Int)(hz:NZ w col p v j l f s un mb pos mi mm Ao co ms dur)(B1 B2 k:Nat)(hk:k<9)(hc1:w.cell? ⟨B1,0,none⟩=some (.pointer (some ⟨p,0,none⟩)))(hc2:w.cell? ⟨B2,0,none⟩=some (.int .i64 (s.log.length:Int))) :
 Calls Tryz.prog 110 #[.int .i64 (k:Int),.pointer (some ⟨B1,0,none⟩),.pointer (some ⟨B2,0,none⟩)] w fun e w'=>e=.returned (.int .i64 (s.num k))∧w=w':=by
 have HN:=ħ (show s.num (k:Int)=if (k:Int)=s.id then (s.log.length:Int) else gd s.mt k from by unfold Nd.num;rw[Int.toNat_natCast])
 have hx:=hz.mat hk
 obtain ⟨c0,c1,x0,x1,x2,x3,x4,x5,x6,x7,x8,x9,x10,x11,x12,x13,x14,x15,x16,x44,x45,x46⟩:=hz.c
 clear x1 x2 x3 x4 x5 x6 x7 x8 x9 x10 x11 x12 x13 x14 x15 x16 x44 x45 x46 hz
 have hki:(k:Int)<9:=by omega
 by_cases h:(k:Int)=s.id
 ·have h1:((k:Int) == s.id)=true:=by simpa using h
  have HI:=ħ h
  clear h
  go_enter Tryz.func110,Tryz.ntmps110
  go_wp2
  go_ret
  exact ⟨by rw[HN.out,if_pos HI.out];rfl,rfl⟩
 ·have h1:((k:Int) == s.id)=false:=by simpa using h
  have HI:=ħ h
  clear h
  go_enter Tryz.func110,Tryz.ntmps110
  go_wp2
  go_ret
  exact ⟨by rw[HN.out,if_neg HI.out];rfl,rfl⟩
theorem MR.old {w:World}{B:Nat→Prop}{m:Ms}(h:MR w B m):MR w (· < w.heap.size) m:=⟨(h.o.old (by omega)).more (fun k hk=>hk.2),(h.n.old (by omega)).more (fun k hk=>hk.2),h.ol,h.nl⟩
theorem com_yes (B:Nat→Prop)(m:Ms)(w:World)(h:MR w B m)(hv:vB m.o m.n=true)(p5 p6:Nat)(num:Int→Int)
 (HC:∀ W,Below w.heap.size w W→∀ x∈memF m.o m.n,Calls Tryz.prog 110 #[.int .i64 x,.pointer (some ⟨p5,0,none⟩),.pointer (some ⟨p6,0,none⟩)] W fun e w'=>e=.returned (.int .i64 (num x))∧W=w') :
 Calls Tryz.prog 109 #[msV m,.func (.func 110) #[] #[.pointer (some ⟨p5,0,none⟩),.pointer (some ⟨p6,0,none⟩)]] w fun e w'=>e=.returned (.int .i64 (comF m.o m.n num))∧Below w.heap.size w w':=by
 obtain ⟨l1,l2,l3⟩:=v_lens hv
 have HCF:=ħ (show comF m.o m.n num=(if 0<m.n.length then min (medF (m.o.map num)) (medF (m.n.map num)) else medF (m.o.map num)) by unfold comF;rw[if_pos hv])
 have HR:=ħ (v_range hv)
 have HMo:=ħ fun x (hx:x∈m.o∨x∈m.n)=>(mem_memF m.o m.n x).2 ⟨v_range hv x hx,hx⟩
 have HMr:=ħ fun x (hx:x∈memF m.o m.n)=>((mem_memF m.o m.n x).1 hx).1
 have hml:=memF_le m.o m.n
 have h0:MR w (· < w.heap.size) m:=h.old
 have h1:=h.alloc (.cells (msC m) 24)
 have HO:=ħ (valid_b B m _ h1 true hv)
 have HM:=ħ fun W' (x1:MR W' (· < w.heap.size) m)=>members_yes _ m W' x1 hv
 have hmk:∀ W:World,(Instr.makeSlice 66 (.int .i64 64) (.int .i64 64)).run Tryz.prog W=.ok (.slice (some ⟨W.heap.size,0,none⟩) 64 64) (W.alloc (.cells (zrow (.int .i64 0) 64) 2)):=fun W=>run_make1 (P:=Tryz.prog) 66 2 (.int .i64 0) 8 Tryz.underlying66 info2 rfl 64 (by omega) (by omega) W
 have hnil:∀ (fn:Fn) (a b:Array Value) (W:World),(binOp .eql 164 (.func fn a b) .nilFunc).run Tryz.prog W=.ok (.bool false) W:=fun _ _ _ _=>by rfl
 have HCl:=ħ HC
 clear HC hv h
 have h3:=((h0.alloc (.cells (msC m) 24)).alloc (.cells (msC m) 24)).alloc (.cells (zrow (.int .i64 0) 64) 2)
 have g3:Blk (((w.alloc (.cells (msC m) 24)).alloc (.cells (msC m) 24)).alloc (.cells (zrow (.int .i64 0) 64) 2)) w.heap.size 24 (msC m):=((Blk.new w 24 (msC m)).alloc _).alloc _
 have k3:Blk (((w.alloc (.cells (msC m) 24)).alloc (.cells (msC m) 24)).alloc (.cells (zrow (.int .i64 0) 64) 2)) (w.heap.size+1+1) 2 (ivs (List.replicate 64 0)).toArray:=by
  have:=Blk.new ((w.alloc (.cells (msC m) 24)).alloc (.cells (msC m) 24)) 2 (zrow (.int .i64 0) 64)
  simpa [zrow,ivs] using this
 have b3:Below w.heap.size w (((w.alloc (.cells (msC m) 24)).alloc (.cells (msC m) 24)).alloc (.cells (zrow (.int .i64 0) 64) 2)):=(((Below.refl _ _).alloc (Nat.le_refl _) _).alloc (by simp) _).alloc (by simp;omega) _
 generalize memF m.o m.n=ms at *
 go_enter Tryz.func109,Tryz.ntmps109
 go_wp2_with (go_at_call 54;((with_reducible refine HO.out.mono ?_);rintro e w1 ⟨rfl,rfl⟩))
 generalize ((w.alloc (.cells (msC m) 24)).alloc (.cells (msC m) 24)).alloc (.cells (zrow (.int .i64 0) 64) 2)=W3 at *
 have s3:=k3.lt
 refine (HM.out W3 h3).mono ?_
 rintro e W4 ⟨A4,c4,rfl,r4,hB4,hc4⟩
 have h4:=h3.below hB4
 have g4:=g3.below hB4 g3.lt
 have k4:=k3.below hB4 k3.lt
 have b4:=b3.trans (hB4.mono b3.size)
 have p4:=r4.plain (by omega)
 clear h3 g3 k3 b3 h1 HO HM hmk
 have hs4:=hB4.size
 obtain ⟨q0,q1,q2⟩:=g4.facts
 go_wp2_with fail
 go_loopw [20] (fun vi wr=>∃ (k:Nat) (nums:List Int),k≤ms.length∧vi=.int .i64 k∧nums.length=64∧(∀ j,j<k→gd nums (gd ms j).toNat=num (gd ms j))∧Blk wr (w.heap.size+1+1) 2 (ivs nums).toArray∧Fr (fun b=>b=w.heap.size+1+1) W4 wr) (fun i _=>ms.length - (intOf i).toNat)
 case atStart=>exact ⟨0,List.replicate 64 0,Nat.zero_le _,rfl,by simp,fun j hj=>absurd hj (by omega),k4,Fr.refl _ _⟩
 case round=>
  obtain ⟨k,nums,hk,rfl,hnl,hnv,hkn,hfr⟩:=hrel
  have HNl:=ħ hnl
  have HNv:=ħ hnv
  have hn1:nums.length≤64:=by omega
  have hn2:64≤nums.length:=by omega
  clear hnl hnv k4
  have a0:=hkn.lt
  have a2:=hkn.frozen
  have hb:=b4.trans (hfr.below (B:=w.heap.size) (by omega) (fun j hj=>by omega))
  have r5:=r4.fr hfr (fun j hj=>by omega)
  have h5:MR wr (· < w.heap.size) m:=⟨h4.o.fr hfr (fun j hj=>by omega),h4.n.fr hfr (fun j hj=>by omega),h4.ol,h4.nl⟩
  have g5:=g4.fr hfr (by omega)
  by_cases hlt:k<ms.length
  ·have hlt':(k:Int)<ms.length:=by omega
   have hix:=fun W=>ix22 p4 c4 k hlt W
   have hc:=RI.at_ r5 hlt
   have hmem:gd ms k∈ms:=by rw[gd_get hlt];exact List.getElem_mem hlt
   have hxr:=HMr.out (gd ms k) hmem
   have HCk:=ħ (HCl.out wr hb (gd ms k) hmem)
   have hix2:∀ W:World,(Instr.indexAt 66 (.slice (some ⟨w.heap.size+1+1,0,none⟩) 64 64) (.int .i64 (gd ms k))).run Tryz.prog W=.ok (.pointer (some ⟨w.heap.size+1+1,(gd ms k).toNat,none⟩)) W:=by
    intro W
    have:=ixL64b (w.heap.size+1+1) 64 64 (gd ms k).toNat (by omega) W
    rwa [Int.toNat_of_nonneg hxr.1] at this
   have hcq:wr.cell? ⟨w.heap.size+1+1,(gd ms k).toNat,none⟩=some (.int .i64 (gd nums (gd ms k).toNat)):=by
    rw[hkn.cell];exact ivs_get (by omega)
   have HMr2:=ħ fun j (hj:j<k)=>HMr.out (gd ms j) (by rw[gd_get (by omega)];exact List.getElem_mem _)
   have HX:=ħ hxr
   clear hmem
   generalize hxe:gd ms k=x at *
   have HXe:=ħ hxe;clear hxe
   go_wp2_with (go_at_call 110;((with_reducible refine HCk.out.mono ?_);rintro e w6 ⟨rfl,rfl⟩))
   refine ⟨⟨k+1,nums.set x.toNat (num x),by omega,by go_num,by rw[List.length_set];exact HNl.out,fun j hj=>?_,?_,hfr.setCell (.inl rfl) _⟩,by simp[intOf];omega⟩
   ·have hx0:=HX.out
    rw[gd_set (by omega)]
    rcases (show j<k∨j=k by omega) with hjk | hjk
    ·have hj0:=HMr2.out j hjk
     split
     ·rename_i e
      rw[show gd ms j=x by omega]
     ·exact HNv.out j hjk
    ·subst hjk
     rw[HXe.out,if_pos rfl]
   ·have:=hkn.set_ x.toNat (.int .i64 (num x))
    rwa [ivs_set] at this
  ·have hge:¬ ((k:Int)<ms.length):=by omega
   have HNm:Hid (∀ x∈ms,gd nums x.toNat=num x):=by
    intro x hx
    obtain ⟨j,hj,e⟩:=List.mem_iff_getElem.1 hx
    have:=HNv.out j (by omega)
    rwa [gd_get hj,e] at this
   have HMap:=ħ fun (l:List Int) (hl:∀ x∈l,x∈ms)=>(show (l.map fun m=>gd nums m.toNat)=l.map num from List.map_congr_left (fun x hx=>HNm.out x (hl x hx)))
   have HCo:=ħ fun W' (A:Option Addr) (c:Nat) (l:List Int) (hr:RI W' (· < w.heap.size) A l) (hkn':Blk W' (w.heap.size+1+1) 2 (ivs nums).toArray) (hl0:0<l.length) (hl9:l.length≤9) (hl:∀ x∈l,x∈ms)=>by
    have:=committed_any _ A c _ l nums W' hr hkn' hn2 hl0 hl9 (fun x hx=>HMr.out x (hl x hx))
    rw[HMap.out l hl,HNl.out] at this
    exact this
   have HCo1:=ħ (HCo.out wr m.A m.c m.o h5.o hkn (by omega) l2 (fun x hx=>HMo.out x (.inl hx)))
   obtain ⟨e0,e1,e2⟩:=g5.facts
   by_cases hn0:0<m.n.length
   ·have hn0':(0:Int)<m.n.length:=by omega
    have HF:=ħ (show comF m.o m.n num=min (medF (m.o.map num)) (medF (m.n.map num)) by rw[HCF.out,if_pos hn0])
    generalize medF (m.o.map num)=v1 at *
    go_wp2_with fail
    refine HCo1.out.mono ?_
    rintro e w6 ⟨rfl,hB6⟩
    have b6:=hb.trans (hB6.mono hb.size)
    have HCo2:=ħ (HCo.out w6 m.A' m.c' m.n (h5.below hB6).n (hkn.below hB6 a0) hn0 l3 (fun x hx=>HMo.out x (.inr hx)))
    obtain ⟨f0,f1,f2⟩:=(g5.below hB6 g5.lt).facts
    generalize medF (m.n.map num)=v2 at *
    go_wp2_with (go_at_call 138;((with_reducible refine HCo2.out.mono ?_);rintro e w7 ⟨rfl,hB7⟩))
    go_ret
    exact ⟨by rw[HF.out];rfl,b6.trans (hB7.mono b6.size)⟩
   ·have hn0':¬ (0:Int)<m.n.length:=by omega
    have HF:=ħ (show comF m.o m.n num=medF (m.o.map num) by rw[HCF.out,if_neg hn0])
    generalize medF (m.o.map num)=v1 at *
    go_wp2_with fail
    refine HCo1.out.mono ?_
    rintro e w6 ⟨rfl,hB6⟩
    have b6:=hb.trans (hB6.mono hb.size)
    obtain ⟨f0,f1,f2⟩:=(g5.below hB6 g5.lt).facts
    go_wp2
    go_ret
    exact ⟨by rw[HF.out];rfl,b6⟩
section
variable {w w1 w2:World} {col:Nat→Nat} {p v j l f:Nat} {s:Nd} {mb:Mb} {pos:Int} {mi mm:Ms} {Ao:Option Addr} {co:Nat} {ms:List MV} {dur:Int} {Z':Nat→Prop}
theorem NZ.vs (h:NZ w col p v j l f s false mb pos mi mm Ao co ms dur):VS w (fun k=>col k=3) f j v s.recs s.term s.voted:=
 ⟨h.vb,by rw[h.cv];decide,by have:=h.js;rw[h.du rfl] at this;exact this,fun k hk=>h.lt k (by rw[hk];decide)⟩
theorem NZ.voted (h:NZ w1 col p v j l f s false mb pos mi mm Ao co ms dur){recs:List (Int × List Int)}{term n:Int}(hv:VS w2 Z' f j v recs term n)(hZ:∀ k,Z' k→col k=3∨w1.heap.size≤k)(hf:Fr (fun k=>col k=3∨k=v) w1 w2) :
 ∃ col',NZ w2 col' p v j l f { s with recs:=recs,term:=term,voted:=n } false mb pos mi mm Ao co ms (encJ initS recs).length∧(∀ k,k<w1.heap.size→col' k=col k)∧Fr (fun k=>col k≠0) w1 w2:=by
 obtain ⟨t1,t2,t3,t4⟩:=freC_of (c:=3) h hf.size
 have ne:∀ {c:Nat} (k:Nat),col k=c→c≠2→c≠3→¬ (col k=3∨k=v):=by
  rintro c k hk h1 h3 (e | rfl)
  ·omega
  ·rw[h.cv] at hk;omega
 have to':∀ {c:Nat} (k:Nat),c≠0→col k=c→freC 3 col w1.heap.size w2.heap.size k=c:=fun k hc hk=>by rw[t1 k (by rw[hk];exact hc),hk]
 exact ⟨freC 3 col w1.heap.size w2.heap.size,⟨h.b.fr hf (ne p h.cp (by decide) (by decide)),hv.b,hv.js.wider (fun k hk=>t4 k ⟨hZ k hk,hv.bd k hk⟩),fun _=>rfl,(h.ls.fr hf (fun g hg=>ne g hg (by decide) (by decide))).wider (fun k hk=>to' k (by decide) hk),(h.ri.fr hf (fun g hg=>ne g hg (by decide) (by decide))).more' (fun k hk=>to' k (by decide) hk),h.mio,(h.rm.fr hf (fun g hg=>ne g hg (by decide) (by decide))).more' (fun k hk=>to' k (by decide) hk),h.mmo,own_fr h.oo hf (fun g hg=>ne g (h.ob g hg) (by decide) (by decide)),fun g hg=>to' g (by decide) (h.ob g hg),(h.om.fr hf (fun g hg=>ne g hg (by decide) (by decide))).more (fun k hk=>to' k (by decide) hk),to' p (by decide) h.cp,to' v (by decide) h.cv,t2,h.l9⟩,t3,hf.mono (fun k _ e=>by
  rcases e with e | e
  ·rw[e];decide
  ·rw[e,h.cv];decide)⟩
end
section
variable (w:World) (col:Nat→Nat) (p v j l f:Nat) (s:Nd) (outs:List Msg) (h:NS w col p v j l f s false outs)
include h
theorem enter101 (t:Int)(ht:validT t=true)(hs:¬ t≤s.term)(hfit:(encJ initS (s.recs ++ [(84,Wire.za t)])).length≤16777216)(hrl:s.recs.length≤1000000) :
 Calls Tryz.prog 101 #[.pointer (some ⟨p,0,none⟩),.int .i64 t] w fun e w'=>e=.returned (.bool true)∧NP w col p v j l f (s.enter t) false outs w':=by
 obtain ⟨mi,mm,Ao,co,ms,dur,hz,hm⟩:=h
 have H130:=ħ (advance_ok w _ f j v s.recs s.term s.voted t hz.vs ht hs hfit hrl)
 obtain ⟨c0,c1,x0,x1,x2,x3,x4,x5,x6,x7,x8,x9,x10,x11,x12,x13,x14,x15,x16,x44,x45,x46⟩:=hz.c
 clear x0 x1 x2 x3 x5 x6 x7 x8 x9 x10 x11 x12 x13 x14 x15 x16 x44 x45 x46
 have HZ:=ħ hz
 have HM:=ħ hm
 clear hz hm
 go_enter Tryz.func101,Tryz.ntmps101
 go_upto_region 3 with (first
  | (go_at_call 130;((with_reducible refine H130.out.mono ?_);rintro e w2 ⟨rfl,Z',hv2,hZ2,hf2⟩;obtain ⟨col',h2,ag2,fr2⟩:=HZ.out.voted hv2 hZ2 hf2;have H72:=ħ (ok72b h2.b h2.x44)))
  | (go_at_call 72;((with_reducible refine H72.out.mono ?_);rintro e w3 ⟨rfl,rfl⟩)))
 obtain ⟨y0,yf,z0,z1,z2,z3,z4,z5,z6,z7,z8,z9,z10,z11,z12,z13⟩:=h2.c
 clear z13 z0 z1 z2 z3 z4 z5 z6 z7 z8 z9 z10 x4 c0 c1
 have n2:NS w2 col' p v j l f { s with recs:=s.recs ++ [(84,Wire.za t)],term:=t,voted:=-1 } false outs:=⟨mi,mm,Ao,co,ms,_,h2,HM.out⟩
 have HB:=ħ (n2.set1 (w':=(w2.setCell ⟨p,11,none⟩ (.int .i64 1)).setCell ⟨p,12,none⟩ (.int .i64 (-1))) (s':=s.enter t) (fun mi mm o hb=>by have:=(hb.set_ 11 (.int .i64 1)).set_ 12 (.int .i64 (-1));rwa [nd11,nd12] at this) (((Fr.refl (fun k=>k=p) w2).setCell (p:=⟨p,11,none⟩) (.inl rfl) _).setCell (p:=⟨p,12,none⟩) (.inl rfl) _) ⟨rfl,rfl,rfl,rfl,rfl⟩ id)
 have HN:=ħ (show NB w col p v j l f { s with recs:=s.recs ++ [(84,Wire.za t)],term:=t,voted:=-1 } false outs w2 col' from ⟨n2,ag2,fr2⟩)
 clear n2 h2 ag2 fr2
 go_wp2_with fail
 go_ret
 exact ⟨rfl,HN.out.call HB.out.done⟩
end
abbrev mvV (y:MV):Value:=.agg (mvC y.kind y.frm y.tt y.term y.prev y.pterm y.commit y.granted y.A y.es.length y.c)
section
variable (w:World) (col:Nat→Nat) (p v j l f:Nat) (s:Nd) (un:Bool) (outs:List Msg) (h:NS w col p v j l f s un outs)
include h
theorem refuse102 (y:MV)(ho:outs.length≤900) :
 Calls Tryz.prog 102 #[.pointer (some ⟨p,0,none⟩),mvV y] w fun e w'=>e=.returned (.tuple #[])∧NP w col p v j l f s un (outs ++ s.refuse y.m) w':=by
 obtain ⟨kind,frm,tt,term,prev,pterm,commit,granted,A,c,es⟩:=y
 have b1:Below w.heap.size w (w.alloc (.cells (mvC kind frm tt term prev pterm commit granted A es.length c) 99)):=(Below.refl _ _).alloc (Nat.le_refl _) _
 have g1:Blk (w.alloc (.cells (mvC kind frm tt term prev pterm commit granted A es.length c) 99)) w.heap.size 99 (mvC kind frm tt term prev pterm commit granted A es.length c):=Blk.new w 99 _
 have n1:=h.below b1
 have NB1:=ħ ((NB.start h).below b1)
 have HR:=ħ (show s.refuse (MV.m ⟨kind,frm,tt,term,prev,pterm,commit,granted,A,c,es⟩)=if kind=1 then [s.msg 2 frm 0 0 0 false []] else if kind=3 then [s.msg 4 frm 0 0 0 false []] else [] from rfl)
 have nilE:ES (w.alloc (.cells (mvC kind frm tt term prev pterm commit granted A es.length c) 99)) (fun k=>col k=7) none ([]:List EV)∧([]:List EV).length≤0:=⟨ES.nil,Nat.le_refl _⟩
 have H2:=ħ (show Calls Tryz.prog 81 #[.pointer (some ⟨p,0,none⟩),.agg (mvC 2 0 frm 0 0 0 0 false none 0 0)] (w.alloc (.cells (mvC kind frm tt term prev pterm commit granted A es.length c) 99)) _ from send81 _ col p v j l f s un outs n1 2 0 frm 0 0 0 0 false none 0 [] nilE (by omega))
 have H4:=ħ (show Calls Tryz.prog 81 #[.pointer (some ⟨p,0,none⟩),.agg (mvC 4 0 frm 0 0 0 0 false none 0 0)] (w.alloc (.cells (mvC kind frm tt term prev pterm commit granted A es.length c) 99)) _ from send81 _ col p v j l f s un outs n1 4 0 frm 0 0 0 0 false none 0 [] nilE (by omega))
 clear h n1 nilE
 go_enter Tryz.func102,Tryz.ntmps102
 go_upto_region 1 with (fail)
 generalize w.alloc (.cells (mvC kind frm tt term prev pterm commit granted A es.length c) 99)=W1 at *
 obtain ⟨q0,q1,q2⟩:=g1.facts
 clear g1 b1
 by_cases h1:kind=1
 ·subst h1
  go_wp2_with (go_at_call 81;((with_reducible refine H2.out.mono ?_);rintro e w2 ⟨rfl,hnp⟩))
  refine bodyPost_end (v:=.tuple #[]) (by simp[results,Tryz.results102,go_sem]) rfl ⟨rfl,?_⟩
  rw[HR.out]
  simp only[if_true]
  exact NB1.out.call hnp
 ·by_cases h3:kind=3
  ·subst h3
   go_wp2_with (go_at_call 81;((with_reducible refine H4.out.mono ?_);rintro e w2 ⟨rfl,hnp⟩))
   refine bodyPost_end (v:=.tuple #[]) (by simp[results,Tryz.results102,go_sem]) rfl ⟨rfl,?_⟩
   rw[HR.out]
   simp only[if_true,show ¬ ((3:Int)=1) by decide,if_false]
   exact NB1.out.call hnp
  ·go_wp2
   refine bodyPost_end (v:=.tuple #[]) (by simp[results,Tryz.results102,go_sem]) rfl ⟨rfl,?_⟩
   rw[HR.out,if_neg h1,if_neg h3,List.append_nil]
   exact NB1.out.done
end
theorem inRange129 (n low:Int)(w:World)(q:Bool)(hq:Nd.inR n low=q):Calls Tryz.prog 129 #[.int .i64 n,.int .i64 low] w fun e w'=>e=.returned (.bool q)∧w=w':=by
 subst hq
 unfold Nd.inR MT
 by_cases h:low≤n
 ·go_enter Tryz.func129,Tryz.ntmps129
  go_wp2
  go_ret
  exact ⟨by simp[h],rfl⟩
 ·go_enter Tryz.func129,Tryz.ntmps129
  go_wp2
  go_ret
  exact ⟨by simp[h];omega,rfl⟩
end Go.Proofs.YtdfobfjpkjddpaaGreat
namespace Go.Proofs.YtdfobfjpkjddpaaGreat
open Go.RowKit Go.Own Go.Quo Go.Wire Go.Raft
theorem encJ_sm:∀ (l:List (Int × List Int)) (prev:Int),(∀ x∈l,x.2.length≤300)→(encJ prev l).length≤l.length * 319
 | [],prev,_=>by simp[encJ]
 | (k,b) :: r,prev,h=>by
  have h1:=encJ_sm r (chF prev k b) (fun x hx=>h x (List.mem_cons_of_mem _ hx))
  have h2:b.length≤300:=h (k,b) (List.mem_cons_self ..)
  have h3:=encI_len (n:=(b.length:Int)) (by omega) (by omega)
  rw[encJ,List.length_append,encR,List.length_append,List.length_append,List.length_append,List.length_cons]
  have h4:(le8 (chF prev k b)).length=8:=by simp[le8]
  simp only[List.length_cons,List.length_nil]
  omega
end Go.Proofs.YtdfobfjpkjddpaaGreat
namespace Go.Raft
open Go.RowKit Go.Own Go.Quo Go.Wire Go.Proofs.YtdfobfjpkjddpaaGreat
section
variable {k:Nat} {s:Nd}
theorem Wf.fit (h:Wf k s)(hk:k≤2000):(encJ initS s.recs).length≤16777216:=by
 have h1:=encJ_sm s.recs initS (fun x hx=>(h.rk x hx).2.1)
 have h2:=h.rn
 omega
theorem Wf.bd (h:Wf k s):Bd s.log:=fun e he=>⟨(h.ew e he).1.2.2.2.2.1,(h.ew e he).1.2.2.2.2.2⟩
theorem Wf.lt (h:Wf k s):0≤lastT s.log∧lastT s.log≤s.term:=by
 have h0:=h.t0
 unfold lastT
 cases hl:s.log[s.log.length - 1]? with
 | none=>exact ⟨Int.le_refl 0,h0⟩
 | some e=>
  have h1:=h.ew e (List.mem_of_getElem? hl)
  have h2:=h1.1.1
  exact ⟨show 0≤e.term by omega,show e.term≤s.term from h1.2⟩
theorem Wf.vB (h:Wf k s):vB s.mb.o s.mb.n=true:=by
 have:=h.mb
 unfold permB at this
 rw[Bool.and_eq_true] at this
 exact this.1
theorem Wf.m9 (h:Wf k s):∀ u∈memF s.mb.o s.mb.n,0≤u∧u<9:=by
 have h1:=h.mb
 unfold permB at h1
 rw[Bool.and_eq_true,List.all_eq_true] at h1
 intro u hu
 have:=h1.2 u hu
 exact ⟨((mem_memF _ _ u).1 hu).1.1,by simpa using this⟩
theorem Wf.appOk (h:Wf k s)(hk:k≤2000)(hn:∀ j,j<9→1≤gd s.nx j):Go.Proofs.YtdfobfjpkjddpaaGreat.AppOk s where
 ll:=by have:=h.ln;omega
 bd:=h.bd
 vb:=h.vB
 ot u hu:=by
  have hu':u∈memF s.mb.o s.mb.n:=(List.mem_filter.1 hu).1
  have h1:=h.m9 u hu'
  have h2:=h.nm u.toNat (by omega)
  have h3:=hn u.toNat (by omega)
  exact ⟨u.toNat,by omega,by omega,(gd s.nx u.toNat - 1).toNat,by omega,by omega⟩
theorem Wf.cand (h:Wf k s):0≤s.cand∧s.cand≤20 * k:=by
 have hv:=h.vB
 obtain ⟨l1,l2,l3⟩:=v_lens hv
 have hr:=v_range hv
 have hln:=h.ln
 have hnum:∀ u,(u∈s.mb.o∨u∈s.mb.n)→0≤s.num u∧s.num u≤20 * k:=by
  intro u hu
  have h1:=h.m9 u ((mem_memF _ _ u).2 ⟨hr u hu,hu⟩)
  unfold Nd.num
  split
  ·omega
  ·exact (h.nm u.toNat (by omega)).2
 show 0≤comF s.mb.o s.mb.n s.num∧comF s.mb.o s.mb.n s.num≤20 * k
 unfold comF
 rw[if_pos hv]
 have h1:0≤medF (s.mb.o.map s.num)∧medF (s.mb.o.map s.num)≤20 * k:=by
  obtain ⟨u,hu,e⟩:=List.mem_map.1 (med_mem (vs:=s.mb.o.map s.num) (by simp;omega))
  rw[←e];exact hnum u (.inl hu)
 split
 ·have h2:0≤medF (s.mb.n.map s.num)∧medF (s.mb.n.map s.num)≤20 * k:=by
   obtain ⟨u,hu,e⟩:=List.mem_map.1 (med_mem (vs:=s.mb.n.map s.num) (by simp;omega))
   rw[←e];exact hnum u (.inr hu)
  omega
 ·exact h1
end
end Go.Raft
namespace Go.Proofs.YtdfobfjpkjddpaaGreat
open Go.RowKit Go.Own Go.Quo Go.Wire Go.Raft
section
variable (w:World) (col:Nat→Nat) (p v j l f:Nat) (s:Nd) (un:Bool) (outs:List Msg) (h:NS w col p v j l f s un outs)
include h
theorem add_w {k:Nat}(hw:Wf k s)(hk:k≤1900)(ht:1≤s.term)(kind:Int)(h1:1≤kind∧kind≤3)(A:Option Addr)(c:Nat)(b:List Int)(B:Nat→Prop)(hb:Reads w B 1 A b.length (bys b))(hBc:∀ k,B k→col k=0)(hbb:b.length≤200∧Bytes b) :
 Calls Tryz.prog 73 #[.pointer (some ⟨p,0,none⟩),.int .i64 kind,.slice A b.length c] w (WrPost w col p v j l f (s.add kind b) outs):=by
 have htk:=hw.tk
 have hm:s.term≤MT:=by unfold MT;omega
 have h2:=(hw.add (by omega) ht hm h1 hbb).fit (by omega)
 have h3:=hw.lt
 have h4:=hw.ln
 have h5:=hw.rn
 exact add73 w col p v j l f s un outs h kind A c b B hb hBc ⟨ht,hm,h1.1,h1.2,hbb.1,hbb.2⟩ h3.2 h3.1 (by omega) hw.bd h2 (by omega)
end
theorem NS.pl {w:World}{col:Nat→Nat}{p v j l f:Nat}{s:Nd}{un:Bool}{outs:List Msg}(h:NS w col p v j l f s un outs):p<w.heap.size:=by
 obtain ⟨_,_,_,_,_,_,hz,_⟩:=h
 exact hz.b.lt
theorem NP.frame {w w':World}{col:Nat→Nat}{p v j l f:Nat}{s:Nd}{un:Bool}{outs:List Msg}(h:NP w col p v j l f s un outs w'):Fr (fun k=>col k≠0) w w':=by
 obtain ⟨_,h⟩:=h
 exact h.fr
theorem NS.free {w:World}{col:Nat→Nat}{p v j l f:Nat}{s:Nd}{un:Bool}{outs:List Msg}(h:NS w col p v j l f s un outs){k:Nat}(hk:w.heap.size≤k):col k=0:=by
 cases hc:col k with
 | zero=>rfl
 | succ n=>have:=h.lt k (by omega);omega
end Go.Proofs.YtdfobfjpkjddpaaGreat

import Derived.Test.YtdfobfjpkjddpaaGreatUG18
set_option linter.unusedVariables false
set_option linter.unusedSimpArgs false
set_option maxRecDepth 10000
set_option maxHeartbeats 4000000
namespace Go.Proofs.YtdfobfjpkjddpaaGreat
open Go.RowKit Go.Own Go.Quo Go.Wire Go.Raft
def Bd (L:List Ent):Prop:=∀ e∈L,e.body.length≤200∧Bytes e.body
theorem Bd.sm {L:List Ent}(h:Bd L):Sm L:=fun e he=>⟨by have:=(h e he).1;omega,(h e he).2⟩
def szK (l:List EV)(j:Nat):Nat:=((l.take j).map fun x=>x.b.length).sum
theorem szK_succ (l:List EV)(j:Nat)(x:EV)(h:l[j]?=some x):szK l (j+1)=szK l j+x.b.length:=by
 unfold szK
 rw[List.take_add_one,h]
 simp
theorem szK_le (l:List EV)(h:∀ x∈l,x.b.length≤200)(j:Nat):szK l j≤200 * j:=by
 unfold szK
 induction j with
 | zero=>simp
 | succ j ih=>
  rw[List.take_add_one,List.map_append,List.sum_append]
  cases hx:l[j]? with
  | none=>simp only[Option.toList_none,List.map_nil,List.sum_nil];omega
  | some x=>
   have:=h x (List.mem_of_getElem? hx)
   simp only[Option.toList_some,List.map_cons,List.map_nil,List.sum_cons,List.sum_nil];omega
section
variable {w w1 w2:World} {col:Nat→Nat} {p v j l f:Nat} {s s':Nd} {un un':Bool} {outs outs':List Msg}
def fresh7 (col:Nat→Nat)(a b:Nat)(k:Nat):Nat:=if a≤k∧k<b then 7 else col k
theorem fresh7_old {a b k:Nat}(h:k<a):fresh7 col a b k=col k:=if_neg (by omega)
theorem fresh7_new {a b k:Nat}(h:a≤k)(h2:k<b):fresh7 col a b k=7:=if_pos ⟨h,h2⟩
theorem NS.fresh {a:Nat}(h:NS w col p v j l f s un outs)(hl:∀ k,col k≠0→k<a):NS w (fresh7 col a w.heap.size) p v j l f s un outs:=by
 refine h.recol (fun k hk=>fresh7_old (hl k hk)) (fun k hk=>?_)
 rcases Nat.lt_or_ge k w.heap.size with h1 | h1
 ·exact h1
 ·exfalso;apply hk
  unfold fresh7
  rw[if_neg (by omega)]
  cases hc:col k with
  | zero=>rfl
  | succ n=>have:=h.lt k (by omega);omega
theorem NP.fresh {a:Nat}(hb:Below w.heap.size w w1)(ha:w.heap.size≤a)(h:NP w1 (fresh7 col a w1.heap.size) p v j l f s' un' outs' w2):NP w col p v j l f s' un' outs' w2:=by
 obtain ⟨c2,n,ag,fr⟩:=h
 have hag:∀ k,k<w.heap.size→fresh7 col a w1.heap.size k=col k:=fun k hk=>fresh7_old (by omega)
 exact ⟨c2,n,fun k hk=>(ag k (Nat.lt_of_lt_of_le hk hb.size)).trans (hag k hk),fr_col (Fr.of_below hb) hag fr⟩
end
section
variable (w:World) (col:Nat→Nat) (p v j l f:Nat) (s:Nd) (un:Bool) (outs:List Msg) (h:NS w col p v j l f s un outs)
include h
theorem sendAppend76 (k:Nat)(hk:k<9)(hl:s.log.length≤900000)(hs:Bd s.log)(ho:outs.length≤900)(q:Nat)(hq:gd s.nx k=(q:Int)+1)(hqq:q≤900000) :
 Calls Tryz.prog 76 #[.pointer (some ⟨p,0,none⟩),.int .i64 k] w fun e w'=>e=.returned (.tuple #[])∧NP w col p v j l f s un (outs ++ [s.app k]) w':=by
 have N:=ħ h
 have hlt:=h.lt
 obtain ⟨mi,mm,Ao,co,ms,dur,hz,hm⟩:=h
 obtain ⟨r,hr⟩:∃ r,(termAt s.log q).getD 0=r:=⟨_,rfl⟩
 obtain ⟨ok,hok⟩:∃ ok,(termAt s.log q).isSome=ok:=⟨_,rfl⟩
 have HT:=ħ (termAt_any w _ l s.log q hz.ls (by omega) (by omega) r ok hr hok)
 have HApp:=ħ (show s.app k=s.msg 3 k q r s.commit false ((s.log.drop q).take 16) from by
  unfold Nd.app
  rw[Int.toNat_natCast,hq,show (q:Int)+1 - 1=(q:Int) by omega,hr,Int.toNat_natCast])
 have hx:=hz.next hk
 rw[hq] at hx
 obtain ⟨c0,c1,x0,x1,x2,x3,x4,x5,x6,x7,x8,x9,x10,x11,x12,x13,x14,x15,x16,x44,x45,x46⟩:=hz.c
 have HZ:=ħ hz
 have HQx:=ħ hq
 have HLT:=ħ hlt
 have hw1:IntKind.i64.wrap ((q:Int)+1 - 1)=(q:Int):=by rw[IntWalk.i64_in _ (by omega)];omega
 clear x0 x1 x2 x3 x4 x6 x7 x8 x9 x10 x11 x12 x14 x15 x16 x44 x45 x46 hz hm hq hr hok hlt
 go_enter Tryz.func76,Tryz.ntmps76
 go_upto_region 2 with (go_at_call 111;((with_reducible refine HT.out.mono ?_);rintro e w2 ⟨rfl,b2⟩))
 have h2:=HZ.out.fr (Fr.of_below (S:=fun _=>False) b2) (fun _ _=>id)
 have x2:=h2.next hk
 rw[HQx.out] at x2
 clear x5 x13 c0 c1 hx
 obtain ⟨c0,c1,x0,x1,x2',x3,x4,x5,x6,x7,x8,x9,x10,x11,x12,x13,x14,x15,x16,x44,x45,x46⟩:=h2.c
 clear x0 x1 x2' x3 x4 x6 x7 x8 x9 x10 x11 x12 x14 x15 x16 x44 x45 x46
 have hki:(k:Int)<9:=by omega
 have HSl:=ħ fun (W:World) (y:LS W (fun k=>col k=4) l s.log)=>slice_any W _ l s.log q y (by omega) hs.sm (by omega)
 have HL2:=ħ h2.ls
 clear h2
 go_cut [7] (fun v7 wx=>∃ (A:Option Addr) (c:Nat) (es:List EV),v7=.slice A es.length c∧es.map EV.e=(s.log.drop q).take 16∧ES wx (w2.heap.size≤·) A es∧Below w2.heap.size w2 wx∧es.length≤c)
 case first=>
  go_region_law (first
   | (go_simp;((with_reducible refine (HSl.out _ (by exact HL2.out.below (Below.refl _ _).drew)).mono ?_);rintro e w3 ⟨A,c,es,rfl,he,hE,hb,hc⟩)))
  all_goals
   go_wp2_with fail
   go_meet
   case rel=>exact ⟨A,c,es,rfl,he,hE,(Below.refl _ _).drew.trans hb,hc⟩
 case rest=>
  obtain ⟨A,c,es,rfl,he,hE,hb,hc⟩:=hcut
  have b3:=b2.trans (hb.mono b2.size)
  have h3:=HZ.out.fr (Fr.of_below (S:=fun _=>False) b3) (fun _ _=>id)
  have x13w:=h3.c
  have hse:es.length≤16:=by
   rw[←List.length_map (f:=EV.e),he,List.length_take];omega
  have hbd:∀ x∈es,x.b.length≤200:=fun x hx=>by
   have h1:x.e∈(s.log.drop q).take 16:=by rw[←he];exact List.mem_map_of_mem hx
   exact (hs _ (List.mem_of_mem_drop (List.mem_of_mem_take h1))).1
  have hPl:=hE.1.plain
  have HE:=ħ (hE.old)
  have HEs:=ħ he
  clear x2 x5 x13 c0 c1
  obtain ⟨c0,c1,x0,x1,x2',x3,x4,x5,x6,x7,x8,x9,x10,x11,x12,x13,x14,x15,x16,x44,x45,x46⟩:=x13w
  clear x0 x1 x2' x3 x4 x5 x6 x7 x8 x9 x10 x11 x12 x14 x15 x16 x44 x45 x46
  have HSZ:=ħ (szK_le es hbd)
  clear he hE hbd h3
  go_wp2_with fail
  go_loopw [7,8,40] (fun v7 v8 vi wr=>∃ i:Nat,i≤es.length∧v7=.slice A es.length c∧vi=.int .i64 (i:Int)∧v8=.int .i64 (szK es i:Int)∧Below wc.heap.size wc wr) (fun _ _ vi _=>es.length - (intOf vi).toNat)
  case atStart=>exact ⟨0,Nat.zero_le _,rfl,rfl,rfl,Below.refl _ _⟩
  case round=>
   obtain ⟨i,hi,rfl,rfl,rfl,hbel⟩:=hrel
   have HSZi:=HSZ.out i
   have z0:=(hbel.cell (p:=⟨p,13,none⟩) c0).trans x13
   have zl:=Nat.lt_of_lt_of_le c0 hbel.size
   by_cases hlt2:i<es.length
   ·have hlt':(i:Int)<es.length:=by omega
    obtain ⟨x,hgx⟩:∃ x,es[i]?=some x:=⟨_,List.getElem?_eq_getElem hlt2⟩
    obtain ⟨y0,y1,y2⟩:=(HE.out.below hbel (fun _ h=>h.2)).at_ hgx
    have hix:=fun W=>ixE (hPl (by omega)) c i hlt2 W
    have hsu:=szK_succ es i x hgx
    have HSZj:=HSZ.out (i+1)
    rw[hsu] at HSZj
    have hwp:IntKind.i64.wrap ((szK es i:Int)+(x.b.length:Int))=((szK es i+x.b.length:Nat):Int):=by rw[IntWalk.i64_in _ (by omega)];omega
    have hng:¬ ((4096:Int)<((szK es i+x.b.length:Nat):Int)):=by omega
    have HSU:=ħ hsu
    have hsz:=hbel.size
    clear hsu hgx
    generalize szK es i=z at *
    generalize hzz:z+x.b.length=zz at *
    clear hzz
    go_wp2_with fail
    exact ⟨⟨i+1,hlt2,rfl,by go_num,by rw[HSU.out],hbel.alloc hsz _⟩,by simp[intOf];omega⟩
   ·have hge:¬ (i:Int)<es.length:=by omega
    have b9:=b3.trans (hbel.mono b3.size)
    have n3:NS wr (fresh7 col w2.heap.size wr.heap.size) p v j l f s un outs:=(N.out.below b9).fresh (fun k hk=>Nat.lt_of_lt_of_le (HLT.out k hk) b2.size)
    have hE7:ES wr (fun k=>fresh7 col w2.heap.size wr.heap.size k=7) A es:=(HE.out.below hbel (fun _ h=>h.2)).more (fun k hk=>fresh7_new hk.1 (Nat.lt_of_lt_of_le hk.2 hbel.size))
    have H81:=ħ (send81 wr _ p v j l f s un outs n3 3 0 k 0 q r s.commit false A c es ⟨hE7,hc⟩ (by omega))
    clear n3 hE7 HSZi
    go_wp2_with (go_at_call 81;((with_reducible refine H81.out.mono ?_);rintro e w9 ⟨rfl,hnp⟩))
    refine bodyPost_end (v:=.tuple #[]) (by simp[results,Tryz.results76,go_sem]) rfl ⟨rfl,?_⟩
    rw[HApp.out,←HEs.out]
    exact NP.fresh b9 b2.size hnp
end
structure AppOk (s:Nd):Prop where
 ll:s.log.length≤900000
 bd:Bd s.log
 vb:vB s.mb.o s.mb.n=true
 ot:∀ u∈s.others,∃ k:Nat,u=(k:Int)∧k<9∧∃ q:Nat,gd s.nx k=(q:Int)+1∧q≤900000
theorem others_len (s:Nd):s.others.length≤64:=Nat.le_trans (List.length_filter_le _ _) (memF_le _ _)
theorem gd_mem {l:List Int}{k:Nat}(h:k<l.length):gd l k∈l:=by
 have e:gd l k=l[k]:=by simp[gd,h]
 rw[e];exact List.getElem_mem h
theorem take_gd {l:List Int}{k:Nat}(h:k<l.length):l.take (k+1)=l.take k ++ [gd l k]:=by
 have e:gd l k=l[k]:=by simp[gd,h]
 rw[e,List.take_succ_eq_append_getElem h]
section
variable (w:World) (col:Nat→Nat) (p v j l f:Nat) (s:Nd) (un:Bool) (outs:List Msg) (h:NS w col p v j l f s un outs)
include h
theorem sendAppends46 (hs:AppOk s)(ho:outs.length≤800) :
 Calls Tryz.prog 46 #[.pointer (some ⟨p,0,none⟩)] w fun e w'=>e=.returned (.tuple #[])∧NP w col p v j l f s un (outs ++ s.apps) w':=by
 have N:=ħ h
 have HO:=ħ (others75 w col p v j l f s un outs h hs.vb)
 have HL:=ħ h.lt
 have hol:=others_len s
 have HAp:=ħ (show s.apps=s.others.map s.app from rfl)
 have HS:=ħ hs
 clear h hs
 go_enter Tryz.func46,Tryz.ntmps46
 go_wp2_with (go_at_call 75;((with_reducible refine HO.out.mono ?_);rintro e w1 ⟨A,c,rfl,hr,b1⟩;have HR:=ħ hr;have HP:=ħ (hr.plain (by omega));have N1:=ħ (N.out.below b1);clear hr))
 clear HO
 go_loopw [7] (fun vi wr=>∃ (i:Nat) (cr:Nat→Nat),i≤s.others.length∧vi=.int .i64 (i:Int)∧NB w1 col p v j l f s un (outs ++ (s.others.take i).map s.app) wr cr) (fun vi _=>s.others.length - (intOf vi).toNat)
 case atStart=>exact ⟨0,col,Nat.zero_le _,rfl,by simpa using NB.start N1.out⟩
 case round=>
  obtain ⟨i,cr,hi,rfl,hnb⟩:=hrel
  have HB:=ħ hnb
  clear hnb
  by_cases hlt:i<s.others.length
  ·have hlt':(i:Int)<s.others.length:=by omega
   have hix:=fun W=>ix22 HP.out c i hlt W
   obtain ⟨k,hu,hk,q,hq,hqq⟩:=HS.out.ot _ (gd_mem hlt)
   have hr1:RI wr (fun k=>w.heap.size≤k∧k<w1.heap.size) A s.others:=HR.out.old (by omega) |>.fr HB.out.fr (fun g hg hc=>by have:=HL.out g hc;omega)
   have c0:=RI.at_ hr1 hlt
   rw[hu] at c0
   have H76:=ħ (sendAppend76 wr cr p v j l f s un _ HB.out.n k hk HS.out.ll HS.out.bd (by rw[List.length_append,List.length_map,List.length_take];omega) q hq hqq)
   have HT:=ħ (show (s.others.take (i+1)).map s.app=(s.others.take i).map s.app ++ [s.app k] by rw[take_gd hlt,List.map_append,hu];rfl)
   clear hr1 hu hq
   go_wp2_with (go_at_call 76;((with_reducible refine H76.out.mono ?_);rintro e w9 ⟨rfl,hnp⟩))
   obtain ⟨c9,h9⟩:=HB.out.call hnp
   exact ⟨⟨i+1,c9,hlt,by go_num,by rw[HT.out,←List.append_assoc];exact h9⟩,by simp[intOf];omega⟩
  ·have hge:¬ (i:Int)<s.others.length:=by omega
   go_wp2_with fail
   refine bodyPost_end (v:=.tuple #[]) (by simp[results,Tryz.results46,go_sem]) rfl ⟨rfl,?_⟩
   have hb:=HB.out
   rw[List.take_of_length_le (by omega),←HAp.out] at hb
   exact ((NB.start N.out).below b1).call ⟨cr,hb⟩
end
section
variable (w:World) (col:Nat→Nat) (p v j l f:Nat) (s:Nd) (un:Bool) (mb:Mb) (pos:Int) (mi mm:Ms) (Ao:Option Addr) (co:Nat) (ms:List MV) (dur:Int) (hz:NZ w col p v j l f s un mb pos mi mm Ao co ms dur)
include hz
theorem same134 (k:Nat)(x:EV)(B:Nat→Prop)(hx:Reads w B 1 x.A x.b.length (bys x.b))(hl:s.log.length≤1000000)(hs:Sm s.log)(hxb:Bytes x.b)(q:Bool)(hq:decide (s.log[k]?=some x.e)=q) :
 Calls Tryz.prog 134 #[.pointer (some ⟨p,0,none⟩),.int .i64 ((k:Int)+1),evV x.t x.k x.A x.b.length x.c] w fun e w'=>e=.returned (.bool q)∧Below w.heap.size w w':=by
 obtain ⟨xt,xk,xA,xc,xb⟩:=x
 simp only[EV.e] at hx hxb hq⊢
 have b1:Below w.heap.size w (w.alloc (.cells (evC xt xk xA xb.length xc) 58)):=(Below.refl _ _).alloc (Nat.le_refl _) _
 have h1:=hz.fr (Fr.of_below (S:=fun _=>False) b1) (fun _ _=>id)
 have g1:Blk (w.alloc (.cells (evC xt xk xA xb.length xc) 58)) w.heap.size 58 (evC xt xk xA xb.length xc):=Blk.new w 58 _
 have r1:=hx.alloc (.cells (evC xt xk xA xb.length xc) 58)
 have HL:=ħ h1.ls
 cases hk:s.log[k]? with
 | none=>
  have hout:((k:Int)+1)<1∨(s.log.length:Int)<(k:Int)+1:=by
   right
   have:=List.getElem?_eq_none_iff.1 hk
   omega
  have HG:=ħ fun W (y:LS W (fun k=>col k=4) l s.log)=>get_no W _ l s.log _ y hout
  rw[hk] at hq
  have hq0:q=false:=by rw[←hq];simp
  clear hz hx hk hq hout
  subst hq0
  go_enter Tryz.func134,Tryz.ntmps134
  go_upto_region 1 with (fail)
  generalize w.alloc (.cells (evC xt xk xA xb.length xc) 58)=W1 at *
  obtain ⟨c0,c1,x0,x1,x2,x3,x4,x5,x6,x7,x8,x9,x10,x11,x12,x13,x14,x15,x16,x44,x45,x46⟩:=h1.c
  clear x0 x1 x2 x3 x4 x6 x7 x8 x9 x10 x11 x12 x13 x14 x15 x16 x44 x45 x46 h1
  go_wp2_with (go_at_call 43;((with_reducible refine (HG.out W1 HL.out).mono ?_);rintro e w2 ⟨rfl,b2⟩))
  go_ret
  exact ⟨rfl,(b1.trans (b2.mono b1.size)).alloc (Nat.le_trans b1.size b2.size) _⟩
 | some y=>
  have HG:=ħ fun W (z:LS W (fun k=>col k=4) l s.log)=>get_yes W _ l s.log k y z hl hk hs
  rw[hk] at hq
  have hyb:Bytes y.body:=(hs y (List.mem_of_getElem? hk)).2
  have hq2:decide ((⟨y.term,y.kind,y.body⟩:Ent)=⟨xt,xk,xb⟩)=q:=by rw[←hq];simp only[Option.some.injEq]
  rw[ent_eq] at hq2
  clear hz hx hk hq
  obtain ⟨yt,yk,yb⟩:=y
  simp only at HG hyb hq2
  have HE:=ħ fun W A2 c2 B2 (z:Reads W B2 1 A2 yb.length (bys yb)) (z2:Reads W B 1 xA xb.length (bys xb))=>(bytes_inj hyb hxb) ▸ Tryz.bytes_Equal_all A2 xA yb.length c2 xb.length xc yb xb W rfl rfl (bytesIn_of z) (bytesIn_of z2)
  have hr1:=ħ (r1.old (by omega))
  have HQ:=ħ hq2
  clear r1 hyb hxb hq2
  go_enter Tryz.func134,Tryz.ntmps134
  go_upto_region 1 with (fail)
  generalize w.alloc (.cells (evC xt xk xA xb.length xc) 58)=W1 at *
  obtain ⟨c0,c1,x0,x1,x2,x3,x4,x5,x6,x7,x8,x9,x10,x11,x12,x13,x14,x15,x16,x44,x45,x46⟩:=h1.c
  clear x0 x1 x2 x3 x4 x6 x7 x8 x9 x10 x11 x12 x13 x14 x15 x16 x44 x45 x46 h1
  go_upto_region 2 with (go_at_call 43;((with_reducible refine (HG.out W1 HL.out).mono ?_);rintro e w2 ⟨A2,c2,rfl,r2,b2⟩))
  have b3:Below W1.heap.size W1 (w2.alloc (.cells (evC yt yk A2 yb.length c2) 58)):=b2.alloc b2.size _
  have g3:Blk (w2.alloc (.cells (evC yt yk A2 yb.length c2) 58)) w2.heap.size 58 (evC yt yk A2 yb.length c2):=Blk.new w2 58 _
  have r3:=r2.alloc (.cells (evC yt yk A2 yb.length c2) 58)
  have r4:=hr1.out.below b3 (fun _ h=>h.2)
  generalize w2.alloc (.cells (evC yt yk A2 yb.length c2) 58)=W3 at *
  have g4:=g1.below b3 g1.lt
  have b9:=b1.trans (b3.mono b1.size)
  have HC:=ħ (HE.out W3 A2 c2 _ r3 (r4.more (fun k hk=>hk.1)))
  clear r3 r4 g1 r2 c0 c1 x5
  obtain ⟨y0,y1,y2⟩:=g3.facts
  obtain ⟨z0,z1,z2⟩:=g4.facts
  by_cases h1:yt=xt
  ·subst h1
   by_cases h2:yk=xk
   ·subst h2
    go_wp2_with (go_at_call 153;((with_reducible refine HC.out.mono ?_);rintro e w5 ⟨rfl,rfl⟩))
    go_ret
    exact ⟨by rw[←HQ.out];simp,b9⟩
   ·go_wp2
    go_ret
    exact ⟨by rw[←HQ.out];simp[h2],b9⟩
  ·go_wp2
   go_ret
   exact ⟨by rw[←HQ.out];simp[h1],b9⟩
end
theorem perm_last {o n:List Int}(hv:vB o n=true):permB o n=decide (gd (memF o n) ((memF o n).length - 1)<9):=by
 unfold permB
 rw[hv,Bool.true_and,Bool.eq_iff_iff]
 simp only[List.all_eq_true,decide_eq_true_eq]
 have hp:=memF_up o n
 obtain ⟨l0,-⟩:=mem_len hv
 generalize memF o n=L at *
 constructor
 ·intro h
  exact h _ (gd_mem (by omega))
 ·intro h x hx
  obtain ⟨i,hi,rfl⟩:=List.mem_iff_getElem.1 hx
  rcases Nat.lt_or_ge i (L.length - 1) with h1 | h1
  ·have:=List.pairwise_iff_getElem.1 hp i (L.length - 1) hi (by omega) h1
   have e:gd L (L.length - 1)=L[L.length - 1]:=by simp[gd,show L.length - 1<L.length by omega]
   rw[e] at h
   omega
  ·have e:gd L (L.length - 1)=L[L.length - 1]:=by simp[gd,show L.length - 1<L.length by omega]
   have:i=L.length - 1:=by omega
   subst this
   rw[←e];exact h
theorem permitted30 (B:Nat→Prop)(m:Ms)(w:World)(h:MR w B m)(q:Bool)(hq:permB m.o m.n=q) :
 Calls Tryz.prog 30 #[msV m] w fun e w'=>e=.returned (.bool q)∧Below w.heap.size w w':=by
 have b1:Below w.heap.size w (w.alloc (.cells (msC m) 24)):=(Below.refl _ _).alloc (Nat.le_refl _) _
 have g1:Blk (w.alloc (.cells (msC m) 24)) w.heap.size 24 (msC m):=Blk.new w 24 _
 have h1:=h.alloc (.cells (msC m) 24)
 cases hv:vB m.o m.n with
 | false=>
  have HV:=ħ (valid_b B m _ h1 false hv)
  have hq0:q=false:=by rw[←hq];unfold permB;rw[hv];rfl
  subst hq0
  clear h hv hq
  go_enter Tryz.func30,Tryz.ntmps30
  go_upto_region 1 with (fail)
  generalize w.alloc (.cells (msC m) 24)=W1 at *
  obtain ⟨q0,q1,q2⟩:=g1.facts
  have y0:W1.cell? ⟨w.heap.size,0,none⟩=some (.slice m.A m.o.length m.c):=g1.cell 0
  have y1:W1.cell? ⟨w.heap.size,1,none⟩=some (.slice m.A' m.n.length m.c'):=g1.cell 1
  clear q1 q2
  go_wp2_with (go_at_call 54;((with_reducible refine HV.out.mono ?_);rintro e w2 ⟨rfl,rfl⟩))
  go_ret
  exact ⟨rfl,b1.alloc b1.size _⟩
 | true=>
  have HV:=ħ (valid_b B m _ h1 true hv)
  have HM:=ħ fun (W:World) (x:MR W B m)=>members_any _ m W x
  unfold memV at HM
  rw[if_pos hv] at HM
  obtain ⟨l0,l1⟩:=mem_len hv
  have HQ:=ħ ((perm_last hv).symm.trans hq)
  clear h hv hq
  go_enter Tryz.func30,Tryz.ntmps30
  go_upto_region 1 with (fail)
  generalize w.alloc (.cells (msC m) 24)=W1 at *
  have y0:W1.cell? ⟨w.heap.size,0,none⟩=some (.slice m.A m.o.length m.c):=g1.cell 0
  have y1:W1.cell? ⟨w.heap.size,1,none⟩=some (.slice m.A' m.n.length m.c'):=g1.cell 1
  have lt1:=g1.lt
  go_upto_region 3 with (go_at_call 54;((with_reducible refine HV.out.mono ?_);rintro e w2 ⟨rfl,rfl⟩))
  have b2:Below W1.heap.size W1 (W1.alloc (.cells (msC m) 24)):=(Below.refl _ _).alloc (Nat.le_refl _) _
  have g2:=g1.below b2 g1.lt
  have h2:=h1.below b2
  have bb:=b1.trans (b2.mono b1.size)
  generalize W1.alloc (.cells (msC m) 24)=W2 at *
  have z0:W2.cell? ⟨w.heap.size,0,none⟩=some (.slice m.A m.o.length m.c):=g2.cell 0
  have z1:W2.cell? ⟨w.heap.size,1,none⟩=some (.slice m.A' m.n.length m.c'):=g2.cell 1
  have lt2:=g2.lt
  generalize memF m.o m.n=L at *
  go_upto_region 4 with (go_at_call 55;((with_reducible refine (HM.out _ h2).mono ?_);rintro e w3 ⟨A3,c3,rfl,r3,b3,-⟩))
  have hP:=r3.plain (by omega)
  have hix:=fun W=>ix22 hP c3 (L.length - 1) (by omega) W
  have c0:=RI.at_ r3 (show L.length - 1<L.length by omega)
  have hcast:((L.length - 1:Nat):Int)=(L.length:Int) - 1:=by omega
  rw[hcast] at hix
  go_wp2
  go_ret
  exact ⟨by rw[←HQ.out];rfl,bb.trans (b3.mono bb.size)⟩
def MoPost (x:Ent)(w:World)(e:Ending)(w':World):Prop:=∃ m':Ms,e=.returned (.tuple #[msV m',.bool (cfE x).isSome])∧(∀ mb,cfE x=some mb→m'.o=mb.o∧m'.n=mb.n)∧MR w' (w.heap.size≤·) m'∧Below w.heap.size w w'
theorem MoPost.no {x:Ent}{w w':World}{e:Ending}(h:cfE x=none)(he:e=.returned (.tuple #[msV nilM,.bool false]))(hb:Below w.heap.size w w'):MoPost x w e w':=
 ⟨nilM,by rw[he,h];rfl,(fun mb hm=>by rw[h] at hm;cases hm),nilMR _ _,hb⟩
theorem membershipOf67 (B:Nat→Prop)(x:EV)(w:World)(hx:Reads w B 1 x.A x.b.length (bys x.b))(hB:Bytes x.b)(hl:x.b.length≤1000) :
 Calls Tryz.prog 67 #[evV x.t x.k x.A x.b.length x.c] w (MoPost x.e w):=by
 obtain ⟨t,k,A,c,b⟩:=x
 simp only[EV.e] at hx hB hl⊢
 have b1:Below w.heap.size w ((w.alloc (.cells (evC t k A b.length c) 58)).alloc (.cells msZ 24)):=((Below.refl _ _).alloc (Nat.le_refl _) _).alloc (by simp) _
 have g1:Blk ((w.alloc (.cells (evC t k A b.length c) 58)).alloc (.cells msZ 24)) w.heap.size 58 (evC t k A b.length c):=(Blk.new w 58 _).alloc _
 have g2:Blk ((w.alloc (.cells (evC t k A b.length c) 58)).alloc (.cells msZ 24)) (w.heap.size+1) 24 msZ:=by simpa using Blk.new (w.alloc (.cells (evC t k A b.length c) 58)) 24 msZ
 have r1:=(hx.alloc (.cells (evC t k A b.length c) 58)).alloc (.cells msZ 24)
 by_cases hk:k=3
 ·have HD:=ħ (decode_any _ A c b _ r1 hB hl)
  have hce:=ħ (show cfE ⟨t,k,b⟩=if (decF b).2.2=0∧permB (decF b).1 (decF b).2.1=true then some ⟨(decF b).1,(decF b).2.1⟩ else none from by
   unfold cfE
   simp only[hk,true_and])
  have her:=dec_err b
  generalize decF b=D at *
  obtain ⟨o,n,er⟩:=D
  simp only at HD hce her
  subst hk
  clear hx hB hl r1
  go_enter Tryz.func67,Tryz.ntmps67
  go_upto_region 1 with (fail)
  generalize (w.alloc (.cells (evC t 3 A b.length c) 58)).alloc (.cells msZ 24)=W1 at *
  obtain ⟨q0,q1,q2⟩:=g1.facts
  go_upto_region 4 with (go_at_call 99;((with_reducible refine HD.out.mono ?_);rintro e w2 ⟨m',rfl,rfl,rfl,hm2,b2⟩))
  have b3:Below W1.heap.size W1 (w2.alloc (.cells (msC m') 24)):=b2.alloc b2.size _
  have g3:Blk (w2.alloc (.cells (msC m') 24)) w2.heap.size 24 (msC m'):=Blk.new w2 24 _
  have m3:=hm2.alloc (.cells (msC m') 24)
  generalize w2.alloc (.cells (msC m') 24)=W3 at *
  have hk2:=g2.below b3 g2.lt
  have b9:=b1.trans (b3.mono b1.size)
  clear q0 q1 q2
  have y0:W3.cell? ⟨w2.heap.size,0,none⟩=some (.slice m'.A m'.o.length m'.c):=g3.cell 0
  have y1:W3.cell? ⟨w2.heap.size,1,none⟩=some (.slice m'.A' m'.n.length m'.c'):=g3.cell 1
  have lt3:=g3.lt
  obtain ⟨z0,z1,z2⟩:=hk2.facts
  by_cases he:er=0
  ·subst he
   cases hp:permB m'.o m'.n with
   | true=>
    have HP:=ħ (permitted30 _ m' W3 m3 true hp)
    have hcf:cfE ⟨t,3,b⟩=some ⟨m'.o,m'.n⟩:=by rw[hce.out,if_pos ⟨rfl,hp⟩]
    go_upto_region 6 with (go_at_call 30;((with_reducible refine HP.out.mono ?_);rintro e w4 ⟨rfl,b4⟩))
    have k4:=g3.below b4 g3.lt
    have k2:=(g2.below b3 g2.lt).below b4 (g2.below b3 g2.lt).lt
    have m4:=m3.below b4
    have b5:=b9.trans (b4.mono b9.size)
    have hb1:=b1.size
    clear y0 y1 z0 z1 z2 lt3
    have y0:w4.cell? ⟨w2.heap.size,0,none⟩=some (.slice m'.A m'.o.length m'.c):=k4.cell 0
    have y1:w4.cell? ⟨w2.heap.size,1,none⟩=some (.slice m'.A' m'.n.length m'.c'):=k4.cell 1
    have lt4:=k4.lt
    obtain ⟨z0,z1,z2⟩:=k2.facts
    go_wp2
    refine bodyPost_ret (v:=.tuple #[msV m',.bool true]) (by simp[results,Tryz.results67,go_sem,z0,z1]) rfl ⟨m',by rw[hcf];rfl,(fun mb hm=>by rw[hcf] at hm;injection hm with hm;subst hm;exact ⟨rfl,rfl⟩),?_,(b5.setCell (by simp) _).setCell (by simp) _⟩
    have hlt1:=g2.lt
    exact (m4.fr (((Fr.refl (fun k=>k=w.heap.size+1) w4).setCell (p:=⟨w.heap.size+1,0,none⟩) (.inl rfl) _).setCell (p:=⟨w.heap.size+1,1,none⟩) (.inl rfl) _) (fun k hk e=>by rcases hk with hk | hk;exact hk;omega)).more' (fun k hk=>by rcases hk with hk | hk;exact hk.elim;omega)
   | false=>
    have HP:=ħ (permitted30 _ m' W3 m3 false hp)
    have hcf:cfE ⟨t,3,b⟩=none:=by rw[hce.out,if_neg (fun h=>by rw[hp] at h;cases h.2)]
    go_upto_region 5 with (go_at_call 30;((with_reducible refine HP.out.mono ?_);rintro e w4 ⟨rfl,b4⟩))
    have k2:=(g2.below b3 g2.lt).below b4 (g2.below b3 g2.lt).lt
    have b5:=b9.trans (b4.mono b9.size)
    clear y0 y1 z0 z1 z2 lt3
    obtain ⟨z0,z1,z2⟩:=k2.facts
    go_wp2
    refine bodyPost_ret (v:=.tuple #[msV nilM,.bool false]) (by simp[results,Tryz.results67,go_sem,z0,z1,nilM]) rfl (MoPost.no hcf rfl ((b5.setCell (by simp) _).setCell (by simp) _))
  ·have hcf:cfE ⟨t,3,b⟩=none:=by rw[hce.out,if_neg (fun h=>he h.1)]
   have hk0:(er == 0)=false:=by simpa using he
   have k2:=g2.below b3 g2.lt
   clear z0 z1 z2
   obtain ⟨z0,z1,z2⟩:=k2.facts
   go_wp2
   refine bodyPost_ret (v:=.tuple #[msV nilM,.bool false]) (by simp[results,Tryz.results67,go_sem,z0,z1,nilM]) rfl (MoPost.no hcf rfl ((b9.setCell (by simp) _).setCell (by simp) _))
 ·have hc:cfE ⟨t,k,b⟩=none:=by unfold cfE;rw[if_neg (fun h=>hk h.1)]
  have hkb:(k == 3)=false:=by simpa using hk
  clear hx hB hl r1
  go_enter Tryz.func67,Tryz.ntmps67
  go_upto_region 1 with (fail)
  generalize (w.alloc (.cells (evC t k A b.length c) 58)).alloc (.cells msZ 24)=W1 at *
  obtain ⟨q0,q1,q2⟩:=g1.facts
  obtain ⟨z0,z1,z2⟩:=g2.facts
  go_wp2
  refine bodyPost_ret (v:=.tuple #[msV nilM,.bool false]) (by simp[results,Tryz.results67,go_sem,z0,z1,nilM]) rfl (MoPost.no hc rfl ((b1.setCell (by simp) _).setCell (by simp) _))
def freC (c:Nat)(col:Nat→Nat)(a b:Nat)(k:Nat):Nat:=if a≤k∧k<b then c else col k
section
variable {w w1 w2:World} {col:Nat→Nat} {p v j l f:Nat} {s:Nd} {un:Bool} {mb:Mb} {pos:Int} {mi mm m':Ms} {Ao:Option Addr} {co:Nat} {ms:List MV} {dur:Int}
theorem NZ.freshC {c:Nat}(h:NZ w col p v j l f s un mb pos mi mm Ao co ms dur)(hb:Below w.heap.size w w1):NZ w1 (freC c col w.heap.size w1.heap.size) p v j l f s un mb pos mi mm Ao co ms dur:=by
 refine (h.fr (S:=fun _=>False) (Fr.of_below hb) (fun _ _=>id)).recol (fun k hk=>if_neg (by have:=h.lt k hk;omega)) (fun k hk=>?_)
 rcases Nat.lt_or_ge k w1.heap.size with h1 | h1
 ·exact h1
 ·exfalso;apply hk
  unfold freC
  rw[if_neg (by omega)]
  cases hc:col k with
  | zero=>rfl
  | succ n=>have:=h.lt k (by omega);have:=hb.size;omega
theorem NZ.conf (h:NZ w col p v j l f s un mb pos mi mm Ao co ms dur)(hb:Below w.heap.size w w1)(n:Int)(hm:MR w1 (fun k=>w.heap.size≤k∨col k=5) m'){mb':Mb}(hmo:m'.o=mb'.o∧m'.n=mb'.n) :
 ∃ col',NZ (((w1.setCell ⟨p,8,none⟩ (.slice m'.A m'.o.length m'.c)).setCell ⟨p,9,none⟩ (.slice m'.A' m'.n.length m'.c')).setCell ⟨p,10,none⟩ (.int .i64 n)) col' p v j l f s un mb' n mi m' Ao co ms dur∧(∀ k,k<w.heap.size→col' k=col k)∧Fr (fun k=>col k≠0) w (((w1.setCell ⟨p,8,none⟩ (.slice m'.A m'.o.length m'.c)).setCell ⟨p,9,none⟩ (.slice m'.A' m'.n.length m'.c')).setCell ⟨p,10,none⟩ (.int .i64 n)):=by
 have h1:=h.freshC (c:=5) hb
 have hf:Fr (fun k=>k=p) w1 (((w1.setCell ⟨p,8,none⟩ (.slice m'.A m'.o.length m'.c)).setCell ⟨p,9,none⟩ (.slice m'.A' m'.n.length m'.c')).setCell ⟨p,10,none⟩ (.int .i64 n)):=(((Fr.refl (fun k=>k=p) w1).setCell (p:=⟨p,8,none⟩) (.inl rfl) _).setCell (p:=⟨p,9,none⟩) (.inl rfl) _).setCell (p:=⟨p,10,none⟩) (.inl rfl) _
 have g:=(((h1.b.set_ 8 (.slice m'.A m'.o.length m'.c)).set_ 9 (.slice m'.A' m'.n.length m'.c')).set_ 10 (.int .i64 n))
 rw[nd89,nd10] at g
 have hm1:MR w1 (fun k=>freC 5 col w.heap.size w1.heap.size k=5) m':=⟨(hm.o.old (by omega)).more (fun k hk=>?_),(hm.n.old (by omega)).more (fun k hk=>?_),hm.ol,hm.nl⟩
 ·refine ⟨_,h1.set g hf ⟨rfl,rfl,rfl,rfl,rfl⟩ (fun hh=>.inl hh) hm1 hmo h1.l9,fun k hk=>if_neg (by omega),?_⟩
  exact (Fr.of_below (S:=fun k=>col k≠0) hb).trans (hf.mono (fun k _ e=>by rw[e,h.cp];decide))
 all_goals
  unfold freC
  rcases hk with ⟨h1 | h1,h2⟩
  ·rw[if_pos ⟨h1,h2⟩]
  ·by_cases h3:w.heap.size≤k∧k<w1.heap.size
   ·rw[if_pos h3]
   ·rw[if_neg h3];exact h1
end
theorem conf_skip (c0:Mb)(L:List Ent)(i m:Nat)(him:i≤m)(hm:m≤L.length)(h:∀ k e,i≤k→k<m→L[k]?=some e→cfE e=none):conf cfE c0 (L.take m)=conf cfE c0 (L.take i)∧posC (L.take m)=posC (L.take i):=by
 induction m with
 | zero=>obtain rfl:i=0:=by omega
         exact ⟨rfl,rfl⟩
 | succ m ih=>
  rcases Nat.lt_or_ge m i with h1 | h1
  ·obtain rfl:i=m+1:=by omega
   exact ⟨rfl,rfl⟩
  ·obtain ⟨i1,i2⟩:=ih h1 (by omega) (fun k e hk hk2=>h k e hk (by omega))
   have e1:L.take (m+1)=L.take m ++ [L[m]]:=List.take_succ_eq_append_getElem (by omega)
   have e2:=h m L[m] h1 (by omega) (List.getElem?_eq_getElem (by omega))
   rw[e1,conf_snoc,posC_snoc,e2]
   exact ⟨i1,by rw[if_neg (by simp)];exact i2⟩
theorem conf_hit (c0:Mb)(L:List Ent)(i:Nat)(e:Ent)(mb:Mb)(hi:L[i]?=some e)(hc:cfE e=some mb):conf cfE c0 (L.take (i+1))=mb∧posC (L.take (i+1))=i+1:=by
 have hl:=(List.getElem?_eq_some_iff.1 hi).1
 have e1:L.take (i+1)=L.take i ++ [e]:=by rw[List.take_add_one,hi];rfl
 rw[e1,conf_snoc,posC_snoc,hc]
 exact ⟨rfl,by simp;omega⟩
section
variable (w:World) (col:Nat→Nat) (p v j l f:Nat) (s:Nd) (un:Bool) (mb:Mb) (pos:Int) (mi mm:Ms) (Ao:Option Addr) (co:Nat) (ms:List MV) (dur:Int) (hz:NZ w col p v j l f s un mb pos mi mm Ao co ms dur)
include hz
def FmPost (w:World)(col:Nat→Nat)(p v j l f:Nat)(s:Nd)(un:Bool)(mi:Ms)(Ao:Option Addr)(co:Nat)(ms:List MV)(dur:Int)(mb':Mb)(pos':Int)(w':World):Prop:=
 ∃ col' mm',NZ w' col' p v j l f s un mb' pos' mi mm' Ao co ms dur∧(∀ k,k<w.heap.size→col' k=col k)∧Fr (fun k=>col k≠0) w w'
theorem findMembership36 (m:Nat)(hm:m≤s.log.length)(hl:s.log.length≤1000000)(hs:Bd s.log) :
 Calls Tryz.prog 36 #[.pointer (some ⟨p,0,none⟩),.int .i64 m] w fun e w'=>e=.returned (.tuple #[])∧FmPost w col p v j l f s un mi Ao co ms dur (conf cfE s.c0 (s.log.take m)) (posC (s.log.take m)) w':=by
 have HZ:=ħ hz
 have HM:=ħ hm
 have HS:=ħ hs
 have HLn:=ħ hl
 have hml:(m:Int)≤1000000:=by omega
 obtain ⟨c0,c1,x0,x1,x2,x3,x4,x5,x6,x7,x8,x9,x10,x11,x12,x13,x14,x15,x16,x44,x45,x46⟩:=hz.c
 clear x0 x1 x2 x3 x4 x8 x9 x10 x11 x12 x13 x14 x15 x16 x44 x45 x46
 clear hz hm hl hs
 go_enter Tryz.func36,Tryz.ntmps36
 go_wp2_with fail
 go_loopw [4] (fun vi wr=>∃ i:Nat,i≤m∧vi=.int .i64 (i:Int)∧Below w.heap.size w wr∧(∀ k e,i≤k→k<m→s.log[k]?=some e→cfE e=none)) (fun vi _=>(intOf vi).toNat)
 case atStart=>exact ⟨m,Nat.le_refl _,rfl,Below.refl _ _,fun k e h1 h2=>by omega⟩
 case round=>
  obtain ⟨i,hi,rfl,hb,hno⟩:=hrel
  have HN:=ħ hno
  have hzr:=HZ.out.fr (Fr.of_below (S:=fun _=>False) hb) (fun _ _=>id)
  obtain ⟨zl,zf,y0,y1,y2,y3,y4,y5,y6,y7,y8,y9,y10,y11,y12,y13,y14,y15,y16,y44,y45,y46⟩:=hzr.c
  clear hno y0 y1 y2 y3 y4 y11 y12 y13 y14 y15 y16 y44 y45 y46
  by_cases h0:i=0
  ·have hge:¬ ((1:Int)≤(i:Int)):=by omega
   have H0:=ħ h0
   clear hi h0
   clear y5
   have hcf:=HZ.out.conf hb 0 (m':=mi) (mb':=s.c0) ⟨(HZ.out.ri.o.fr (Fr.of_below (S:=fun _=>False) hb) (fun _ _=>id)).more (fun k hk=>.inr hk),(HZ.out.ri.n.fr (Fr.of_below (S:=fun _=>False) hb) (fun _ _=>id)).more (fun k hk=>.inr hk),HZ.out.ri.ol,HZ.out.ri.nl⟩ HZ.out.mio
   have HC:=ħ hcf
   clear hcf hzr
   go_wp2_with fail
   refine bodyPost_end (v:=.tuple #[]) (by simp[results,Tryz.results36,go_sem]) rfl ⟨rfl,?_⟩
   obtain ⟨k1,k2⟩:=conf_skip s.c0 s.log 0 m (Nat.zero_le _) HM.out (fun k e h1 h2=>HN.out k e (by have:=H0.out;omega) h2)
   rw[k1,k2]
   obtain ⟨col',n1,n2,n3⟩:=HC.out
   exact ⟨col',mi,n1,n2,n3⟩
  ·obtain ⟨q,hq⟩:∃ q,i=q+1:=⟨i - 1,by omega⟩
   have hge:(1:Int)≤(i:Int):=by omega
   have hql:q<s.log.length:=by have:=HM.out;omega
   obtain ⟨e,he⟩:∃ e,s.log[q]?=some e:=⟨_,List.getElem?_eq_getElem hql⟩
   have hiq:(i:Int)=(q:Int)+1:=by omega
   have HL:=(HZ.out.fr (Fr.of_below (S:=fun _=>False) hb) (fun _ _=>id)).ls
   have HG:=ħ (get_yes wr _ l s.log q e HL HLn.out he HS.out.sm)
   rw[←hiq] at HG
   have HE:=ħ he
   have HQ:=ħ hq
   have HI:=ħ hi
   have hw:IntKind.i64.wrap ((i:Int) - 1)=(q:Int):=by rw[IntWalk.i64_in _ (by omega)];omega
   have heb:=HS.out e (List.mem_of_getElem? he)
   have HF:=ħ fun W A2 c2 B2 (z:Reads W B2 1 A2 e.body.length (bys e.body))=>membershipOf67 B2 ⟨e.term,e.kind,A2,c2,e.body⟩ W z heb.2 (by show e.body.length≤1000;have:=heb.1;omega)
   clear he hq hql HL heb hiq hi h0
   clear y6 y7 y8 y9 y10
   go_upto_region 4 with (go_at_call 43;((with_reducible refine HG.out.mono ?_);rintro en w2 ⟨A2,c2,rfl,r2,b2⟩))
   have b3:Below wr.heap.size wr (w2.alloc (.cells (evC e.term e.kind A2 e.body.length c2) 58)):=b2.alloc b2.size _
   have g3:Blk (w2.alloc (.cells (evC e.term e.kind A2 e.body.length c2) 58)) w2.heap.size 58 (evC e.term e.kind A2 e.body.length c2):=Blk.new w2 58 _
   have r3:=r2.alloc (.cells (evC e.term e.kind A2 e.body.length c2) 58)
   generalize w2.alloc (.cells (evC e.term e.kind A2 e.body.length c2) 58)=W3 at *
   have bb3:=hb.trans (b3.mono hb.size)
   have HF3:=ħ (HF.out W3 A2 c2 _ r3)
   obtain ⟨z0,z1,z2⟩:=g3.facts
   clear r2 r3 b2 zl zf y5 hzr HG
   go_upto_region 5 with (go_at_call 67;((with_reducible refine HF3.out.mono ?_);rintro en w4 ⟨m',rfl,hmb,hm4,b4⟩))
   have b5:Below W3.heap.size W3 (w4.alloc (.cells (msC m') 24)):=b4.alloc b4.size _
   have g5:Blk (w4.alloc (.cells (msC m') 24)) w4.heap.size 24 (msC m'):=Blk.new w4 24 _
   have m5:=hm4.alloc (.cells (msC m') 24)
   generalize w4.alloc (.cells (msC m') 24)=W5 at *
   have bb5:=bb3.trans (b5.mono bb3.size)
   have hz5:=HZ.out.fr (Fr.of_below (S:=fun _=>False) bb5) (fun _ _=>id)
   obtain ⟨zl,zf,y0,y1,y2,y3,y4,y5,y6,y7,y8,y9,y10,y11,y12,y13,y14,y15,y16,y44,y45,y46⟩:=hz5.c
   have t0:W5.cell? ⟨w4.heap.size,0,none⟩=some (.slice m'.A m'.o.length m'.c):=g5.cell 0
   have t1:W5.cell? ⟨w4.heap.size,1,none⟩=some (.slice m'.A' m'.n.length m'.c'):=g5.cell 1
   have t2:=g5.lt
   clear z0 z1 z2 hz5 y0 y1 y2 y3 y4 y5 y6 y7 y11 y12 y13 y14 y15 y16 y44 y45 y46 hm4 b4 b5
   cases hc:cfE e with
   | none=>
    have HCE:=ħ hc
    have hc':(cfE ({ t:=e.term,k:=e.kind,A:=A2,c:=c2,b:=e.body }:EV).e).isSome=false:=by
     show (cfE e).isSome=false
     rw[hc];rfl
    rw[hc']
    clear hc hc' hmb
    go_wp2_with fail
    refine ⟨⟨q,by have:=HQ.out;have:=HI.out;omega,rfl,bb5,fun k e' h1 h2 h3=>?_⟩,by have:=HQ.out;simp[intOf];omega⟩
    rcases Nat.lt_or_ge k i with h4 | h4
    ·obtain rfl:k=q:=by have:=HQ.out;omega
     rw[HE.out] at h3
     injection h3 with h3
     rw[←h3];exact HCE.out
    ·exact HN.out k e' h4 h2 h3
   | some mb'=>
    have HCE:=ħ hc
    have hc':(cfE ({ t:=e.term,k:=e.kind,A:=A2,c:=c2,b:=e.body }:EV).e).isSome=true:=by
     show (cfE e).isSome=true
     rw[hc];rfl
    have hmb2:=hmb mb' hc
    rw[hc']
    have HC:=ħ (HZ.out.conf bb5 i (mb':=mb') (m':=m') ⟨m5.o.more (fun k hk=>.inl (Nat.le_trans bb3.size hk)),m5.n.more (fun k hk=>.inl (Nat.le_trans bb3.size hk)),m5.ol,m5.nl⟩ hmb2)
    clear hc hc' hmb hmb2
    go_wp2_with fail
    refine bodyPost_ret (v:=.tuple #[]) (by simp[results,Tryz.results36,go_sem]) rfl ⟨rfl,?_⟩
    obtain ⟨k1,k2⟩:=conf_skip s.c0 s.log i m HI.out HM.out HN.out
    obtain ⟨k3,k4⟩:=conf_hit s.c0 s.log q e mb' HE.out HCE.out
    obtain ⟨col',n1,n2,n3⟩:=HC.out
    have hq:=HQ.out
    rw[k1,k2,hq,k3,k4]
    rw[hq] at n1 n3
    exact ⟨col',m',n1,n2,n3⟩
end
end Go.Proofs.YtdfobfjpkjddpaaGreat

import Derived.Test.YtdfobfjpkjddpaaGreatUG28
set_option linter.unusedVariables false
set_option linter.unusedSimpArgs false
set_option maxRecDepth 10000
set_option maxHeartbeats 8000000
namespace Go.Proofs.YtdfobfjpkjddpaaGreat
open Go.RowKit Go.Own Go.Quo Go.Wire Go.Raft
attribute [local irreducible] Go.wpQuiet
def CoP (y:MV)(w:World)(e:Ending)(w':World):Prop:=∃ A c es,e=.returned (.agg (mvC y.kind y.frm y.tt y.term y.prev y.pterm y.commit y.granted A es.length c))∧es.map EV.e=y.es.map EV.e∧ES w' (w.heap.size≤·) A es∧es.length≤c∧Below w.heap.size w w'
theorem copied40 (w:World)(B:Nat→Prop)(y:MV)(hE:ES w B y.A y.es)(hl:y.es.length≤100)(hb:∀ x∈y.es,x.b.length≤1000) :
 Calls Tryz.prog 40 #[mvV y] w (CoP y w):=by
 obtain ⟨kind,frm,tt,term,prev,pterm,commit,granted,A,c,es⟩:=y
 simp only at hE hl hb
 show Calls Tryz.prog 40 #[.agg (mvC kind frm tt term prev pterm commit granted A es.length c)] w _
 have b1:Below w.heap.size w ((w.alloc (.cells (mvC kind frm tt term prev pterm commit granted A es.length c) 99)).alloc (.cells (mvC 0 0 0 0 0 0 0 false none 0 0) 99)):=((Below.refl _ _).alloc (Nat.le_refl _) _).alloc (by simp) _
 have g1:Blk ((w.alloc (.cells (mvC kind frm tt term prev pterm commit granted A es.length c) 99)).alloc (.cells (mvC 0 0 0 0 0 0 0 false none 0 0) 99)) w.heap.size 99 (mvC kind frm tt term prev pterm commit granted A es.length c):=(Blk.new w 99 _).alloc _
 have g2:Blk ((w.alloc (.cells (mvC kind frm tt term prev pterm commit granted A es.length c) 99)).alloc (.cells (mvC 0 0 0 0 0 0 0 false none 0 0) 99)) (w.heap.size+1) 99 (mvC 0 0 0 0 0 0 0 false none 0 0):=by simpa using Blk.new (w.alloc (.cells (mvC kind frm tt term prev pterm commit granted A es.length c) 99)) 99 (mvC 0 0 0 0 0 0 0 false none 0 0)
 have HE:=ħ (hE.old.below b1 (fun _ h=>h.2))
 have hPl:=hE.1.plain
 have HBl:=ħ hb
 have hb1s:=g2.lt
 clear hE hb
 go_enter Tryz.func40,Tryz.ntmps40
 go_upto_region 2 with fail
 generalize (w.alloc (.cells (mvC kind frm tt term prev pterm commit granted A es.length c) 99)).alloc (.cells (mvC 0 0 0 0 0 0 0 false none 0 0) 99)=W1 at *
 have HB1:=ħ b1
 obtain ⟨q0,q1,q2⟩:=g1.facts
 go_wp2_with fail
 go_loopw [3,9] (fun v3 vi wr=>∃ (i:Nat) (A4:Option Addr) (c4:Nat) (e4:List EV),i≤es.length∧vi=.int .i64 (i:Int)∧v3=.slice A4 e4.length c4∧OE wr W1.heap.size A4 c4 e4∧e4.map EV.e=(es.take i).map EV.e∧Below W1.heap.size W1 wr) (fun _ vi _=>es.length - (intOf vi).toNat)
 case atStart=>exact ⟨0,none,0,[],Nat.zero_le _,rfl,rfl,OE.nil,rfl,Below.refl _ _⟩
 case round=>
  obtain ⟨i,A4,c4,e4,hi,rfl,rfl,ho,hme,hbw⟩:=hrel
  have HO:=ħ ho
  have HME:=ħ hme
  have HBW:=ħ hbw
  have he4:e4.length≤100:=by
   have:=congrArg List.length hme
   rw[List.length_map,List.length_map,List.length_take] at this
   omega
  clear ho hme
  have hsw:=hbw.size
  by_cases hlt:i<es.length
  ·have hlt':(i:Int)<(es.length:Int):=by omega
   obtain ⟨⟨xt,xk,xA,xc,xb⟩,hgx⟩:∃ x,es[i]?=some x:=⟨_,List.getElem?_eq_getElem hlt⟩
   have hEr:=HE.out.below hbw (fun _ h=>Nat.lt_of_lt_of_le h.2 (HB1.out.size))
   obtain ⟨z0,z1,z2⟩:=hEr.at_ hgx
   have hix:=fun W=>ixE (hPl (by omega)) c i hlt W
   have hxb:=hEr.2 _ (List.mem_of_getElem? hgx)
   have hxl:=HBl.out _ (List.mem_of_getElem? hgx)
   have HTK:=ħ (show (es.take (i+1)).map EV.e=(es.take i).map EV.e ++ [⟨xt,xk,xb⟩] by rw[List.take_add_one,hgx,List.map_append];rfl)
   simp only at z0 z1 z2 hxb hxl
   have g5:Blk (wr.alloc (.cells (evC xt xk xA xb.length xc) 58)) wr.heap.size 58 (evC xt xk xA xb.length xc):=Blk.new wr 58 _
   have b5:Below wr.heap.size wr (wr.alloc (.cells (evC xt xk xA xb.length xc) 58)):=(Below.refl _ _).alloc (Nat.le_refl _) _
   have X5:=ħ ((hxb.old (by omega)).alloc (.cells (evC xt xk xA xb.length xc) 58))
   have hs5:(wr.alloc (.cells (evC xt xk xA xb.length xc) 58)).heap.size=wr.heap.size+1:=by simp
   have HS5:=ħ hs5
   clear hEr hgx hxb hs5
   go_upto_region 5 with fail
   generalize wr.alloc (.cells (evC xt xk xA xb.length xc) 58)=W5 at *
   clear z0 z1 z2 hix
   have g6:=g5.alloc (.cells #[] 5)
   obtain ⟨z0,z1,z2⟩:=g5.facts
   have o6:(W5.alloc (.cells #[] 5)).ownsRow W5.heap.size 5 1 (.slice (some ⟨W5.heap.size,0,none⟩) 0 0) 0 []:=own_z (Blk.new W5 5 #[]) (Nat.le_refl _)
   have hl5:=g5.lt
   go_upto_region 6 with (at_builtin;refine wpList_append_any _ rfl _ _ _ rfl W5.heap.size 5 _ 1 1 Tryz.underlying46 info5 rfl (by omega) (.slice (some ⟨W5.heap.size,0,none⟩) 0 0) 0 [] rfl (by exact o6) _ xA xb.length xc (bys xb) rfl (by exact X5.out.alloc (.cells #[] 5)) (bys_one xb) (by simp only[maxLen];omega) (by omega) (by simp) ?_;intro A6 c6 w6 hown6 hgr6 hat6;simp only[Nat.zero_add,List.nil_append] at hown6 hat6;have k6:=g6.grown hgr6 (fun e=>by have e':some wr.heap.size=some W5.heap.size:=e;injection e' with e';omega);have HO6:=ħ hown6;have f6:Below W5.heap.size W5 w6:=((Below.refl W5.heap.size W5).alloc (Nat.le_refl _) (.cells #[] 5)).grown hgr6 (by simp) (fun k hk=>by have e':some W5.heap.size=some k:=hk;injection e' with e';omega);clear z0 z1 z2 hown6 hgr6 hat6;obtain ⟨z0,z1,z2⟩:=k6.facts)
   have g7:Blk (w6.setCell ⟨wr.heap.size,2,none⟩ (.slice A6 xb.length c6)) wr.heap.size 58 (evC xt xk A6 xb.length c6):=k6.set_ 2 (.slice A6 xb.length c6)
   have R7:=ħ (show Reads (w6.setCell ⟨wr.heap.size,2,none⟩ (.slice A6 xb.length c6)) (wr.heap.size≤·) 1 A6 xb.length (bys xb) from ((Reads.of_own HO6.out).more (B':=(W5.heap.size≤·)) (fun k hk=>(HO6.out.lt k hk).1)).setCell (p:=⟨wr.heap.size,2,none⟩) (fun e=>by simp at e;omega) _ |>.more (fun k hk=>by omega))
   have b57:Below wr.heap.size wr W5:=b5
   have b7:Below wr.heap.size wr (w6.setCell ⟨wr.heap.size,2,none⟩ (.slice A6 xb.length c6)):=(b57.trans (f6.mono b57.size)).setCell (p:=⟨wr.heap.size,2,none⟩) (Nat.le_refl _) _
   have O7:=HO.out.below b7
   clear z0 z1 z2 k6 f6 X5 g6 o6
   generalize w6.setCell ⟨wr.heap.size,2,none⟩ (.slice A6 xb.length c6)=W7 at *
   obtain ⟨z0,z1,z2⟩:=g7.facts
   have hs7:=b7.size
   have l7:=g7.lt
   go_wp2_with (at_builtin;refine wpList_append_any _ rfl _ _ _ rfl W1.heap.size 58 _ 3 40 Tryz.underlying45 info58 rfl (by omega) (.slice A4 e4.length c4) e4.length (e4.flatMap evL) rfl (by exact own_fr O7.o (Fr.of_below (S:=fun _=>False) ((Below.refl W7.heap.size W7).alloc (Nat.le_refl _) (.cells (evC xt xk A6 xb.length c6) 58))) (fun _ _ e=>e)) (fun _=>True) (some ⟨W7.heap.size,0,none⟩) 1 1 [.int .i64 xt,.int .i64 xk,.slice A6 xb.length c6] rfl (by exact ((Reads.newS _ [.int .i64 xt,.int .i64 xk,.slice A6 xb.length c6] 58 (0,0) 1 3 rfl _ rfl).more (fun _ _=>trivial))) (by intro u hu;simp at hu;rcases hu with rfl | rfl | rfl <;> rfl) (by simp only[maxLen];omega) (by omega) (by simp;omega) ?_;intro A8 c8 w8 hown8 hgr8 hat8;have HO8:=ħ hown8;have HG8:=ħ hgr8;have HA8:=ħ hat8;clear hown8 hgr8 hat8)
   have O8:=OE.push (n:=e4.length) HO.out b7 hsw R7.out (Nat.le_refl _) HG8.out (by rw[List.take_length];exact HO8.out) HA8.out
   rw[List.take_length] at O8
   have hl8:(e4 ++ [(⟨xt,xk,A6,c6,xb⟩:EV)]).length=e4.length+1:=by simp
   refine ⟨⟨i+1,A8,c8,_,hlt,by go_num,by rw[hl8],O8,by rw[List.map_append,HME.out,HTK.out];rfl,?_⟩,by simp[intOf];omega⟩
   exact ((HBW.out.trans (b7.mono hsw)).alloc (Nat.le_trans hsw hs7) _).grown HG8.out (Nat.le_trans (Nat.le_trans hsw hs7) (by simp)) (fun k hk=>(HO.out.o.lt k hk).1)
  ·have hge:¬ (i:Int)<(es.length:Int):=by omega
   have hie:es.take i=es:=List.take_of_length_le (by omega)
   have HIE:=ħ hie
   have k1:=g1.below hbw g1.lt
   have k2:=g2.below hbw g2.lt
   clear q0 q1 q2 hie
   obtain ⟨q0,q1,q2⟩:=k1.facts
   go_upto_region 9 with fail
   have k3:Blk (wr.setCell ⟨w.heap.size,8,none⟩ (.slice A4 e4.length c4)) w.heap.size 99 (mvC kind frm tt term prev pterm commit granted A4 e4.length c4):=k1.set_ 8 (.slice A4 e4.length c4)
   have k4:=k2.far (p:=⟨w.heap.size,8,none⟩) (by show w.heap.size+1≠w.heap.size;omega) (.slice A4 e4.length c4)
   have ES3:=ħ (HO.out.toES.fr (S:=fun k=>k=w.heap.size) ((Fr.refl (fun k=>k=w.heap.size) wr).setCell (p:=⟨w.heap.size,8,none⟩) (.inl rfl) (.slice A4 e4.length c4)) (fun k hk e=>by omega))
   have B3:=ħ ((HB1.out.trans (hbw.mono HB1.out.size)).setCell (p:=⟨w.heap.size,8,none⟩) (Nat.le_refl _) (.slice A4 e4.length c4))
   have hcap:=HO.out.cap
   clear q0 q1 q2
   generalize wr.setCell ⟨w.heap.size,8,none⟩ (.slice A4 e4.length c4)=W3 at *
   obtain ⟨q0,q1,q2⟩:=k3.facts
   obtain ⟨p0,p1,p2⟩:=k4.facts
   go_wp2_with fail
   refine bodyPost_ret (v:=.agg (mvC kind frm tt term prev pterm commit granted A4 e4.length c4)) (by simp[results,Tryz.results40,go_sem,p1]) rfl ⟨A4,c4,e4,rfl,by rw[HME.out,HIE.out],?_,hcap,?_⟩
   ·exact (ES3.out.fr (S:=fun k=>k=w.heap.size+1) ((((((((((Fr.refl (fun k=>k=w.heap.size+1) W3).setCell (p:=⟨w.heap.size+1,0,none⟩) (.inl rfl) _).setCell (p:=⟨w.heap.size+1,1,none⟩) (.inl rfl) _).setCell (p:=⟨w.heap.size+1,2,none⟩) (.inl rfl) _).setCell (p:=⟨w.heap.size+1,3,none⟩) (.inl rfl) _).setCell (p:=⟨w.heap.size+1,4,none⟩) (.inl rfl) _).setCell (p:=⟨w.heap.size+1,5,none⟩) (.inl rfl) _).setCell (p:=⟨w.heap.size+1,6,none⟩) (.inl rfl) _).setCell (p:=⟨w.heap.size+1,7,none⟩) (.inl rfl) _).setCell (p:=⟨w.heap.size+1,8,none⟩) (.inl rfl) _) (fun k hk e=>by omega)).more (fun k hk=>Nat.le_trans HB1.out.size hk)
   ·exact (((((((((B3.out.setCell (p:=⟨w.heap.size+1,0,none⟩) (Nat.le_succ _) _).setCell (p:=⟨w.heap.size+1,1,none⟩) (Nat.le_succ _) _).setCell (p:=⟨w.heap.size+1,2,none⟩) (Nat.le_succ _) _).setCell (p:=⟨w.heap.size+1,3,none⟩) (Nat.le_succ _) _).setCell (p:=⟨w.heap.size+1,4,none⟩) (Nat.le_succ _) _).setCell (p:=⟨w.heap.size+1,5,none⟩) (Nat.le_succ _) _).setCell (p:=⟨w.heap.size+1,6,none⟩) (Nat.le_succ _) _).setCell (p:=⟨w.heap.size+1,7,none⟩) (Nat.le_succ _) _).setCell (p:=⟨w.heap.size+1,8,none⟩) (Nat.le_succ _) _)
abbrev stC (kd wh nn:Nat)(A:Option Addr)(n c:Nat):Array Value:=#[.int .u8 (kd:Int),.int .u8 (wh:Int),.int .u8 (nn:Int),.slice A n c]
structure CK (w:World) (cc:Nat→Nat) (g:Nat) (C:Cl) (K:List NQ) (fo:Ms) (Am:Option Addr) (cm:Nat) (Ap:Option Addr) (cp:Nat) (At:Option Addr) (ct:Nat) (Al:Option Addr) (cl:Nat) (mv:List MV) (b:Nat) (cs:Array Value) (W:World) (c1:Nat→Nat):Prop where
 z:CZ W c1 g C K fo Am cm Ap cp At ct Al cl mv
 ag:∀ k,k<w.heap.size→c1 k=cc k
 fr:Fr (fun k=>cc k≠0∧cc k≠101) w W
 k:Blk W b 48 cs
 zb:c1 b=0
section
variable {w W W2:World} {cc c1:Nat→Nat} {g b:Nat} {C:Cl} {K:List NQ} {fo:Ms} {Am Ap At Al:Option Addr} {cm cp ct cl:Nat} {mv:List MV} {cs:Array Value}
theorem CK.below (h:CK w cc g C K fo Am cm Ap cp At ct Al cl mv b cs W c1)(hb:Below W.heap.size W W2):CK w cc g C K fo Am cm Ap cp At ct Al cl mv b cs W2 c1:=
 ⟨h.z.fr (S:=fun _=>False) (Fr.of_below hb) (fun _ _ e=>e),h.ag,h.fr.trans (Fr.of_below hb),h.k.below hb h.k.lt,h.zb⟩
theorem CK.start (h:CZ w cc g C K fo Am cm Ap cp At ct Al cl mv):CK w cc g C K fo Am cm Ap cp At ct Al cl mv w.heap.size cs (w.alloc (.cells cs 48)) cc:=
 ⟨h.fr (S:=fun _=>False) (Fr.of_below ((Below.refl _ _).alloc (Nat.le_refl _) _)) (fun _ _ e=>e),fun _ _=>rfl,Fr.of_below ((Below.refl _ _).alloc (Nat.le_refl _) _),Blk.new w 48 cs,by
  cases hc:cc w.heap.size with
  | zero=>rfl
  | succ n=>have:=h.lt w.heap.size (by omega);omega⟩
theorem CK.cb (h:CK w cc g C K fo Am cm Ap cp At ct Al cl mv b cs W c1):CB w cc g C fo W c1:=⟨⟨K,Am,cm,Ap,cp,At,ct,Al,cl,mv,h.z⟩,h.ag,h.fr⟩
end
theorem tmod_nat' (a b:Nat):(a:Int).tmod (b:Int)=((a % b:Nat):Int):=by
 rw[Int.tmod_eq_emod_of_nonneg (by omega)];rfl
theorem own_put {w:World}{base:Nat}{e:TypeId}{A:Option Addr}{n c:Nat}{xs:List Value}(h:w.ownsRow base e 1 (.slice A n c) n xs){i:Nat}(hi:i<n)(v:Value):(w.setCell ⟨bk A,ofs A+i,none⟩ v).ownsRow base e 1 (.slice A n c) n (xs.set i v):=by
 refine ⟨by rw[List.length_set];exact h.1,?_⟩
 rcases h.2 with ⟨h0,h1⟩ | ⟨g',cap,cur,hv,hb,hg,hnc,hcm,hsz,htk⟩
 ·omega
 ·injection hv with h1 h2 h3
  subst h1 h3
  have hg':Blk w g' e cur:=hg
  have h4:=hg'.set_ i v
  refine .inr ⟨g',c,cur.setIfInBounds i v,rfl,hb,?_,hnc,hcm,by rw[Array.size_setIfInBounds];exact hsz,?_⟩
  ·have e0:(⟨bk (some ⟨g',0,none⟩),ofs (some ⟨g',0,none⟩)+i,none⟩:Addr)=⟨g',i,none⟩:=by simp[bk,ofs,adr]
   rw[e0];exact h4
  ·rw[Array.toList_setIfInBounds,Nat.mul_one,List.take_set,←htk,Nat.mul_one]
theorem bk_own {w:World}{base:Nat}{e:TypeId}{A:Option Addr}{sz n c:Nat}{xs:List Value}(h:w.ownsRow base e sz (.slice A n c) n xs)(hn:0<n):(Value.slice A n c).ownBlock=some (bk A):=by
 rcases h.2 with ⟨h0,h1⟩ | ⟨g',cap,cur,hv,hb,hg,hnc,hcm,hsz,htk⟩
 ·omega
 ·injection hv with h1 h2 h3
  subst h1
  rfl
section
variable {w w':World} {cc:Nat→Nat} {g:Nat} {C:Cl} {K:List NQ} {fo:Ms} {Am Ap At Al:Option Addr} {cm cp ct cl:Nat} {mv:List MV}
theorem CZ.renew (h:CZ w cc g C K fo Am cm Ap cp At ct Al cl mv){i:Nat}{x:NQ}(hx:K[i]?=some x)(hi:i<90){p v j l:Nat}{s':Nd}{col':Nat→Nat}(hn:NS w' col' p v j l x.f s' false [])(hc:Clean col')(hsp:∀ k,col' k≠0→k=x.f∨(x.col k=3∧k<w.heap.size)∨w.heap.size≤k)(hfr:Fr (fun k=>k=x.f∨x.col k=3) w w') :
 ∃ c1,CZ (w'.setCell ⟨bk Ap,ofs Ap+i,none⟩ (.pointer (some ⟨p,0,none⟩))) c1 g { C with nd:=C.nd.set i s' } (K.set i ⟨p,v,j,l,x.f,col',s'⟩) fo Am cm Ap cp At ct Al cl mv∧(∀ k,k<w.heap.size→c1 k=cc k)∧Fr (fun k=>cc k≠0∧cc k≠101) w (w'.setCell ⟨bk Ap,ofs Ap+i,none⟩ (.pointer (some ⟨p,0,none⟩))):=by
 classical
 obtain ⟨a1,a2,a3⟩:=h.n i x hx
 have hil:=(List.getElem?_eq_some_iff.1 hx).1
 have hf3:x.col x.f=3:=by
  obtain ⟨_,_,_,_,_,_,hz,_⟩:=a1
  obtain ⟨A,c,Ar,cr,As,cs,rs,h1,h2⟩:=hz.js
  exact h1.zp
 have hS:∀ k,(k=x.f∨x.col k=3)→cc k=2+i:=fun k hk=>by
  rcases hk with e | e
  ·rw[e];exact a3 _ (by rw[hf3];decide)
  ·exact a3 k (by rw[e];decide)
 have hbk:=bk_own h.op (by omega)
 have hbc:=h.pc _ hbk
 obtain ⟨c1,k1,k2,k3⟩:∃ c1:Nat→Nat,(∀ k,k<w.heap.size→c1 k=cc k)∧(∀ k,w.heap.size≤k→c1 k=if col' k=0 then 0 else 2+i)∧(∀ k,c1 k≠0→k<w'.heap.size):=by
  refine ⟨fun k=>if w.heap.size≤k then (if col' k=0 then 0 else 2+i) else cc k,fun k hk=>if_neg (by omega),fun k hk=>if_pos hk,fun k hk=>?_⟩
  simp only at hk
  split at hk
  ·split at hk
   ·exact absurd rfl hk
   ·rename_i e;exact hn.lt k e
  ·exact Nat.lt_of_lt_of_le (h.lt k hk) hfr.size
 have ne:∀ k,cc k≠2+i→¬ (k=x.f∨x.col k=3):=fun k hk e=>hk (hS k e)
 have one:∀ k,cc k=1→¬ (k=x.f∨x.col k=3):=fun k hk=>ne k (by rw[hk];omega)
 have b5:=h.b.fr hfr (one g h.gc)
 have om5:=own_fr h.om hfr (fun k hk=>one k (h.mc k hk))
 have op5:=own_fr h.op hfr (fun k hk=>one k (h.pc k hk))
 have ot5:=own_fr h.ot hfr (fun k hk=>one k (h.tc k hk))
 have ol5:=own_fr h.ol hfr (fun k hk=>one k (h.lc k hk))
 obtain ⟨bcs,bop⟩:∃ cs,Blk w' (bk Ap) 31 cs:=by
  rcases op5.2 with ⟨h0,h1⟩ | ⟨g',cap,cur,hv,hb,hg,_⟩
  ·omega
  ·injection hv with h1 h2 h3
   subst h1
   exact ⟨cur,hg⟩
 have f6:Fr (fun k=>k=bk Ap) w' (w'.setCell ⟨bk Ap,ofs Ap+i,none⟩ (.pointer (some ⟨p,0,none⟩))):=(Fr.refl (fun k=>k=bk Ap) w').setCell (p:=⟨bk Ap,ofs Ap+i,none⟩) (.inl rfl) _
 have f7:Fr (fun k=>(k=x.f∨x.col k=3)∨k=bk Ap) w (w'.setCell ⟨bk Ap,ofs Ap+i,none⟩ (.pointer (some ⟨p,0,none⟩))):=(hfr.mono (fun k _ hk=>Or.inl hk)).trans (f6.mono (fun k _ hk=>Or.inr hk))
 have n7:∀ k,cc k≠2+i→cc k≠1→¬ ((k=x.f∨x.col k=3)∨k=bk Ap):=fun k h1 h2 e=>e.elim (ne k h1) (fun e=>h2 (by rw[e];exact hbc))
 have hl:(K.set i ⟨p,v,j,l,x.f,col',s'⟩).length=K.length:=List.length_set
 have hp2:(K.set i (⟨p,v,j,l,x.f,col',s'⟩:NQ)).map (fun x=>(Value.pointer (some ⟨x.f,0,none⟩)))=K.map (fun x=>(Value.pointer (some ⟨x.f,0,none⟩))):=by
  rw[List.map_set]
  refine List.ext_getElem? (fun k=>?_)
  rw[List.getElem?_set]
  split
  ·rename_i e;subst e;rw[List.length_map,if_pos hil,List.getElem?_map,hx];rfl
  ·rfl
 have gne:g≠bk Ap:=fun e=>own_ne h.op h.b (by decide) _ hbk e.symm
 refine ⟨c1,⟨by rw[hl];exact b5.far (p:=⟨bk Ap,ofs Ap+i,none⟩) gne _,by rw[k1 g h.b.lt];exact h.gc,by rw[hl];exact own_set om5 (p:=⟨bk Ap,ofs Ap+i,none⟩) (own_ne om5 bop (by decide)) _,by rw[hl,List.map_set];exact own_put op5 hil _,by rw[hl,hp2];exact own_set ot5 (p:=⟨bk Ap,ofs Ap+i,none⟩) (own_ne ot5 bop (by decide)) _,own_set ol5 (p:=⟨bk Ap,ofs Ap+i,none⟩) (own_ne ol5 bop (by decide)) _,fun k hk=>by rw[hl] at hk;rw[k1 k (own_lt h.om hk)];exact h.mc k hk,fun k hk=>by rw[hl] at hk;rw[k1 k (own_lt h.op hk)];exact h.pc k hk,fun k hk=>by rw[hl] at hk;rw[k1 k (own_lt h.ot hk)];exact h.tc k hk,fun k hk=>by rw[k1 k (own_lt h.ol hk)];exact h.lc k hk,⟨?_,?_,h.fo.ol,h.fo.nl⟩,?_,h.ms,?_,?_,fun k hk=>by have:=k3 k hk;simpa using this⟩,k1,f7.mono (fun k _ hk=>?_)⟩
 ·exact (h.fo.o.fr f7 (fun k hk=>n7 k (by rw[hk];omega) (by rw[hk];decide))).more (fun k hk=>by rw[k1 k (h.lt k (by rw[hk];decide))];exact hk)
 ·exact (h.fo.n.fr f7 (fun k hk=>n7 k (by rw[hk];omega) (by rw[hk];decide))).more (fun k hk=>by rw[k1 k (h.lt k (by rw[hk];decide))];exact hk)
 ·show (K.set i _).map _=C.nd.set i s'
  rw[List.map_set,h.nd]
 ·exact (h.mb.old.fr f7 (fun k hk=>n7 k (by rw[hk.1];omega) (by rw[hk.1];decide))).more (fun k hk=>by rw[k1 k hk.2];exact hk.1)
 ·intro m y hy
  by_cases e:i=m
  ·subst e
   rw[List.getElem?_set_self hil] at hy
   injection hy with hy
   subst hy
   refine ⟨hn.fr f6 (fun k hk e=>?_),hc,fun k hk=>?_⟩
   ·rcases hsp k hk with h1 | h1 | h1
    ·have:=hS k (.inl h1);rw[e,hbc] at this;omega
    ·have:=hS k (.inr h1.1);rw[e,hbc] at this;omega
    ·have:=own_lt h.op hbk;omega
   ·rcases Nat.lt_or_ge k w.heap.size with h1 | h1
    ·rw[k1 k h1]
     rcases hsp k hk with h2 | h2 | h2
     ·exact hS k (.inl h2)
     ·exact hS k (.inr h2.1)
     ·omega
    ·rw[k2 k h1,if_neg hk]
  ·rw[List.getElem?_set_ne e] at hy
   obtain ⟨b1,b2,b3⟩:=h.n m y hy
   exact ⟨b1.fr f7 (fun k hk=>n7 k (by rw[b3 k hk];omega) (by rw[b3 k hk];omega)),b2,fun k hk=>by rw[k1 k (b1.lt k hk)];exact b3 k hk⟩
 ·rcases hk with e | e
  ·rw[hS k e];omega
  ·rw[e,hbc];decide
end
theorem info26p:(Tryz.prog.info? 26).map (fun i=>(i.zero,i.size,i.bytes))=some (some (.agg #[.int .i64 0,.slice none 0 0,.slice none 0 0,.int .i64 0,.int .i64 0,.int .i64 0]),6,80):=by kernel_rfl
theorem i26x:∃ i,Tryz.prog.info? 26=some i∧i.size=6:=by obtain ⟨i,h,_,h2,_⟩:=info_parts info26p;exact ⟨i,h,h2⟩
theorem ix50 {A:Option Addr}{n:Nat}(hA:Plain A n)(c k:Nat)(hk:k<n)(w:World):(Instr.indexAt 50 (.slice A n c) (.int .i64 (k:Int))).run Tryz.prog w=.ok (.pointer (some ⟨bk A,ofs A+k * 6,none⟩)) w:=by
 obtain ⟨i,hi,hi1⟩:=i26x
 exact run_indexAt2 (P:=Tryz.prog) Tryz.underlying50 hi hi1 hA c k hk w
theorem info36p:(Tryz.prog.info? 36).map (fun i=>(i.zero,i.size,i.bytes))=some (some (.pointer none),1,8):=by kernel_rfl
theorem i36x:∃ i,Tryz.prog.info? 36=some i∧i.size=1:=by obtain ⟨i,h,_,h2,_⟩:=info_parts info36p;exact ⟨i,h,h2⟩
theorem ix52 {A:Option Addr}{n:Nat}(hA:Plain A n)(c k:Nat)(hk:k<n)(w:World):(Instr.indexAt 52 (.slice A n c) (.int .i64 (k:Int))).run Tryz.prog w=.ok (.pointer (some ⟨bk A,ofs A+k,none⟩)) w:=by
 obtain ⟨i,hi,hi1⟩:=i36x
 have:=run_indexAt2 (P:=Tryz.prog) Tryz.underlying52 hi hi1 hA c k hk w
 rwa [Nat.mul_one] at this
theorem md_at {w:World}{B:Nat→Prop}{A:Option Addr}{fo:Ms}{n:Nat}(h:Reads w B 6 A n ((List.range n).flatMap (mdR fo))){i:Nat}(hi:i<n)(j:Nat)(hj:j<6):w.cell? ⟨bk A,ofs A+i * 6+j,none⟩=(mdR fo i)[j]?:=by
 rw[Nat.add_assoc,h.cell2 (i * 6+j) (by omega) (by omega)]
 exact flat_get (mdR fo) 6 (mdR_len fo) (List.range n) i j i (by rw[List.getElem?_range hi]) hj
theorem md_all {w:World}{B:Nat→Prop}{A:Option Addr}{fo:Ms}{n:Nat}(h:Reads w B 6 A n ((List.range n).flatMap (mdR fo))){i:Nat}(hi:i<n) :
 w.cell? ⟨bk A,ofs A+i * 6,none⟩=some (.int .i64 (i:Int))∧w.cell? ⟨bk A,ofs A+i * 6+1,none⟩=some (.slice fo.A fo.o.length fo.c)∧w.cell? ⟨bk A,ofs A+i * 6+2,none⟩=some (.slice fo.A' fo.n.length fo.c')∧w.cell? ⟨bk A,ofs A+i * 6+3,none⟩=some (.int .i64 (8+2 * (i:Int)))∧w.cell? ⟨bk A,ofs A+i * 6+4,none⟩=some (.int .i64 2)∧w.cell? ⟨bk A,ofs A+i * 6+5,none⟩=some (.int .i64 0):=
 ⟨md_at h hi 0 (by decide),md_at h hi 1 (by decide),md_at h hi 2 (by decide),md_at h hi 3 (by decide),md_at h hi 4 (by decide),md_at h hi 5 (by decide)⟩
section
variable {w w' W:World} {cc c1:Nat→Nat} {g b:Nat} {C:Cl} {K:List NQ} {fo:Ms} {Am Ap At Al:Option Addr} {cm cp ct cl:Nat} {mv:List MV} {cs:Array Value}
theorem CZ.setnow (h:CZ w cc g C K fo Am cm Ap cp At ct Al cl mv)(t:Int):CZ (w.setCell ⟨g,4,none⟩ (.int .i64 t)) cc g { C with now:=t } K fo Am cm Ap cp At ct Al cl mv∧Fr (fun k=>cc k≠0∧cc k≠101) w (w.setCell ⟨g,4,none⟩ (.int .i64 t)):=by
 have f6:Fr (fun k=>k=g) w (w.setCell ⟨g,4,none⟩ (.int .i64 t)):=(Fr.refl (fun k=>k=g) w).setCell (p:=⟨g,4,none⟩) (.inl rfl) _
 have n7:∀ k,cc k≠1→¬ (k=g):=fun k hk e=>hk (by rw[e];exact h.gc)
 refine ⟨⟨h.b.set_ 4 (.int .i64 t),h.gc,own_set h.om (own_ne h.om h.b (by decide)) _,own_set h.op (own_ne h.op h.b (by decide)) _,own_set h.ot (own_ne h.ot h.b (by decide)) _,own_set h.ol (own_ne h.ol h.b (by decide)) _,h.mc,h.pc,h.tc,h.lc,h.fo.fr f6 (fun k hk=>n7 k (by rw[hk];decide)),h.nd,h.ms,h.mb.fr f6 (fun k hk=>n7 k (by rw[hk];decide)),fun i x hx=>⟨(h.n i x hx).1.fr f6 (fun k hk=>n7 k (by rw[(h.n i x hx).2.2 k hk];omega)),(h.n i x hx).2⟩,fun k hk=>by have:=h.lt k hk;simpa using this⟩,f6.mono (fun k _ hk=>by rw[hk,h.gc];decide)⟩
theorem CK.setnow (h:CK w cc g C K fo Am cm Ap cp At ct Al cl mv b cs W c1)(t:Int):CK w cc g { C with now:=t } K fo Am cm Ap cp At ct Al cl mv b cs (W.setCell ⟨g,4,none⟩ (.int .i64 t)) c1:=
 ⟨(h.z.setnow t).1,h.ag,fr_hot h.fr h.ag (h.z.setnow t).2,h.k.fr (h.z.setnow t).2 (fun e=>e.1 h.zb),h.zb⟩
theorem CB.node {W W2:World}{c1:Nat→Nat}(h:CZ W c1 g C K fo Am cm Ap cp At ct Al cl mv){i:Nat}{x:NQ}(hx:K[i]?=some x)(hi:i<90){s':Nd}{col':Nat→Nat}(hb:NB W x.col x.p x.v x.j x.l x.f s' false [] W2 col')(hc:Clean col'):∃ c2,CZ W2 c2 g { C with nd:=C.nd.set i s' } (K.set i ⟨x.p,x.v,x.j,x.l,x.f,col',s'⟩) fo Am cm Ap cp At ct Al cl mv∧(∀ k,k<W.heap.size→c2 k=c1 k)∧Fr (fun k=>c1 k≠0∧c1 k≠101) W W2∧(∀ k,W.heap.size≤k→col' k=0→c2 k=0):=h.node hx hi hb hc
end
theorem step15_0 (w:World)(cc:Nat→Nat)(g:Nat)(C:Cl)(fo:Ms)(h:CS w cc g C fo){c0:Mb}{G:Gh}{k:Nat}(hw:CW c0 k C)(hI:CInv c0 G C)(hc0:c0=⟨fo.o,fo.n⟩)(hk:k≤1400)(kd wh nn:Nat)(A:Option Addr)(b:List Int)(c:Nat)(hkd:kd<256)(hwh:wh<256)(hnn:nn<256)(hnd:0<C.nd.length∧C.nd.length≤9)(hr:kd % 8=0) :
 Calls Tryz.prog 15 #[.pointer (some ⟨g,0,none⟩),.agg (stC kd wh nn A b.length c)] w fun e w'=>e=.returned (.bool true)∧∃ c1,CB w cc g (C.step kd wh nn b) fo w' c1:=by
 obtain ⟨K,Am,cm,Ap,cp,At,ct,Al,cl,mv,hz⟩:=h
 have HKL:=ħ hz.nd_len
 have HML:=ħ hz.ms_len
 have hk9:K.length≤9:=by have:=HKL.out;omega
 have hk0:0<K.length:=by have:=HKL.out;omega
 have hmv:mv.length≤200:=by have:=HML.out;have:=hw.l;omega
 have K1:=ħ (CK.start (cs:=stC kd wh nn A b.length c) hz)
 have HLT:=ħ hz.lt
 have HW:=ħ hw
 have HTM:=ħ fun (i:Nat) (s:Nd) (hs:C.nd[i]?=some s) (hr:s.role=3)=>hI.tm hs hr
 have HND:=ħ hnd
 clear hz hw hnd hI
 obtain ⟨u,hu⟩:∃ u,u=wh % K.length:=⟨_,rfl⟩
 have HU:=ħ hu
 have hul:u<K.length:=by rw[hu];exact Nat.mod_lt _ hk0
 have hrm:Int.tmod (wh:Int) (K.length:Int)=(u:Int):=by rw[tmod_nat',hu]
 have hk0i:(0:Int)<(K.length:Int):=by omega
 have hk0n:¬ ((K.length:Int)=0):=by omega
 have hwh':IntKind.i64.wrap (wh:Int)=(wh:Int):=IntWalk.i64_in _ (by omega)
 have hu':IntKind.i64.wrap (u:Int)=(u:Int):=IntWalk.i64_in _ (by omega)
 have hr8:Int.tmod (kd:Int) 8=0:=by rw[show (8:Int)=((8:Nat):Int) from rfl,tmod_nat',hr];rfl
 obtain ⟨xq,hxq⟩:∃ x,K[u]?=some x:=⟨_,List.getElem?_eq_getElem hul⟩
 have HSTEP:=ħ (show C.nd[wh % C.nd.length]?=some xq.s∧wh % C.nd.length=u from by
  have h1:wh % C.nd.length=u:=by rw[hu,HKL.out]
  rw[h1,←K1.out.z.nd,List.getElem?_map,hxq]
  exact ⟨rfl,rfl⟩)
 have HXQ:=ħ hxq
 clear hu hxq
 go_enter Tryz.func15,Tryz.ntmps15
 go_upto_region 1 with fail
 generalize w.alloc (.cells (stC kd wh nn A b.length c) 48)=W1 at *
 have y0:W1.cell? ⟨w.heap.size,1,none⟩=some (.int .u8 (wh:Int)):=K1.out.k.cell 1
 have y1:=K1.out.z.x.2.2.2.1
 have y2:=K1.out.z.x.1
 have y3:=K1.out.k.lt
 go_quiet (fail)
 have K2:=ħ (K1.out.below (below_drewN (Below.refl _ _) nq))
 generalize W1.drewN nq=W2 at *
 clear y0 y1 y2 y3 K1
 obtain ⟨x0,xf,x1,x2,x3,x4,x5,x6⟩:=K2.out.z.x
 obtain ⟨q0,q1,q2⟩:=K2.out.k.facts
 clear hrm hwh'
 go_upto_if 29 with fail
 go_cut [6] (fun vx wx=>∃ ix:Nat,vx=.int .i64 (ix:Int)∧(0<mv.length→ix=nn % mv.length)∧CK w cc g C K fo Am cm Ap cp At ct Al cl mv w.heap.size (stC kd wh nn A b.length c) wx cc)
 case first=>
  by_cases hm0:0<mv.length
  ·obtain ⟨ix,hix⟩:∃ ix,ix=nn % mv.length:=⟨_,rfl⟩
   have HIX:=ħ hix
   have hixl:ix<mv.length:=by rw[hix];exact Nat.mod_lt _ hm0
   have hrm2:Int.tmod (nn:Int) (mv.length:Int)=(ix:Int):=by rw[tmod_nat',hix]
   have hm0i:(0:Int)<(mv.length:Int):=by omega
   have hm0n:¬ ((mv.length:Int)=0):=by omega
   have hnn':IntKind.i64.wrap (nn:Int)=(nn:Int):=IntWalk.i64_in _ (by omega)
   have hix':IntKind.i64.wrap (ix:Int)=(ix:Int):=IntWalk.i64_in _ (by omega)
   clear hix hr8
   go_upto_region 4 with fail
   go_quiet (fail)
   go_wp2_with fail
   go_meet
   exact ⟨ix,rfl,fun _=>HIX.out,K2.out.below (below_drewN (Below.refl _ _) _)⟩
  ·have hm0i:¬ (0:Int)<(mv.length:Int):=by omega
   clear hr8
   go_wp2_with fail
   go_meet
   exact ⟨0,rfl,fun h=>absurd h hm0,K2.out⟩
 case rest=>
  obtain ⟨ix,rfl,hixx,hk3⟩:=hcut
  have K3:=ħ hk3
  have HIX:=ħ hixx
  clear hk3 hixx K2 x0 xf x1 x2 x3 x4 x5 x6 q0 q1 q2
  obtain ⟨x0,xf,x1,x2,x3,x4,x5,x6⟩:=K3.out.z.x
  obtain ⟨q0,q1,q2⟩:=K3.out.k.facts
  go_upto_region 7 with fail
  clear hr8 hu'
  obtain ⟨xp,xv,xj,xl,xf',xcol,xs⟩:=xq
  have hxs:C.nd[u]?=some xs:=by rw[←HSTEP.out.2];exact HSTEP.out.1
  have HNW:=ħ (HW.out.n u xs hxs)
  obtain ⟨m,hm⟩:∃ m,m=nn % 8:=⟨_,rfl⟩
  have hml:m<8:=by rw[hm];exact Nat.mod_lt _ (by decide)
  have hm8:Int.tmod (nn:Int) 8=(m:Int):=by rw[show (8:Int)=((8:Nat):Int) from rfl,tmod_nat',hm]
  have hwm:IntKind.i64.wrap (m:Int)=(m:Int):=IntWalk.i64_in _ (by omega)
  have hct:=HW.out.t
  obtain ⟨t,ht⟩:∃ t:Int,t=C.now+(m:Int):=⟨_,rfl⟩
  have hws:IntKind.i64.wrap (C.now+(m:Int))=t:=by rw[IntWalk.i64_in _ (by omega),ht]
  have HST:=ħ (show C.step kd wh nn b=({ C with now:=t }:Cl).put u (xs.tick t) from by
   unfold Cl.step
   rw[HSTEP.out.1,HSTEP.out.2]
   simp only[hr]
   rw[←hm,←ht])
  have hk3:=K3.out.k.lt
  have hg3:=K3.out.z.b.lt
  have qc:wc.cell? ⟨w.heap.size,2,none⟩=some (.int .u8 (nn:Int)):=K3.out.k.cell 2
  clear hct ht hm hxs x1 x3 x4 hk0i hk0n
  go_cut [] (fun wx=>CK w cc g { C with now:=t } K fo Am cm Ap cp At ct Al cl mv w.heap.size (stC kd wh nn A b.length c) wx cc)
  case first=>
   go_region
   all_goals
    go_wp2_with fail
    go_meet
    exact (K3.out.setnow t).below (Below.refl _ _).drew
  case rest=>
   have K4:=ħ hcut
   clear hcut K3 x0 xf x2 x5 x6 q0 q1 q2 qc hm8 hwm hws hk3 hg3
   obtain ⟨hns,hcl,hcl2⟩:=K4.out.z.n u _ HXQ.out
   have Kd:=ħ (K4.out.below (Below.refl _ _).drew)
   obtain ⟨x0,xf,x1,x2,x3,x4,x5,x6⟩:=K4.out.z.x
   clear x0 x1 x2 x3 x4 x5 x6
   have hPp:=((Reads.of_own K4.out.z.op).plain (by omega))
   have hixp:=fun W=>ix51 hPp cp u hul W
   have H25:=ħ (show Calls Tryz.prog 25 #[.pointer (some ⟨xp,0,none⟩),.int .i64 t] wc.drew (TP wc.drew xcol xp xv xj xl xf' (xs.tick t)) from tick25 wc.drew xcol xp xv xj xl xf' xs (hns.below (Below.refl _ _).drew) hcl HNW.out.w (by omega) t)
   have HKS:=ħ fun W c2 C2 K2 A' c' mv' (z:CZ W c2 g C2 K2 fo Am cm Ap cp At ct A' c' mv') (e1:C2.now=t) (e2:K2.length=K.length) (e3:(K2.map fun x=>(Value.pointer (some ⟨x.p,0,none⟩)))[u]?=some (.pointer (some ⟨xp,0,none⟩)))=>(show (W.cell? ⟨g,1,none⟩=some (.slice Ap K.length cp))∧(W.cell? ⟨bk Ap,ofs Ap+u,none⟩=some (.pointer (some ⟨xp,0,none⟩)))∧(W.cell? ⟨g,4,none⟩=some (.int .i64 t)) from
    ⟨by rw[z.x.2.2.2.1,e2],(by
     have h1:=Reads.of_own z.op
     rw[(h1.cell2 u (by omega) (by omega))]
     exact e3),by rw[z.x.2.2.2.2.2.2.1,e1]⟩)
   have hp3:(K.map fun x=>(Value.pointer (some ⟨x.p,0,none⟩)))[u]?=some (.pointer (some ⟨xp,0,none⟩)):=by rw[List.getElem?_map,HXQ.out];rfl
   have S5:=HKS.out wc cc _ K _ _ _ K4.out.z rfl rfl hp3
   have HSL:=ħ (KP.tick xs t).2.1
   have HCL:=ħ HW.out.l
   have HP3:=ħ hp3
   clear hns hcl hcl2 hp3
   generalize xs.tick t=R at *
   go_upto_region 8 with fail
   go_region_held (fun W=>(W.cell? ⟨g,1,none⟩=some (.slice Ap K.length cp))∧(W.cell? ⟨bk Ap,ofs Ap+u,none⟩=some (.pointer (some ⟨xp,0,none⟩)))∧(W.cell? ⟨g,4,none⟩=some (.int .i64 t))) (first | assumption | exact S5) (first
    | (((with_reducible refine H25.out.mono ?_);rintro e w6 ⟨A6,c6,ms6,col6,rfl,hm6,hM6,hb6,hc6⟩;obtain ⟨c7,hz7,ag7,fr7,z7⟩:=CB.node Kd.out.z HXQ.out (by omega) hb6 hc6;have S7:=HKS.out w6 c7 _ _ _ _ _ hz7 rfl List.length_set (by rw[List.map_set];exact set_same HP3.out);have hms6:ms6.length≤1000:=by { have h1:=HSL.out;rw[←hm6,List.length_map] at h1;omega };have H38:=ħ (send38 w6 c7 g _ _ fo Am cm Ap cp At ct _ _ _ hz7 _ A6 c6 ms6 hM6 (fun k hk=>z7 k hk.1 hk.2) HCL.out hms6);have CB7:=ħ (show CB wc.drew cc g _ fo w6 c7 from ⟨⟨_,_,_,_,_,_,_,_,_,_,hz7⟩,ag7,fr7⟩);have HM6:=ħ hm6;clear hz7 hM6 hb6 hc6 z7 hm6))
    | (((with_reducible refine H38.out.mono ?_);rintro e w8 ⟨rfl,c8,hls8⟩;obtain ⟨⟨A8,c8',mv8,hz8⟩,ag8,fr8⟩:=hls8;have S8:=HKS.out w8 c8 _ _ _ _ _ hz8 rfl List.length_set (by rw[List.map_set];exact set_same HP3.out);have CB8:=ħ (show CB w6 c7 g _ fo w8 c8 from ⟨⟨_,_,_,_,_,_,_,_,_,_,hz8⟩,ag8,fr8⟩);clear hz8 ag8 fr8)))
   all_goals
    go_wp2_with fail
    go_ret
    refine ⟨rfl,c8,?_⟩
    have e9:({ C with now:=t }:Cl).put u R=Cl.send { nd:=C.nd.set u R.1,ms:=C.ms,now:=t } (ms6.map MV.m):=by rw[HM6.out];rfl
    rw[HST.out,e9]
    exact ((Kd.out.cb).trans CB7.out).trans CB8.out
theorem step15_1 (w:World)(cc:Nat→Nat)(g:Nat)(C:Cl)(fo:Ms)(h:CS w cc g C fo){c0:Mb}{G:Gh}{k:Nat}(hw:CW c0 k C)(hI:CInv c0 G C)(hc0:c0=⟨fo.o,fo.n⟩)(hk:k≤1400)(kd wh nn:Nat)(A:Option Addr)(b:List Int)(c:Nat)(hkd:kd<256)(hwh:wh<256)(hnn:nn<256)(hnd:0<C.nd.length∧C.nd.length≤9)(hr:kd % 8=1) :
 Calls Tryz.prog 15 #[.pointer (some ⟨g,0,none⟩),.agg (stC kd wh nn A b.length c)] w fun e w'=>e=.returned (.bool true)∧∃ c1,CB w cc g (C.step kd wh nn b) fo w' c1:=by
 obtain ⟨K,Am,cm,Ap,cp,At,ct,Al,cl,mv,hz⟩:=h
 have HKL:=ħ hz.nd_len
 have HML:=ħ hz.ms_len
 have hk9:K.length≤9:=by have:=HKL.out;omega
 have hk0:0<K.length:=by have:=HKL.out;omega
 have hmv:mv.length≤200:=by have:=HML.out;have:=hw.l;omega
 have K1:=ħ (CK.start (cs:=stC kd wh nn A b.length c) hz)
 have HLT:=ħ hz.lt
 have HW:=ħ hw
 have HTM:=ħ fun (i:Nat) (s:Nd) (hs:C.nd[i]?=some s) (hr:s.role=3)=>hI.tm hs hr
 have HND:=ħ hnd
 clear hz hw hnd hI
 obtain ⟨u,hu⟩:∃ u,u=wh % K.length:=⟨_,rfl⟩
 have HU:=ħ hu
 have hul:u<K.length:=by rw[hu];exact Nat.mod_lt _ hk0
 have hrm:Int.tmod (wh:Int) (K.length:Int)=(u:Int):=by rw[tmod_nat',hu]
 have hk0i:(0:Int)<(K.length:Int):=by omega
 have hk0n:¬ ((K.length:Int)=0):=by omega
 have hwh':IntKind.i64.wrap (wh:Int)=(wh:Int):=IntWalk.i64_in _ (by omega)
 have hu':IntKind.i64.wrap (u:Int)=(u:Int):=IntWalk.i64_in _ (by omega)
 have hr8:Int.tmod (kd:Int) 8=1:=by rw[show (8:Int)=((8:Nat):Int) from rfl,tmod_nat',hr];rfl
 obtain ⟨xq,hxq⟩:∃ x,K[u]?=some x:=⟨_,List.getElem?_eq_getElem hul⟩
 have HSTEP:=ħ (show C.nd[wh % C.nd.length]?=some xq.s∧wh % C.nd.length=u from by
  have h1:wh % C.nd.length=u:=by rw[hu,HKL.out]
  rw[h1,←K1.out.z.nd,List.getElem?_map,hxq]
  exact ⟨rfl,rfl⟩)
 have HXQ:=ħ hxq
 clear hu hxq
 go_enter Tryz.func15,Tryz.ntmps15
 go_upto_region 1 with fail
 generalize w.alloc (.cells (stC kd wh nn A b.length c) 48)=W1 at *
 have y0:W1.cell? ⟨w.heap.size,1,none⟩=some (.int .u8 (wh:Int)):=K1.out.k.cell 1
 have y1:=K1.out.z.x.2.2.2.1
 have y2:=K1.out.z.x.1
 have y3:=K1.out.k.lt
 go_quiet (fail)
 have K2:=ħ (K1.out.below (below_drewN (Below.refl _ _) nq))
 generalize W1.drewN nq=W2 at *
 clear y0 y1 y2 y3 K1
 obtain ⟨x0,xf,x1,x2,x3,x4,x5,x6⟩:=K2.out.z.x
 obtain ⟨q0,q1,q2⟩:=K2.out.k.facts
 clear hrm hwh'
 go_upto_if 29 with fail
 go_cut [6] (fun vx wx=>∃ ix:Nat,vx=.int .i64 (ix:Int)∧(0<mv.length→ix=nn % mv.length)∧CK w cc g C K fo Am cm Ap cp At ct Al cl mv w.heap.size (stC kd wh nn A b.length c) wx cc)
 case first=>
  by_cases hm0:0<mv.length
  ·obtain ⟨ix,hix⟩:∃ ix,ix=nn % mv.length:=⟨_,rfl⟩
   have HIX:=ħ hix
   have hixl:ix<mv.length:=by rw[hix];exact Nat.mod_lt _ hm0
   have hrm2:Int.tmod (nn:Int) (mv.length:Int)=(ix:Int):=by rw[tmod_nat',hix]
   have hm0i:(0:Int)<(mv.length:Int):=by omega
   have hm0n:¬ ((mv.length:Int)=0):=by omega
   have hnn':IntKind.i64.wrap (nn:Int)=(nn:Int):=IntWalk.i64_in _ (by omega)
   have hix':IntKind.i64.wrap (ix:Int)=(ix:Int):=IntWalk.i64_in _ (by omega)
   clear hix hr8
   go_upto_region 4 with fail
   go_quiet (fail)
   go_wp2_with fail
   go_meet
   exact ⟨ix,rfl,fun _=>HIX.out,K2.out.below (below_drewN (Below.refl _ _) _)⟩
  ·have hm0i:¬ (0:Int)<(mv.length:Int):=by omega
   clear hr8
   go_wp2_with fail
   go_meet
   exact ⟨0,rfl,fun h=>absurd h hm0,K2.out⟩
 case rest=>
  obtain ⟨ix,rfl,hixx,hk3⟩:=hcut
  have K3:=ħ hk3
  have HIX:=ħ hixx
  clear hk3 hixx K2 x0 xf x1 x2 x3 x4 x5 x6 q0 q1 q2
  obtain ⟨x0,xf,x1,x2,x3,x4,x5,x6⟩:=K3.out.z.x
  obtain ⟨q0,q1,q2⟩:=K3.out.k.facts
  go_upto_region 11 with fail
  clear hr8 hu'
  have HST:=ħ (show C.step kd wh nn b=C.come (nn % C.ms.length) from by
   unfold Cl.step
   rw[HSTEP.out.1]
   simp only[hr])
  clear x0 xf x1 x2 x3 x5 x6 q0 q1 q2 hk0i hk0n
  by_cases hm0:0<mv.length
  ·have hm0i:(0:Int)<(mv.length:Int):=by omega
   have h39:=come39 wc cc g C fo K3.out.cb.n HW.out hk ix (by rw[←HML.out,HIX.out hm0];exact Nat.mod_lt _ hm0) HND.out.2
   rw[HIX.out hm0,HML.out] at h39
   have HE:=ħ (HIX.out hm0)
   rw[HML.out] at HE
   rw[←HE.out] at h39
   have H39:=ħ h39
   clear h39 hm0
   obtain ⟨x0,xf,x1,x2,x3,x4,x5,x6⟩:=K3.out.z.x
   clear x1 x2 x3 x5 x6
   go_wp2_with (go_at_call 39;((with_reducible refine H39.out.mono ?_);rintro e w5 ⟨rfl,c5,hcb5⟩;have HC5:=ħ hcb5;clear hcb5))
   go_ret
   refine ⟨rfl,c5,?_⟩
   rw[HST.out,←HE.out]
   exact K3.out.cb.trans HC5.out
  ·have hm0i:¬ (0:Int)<(mv.length:Int):=by omega
   have HE:=ħ (show C.come (nn % C.ms.length)=C from by
    unfold Cl.come
    rw[List.getElem?_eq_none (by have:=HML.out;omega)])
   obtain ⟨x0,xf,x1,x2,x3,x4,x5,x6⟩:=K3.out.z.x
   clear x1 x2 x3 x5 x6
   go_wp2_with fail
   go_ret
   refine ⟨rfl,cc,?_⟩
   rw[HST.out,HE.out]
   exact K3.out.cb
end Go.Proofs.YtdfobfjpkjddpaaGreat

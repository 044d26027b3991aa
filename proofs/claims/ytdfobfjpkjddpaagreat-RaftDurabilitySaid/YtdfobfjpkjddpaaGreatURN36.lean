import Derived.Test.YtdfobfjpkjddpaaGreatURN35
set_option linter.unusedVariables false
set_option linter.unusedSimpArgs false
set_option maxRecDepth 10000
set_option maxHeartbeats 8000000
namespace Go.Proofs.YtdfobfjpkjddpaaGreat
open Go.RowKit Go.Own Go.Quo Go.Wire Go.Raft
attribute [local irreducible] Go.wpQuiet
structure OE (w:World) (base:Nat) (A:Option Addr) (c:Nat) (es:List EV):Prop where
 o:w.ownsRow base 58 3 (.slice A es.length c) es.length (es.flatMap evL)
 eb:EB w (fun k=>base≤k∧(Value.slice A es.length c).ownBlock≠some k) es
section
variable {w w' w4 w5:World} {base n c c4 c5:Nat} {A A4 A5:Option Addr} {es:List EV}
theorem OE.below (h:OE w base A c es)(hb:Below w.heap.size w w'):OE w' base A c es:=
 ⟨own_fr h.o (Fr.of_below (S:=fun _=>False) hb) (fun _ _=>id),(h.eb.old.below hb (fun _ h=>h.2)).more (fun k hk=>hk.1)⟩
theorem own_cutN {e:TypeId}{size n m:Nat}{xs:List Value}(h:w.ownsRow base e size (.slice A n c) n xs)(hm:m≤n):w.ownsRow base e size (.slice A m c) m (xs.take (m * size)):=by
 have hl:xs.length=n * size:=h.1
 refine ⟨by rw[List.length_take,Nat.min_eq_left (by rw[hl];exact Nat.mul_le_mul_right _ hm)],?_⟩
 rcases h.2 with ⟨h0,h1,h2⟩ | ⟨g',cap,cur,hv,hb,hg,hnc,hcm,hsz,htk⟩
 ·injection h0 with e1 e2 e3
  obtain rfl:m=0:=by omega
  refine .inl ⟨by rw[e1,e3],rfl⟩
 ·injection hv with h1 h2 h3
  subst h1 h3
  exact .inr ⟨g',c,cur,rfl,hb,hg,by omega,hcm,hsz,by rw[←htk,List.take_take,Nat.min_eq_left (Nat.mul_le_mul_right _ hm)]⟩
theorem ownB (A:Option Addr)(n m c:Nat):(Value.slice A n c).ownBlock=(Value.slice A m c).ownBlock:=by
 cases A <;> rfl
theorem OE.toES (h:OE w base A c es):ES w (base≤·) A es:=⟨(Reads.of_own h.o).more (fun k hk=>(h.o.lt k hk).1),h.eb.more (fun k hk=>hk.1)⟩
theorem OE.cut (h:OE w base A c es)(hn:n≤es.length):w.ownsRow base 58 3 (.slice A n c) n ((es.take n).flatMap evL):=by
 have:=own_cutN h.o hn
 rwa [flat_take3] at this
theorem OE.push (h:OE w base A c es){t k:Int}{b:List Int}(hb:Below w.heap.size w w4)(hw:base≤w.heap.size)(r4:Reads w4 (w.heap.size≤·) 1 A4 b.length (bys b))(hn:n≤es.length)
 (hg:(w4.alloc (.cells (evC t k A4 b.length c4) 58)).grownBy w5 (Value.slice A n c).ownBlock)
 (ho:w5.ownsRow base 58 3 (.slice A5 (n+1) c5) (n+1) ((es.take n).flatMap evL ++ [.int .i64 t,.int .i64 k,.slice A4 b.length c4]))
 (hat:(Value.slice A5 (n+1) c5).ownBlock=(Value.slice A n c).ownBlock∨(Value.slice A5 (n+1) c5).ownBlock=some (w4.alloc (.cells (evC t k A4 b.length c4) 58)).heap.size) :
 OE w5 base A5 c5 (es.take n ++ [⟨t,k,A4,c4,b⟩]):=by
 have hsa:(w4.alloc (.cells (evC t k A4 b.length c4) 58)).heap.size=w4.heap.size+1:=by simp
 have hs4:=hb.size
 have hlen:(es.take n ++ [(⟨t,k,A4,c4,b⟩:EV)]).length=n+1:=by simp;omega
 have hfl:(es.take n ++ [(⟨t,k,A4,c4,b⟩:EV)]).flatMap evL=(es.take n).flatMap evL ++ [.int .i64 t,.int .i64 k,.slice A4 b.length c4]:=by simp[evL]
 have own:∀ j,(Value.slice A n c).ownBlock=some j→j<w.heap.size:=fun j hj=>own_lt h.o ((ownB A es.length n c).trans hj)
 have own5:∀ j,(Value.slice A5 (n+1) c5).ownBlock=some j→(Value.slice A n c).ownBlock=some j∨j=w4.heap.size+1:=by
  intro j hj
  rcases hat with e | e
  ·left;rw[←e];exact hj
  ·right;rw[e,hsa] at hj;injection hj with hj;exact hj.symm
 refine ⟨by rw[hlen,hfl];exact ho,fun x hx=>?_⟩
 rw[hlen]
 rcases List.mem_append.1 hx with hx | hx
 ·have hx1:=((h.eb x (List.mem_of_mem_take hx)).old (by omega)).below hb (fun j hj=>hj.2)
  have hx2:=(hx1.alloc (.cells (evC t k A4 b.length c4) 58)).grown hg (fun j hj e=>hj.1.2 ((ownB A es.length n c).trans e.symm))
  refine hx2.more (fun j hj=>⟨hj.1.1,fun e=>?_⟩)
  rcases own5 j e with h1 | h1
  ·exact hj.1.2 ((ownB A es.length n c).trans h1)
  ·have:=hj.2;omega
 ·rw[List.mem_singleton] at hx
  subst hx
  have hx1:=(r4.old (by omega)).alloc (.cells (evC t k A4 b.length c4) 58)
  have hx2:=hx1.grown hg (fun j hj e=>by have:=own j e.symm;omega)
  refine hx2.more (fun j hj=>⟨by omega,fun e=>?_⟩)
  rcases own5 j e with h1 | h1
  ·have:=own j h1;omega
  ·have:=hj.2;omega
theorem OE.cap (h:OE w base A c es):es.length≤c:=by
 rcases h.o.2 with ⟨h0,h1⟩ | ⟨g',cap,cur,hv,hb,hg,hnc,hcm,hsz,htk⟩
 ·omega
 ·injection hv with h1 h2 h3
  omega
theorem OE.nil:OE w base none 0 []:=⟨World.ownsRow_nil _ _ _ _,fun x hx=>by cases hx⟩
end
theorem lAll_at {l:List (Int × List Int)}{k:Nat}{x:Int × List Int}(hx:l[k]?=some x)(s:List Ent):lAll (l.drop k) s=(lStep x s).bind (lAll (l.drop (k+1))):=by
 have hk:=(List.getElem?_eq_some_iff.1 hx).1
 have:l.drop k=x :: l.drop (k+1):=by
  rw[List.drop_eq_getElem_cons hk]
  rw[List.getElem?_eq_getElem hk] at hx
  injection hx with hx
  rw[hx]
 rw[this];rfl
theorem lastT_take {L:List Ent}(hS:Srt L){i:Nat}{x:Ent}(hx:L[i]?=some x)(h1:1≤x.term):lastT (L.take i)≤x.term:=by
 have hi:=(List.getElem?_eq_some_iff.1 hx).1
 unfold lastT
 cases hc:(L.take i)[(L.take i).length - 1]? with
 | none=>show (0:Int)≤x.term;omega
 | some a=>
  have h2:=(List.getElem?_eq_some_iff.1 hc).1
  rw[List.length_take,Nat.min_eq_left (by omega)] at h2 hc
  rw[List.getElem?_take,if_pos (by omega)] at hc
  exact hS (i - 1) i a x (by omega) hc hx
def RsI (w:World)(recs:List (Int × List Int))(L:List Ent)(k:Nat)(A:Option Addr)(c:Nat)(es:List EV)(wr:World):Prop:=k≤recs.length∧OE wr w.heap.size A c es∧es.length≤k∧es.length≤c∧lAll (recs.drop k) (es.map EV.e)=some L∧Below w.heap.size w wr
def RePost (L:List Ent)(w:World)(e:Ending)(w':World):Prop:=∃ g,e=.returned (.tuple #[.pointer (some ⟨g,0,none⟩),.int .i64 0])∧w.heap.size≤g∧LS w' (fun k=>w.heap.size≤k) g L∧Below w.heap.size w w'
theorem restore34 (w:World)(B:Nat→Prop)(A:Option Addr)(c:Nat)(ds:List Rc)(recs:List (Int × List Int))(L:List Ent)(hR:Reads w B 2 A ds.length (ds.flatMap rcL))(hD:∀ r∈ds,Reads w B 1 r.A r.body.length (bys r.body))(hm:ds.map recOf=recs)(hok:∀ x∈recs,recOk x)(hn:recs.length≤400000)(hL:lAll recs []=some L)(hE:∀ e∈L,Nd.validE e=true∧Bytes e.body)(hS:Srt L) :
 Calls Tryz.prog 34 #[.slice A ds.length c] w (RePost L w):=by
 have hdl:ds.length=recs.length:=by rw[←hm];simp
 have HM:=ħ hm
 have HD:=ħ hD
 have HOK:=ħ hok
 have HDL:=ħ hdl
 have HR:=ħ (hR.old (by omega))
 have hPl:=hR.plain (by omega)
 have HI0:=ħ (show RsI w recs L 0 none 0 [] w from ⟨Nat.zero_le _,OE.nil,Nat.le_refl _,Nat.le_refl _,by simpa using hL,Below.refl _ _⟩)
 have hdn:ds.length≤400000:=by omega
 obtain ⟨ti,hti,htz⟩:=i35x
 clear hR hD hm hok hdl hL
 go_enter Tryz.func34,Tryz.ntmps34
 go_wp2_with fail
 go_loopw [4,17] (fun v4 vi wr=>∃ (k:Nat) (A4:Option Addr) (c4:Nat) (es:List EV),vi=.int .i64 (k:Int)∧v4=.slice A4 es.length c4∧RsI w recs L k A4 c4 es wr) (fun _ vi _=>ds.length - (intOf vi).toNat)
 case atStart=>exact ⟨0,none,0,[],rfl,rfl,HI0.out⟩
 case round=>
  obtain ⟨k,A4,c4,es,rfl,rfl,hk,ho,hek,hec,hl,hb⟩:=hrel
  have HO:=ħ ho
  have HLk:=ħ hl
  have HB:=ħ hb
  have hen:es.length≤400000:=by omega
  clear ho hl
  by_cases hlt:k<ds.length
  ·have hlt':(k:Int)<(ds.length:Int):=by omega
   obtain ⟨⟨kd,xA,xc,bd⟩,hgx⟩:∃ x,ds[k]?=some x:=⟨_,List.getElem?_eq_getElem hlt⟩
   have hgr:recs[k]?=some (kd,bd):=by rw[←HM.out,List.getElem?_map,hgx];rfl
   have hRr:=HR.out.below hb (fun _ h=>h.2)
   have hix:=fun W=>run_indexAt2 (P:=Tryz.prog) Tryz.underlying91 hti htz hPl c k hlt W
   obtain ⟨x0,x1⟩:=rc_cells hRr hgx
   have hxb:=((HD.out _ (List.mem_of_getElem? hgx)).old (by omega)).below hb (fun _ h=>h.2)
   have hxo:=HOK.out _ (List.mem_of_getElem? hgr)
   have HLS:=ħ (lAll_at hgr (es.map EV.e))
   rw[HLk.out] at HLS
   simp only at x0 x1 hxb
   have b5:Below wr.heap.size wr (wr.alloc (.cells #[.int .u8 kd,.slice xA bd.length xc] 115)):=(Below.refl _ _).alloc (Nat.le_refl _) _
   have g5:Blk (wr.alloc (.cells #[.int .u8 kd,.slice xA bd.length xc] 115)) wr.heap.size 115 #[.int .u8 kd,.slice xA bd.length xc]:=Blk.new wr 115 _
   have O5:=HO.out.below b5
   have B5:=hb.trans (b5.mono hb.size)
   have X5:=(hxb.alloc (.cells #[.int .u8 kd,.slice xA bd.length xc] 115))
   clear hgr hgx hRr hxb HLk
   go_upto_region 5 with fail
   generalize wr.alloc (.cells #[.int .u8 kd,.slice xA bd.length xc] 115)=W5 at *
   obtain ⟨q0,q1,q2⟩:=g5.facts
   clear x0 x1 hix
   by_cases h69:kd=69
   ·subst h69
    have H64:=ħ (decR_any _ xA xc bd W5 X5 hxo.1 (Nat.le_trans hxo.2.1 (by decide)))
    obtain ⟨i,e,ok,hD⟩:∃ i e ok,decR bd=(i,e,ok):=⟨_,_,_,rfl⟩
    rw[hD] at H64
    have hst:ok=true∧lOk i e (es.map EV.e)=true∧lAll (recs.drop (k+1)) ((es.map EV.e).take (i - 1).toNat ++ [e])=some L:=by
     have h1:=HLS.out
     unfold lStep at h1
     rw[if_pos rfl,hD] at h1
     simp only at h1
     cases hc:(ok && lOk i e (es.map EV.e)) with
     | false=>rw[hc] at h1;cases h1
     | true=>
      rw[hc] at h1
      rw[Bool.and_eq_true] at hc
      exact ⟨hc.1,hc.2,h1.symm⟩
    obtain ⟨rfl,hlk,hl2⟩:=hst
    unfold lOk at hlk
    rw[Bool.and_eq_true,Bool.and_eq_true,Bool.or_eq_true,decide_eq_true_eq,decide_eq_true_eq,decide_eq_true_eq,decide_eq_true_eq,List.length_map] at hlk
    obtain ⟨⟨hi1,hi2⟩,hi3⟩:=hlk
    obtain ⟨n,rfl⟩:∃ n:Nat,i=(n:Int)+1:=⟨(i - 1).toNat,by omega⟩
    have hne:n≤es.length:=by omega
    rw[show ((n:Int)+1 - 1).toNat=n by omega] at hl2
    have HL2:=ħ hl2
    obtain ⟨et,ek,eb⟩:=e
    simp only at hi3
    have OB:=ħ O5
    have HB5:=ħ B5
    clear hD hl2 HLS hxo X5
    have wi1:decide ((n:Int)+1<1)=false:=decide_eq_false (by omega)
    have wi2:decide ((es.length:Int)+1<(n:Int)+1)=false:=decide_eq_false (by omega)
    have hw1:IntKind.i64.wrap ((es.length:Int)+1)=(es.length:Int)+1:=IntWalk.i64_in _ (by omega)
    go_upto_region 7 with (go_at_call 64;((with_reducible refine H64.out.mono ?_);rintro e w6 ⟨A6,c6,rfl,r6,b6⟩))
    have b7:Below W5.heap.size W5 (w6.alloc (.cells (evC et ek A6 eb.length c6) 58)):=b6.alloc b6.size _
    have g7:Blk (w6.alloc (.cells (evC et ek A6 eb.length c6) 58)) w6.heap.size 58 (evC et ek A6 eb.length c6):=Blk.new w6 58 _
    have R7:=ħ (r6.alloc (.cells (evC et ek A6 eb.length c6) 58))
    have HB7:=ħ b7
    clear r6 b6 q0 q1 q2 b7 H64
    generalize w6.alloc (.cells (evC et ek A6 eb.length c6) 58)=W7 at *
    obtain ⟨q0,q1,q2⟩:=g7.facts
    go_upto_region 9 with fail
    go_cut [56] (fun vx wx=>vx=.bool false∧Below W7.heap.size W7 wx)
    case first=>
     by_cases hn0:n=0
     ·have wg:decide ((1:Int)<(n:Int)+1)=false:=decide_eq_false (by omega)
      clear hn0 hi1 hi2 hi3
      refine wp_region_quiet (C:=fun w'=>Below W7.heap.size W7 w') (by kernel_rfl) (by kernel_rfl) ((Below.refl _ _).drew) ?_
      repeat (refine wpQuiet_step (fun K hK=>?_);have HKK:=ħ hK;clear hK;first | (refine ite_no ?_ ?_;(focus (clear HKK K;go_simp;done));go_simp;refine HKK.out _ ?_;clear HKK K) | (refine ite_yes ?_ ?_;(focus (clear HKK K;go_simp;done));apply Exists.intro;refine ⟨fun wq hq=>?_,?_⟩;(focus (go_simp;(first | done | rfl)));go_simp;refine HKK.out _ ?_;clear HKK K))
      refine wpQuiet_nil ?_
      intro w8 hw8
      go_wp2_with fail
      go_meet
      exact ⟨rfl,hw8⟩
     ·have wg:decide ((1:Int)<(n:Int)+1)=true:=decide_eq_true (by omega)
      obtain ⟨x,hx⟩:∃ x,es[n - 1]?=some x:=⟨_,List.getElem?_eq_getElem (by omega)⟩
      have hT:termAt (es.map EV.e) ((n:Int)+1 - 1)=some x.t:=by
       have:=termAt_nat (es.map EV.e) n
       rw[if_neg (by omega),map_at hx] at this
       rw[show (n:Int)+1 - 1=(n:Int) by omega]
       simpa [EV.e] using this
      rw[hT] at hi3
      have hi4:x.t≤et:=by
       rcases hi3 with h | h
       ·omega
       ·exact h
      have wlt:decide (et<x.t)=false:=decide_eq_false (by omega)
      have hp7:=(OB.out.below HB7.out).toES.1.plain
      have hix7:∀ W:World,(Instr.indexAt 45 (.slice A4 es.length c4) (.int .i64 ((n - 1:Nat):Int))).run Tryz.prog W=.ok (.pointer (some ⟨bk A4,ofs A4+(n - 1) * 3,none⟩)) W:=fun W=>ixE (hp7 (by omega)) c4 (n - 1) (by omega) W
      have hw3:IntKind.i64.wrap ((n:Int)+1 - 2)=((n - 1:Nat):Int):=by rw[IntWalk.i64_in _ (by omega)];omega
      have HK:=ħ fun W (hb:Below W7.heap.size W7 W)=>(show (W.cell? ⟨w6.heap.size,0,none⟩=some (.int .i64 et))∧W.cell? ⟨bk A4,ofs A4+(n - 1) * 3,none⟩=some (.int .i64 x.t) from ⟨(g7.below hb g7.lt).cell 0,((OB.out.below (HB7.out.trans (hb.mono HB7.out.size))).toES.at_ hx).1⟩)
      clear hn0 hi1 hi2 hi3 hi4 hT hx hp7
      refine wp_region_quiet (C:=fun w'=>Below W7.heap.size W7 w') (by kernel_rfl) (by kernel_rfl) ((Below.refl _ _).drew) ?_
      repeat (refine wpQuiet_step (fun K hK=>?_);have HKK:=ħ hK;clear hK;first | (refine ite_no ?_ ?_;(focus (clear HKK K;go_simp;done));go_simp;refine HKK.out _ ?_;clear HKK K) | (refine ite_yes ?_ ?_;(focus (clear HKK K;go_simp;done));apply Exists.intro;refine ⟨fun wq hq=>?_,?_⟩;(focus ((obtain ⟨y0,y1⟩:=HK.out _ hq);go_simp;(first | done | rfl)));go_simp;refine HKK.out _ ?_;clear HKK K))
      refine wpQuiet_nil ?_
      intro w8 hw8
      go_wp2_with fail
      go_meet
      exact ⟨rfl,hw8⟩
    case rest=>
     obtain ⟨rfl,b8⟩:=hcut
     have B8:=ħ (HB7.out.trans (b8.mono HB7.out.size))
     have g8:=g7.below b8 g7.lt
     have R8:=ħ ((R7.out.old (by omega)).below b8 (fun _ h=>h.2) |>.more (B':=(W5.heap.size≤·)) (fun k hk=>hk.1))
     clear q0 q1 q2 g7 b8 R7 HB7
     obtain ⟨q0,q1,q2⟩:=g8.facts
     have hcn:(n:Int)≤(c4:Int):=by omega
     have hw2:IntKind.i64.wrap ((n:Int)+1 - 1)=(n:Int):=by rw[IntWalk.i64_in _ (by omega)];omega
     have hw4:IntKind.i64.wrap (n:Int)=(n:Int):=IntWalk.i64_in _ (by omega)
     have r1:=fun W=>run_hi45 (A:=A4) (c:=c4) (n:=es.length) (k:=n) (by omega) W
     have r2:=fun W=>run_hi45b (A:=A4) (c:=c4) (n:=es.length) (k:=n) (by omega) W
     have O8:=OB.out.below B8.out
     go_upto_region 11 with fail
     go_region_law (first
      | (refine step_append_any _ (by rfl) (.tmp 60) (.tmp 62) _ (by rfl) w.heap.size 58 _ 3 40 Tryz.underlying45 info58 rfl (by omega) (.slice A4 n c4) n ((es.take n).flatMap evL) (by rfl) (by exact (own_fr (O8.cut hne) (Fr.of_below (S:=fun _=>False) ((Below.refl wc.heap.size wc).drew.alloc (Nat.le_refl _) (.cells (evC et ek A6 eb.length c6) 58))) (fun _ _=>id))) (fun _=>True) (some ⟨wc.heap.size,0,none⟩) 1 1 [.int .i64 et,.int .i64 ek,.slice A6 eb.length c6] (by rfl) (by exact ((Reads.newS _ [.int .i64 et,.int .i64 ek,.slice A6 eb.length c6] 58 (0,0) 1 3 rfl _ rfl).more (fun _ _=>trivial))) (by intro u hu;simp at hu;rcases hu with rfl | rfl | rfl <;> rfl) (by simp only[maxLen];omega) (by omega) (by have:=HB5.out.size;have:=B8.out.size;simp;omega) ?_
         intro A5 c5 w5 hown5 hgr5 hat5))
     all_goals
      go_wp2_with fail
      have O9:=OE.push OB.out (w4:=wc.drew) (B8.out.drew) HB5.out.size R8.out hne hgr5 hown5 hat5
      have hcp:=O9.cap
      have B9:Below w.heap.size w w5:=((HB5.out.trans (B8.out.mono HB5.out.size)).drew.alloc (Nat.le_trans HB5.out.size B8.out.size) _).grown hgr5 (Nat.le_trans (Nat.le_trans HB5.out.size B8.out.size) (by simp)) (fun g hg=>((O8.cut hne).lt g hg).1)
      have hlen:(es.take n ++ [(⟨et,ek,A6,c6,eb⟩:EV)]).length=n+1:=by simp;omega
      refine ⟨⟨k+1,A5,c5,_,by go_num,by rw[hlen],by have:=HDL.out;omega,O9,by rw[hlen];omega,hcp,?_,B9⟩,by simp[intOf];omega⟩
      rw[List.map_append,List.map_take]
      exact HL2.out
   ·have w69:(kd == 69)=false:=by simpa using h69
    have w69b:(kd != 69)=true:=by simpa using h69
    have HL2:=ħ (show lAll (recs.drop (k+1)) (es.map EV.e)=some L by
     have:=HLS.out
     unfold lStep at this
     rw[if_neg h69] at this
     exact this.symm)
    clear HLS h69 hxo
    go_wp2_with fail
    exact ⟨⟨k+1,A4,c4,es,by go_num,rfl,by have:=HDL.out;omega,O5,by omega,hec,HL2.out,B5⟩,by simp[intOf];omega⟩
  ·have hge:¬ (k:Int)<(ds.length:Int):=by omega
   have heL:es.map EV.e=L:=by
    have:=HLk.out
    rw[List.drop_eq_nil_of_le (by have:=HDL.out;omega)] at this
    injection this
   have HEL:=ħ heL
   clear heL HLk
   go_upto_region 13 with fail
   have HLn:=ħ (logNew_any wr)
   have HES:=ħ HO.out.toES
   go_upto_region 14 with (go_at_call 65;((with_reducible refine HLn.out.mono ?_);rintro e w3 ⟨rfl,ls3,b3⟩))
   have HE3:=ħ (HES.out.old.below b3 (fun _ h=>h.2))
   have HB3:=ħ (hb.trans (b3.mono hb.size))
   have hPe:=HES.out.1.plain
   have HL3:=ħ (show LS w3 (fun k=>wr.heap.size≤k) wr.heap.size (L.take 0) from ls3.wider (fun k hk=>by omega))
   have hbw:=hb.size
   have hq3:=b3.size
   clear ls3 b3 HLn
   generalize wr=wq at *
   go_wp2_with fail
   go_loopw [68] (fun vi wr=>∃ i:Nat,i≤es.length∧vi=.int .i64 (i:Int)∧LS wr (fun k=>wq.heap.size≤k) wq.heap.size (L.take i)∧Fr (fun k=>wq.heap.size≤k) w3 wr) (fun vi _=>es.length - (intOf vi).toNat)
   case atStart=>exact ⟨0,Nat.zero_le _,rfl,HL3.out,Fr.refl _ _⟩
   case round=>
    obtain ⟨i,hi,rfl,hls,hfr⟩:=hrel
    have HS5:=ħ hls
    have HF5:=ħ hfr
    clear hls
    have hsl:=hfr.size
    by_cases hil:i<es.length
    ·have hil':(i:Int)<(es.length:Int):=by omega
     obtain ⟨⟨xt,xk,xA,xc,xb⟩,hgx⟩:∃ x,es[i]?=some x:=⟨_,List.getElem?_eq_getElem hil⟩
     have hEr:=HE3.out.fr hfr (fun g hg e=>by have:=hg.2;omega)
     obtain ⟨z0,z1,z2⟩:=hEr.at_ hgx
     have hix:=fun W=>ixE (hPe (by omega)) c4 i hil W
     have hxb:=hEr.2 _ (List.mem_of_getElem? hgx)
     have hLx:L[i]?=some ⟨xt,xk,xb⟩:=by rw[←HEL.out,List.getElem?_map,hgx];rfl
     have hvx:=hE _ (List.mem_of_getElem? hLx)
     have hvt:1≤xt:=by
      have:=hvx.1
      unfold Nd.validE at this
      simp only[Bool.and_eq_true,decide_eq_true_eq] at this
      omega
     have hTL:=lastT_take hS hLx hvt
     have HTK:=ħ (show L.take (i+1)=L.take i ++ [⟨xt,xk,xb⟩] by rw[List.take_add_one,hLx];rfl)
     have hLl:(L.take i).length≤900000:=by rw[List.length_take];omega
     simp only at z0 z1 z2 hxb
     have b7:Below wr.heap.size wr (wr.alloc (.cells (evC xt xk xA xb.length xc) 58)):=(Below.refl _ _).alloc (Nat.le_refl _) _
     have g7:Blk (wr.alloc (.cells (evC xt xk xA xb.length xc) 58)) wr.heap.size 58 (evC xt xk xA xb.length xc):=Blk.new wr 58 _
     have r7:=hxb.alloc (.cells (evC xt xk xA xb.length xc) 58)
     have H66:=ħ (logAppend_any _ _ _ wq.heap.size (L.take i) xt xk xA xc xb (HS5.out.below b7) hvx.1 hTL r7 hLl)
     have F7:=ħ (hfr.trans (Fr.of_below (S:=fun k=>wq.heap.size≤k) b7))
     have hs7:wq.heap.size≤(wr.alloc (.cells (evC xt xk xA xb.length xc) 58)).heap.size:=by have:=b7.size;have:=HB3.out.size;have:=HE3.out;omega
     clear hEr hgx hxb hLx hvx hvt hTL b7 r7
     go_upto_region 17 with fail
     generalize wr.alloc (.cells (evC xt xk xA xb.length xc) 58)=W7 at *
     obtain ⟨q0,q1,q2⟩:=g7.facts
     clear z0 z1 z2 hix
     go_wp2_with (go_at_call 66;((with_reducible refine H66.out.mono ?_);rintro e w8 ⟨rfl,ls8,f8⟩))
     refine ⟨⟨i+1,hil,by go_num,by rw[HTK.out];exact ls8.wider (fun k hk=>hk.elim id (fun h=>Nat.le_trans hs7 h)),F7.out.trans f8⟩,by simp[intOf];omega⟩
    ·have hge2:¬ (i:Int)<(es.length:Int):=by omega
     have hLt:L.take i=L:=List.take_of_length_le (by rw[←HEL.out,List.length_map];omega)
     have hfin:=HS5.out
     rw[hLt] at hfin
     have HFn:=ħ hfin
     clear hfin hLt
     go_wp2_with fail
     refine bodyPost_ret (v:=.tuple #[.pointer (some ⟨wq.heap.size,0,none⟩),.int .i64 0]) (by simp[results,Tryz.results34,go_sem]) rfl ⟨wq.heap.size,rfl,hbw,HFn.out.wider (fun k hk=>Nat.le_trans hbw hk),HB3.out.trans (HF5.out.below (B:=w.heap.size) HB3.out.size (fun k hk e=>by omega))⟩
end Go.Proofs.YtdfobfjpkjddpaaGreat

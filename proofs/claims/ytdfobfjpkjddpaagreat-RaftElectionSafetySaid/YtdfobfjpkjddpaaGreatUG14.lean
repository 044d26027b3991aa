import Derived.Test.YtdfobfjpkjddpaaGreatUG13
import Derived.Laws.CopyRow
set_option linter.unusedVariables false
set_option linter.unusedSimpArgs false
set_option maxRecDepth 10000
set_option maxHeartbeats 2000000
namespace Go.Proofs.YtdfobfjpkjddpaaGreat
open Go.RowKit Go.Own Go.Quo Go.Wire Go.Raft
def evZ:EV:=⟨0,0,none,0,[]⟩
theorem evL_set (ds:List EV)(z r:EV)(t:List EV):((((ds ++ z :: t).flatMap evL).toArray.setIfInBounds (ds.length * 3) (.int .i64 r.t)).setIfInBounds (ds.length * 3+1) (.int .i64 r.k)).setIfInBounds (ds.length * 3+2) (.slice r.A r.b.length r.c)=((ds ++ r :: t).flatMap evL).toArray:=by
 have hl:(ds.flatMap evL).length=ds.length * 3:=flat_length evL 3 evL_len ds
 simp only[List.flatMap_append,List.flatMap_cons,σa]
 rw[List.set_append_right _ _ (by omega),hl,Nat.sub_self]
 rw[List.set_append_right _ _ (by omega),hl,show ds.length * 3+1 - ds.length * 3=1 by omega]
 rw[List.set_append_right _ _ (by omega),hl,show ds.length * 3+2 - ds.length * 3=2 by omega]
 rfl
theorem evL_zero (n:Nat):madeCells (Value.agg #[.int .i64 0,.int .i64 0,.slice none 0 0]).cells (n * 3)=((List.replicate n evZ).flatMap evL).toArray:=by
 have hz:∀ (n j:Nat),((List.replicate n evZ).flatMap evL)[j]?=if j<n * 3 then (if j % 3=2 then some (.slice none 0 0) else some (Value.int .i64 0)) else none:=by
  intro n
  induction n with
  | zero=>intro j;simp
  | succ n ih=>
   intro j
   rw[List.replicate_succ,List.flatMap_cons]
   match j with
   | 0=>simp[evL,evZ]
   | 1=>simp[evL,evZ];omega
   | 2=>simp[evL,evZ];omega
   | j+3=>
    rw[List.getElem?_append_right (by rw[evL_len];omega),evL_len,show j+3 - 3=j by omega,ih]
    simp only[show (j+3<(n+1) * 3)=(j<n * 3) by simp;omega,show (j+3) % 3=j % 3 by omega]
 apply Array.ext'
 apply List.ext_getElem?
 intro j
 rw[hz]
 by_cases hj:j<n * 3
 ·rw[if_pos hj]
  simp only[madeCells,Value.cells,Array.toList_map,Array.toList_range,List.getElem?_map,List.getElem?_range hj,Option.map_some]
  rcases (show j % 3=0∨j % 3=1∨j % 3=2 by omega) with e | e | e
  ·simp[e]
  ·simp[e]
  ·simp[e]
 ·rw[if_neg hj]
  simp[madeCells,hj]
def cutE (A:Option Addr)(c k:Nat):Option Addr:=if c=k then A else A.map (·.add (k * 3))
theorem run_lo45 {A:Option Addr}{n c k:Nat}(hk:k≤n)(W:World):(Instr.slice 45 (.slice A n c) (some (.int .i64 (k:Int))) none none).run Tryz.prog W=.ok (.slice (cutE A c k) (n - k) (c - k)) W:=by
 have hu:Tryz.prog.underlying 45=some (.slice (Tryz.prog.elem 45)):=by kernel_rfl
 have he:Tryz.prog.elem 45=58:=by kernel_rfl
 obtain ⟨i,h1,h2⟩:=i58x
 rw[run_slice_l W 45 A n c hu .i64 (k:Int) (by omega) (by omega),he]
 simp[sizeOf,typeInfo,h1,h2,sliced,cutE]
theorem run_lo45b {A:Option Addr}{n c k:Nat}(hk:k≤n)(W:World):(Instr.sliceAt 45 (.slice A n c) (some (.int .i64 (k:Int))) none none).run Tryz.prog W=.ok (.slice (cutE A c k) (n - k) (c - k)) W:=by
 have hu:Tryz.prog.underlying 45=some (.slice (Tryz.prog.elem 45)):=by kernel_rfl
 rw[run_sliceAt_slice W 45 _ _ _ _ hu]
 exact run_lo45 hk W
theorem run_hi45 {A:Option Addr}{n c k:Nat}(hk:k≤c)(W:World):(Instr.slice 45 (.slice A n c) none (some (.int .i64 (k:Int))) none).run Tryz.prog W=.ok (.slice A k c) W:=by
 have hu:Tryz.prog.underlying 45=some (.slice (Tryz.prog.elem 45)):=by kernel_rfl
 have he:Tryz.prog.elem 45=58:=by kernel_rfl
 obtain ⟨i,h1,h2⟩:=i58x
 rw[run_slice_h W 45 A n c hu .i64 (k:Int) (by omega) (by omega),he]
 cases A with
 | none=>simp[sizeOf,typeInfo,h1,h2,sliced]
 | some a=>simp[sizeOf,typeInfo,h1,h2,sliced,add_zero_]
theorem run_hi45b {A:Option Addr}{n c k:Nat}(hk:k≤c)(W:World):(Instr.sliceAt 45 (.slice A n c) none (some (.int .i64 (k:Int))) none).run Tryz.prog W=.ok (.slice A k c) W:=by
 have hu:Tryz.prog.underlying 45=some (.slice (Tryz.prog.elem 45)):=by kernel_rfl
 rw[run_sliceAt_slice W 45 _ _ _ _ hu]
 exact run_hi45 hk W
theorem flat_drop3 (l:List EV)(k:Nat):(l.flatMap evL).drop (k * 3)=(l.drop k).flatMap evL:=by
 induction k generalizing l with
 | zero=>simp
 | succ k ih=>
  cases l with
  | nil=>simp
  | cons a r=>
   rw[List.flatMap_cons,List.drop_append,List.drop_of_length_le (by rw[evL_len];omega),List.nil_append,evL_len,show (k+1) * 3 - 3=k * 3 by omega,ih,List.drop_succ_cons]
theorem flat_take3 (l:List EV)(k:Nat):(l.flatMap evL).take (k * 3)=(l.take k).flatMap evL:=by
 induction k generalizing l with
 | zero=>simp
 | succ k ih=>
  cases l with
  | nil=>simp
  | cons a r=>
   rw[List.flatMap_cons,List.take_append,List.take_of_length_le (by rw[evL_len];omega),evL_len,show (k+1) * 3 - 3=k * 3 by omega,ih,List.take_succ_cons,List.flatMap_cons]
section
variable {w:World} {B:Nat→Prop} {A:Option Addr} {l:List EV}
theorem ES.drop (h:ES w B A l){k c:Nat}(hk:k≤l.length)(hc:l.length≤c):ES w B (cutE A c k) (l.drop k):=by
 refine ⟨?_,fun x hx=>h.2 x (List.mem_of_mem_drop hx)⟩
 have:=Reads.cut h.1 hk hc
 rw[flat_drop3] at this
 rw[List.length_drop]
 exact this
theorem ES.take (h:ES w B A l){k:Nat}(hk:k≤l.length):ES w B A (l.take k):=by
 refine ⟨⟨by rw[List.length_take,Nat.min_eq_left hk,flat3,List.length_take,Nat.min_eq_left hk],fun hn=>?_⟩,fun x hx=>h.2 x (List.mem_of_mem_take hx)⟩
 rw[List.length_take] at hn
 obtain ⟨ad,e,hb,hc⟩:=h.1.2 (by omega)
 refine ⟨ad,e,hb,fun j u hu=>hc j u ?_⟩
 rw[←flat_take3] at hu
 have hj:=(List.getElem?_eq_some_iff.1 hu).1
 rw[List.length_take] at hj
 rwa [List.getElem?_take_of_lt (by omega)] at hu
end
def SlPost (L:List Ent)(w:World)(e:Ending)(w':World):Prop:=∃ (A:Option Addr) (c:Nat) (l:List EV),e=.returned (.slice A l.length c)∧l.map EV.e=L∧ES w' (w.heap.size≤·) A l∧Below w.heap.size w w'∧l.length≤c
theorem slice_any (w:World)(Z:Nat→Prop)(g:Nat)(L:List Ent)(k:Nat)(h:LS w Z g L)(hl:L.length≤1000000)(hs:Sm L)(hkk:k≤1000000) :
 Calls Tryz.prog 115 #[.pointer (some ⟨g,0,none⟩),.int .i64 ((k:Int)+1),.int .i64 16] w (SlPost ((L.drop k).take 16) w):=by
 obtain ⟨A,c,es,h,rfl⟩:=h
 rw[List.length_map] at hl
 obtain ⟨q0,q1,q2⟩:=h.b.facts
 have hmax:max ((k:Int)+1) 1=(k:Int)+1:=by omega
 have hw:IntKind.i64.wrap ((k:Int)+1 - 1)=(k:Int):=by rw[IntWalk.i64_in _ (by omega)];omega
 have hw2:IntKind.i64.wrap (k:Int)=(k:Int):=IntWalk.i64_in _ (by omega)
 rcases Nat.lt_or_ge k es.length with hlt | hge
 ·have hcap:=own_cap h.o
  have hES:ES w (· < w.heap.size) A es:=(show ES w Z A es from h.seen).old.more (fun k hk=>hk.2)
  have hE2:=((hES.drop (k:=k) (by omega) hcap)).take (k:=min 16 (es.length - k)) (by rw[List.length_drop];omega)
  obtain ⟨ls,hls⟩:∃ ls,ls=(es.drop k).take (min 16 (es.length - k)):=⟨_,rfl⟩
  rw[←hls] at hE2
  have hll:ls.length=min 16 (es.length - k):=by rw[hls,List.length_take,List.length_drop];omega
  have HLs:=ħ (show ((es.map EV.e).drop k).take 16=ls.map EV.e by
   rw[hls,←List.map_drop,←List.map_take]
   congr 1
   rcases Nat.le_total 16 (es.length - k) with h1 | h1
   ·rw[Nat.min_eq_left h1]
   ·rw[Nat.min_eq_right h1,List.take_of_length_le (by rw[List.length_drop];omega),List.take_of_length_le (by rw[List.length_drop];omega)])
  have HSm:=ħ (show ∀ x∈ls,x.b.length≤1000000 from fun x hx=>by
   rw[hls] at hx
   exact (hs x.e (List.mem_map_of_mem (List.mem_of_mem_drop (List.mem_of_mem_take hx)))).1)
  have hPl:=hE2.1.plain (by omega)
  have r1:=fun W=>run_lo45 (A:=A) (c:=c) (n:=es.length) (k:=k) (by omega) W
  have r2:=fun W=>run_lo45b (A:=A) (c:=c) (n:=es.length) (k:=k) (by omega) W
  obtain ⟨m,hm⟩:∃ m,m=min 16 (es.length - k):=⟨_,rfl⟩
  have hmn:min (16:Int) ((es.length - k:Nat):Int)=(m:Int):=by omega
  have r3:=fun W=>run_hi45 (A:=cutE A c k) (n:=es.length - k) (c:=c - k) (k:=m) (by omega) W
  have r4:=fun W=>run_hi45b (A:=cutE A c k) (n:=es.length - k) (c:=c - k) (k:=m) (by omega) W
  rw[←hm] at hll
  have hm0:0<m:=by omega
  have hm16:m≤16:=by omega
  have hnot:¬ ((es.length:Int)<(k:Int)+1):=by omega
  have HLL:=ħ hll
  rw[hll] at hPl
  have HE:=ħ hE2
  clear h hES hE2 hls hll hs hl hm hcap
  generalize es.length=N at *
  generalize cutE A c k=A1 at *
  generalize hNk:N - k=N1 at *
  generalize c - k=c1 at *
  clear hNk
  obtain ⟨i,hi,hz,hsz,hby⟩:=info_parts info58
  have hmk:∀ W:World,(Instr.makeSlice 45 (.int .i64 (m:Int)) (.int .i64 (m:Int))).run Tryz.prog W=.ok (.slice (some ⟨W.heap.size,0,none⟩) m m) (W.alloc (.cells ((List.replicate m evZ).flatMap evL).toArray 58)):=fun W=>by
   have:=run_make_rowN (P:=Tryz.prog) 45 58 i _ Tryz.underlying45 hi hz .i64 .i64 m m (Nat.le_refl _) (by rw[hby];omega) (by omega) W
   rw[hsz,evL_zero] at this
   exact this
  go_enter Tryz.func115,Tryz.ntmps115
  go_wp2_with fail
  go_loopw [42] (fun vi wr=>∃ (j:Nat) (ds:List EV),j=ds.length∧j≤m∧vi=.int .i64 j∧Blk wr w.heap.size 58 ((ds ++ List.replicate (m - j) evZ).flatMap evL).toArray∧ds.map EV.e=(ls.take j).map EV.e∧EB wr (fun k=>w.heap.size<k) ds∧Below w.heap.size w wr) (fun vi _=>m - (intOf vi).toNat)
  case atStart=>exact ⟨0,[],rfl,Nat.zero_le _,rfl,by simpa using Blk.new w 58 _,rfl,(fun x hx=>by cases hx),(Below.refl _ _).alloc (Nat.le_refl _) _⟩
  case round=>
   obtain ⟨j,ds,hjd,hj,rfl,hblk,hmap,hrd,hbel⟩:=hrel
   have HM:=ħ hmap
   have HD:=ħ hrd
   have HK:=ħ hjd
   clear hmap hrd hjd
   have hsz':=hbel.size
   by_cases hlt2:j<m
   ·have hlt':(j:Int)<m:=by omega
    obtain ⟨x,hgx⟩:∃ x,ls[j]?=some x:=⟨_,List.getElem?_eq_getElem (by rw[HLL.out];exact hlt2)⟩
    have hxm:=List.mem_of_getElem? hgx
    have hRr:=HE.out.below hbel (fun _ h=>h)
    have hix:=fun W=>ixE hPl c1 j hlt2 W
    have hix2:∀ W:World,(Instr.indexAt 45 (.slice (some ⟨w.heap.size,0,none⟩) m m) (.int .i64 (j:Int))).run Tryz.prog W=.ok (.pointer (some ⟨w.heap.size,j * 3,none⟩)) W:=fun W=>by simpa [bk,ofs,adr] using ixE (A:=some ⟨w.heap.size,0,none⟩) (n:=m) (fun _=>⟨_,_,rfl⟩) m j hlt2 W
    obtain ⟨c0,c1',c2'⟩:=hRr.at_ hgx
    have HG:=ħ hgx
    obtain ⟨t,kd,A0,cc,b⟩:=x
    have HX:=ħ (hRr.2 _ hxm)
    have HCl:=ħ fun W' B (y:Reads W' B 1 A0 b.length (bys b))=>cloneE_any B t kd A0 cc b W' y (HSm.out _ hxm)
    simp only at c0 c1' c2' HX
    clear hgx hRr hxm
    go_wp2_with fail
    refine (HCl.out _ _ (HX.out.alloc _)).mono ?_
    rintro e w2 ⟨A2,c2,rfl,rr2,hB2⟩
    have B2:Below w.heap.size w w2:=(hbel.alloc hsz' _).trans (hB2.mono (by simp;omega))
    have hlw:w.heap.size<wr.heap.size:=hblk.lt
    have k2:=(hblk.alloc (.cells (evC t kd A0 b.length cc) 58)).below hB2 (by simp;omega)
    obtain ⟨y0,y1,y2⟩:=k2.facts
    have hrep:List.replicate (m - j) evZ=evZ :: List.replicate (m - (j+1)) evZ:=by
     rw[show m - j=(m - (j+1))+1 by omega,List.replicate_succ]
    have hz0:(ds ++ List.replicate (m - j) evZ)[j]?=some evZ:=by
     rw[hrep,List.getElem?_append_right (by rw[←HK.out];exact Nat.le_refl _),←HK.out];simp
    have z0:w2.cell? ⟨w.heap.size,j * 3,none⟩=some (.int .i64 0):=by
     rw[y1,List.getElem?_toArray]
     have:=flat_get evL 3 evL_len _ j 0 _ hz0 (by omega)
     simpa [evL,evZ] using this
    have z1:w2.cell? ⟨w.heap.size,j * 3+1,none⟩=some (.int .i64 0):=by
     rw[y1,List.getElem?_toArray]
     have:=flat_get evL 3 evL_len _ j 1 _ hz0 (by omega)
     simpa [evL,evZ] using this
    have z2:w2.cell? ⟨w.heap.size,j * 3+2,none⟩=some (.slice none 0 0):=by
     rw[y1,List.getElem?_toArray]
     have:=flat_get evL 3 evL_len _ j 2 _ hz0 (by omega)
     simpa [evL,evZ] using this
    have HR:=ħ hrep
    clear y1 hrep hz0
    go_wp2
    have kk:=((k2.set_ (j * 3) (.int .i64 t)).set_ (j * 3+1) (.int .i64 kd)).set_ (j * 3+2) (.slice A2 b.length c2)
    rw[HR.out,HK.out,evL_set ds evZ (EV.mk t kd A2 c2 b) (List.replicate (m - (ds.length+1)) evZ),←HK.out] at kk
    refine ⟨⟨j+1,ds ++ [EV.mk t kd A2 c2 b],by rw[HK.out];simp,by omega,by go_num,?_,?_,?_,?_⟩,by simp[intOf];omega⟩
    ·rw[List.append_assoc];exact kk
    ·rw[List.map_append,HM.out,List.take_add_one,HG.out];simp[EV.e]
    ·intro r hr
     rcases List.mem_append.1 hr with hr | hr
     ·exact ((((((HD.out r hr).old (by omega)).alloc _).below hB2 (fun k hk=>by simp;omega)).more (fun k hk=>hk.1) |>.setCell (by simp) _).setCell (by simp) _).setCell (by simp) _
     ·obtain rfl:r=EV.mk t kd A2 c2 b:=by simpa using hr
      exact (((rr2.more (fun k hk=>by simp at hk;omega)).setCell (by simp) _).setCell (by simp) _).setCell (by simp) _
    ·exact ((B2.setCell (by simp) _).setCell (by simp) _).setCell (by simp) _
   ·have hk':¬ (j:Int)<m:=by omega
    have he:j=m:=by omega
    go_wp2
    go_ret
    have hd:ds.length=m:=by rw[←HK.out,he]
    have hbk:=hblk
    rw[he,Nat.sub_self,List.replicate_zero,List.append_nil] at hbk
    refine ⟨some ⟨w.heap.size,0,none⟩,m,ds,by rw[hd];rfl,by rw[HLs.out,HM.out,he,List.take_of_length_le (by rw[HLL.out];exact Nat.le_refl _)],⟨?_,HD.out.more (fun k hk=>by omega)⟩,hbel,by omega⟩
    have:=Reads.of_blk (B:=(w.heap.size≤·)) (n:=ds.length) (size:=3) hbk (by simp[flat_length evL 3 evL_len]) (Nat.le_refl _)
    rwa [List.take_of_length_le (by simp[flat_length evL 3 evL_len])] at this
 ·have hd:((es.map EV.e).drop k).take 16=[]:=by rw[List.drop_eq_nil_of_le (by rw[List.length_map];omega)];rfl
  have hnot:((es.length:Int)<(k:Int)+1):=by omega
  rw[hd]
  clear h hd hl hs hge
  generalize es.length=N at *
  go_enter Tryz.func115,Tryz.ntmps115
  go_wp2
  go_ret
  exact ⟨none,0,[],rfl,rfl,ES.nil,Below.refl _ _,Nat.le_refl _⟩
theorem LZ.push {w w4 w5:World}{Z:Nat→Prop}{g c c4 c5:Nat}{A A4 A5:Option Addr}{es:List EV}{t k:Int}{b:List Int}(h:LZ w Z g A c es)(hb:Below w.heap.size w w4)(r4:Reads w4 (w.heap.size≤·) 1 A4 b.length (bys b))
 (hg:(w4.alloc (.cells (evC t k A4 b.length c4) 58)).grownBy w5 (Value.slice A es.length c).ownBlock)
 (ho:w5.ownsRow 0 58 3 (.slice A5 (es.length+1) c5) (es.length+1) (es.flatMap evL ++ [.int .i64 t,.int .i64 k,.slice A4 b.length c4]))
 (hat:(Value.slice A5 (es.length+1) c5).ownBlock=(Value.slice A es.length c).ownBlock∨(Value.slice A5 (es.length+1) c5).ownBlock=some (w4.alloc (.cells (evC t k A4 b.length c4) 58)).heap.size) :
 LZ (w5.setCell ⟨g,0,none⟩ (.slice A5 (es.length+1) c5)) (fun k=>Z k∨w.heap.size≤k) g A5 c5 (es ++ [⟨t,k,A4,c4,b⟩])∧Fr Z w (w5.setCell ⟨g,0,none⟩ (.slice A5 (es.length+1) c5)):=by
 have hgl:=h.b.lt
 have hs4:=hb.size
 have hs5:=hg.size
 have hsa:(w4.alloc (.cells (evC t k A4 b.length c4) 58)).heap.size=w4.heap.size+1:=by simp
 have hlen:(es ++ [(⟨t,k,A4,c4,b⟩:EV)]).length=es.length+1:=by simp
 have hfl:(es ++ [(⟨t,k,A4,c4,b⟩:EV)]).flatMap evL=es.flatMap evL ++ [.int .i64 t,.int .i64 k,.slice A4 b.length c4]:=by simp[evL]
 have own:∀ j,(Value.slice A es.length c).ownBlock=some j→j<w.heap.size∧j≠g∧Z j:=fun j hj=>⟨own_lt h.o hj,own_ne h.o h.b (by decide) j hj,h.zo j hj⟩
 have own5:∀ j,(Value.slice A5 (es.length+1) c5).ownBlock=some j→(Value.slice A es.length c).ownBlock=some j∨j=w4.heap.size+1:=by
  intro j hj
  rcases hat with e | e
  ·left;rw[←e];exact hj
  ·right;rw[e] at hj;rw[hsa] at hj;injection hj with hj;exact hj.symm
 have g5:Blk w5 g 136 #[.slice A es.length c]:=((h.b.below hb hgl).alloc _).grown hg (fun e=>(own g e.symm).2.1 rfl)
 have f5:Fr Z w w5:=((Fr.of_below (S:=Z) hb).alloc (.cells (evC t k A4 b.length c4) 58)).grown hg (fun j hj=>.inl (own j hj).2.2)
 refine ⟨⟨?_,?_,.inl h.zg,?_,?_⟩,f5.setCell (p:=⟨g,0,none⟩) (.inl h.zg) _⟩
 ·rw[hlen]
  simpa using g5.set_ 0 (.slice A5 (es.length+1) c5)
 ·rw[hlen,hfl]
  exact own_set ho (own_ne ho g5 (by decide)) _
 ·intro j hj
  rw[hlen] at hj
  rcases own5 j hj with h1 | h1
  ·exact .inl (own j h1).2.2
  ·right;omega
 ·intro x hx
  rw[hlen]
  rcases List.mem_append.1 hx with hx | hx
  ·have hx1:=((h.eb x hx).old (by omega)).below hb (fun j hj=>hj.2)
   have hx2:=(hx1.alloc (.cells (evC t k A4 b.length c4) 58)).grown hg (fun j hj e=>hj.1.2.2 e.symm)
   refine (hx2.setCell (p:=⟨g,0,none⟩) (fun hj=>hj.1.2.1 rfl) _).more (fun j hj=>⟨.inl hj.1.1,hj.1.2.1,fun e=>?_⟩)
   rcases own5 j e with h1 | h1
   ·exact hj.1.2.2 h1
   ·have:=hj.2;omega
  ·rw[List.mem_singleton] at hx
   subst hx
   have hx1:=(r4.old (by omega)).alloc (.cells (evC t k A4 b.length c4) 58)
   have hx2:=hx1.grown hg (fun j hj e=>by have:=(own j e.symm).1;omega)
   refine (hx2.setCell (p:=⟨g,0,none⟩) (fun hj=>by have e2:=hj.1;simp at e2;omega) _).more (fun j hj=>⟨.inr hj.1,by omega,fun e=>?_⟩)
   rcases own5 j e with h1 | h1
   ·have:=(own j h1).1;omega
   ·have:=hj.2;omega
theorem logAppend_any (w:World)(Z B:Nat→Prop)(g:Nat)(L:List Ent)(t k:Int)(A0:Option Addr)(c0:Nat)(b:List Int)(h:LS w Z g L)(hv:Nd.validE ⟨t,k,b⟩=true)(hT:lastT L≤t)(hr:Reads w B 1 A0 b.length (bys b))(hl:L.length≤900000) :
 Calls Tryz.prog 66 #[.pointer (some ⟨g,0,none⟩),evV t k A0 b.length c0] w fun e w'=>e=.returned (.tuple #[.int .i64 (L.length+1:Nat),.int .i64 0])∧LS w' (fun k=>Z k∨w.heap.size≤k) g (L ++ [⟨t,k,b⟩])∧Fr Z w w':=by
 have hbl:b.length≤1000000:=by
  unfold Nd.validE at hv
  simp only[Bool.and_eq_true,decide_eq_true_eq] at hv
  omega
 have HV:=ħ fun W=>validE_any t k A0 c0 b W true hv
 have HLa:=ħ fun W (x:LS W Z g L)=>last_any W Z g L x (by omega)
 have HCl:=ħ fun (W:World) (y:Reads W (fun j=>B j∧j<w.heap.size) 1 A0 b.length (bys b))=>cloneE_any _ t k A0 c0 b W y hbl
 have b1:Below w.heap.size w (w.alloc (.cells (evC t k A0 b.length c0) 58)):=(Below.refl _ _).alloc (Nat.le_refl _) _
 have g1:Blk (w.alloc (.cells (evC t k A0 b.length c0) 58)) w.heap.size 58 (evC t k A0 b.length c0):=Blk.new w 58 _
 have hnT:¬ t<lastT L:=by omega
 have R:=ħ (hr.old (by omega))
 have H:=ħ h
 clear hv h hT hr
 generalize lastT L=T at *
 go_enter Tryz.func66,Tryz.ntmps66
 go_wp2_with fail
 generalize w.alloc (.cells (evC t k A0 b.length c0) 58)=W1 at *
 obtain ⟨q0,q1,q2⟩:=g1.facts
 have H1:=H.out.below b1
 go_wp2_with fail
 refine (HV.out W1).mono ?_
 rintro e w2 ⟨rfl,b2⟩
 have H2:=H1.below b2
 have g2:=g1.below b2 g1.lt
 have bb2:=b1.trans (b2.mono b1.size)
 clear q0 q1 q2
 obtain ⟨q0,q1,q2⟩:=g2.facts
 go_wp2_with fail
 refine (HLa.out w2 H2).mono ?_
 rintro e w3 ⟨rfl,b3⟩
 have H3:=H2.below b3
 have g3:=g2.below b3 g2.lt
 have bb3:=bb2.trans (b3.mono bb2.size)
 clear q0 q1 q2
 obtain ⟨q0,q1,q2⟩:=g3.facts
 obtain ⟨A,c,es,hz,heL⟩:=H3
 have hel:es.length=L.length:=by rw[←heL,List.length_map]
 have HeL:=ħ heL
 have Hel:=ħ hel
 obtain ⟨x0,x1,x2⟩:=hz.b.facts
 have hn9:es.length≤900000:=by omega
 clear heL hel hl
 go_upto_region 6 with (fail)
 have HK:=ħ fun (W:World) (x:Below w3.heap.size w3 W)=>(show W.cell? ⟨g,0,none⟩=some (.slice A es.length c)∧W.cell? ⟨w.heap.size,0,none⟩=some (.int .i64 t)∧W.cell? ⟨w.heap.size,1,none⟩=some (.int .i64 k)∧W.cell? ⟨w.heap.size,2,none⟩=some (.slice A0 b.length c0) from ⟨(hz.b.below x hz.b.lt).cell 0,(g3.below x g3.lt).cell 0,(g3.below x g3.lt).cell 1,(g3.below x g3.lt).cell 2⟩)
 go_cut [] (fun wx=>LS wx (fun k=>Z k∨w3.heap.size≤k) g (L ++ [⟨t,k,b⟩])∧Fr Z w3 wx)
 case first=>
  obtain ⟨k1,k2,k3,k4⟩:=HK.out _ (Below.refl _ _)
  go_region_law (first
   | (refine step_append_any _ (by rfl) (.tmp 24) (.tmp 27) _ (by rfl) 0 58 _ 3 40 Tryz.underlying45 info58 rfl (by omega) (.slice A es.length c) es.length (es.flatMap evL) (by rfl) (own_fr hz.o (Fr.of_below (S:=fun _=>False) (B4.trans ((Below.refl _ _).alloc B4.size (.cells (evC t k A4 b.length c4) 58)))) (fun _ _=>id)) _ (some ⟨w4.heap.size,0,none⟩) 1 1 [.int .i64 t,.int .i64 k,.slice A4 b.length c4] (by rfl) (Reads.newS _ [.int .i64 t,.int .i64 k,.slice A4 b.length c4] 58 (0,0) 1 3 rfl _ rfl) (by intro u hu;simp at hu;rcases hu with rfl | rfl | rfl <;> rfl) (by simp only[maxLen];omega) (by omega) (by simp) ?_
      intro A5 c5 w5 hown5 hgr5 hat5
      have j5:=((hz.b.below B4 hz.b.lt).alloc (.cells (evC t k A4 b.length c4) 58)).grown hgr5 (fun e=>own_ne hz.o hz.b (by decide) _ e.symm rfl)
      obtain ⟨y0,y1,y2⟩:=j5.facts)
   | (go_simp;((with_reducible refine (HCl.out _ (by exact (R.out.below bb3 (fun j hj=>hj.2)).drew)).mono ?_);rintro e w4 ⟨A4,c4,rfl,r4,hB4⟩;have B4:=((Below.refl w3.heap.size w3).drew).trans hB4;obtain ⟨m1,m2,m3,m4⟩:=HK.out _ B4;have lg4:=(hz.b.below B4 hz.b.lt).lt;have lw4:=(g3.below B4 g3.lt).lt)))
  all_goals
   go_wp2_with fail
   go_meet
   case rel=>
    obtain ⟨u1,u2⟩:=LZ.push hz B4 r4 hgr5 hown5 hat5
    exact ⟨⟨A5,c5,_,u1,by rw[List.map_append,HeL.out];rfl⟩,u2⟩
 case rest=>
  obtain ⟨hL,hF⟩:=hcut
  obtain ⟨A6,c6,es6,hz6,he6⟩:=hL
  have hel6:es6.length=L.length+1:=by rw[←List.length_map (f:=EV.e),he6,List.length_append,List.length_singleton]
  have He6:=ħ he6
  have Hl6:=ħ hel6
  clear q0 q1 q2 x0 x1 x2 he6 hel6
  obtain ⟨x0,x1,x2⟩:=hz6.b.facts
  go_wp2_with fail
  refine bodyPost_ret (v:=.tuple #[.int .i64 (L.length+1:Nat),.int .i64 0]) (by simp[results,Tryz.results66,go_sem,Hl6.out]) rfl ⟨rfl,?_,?_⟩
  ·exact LS.wider ⟨A6,c6,es6,hz6,He6.out⟩ (fun j hj=>hj.elim .inl (fun e=>.inr (by have:=bb3.size;omega)))
  ·exact (Fr.of_below bb3).trans hF
theorem zero_size (z:Array Value)(n:Nat):(Builtin.zeroCells z n).size=z.size * n∨(Builtin.zeroCells z n).size=n * z.size:=by
 unfold Builtin.zeroCells
 simp
theorem run_clear45 {w:World}{A:Option Addr}{n c k:Nat}{xs:List Value}(h:w.ownsRow 0 58 3 (.slice A n c) n xs)(hk:k≤n) :
 ∃ w2,(Builtin.clear_ #[45] 0 #[.slice (cutE A c k) (n - k) (c - k)]).run Tryz.prog w=.ok (.tuple #[]) w2∧w2.ownsRow 0 58 3 (.slice A k c) k (xs.take (k * 3))∧Fr (fun j=>(Value.slice A n c).ownBlock=some j) w w2∧w2.heap.size=w.heap.size:=by
 have hu:Tryz.prog.underlying 45=some (.slice 58):=Tryz.underlying45
 rcases Nat.lt_or_ge k n with hlt | hge
 ·rcases h.2 with ⟨e1,e2⟩ | ⟨g,cap,cur,e1,e2,e3,e4,e5,e6,e7⟩
  ·omega
  ·injection e1 with hA _ hc
   subst hA;subst hc
   have hcut:cutE (some ⟨g,0,none⟩) c k=some ⟨g,k * 3,none⟩:=by
    unfold cutE
    rw[if_neg (by omega)]
    show some (Addr.add ⟨g,0,none⟩ (k * 3))=_
    rw[Addr.add_lit,Nat.zero_add]
   obtain ⟨zs,hzs,hzl,hz1⟩:∃ zs:List Value,(Builtin.zeroCells (Value.agg #[.int .i64 0,.int .i64 0,.slice none 0 0]).cells (n - k)).toList=zs∧zs.length=(n - k) * 3∧∀ v∈zs,v.oneCell'=true:=by
    refine ⟨_,rfl,?_,?_⟩
    ·rw[Array.length_toList]
     rcases zero_size (Value.agg #[.int .i64 0,.int .i64 0,.slice none 0 0]).cells (n - k) with e | e <;> rw[e] <;> simp[Value.cells] <;> omega
    ·intro v hv
     rw[Array.mem_toList_iff] at hv
     unfold Builtin.zeroCells at hv
     obtain ⟨i,_,rfl⟩:=Array.mem_map.1 hv
     show ((#[Value.int .i64 0,Value.int .i64 0,Value.slice none 0 0]:Array Value)[i % 3]!).oneCell'=true
     rcases (show i % 3=0∨i % 3=1∨i % 3=2 by omega) with e | e | e <;> rw[e] <;> rfl
   have hst:=run_storeCells_at Tryz.prog g (k * 3) 58 zs 0 cur w e3 (by rw[hzl,e6];have:=Nat.mul_le_mul_right 3 e4;omega) hz1
   have hm:=Nat.mul_le_mul_right 3 e4
   have hk3:=Nat.mul_le_mul_right 3 hk
   have hnk:k * 3+(n - k) * 3=n * 3:=by rw[←Nat.add_mul,Nat.add_sub_cancel' hk]
   refine ⟨w.setRow g (cur.toList.take (k * 3+0) ++ zs ++ cur.toList.drop (k * 3+0+zs.length)).toArray,?_,⟨?_,.inr ⟨g,c,_,rfl,e2,setRow_heap w g cur _ 58 (0,0) e3,by omega,e5,?_,?_⟩⟩,?_,by simp⟩
   ·obtain ⟨m,hm⟩:∃ m,n - k=m+1:=⟨n - k - 1,by omega⟩
    rw[hcut]
    have hzv:=fun W=>Tryz.zeroValue58 W
    unfold Builtin.clear_
    rw[hm] at hzs⊢
    simp[run_underlying hu,hzv]
    rw[hzs,hst]
    simp
   ·rw[List.length_take,h.1];omega
   ·simp[hzl,e6];omega
   ·rw[Nat.add_zero,List.append_assoc,List.take_append_of_le_length (by simp[e6];omega),List.take_take,Nat.min_self,←e7,List.take_take,Nat.min_eq_left hk3]
   ·exact ⟨rfl,rfl,rfl,by simp,fun j _ hj=>setRow_other w g j _ (fun e=>hj (by rw[e];rfl))⟩
 ·have:k=n:=by omega
  subst this
  refine ⟨w,?_,?_,Fr.refl _ _,rfl⟩
  ·unfold Builtin.clear_
   rw[Nat.sub_self]
   cases cutE A c k <;> simp[run_underlying hu]
  ·have hx:xs.take (k * 3)=xs:=List.take_of_length_le (by rw[h.1];exact Nat.le_refl _)
   rw[hx];exact h
end Go.Proofs.YtdfobfjpkjddpaaGreat

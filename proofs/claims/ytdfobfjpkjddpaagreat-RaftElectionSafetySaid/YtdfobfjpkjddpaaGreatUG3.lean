import Derived.Test.YtdfobfjpkjddpaaGreatUG2
import Derived.Test.YtdfobfjpkjddpaaGreatUG0
import Derived.Lib.SlicesCompact
import Derived.Test.YtdfobfjpkjddpaaGreatUG1
set_option linter.unusedVariables false
set_option linter.unusedSimpArgs false
set_option maxRecDepth 10000
set_option maxHeartbeats 4000000
namespace Go.Proofs.YtdfobfjpkjddpaaGreat
open Go.RowKit Go.Own Go.Quo Go.Wire
theorem run_mid {A:Option Addr}{n c lo hi:Nat}(h1:lo≤hi)(h2:hi≤c)(W:World):(Instr.slice 46 (.slice A n c) (some (.int .i64 (lo:Int))) (some (.int .i64 (hi:Int))) none).run Tryz.prog W=.ok (.slice (cutA A c lo) (hi - lo) (c - lo)) W:=by
 have hu:Tryz.prog.underlying 46=some (.slice (Tryz.prog.elem 46)):=by kernel_rfl
 have he:Tryz.prog.elem 46=5:=by kernel_rfl
 obtain ⟨i,k1,k2⟩:=i5x
 rw[run_slice_lh W 46 A n c hu .i64 .i64 (lo:Int) (hi:Int) (by omega) (by omega) (by omega),he]
 simp[sizeOf,typeInfo,k1,k2,sliced,cutA]
theorem run_mid2 {A:Option Addr}{n c lo hi:Nat}(h1:lo≤hi)(h2:hi≤c)(W:World):(Instr.sliceAt 46 (.slice A n c) (some (.int .i64 (lo:Int))) (some (.int .i64 (hi:Int))) none).run Tryz.prog W=.ok (.slice (cutA A c lo) (hi - lo) (c - lo)) W:=by
 have hu:Tryz.prog.underlying 46=some (.slice (Tryz.prog.elem 46)):=by kernel_rfl
 rw[run_sliceAt_slice W 46 _ _ _ _ hu]
 exact run_mid h1 h2 W
def RRPost (v:Value)(w:World)(e:Ending)(w':World):Prop:=e=.returned v∧Below w.heap.size w w'
theorem readRecord_nil (A:Option Addr)(c:Nat)(prev:Int)(w:World):Calls Tryz.prog 58 #[.slice A 0 c,.int .u64 prev] w (RRPost (.tuple #[recV 0 none 0 0,.int .u64 0,.int .i64 0,.bool false]) w):=by
 have HL:=ħ fun W=>readLength_nil A c W
 go_enter Tryz.func58,Tryz.ntmps58
 go_wp2_with (go_at_call 89;((with_reducible refine (HL.out _).mono ?_);rintro e w2 ⟨rfl,rfl⟩))
 refine bodyPost_ret (v:=.tuple #[recV 0 none 0 0,.int .u64 0,.int .i64 0,.bool false]) (by simp[results,Tryz.results58,go_sem]) rfl ⟨rfl,?_⟩
 repeat (first | with_reducible refine Below.setCell ?_ (by simp) _ | with_reducible refine Below.alloc ?_ (by simp) _)
 exact Below.refl _ _
def ROPost (B:Nat→Prop)(kind:Int)(body:List Int)(sm:Int)(rl:Nat)(w:World)(e:Ending)(w':World):Prop:=∃ A' c',e=.returned (.tuple #[recV kind A' body.length c',.int .u64 sm,.int .i64 (rl:Int),.bool true])∧Reads w' B 1 A' body.length (bys body)∧Below w.heap.size w w'
theorem readRecord_ok (B:Nat→Prop)(A:Option Addr)(c:Nat)(prev kind:Int)(hk0:0≤kind)(hk1:kind<256)(body rest:List Int)(hbl:body.length≤8192)(hbB:Bytes body)(w:World)(h:Reads w B 1 A (encR prev kind body ++ rest).length (bys (encR prev kind body ++ rest)))(hc:(encR prev kind body ++ rest).length≤c)(hl:rest.length≤50000000) :
 Calls Tryz.prog 58 #[.slice A (encR prev kind body ++ rest).length c,.int .u64 prev] w (ROPost B kind body (chF prev kind body) (encR prev kind body).length w):=by
 obtain ⟨en,hen⟩:∃ en,en=za (body.length:Int):=⟨_,rfl⟩
 obtain ⟨sm,hsm⟩:∃ sm,sm=chF prev kind body:=⟨_,rfl⟩
 have hb:encR prev kind body ++ rest=en ++ (kind :: (body ++ (leTo sm 8 ++ rest))):=by
  rw[hen,hsm];unfold encR;simp[le8,leTo]
 have hRl:(encR prev kind body).length=en.length+1+body.length+8:=by
  rw[hen];unfold encR;simp[le8];omega
 have h3:en.length≤3:=by rw[hen];exact encI_len3 (by omega) (by omega)
 have HRl:=ħ hRl
 have hbl2:(encR prev kind body ++ rest).length=en.length+1+body.length+8+rest.length:=by rw[List.length_append,hRl]
 have HL:=ħ fun W' (x:Reads W' B 1 A (en ++ (kind :: (body ++ (leTo sm 8 ++ rest)))).length (bys (en ++ (kind :: (body ++ (leTo sm 8 ++ rest))))))=>by
  have:=readLength_ok B A c body.length (kind :: (body ++ (leTo sm 8 ++ rest))) W' (by omega) (by rw[←hen];exact x) (by rw[←hen,←hb];exact hc) (by simp[leTo_len];omega)
  rw[←hen] at this
  exact this
 rw[hb] at h hc hbl2⊢
 rw[←hsm]
 have HG0:=ħ (show gd (en ++ (kind :: (body ++ (leTo sm 8 ++ rest)))) en.length=kind by have:=gd_right (a:=en) (b:=kind :: (body ++ (leTo sm 8 ++ rest))) (i:=0) (by simp);rw[Nat.add_zero] at this;rw[this];rfl)
 have HG1:=ħ fun i (hi:i<8)=>(show gd (en ++ (kind :: (body ++ (leTo sm 8 ++ rest)))) (en.length+1+body.length+i)=byteAt sm i by
  rw[show en ++ (kind :: (body ++ (leTo sm 8 ++ rest)))=(en ++ kind :: body) ++ (leTo sm 8 ++ rest) by simp]
  rw[show en.length+1+body.length+i=(en ++ kind :: body).length+i by simp;omega]
  rw[gd_right (by rw[List.length_append,leTo_len];omega),gd_left (by rw[leTo_len];omega),gd_get (by rw[leTo_len];omega)]
  simp[leTo])
 have hcut:=Reads.cutB h (k:=en.length+1) (by omega) hc
 have hdr:(en ++ (kind :: (body ++ (leTo sm 8 ++ rest)))).drop (en.length+1)=body ++ (leTo sm 8 ++ rest):=by
  rw[←List.drop_drop,List.drop_left];rfl
 rw[hdr] at hcut
 have hbody:=Reads.front hcut
 have pA:=h.plain (by omega)
 have HCh:=ħ fun W' (x:Reads W' B 1 (cutA A c (en.length+1)) body.length (bys body))=>chain_any B (cutA A c (en.length+1)) (c - (en.length+1)) prev kind hk0 hk1 body W' x hbB (by omega)
 rw[←hsm] at HCh
 have HRd:=ħ h
 have HBd:=ħ hbody
 have HBy:=ħ fun i=>(show byteAt sm i=sm / 2 ^ (8 * i) % 256 from rfl)
 clear hb hen hsm hdr hcut h hbody
 obtain ⟨L,hL⟩:∃ L:Nat,(en ++ (kind :: (body ++ (leTo sm 8 ++ rest)))).length=L:=⟨_,rfl⟩
 generalize en ++ (kind :: (body ++ (leTo sm 8 ++ rest)))=b at *
 rw[hL] at HL HRd hc hbl2 pA⊢
 have hge1:en.length+1+body.length+8≤L:=by omega
 have hle1:L≤60000000:=by omega
 have HLb:=ħ hL
 have hlc:L≤c:=hc
 clear hL hbl2 hRl hc
 have b1:Below w.heap.size w (w.alloc (.cells #[.int .u8 0,.slice none 0 0] 115)):=(Below.refl _ _).alloc (Nat.le_refl _) _
 have g1:Blk (w.alloc (.cells #[.int .u8 0,.slice none 0 0] 115)) w.heap.size 115 #[.int .u8 0,.slice none 0 0]:=Blk.new w 115 _
 have HL1:=ħ (HL.out _ (HRd.out.alloc (.cells #[.int .u8 0,.slice none 0 0] 115)))
 have hnl:¬ ((L:Int) - en.length<1+body.length+8):=by omega
 have hix:=fun W=>ix31 pA c en.length (show en.length<L by omega) W
 have r1:∀ W:World,(Instr.slice 46 (.slice A L c) (some (.int .i64 ((en.length:Int)+1))) (some (.int .i64 ((en.length:Int)+1+body.length))) none).run Tryz.prog W=.ok (.slice (cutA A c (en.length+1)) body.length (c - (en.length+1))) W:=fun W=>by
  have:=run_mid (A:=A) (n:=L) (c:=c) (lo:=en.length+1) (hi:=en.length+1+body.length) (by omega) (by omega) W
  rw[show en.length+1+body.length - (en.length+1)=body.length by omega] at this
  simpa using this
 have r2:∀ W:World,(Instr.sliceAt 46 (.slice A L c) (some (.int .i64 ((en.length:Int)+1))) (some (.int .i64 ((en.length:Int)+1+body.length))) none).run Tryz.prog W=.ok (.slice (cutA A c (en.length+1)) body.length (c - (en.length+1))) W:=fun W=>by
  have:=run_mid2 (A:=A) (n:=L) (c:=c) (lo:=en.length+1) (hi:=en.length+1+body.length) (by omega) (by omega) W
  rw[show en.length+1+body.length - (en.length+1)=body.length by omega] at this
  simpa using this
 clear HL
 go_enter Tryz.func58,Tryz.ntmps58
 go_wp2_with fail
 generalize w.alloc (.cells #[.int .u8 0,.slice none 0 0] 115)=W1 at *
 refine HL1.out.mono ?_
 rintro e w2 ⟨rfl,hB2⟩
 have b2:=b1.trans (hB2.mono b1.size)
 have g2:=g1.below hB2 g1.lt
 have hrd2:=HRd.out.fr (S:=fun _=>False) (Fr.of_below b2) (fun _ _=>id)
 have hbd2:=HBd.out.fr (S:=fun _=>False) (Fr.of_below b2) (fun _ _=>id)
 have HCh2:=ħ (HCh.out w2 hbd2)
 have hbdo:=(HBd.out.old (by omega)).fr (S:=fun _=>False) (Fr.of_below b2) (fun _ _=>id)
 have hc0:w2.cell? ⟨bk A,ofs A+en.length,none⟩=some (.int .u8 kind):=by
  have e:=HLb.out
  subst e
  have:=gdb_at hrd2 (k:=en.length) (by omega)
  rw[HG0.out] at this
  exact this
 have HCi:=ħ fun i (hi:i<8)=>(show w2.cell? ⟨bk A,ofs A+(en.length+1+body.length+i),none⟩=some (.int .u8 (byteAt sm i)) by
  have e:=HLb.out
  subst e
  have:=gdb_at hrd2 (k:=en.length+1+body.length+i) (by omega)
  rw[HG1.out i hi] at this
  exact this)
 clear HL1 hB2 b1 g1 HG0 HG1 HCh HRd HBd
 go_wp2_with (go_at_call 90;((with_reducible refine HCh2.out.mono ?_);rintro e w3 ⟨rfl,rfl⟩))
 go_loopw [54] (fun vi wr=>∃ k n:Nat,k≤8∧vi=.int .i64 k∧wr=w2.drewN n) (fun i _=>8 - (intOf i).toNat)
 case atStart=>exact ⟨0,0,by omega,rfl,rfl⟩
 case round=>
  obtain ⟨k,nq,hk,rfl,rfl⟩:=hrel
  obtain ⟨q0,q1,q2⟩:=g2.facts
  by_cases hlt:k<8
  ·have hlt':(k:Int)<8:=by omega
   have hci:=HCi.out k hlt
   have hixk:∀ W:World,(Instr.indexAt 46 (.slice A L c) (.int .i64 ((en.length:Int)+(1+body.length)+k))).run Tryz.prog W=.ok (.pointer (some ⟨bk A,ofs A+(en.length+1+body.length+k),none⟩)) W:=fun W=>by
    have:=ix31 pA c (en.length+1+body.length+k) (by omega) W
    rw[show (en.length:Int)+(1+body.length)+k=((en.length+1+body.length+k:Nat):Int) by omega]
    exact this
   have HBk:=ħ (HBy.out k)
   have hw1:IntKind.i64.wrap ((en.length:Int)+(1+body.length)+k)=(en.length:Int)+(1+body.length)+k:=IntWalk.i64_in _ (by omega)
   have hw2:IntKind.i64.wrap (8 * (k:Int))=8 * (k:Int):=IntWalk.i64_in _ (by omega)
   obtain ⟨v,hv⟩:∃ v,sm / 2 ^ (8 * k) % 256=v:=⟨_,rfl⟩
   rw[HBk.out,hv] at hci
   go_wp2_with fail
   go_quiet (fail)
   go_wp2
   exact ⟨⟨k+1,_,by omega,by go_num,rfl⟩,by simp[intOf];omega⟩
  ·have hge:¬ ((k:Int)<8):=by omega
   go_wp2_with fail
   refine bodyPost_ret (v:=.tuple #[recV kind (cutA A c (en.length+1)) body.length (c - (en.length+1)),.int .u64 sm,.int .i64 ((en.length:Int)+(1+body.length)+8),.bool true]) (by simp[results,Tryz.results58,go_sem,q1]) rfl ⟨cutA A c (en.length+1),c - (en.length+1),?_,?_,?_⟩
   ·rw[HRl.out]
    congr 3
    simp;omega
   ·exact (((hbdo.setCell (by simp) _).setCell (by simp) _).drewN _).more (fun k hk=>hk.1)
   ·have bb:=(b2.setCell (p:=⟨w.heap.size,0,none⟩) (by simp) (.int .u8 kind)).setCell (p:=⟨w.heap.size,1,none⟩) (by simp) (.slice (cutA A c (en.length+1)) body.length (c - (en.length+1)))
    exact ⟨bb.os,bb.tape,bb.output,bb.size,bb.block⟩
end Go.Proofs.YtdfobfjpkjddpaaGreat
namespace Go.Quo
open Go.Lib
theorem up_ext:∀ {l r:List Int},l.Pairwise (· < ·)→r.Pairwise (· < ·)→(∀ x,x∈l↔x∈r)→l=r
 | [],[],_,_,_=>rfl
 | [],b :: r,_,_,h=>by have:=(h b).2 (by simp);simp at this
 | a :: l,[],_,_,h=>by have:=(h a).1 (by simp);simp at this
 | a :: l,b :: r,hl,hr,h=>by
  rw[List.pairwise_cons] at hl hr
  have hab:a=b:=by
   rcases List.mem_cons.1 ((h a).1 (by simp)) with e | e
   ·exact e
   ·rcases List.mem_cons.1 ((h b).2 (by simp)) with e' | e'
    ·exact e'.symm
    ·have h1:=hr.1 a e
     have h2:=hl.1 b e'
     omega
  subst hab
  rw[up_ext hl.2 hr.2]
  intro x
  constructor
  ·intro hx
   rcases List.mem_cons.1 ((h x).1 (by simp[hx])) with e | e
   ·have:=hl.1 x hx;omega
   ·exact e
  ·intro hx
   rcases List.mem_cons.1 ((h x).2 (by simp[hx])) with e | e
   ·have:=hr.1 x hx;omega
   ·exact e
def srt (zs:List Int):List Int:=zs.mergeSort fun x y=>decide (x≤y)
theorem srt_length (zs:List Int):(srt zs).length=zs.length:=by simp[srt]
theorem srt_perm (zs:List Int):(srt zs).Perm zs:=List.mergeSort_perm zs _
theorem srt_up (zs:List Int):(srt zs).Pairwise (fun a b=>decide (a≤b)=true):=List.pairwise_mergeSort (fun a b c=>by simp;omega) (fun a b=>by simp;omega) zs
theorem srt_mono {zs:List Int}{i j:Nat}(hij:i<j)(hj:j<(srt zs).length):(srt zs)[i]'(by omega)≤(srt zs)[j]:=by
 have:=List.pairwise_iff_getElem.1 (srt_up zs) i j (by omega) hj hij
 simpa using this
theorem compact_props (d:Array Int)(hs:∀ i j,i<j→j<d.size→d[i]!≤d[j]!):∀ m,m≤d.size→(compactUpTo d m).Pairwise (· < ·)∧(∀ x,x∈compactUpTo d m↔∃ j,j<m∧d[j]! = x)
 | 0,_=>⟨by simp[compactUpTo],fun x=>by simp[compactUpTo]⟩
 | m+1,hm=>by
  obtain ⟨h1,h2⟩:=compact_props d hs m (by omega)
  rw[compactUpTo_succ]
  by_cases hk:keeps d m=true
  ·rw[if_pos hk]
   refine ⟨?_,fun x=>?_⟩
   ·rw[List.pairwise_append]
    refine ⟨h1,by simp,fun a ha b hb=>?_⟩
    obtain ⟨j,hj,rfl⟩:=(h2 a).1 ha
    simp at hb
    subst hb
    have hle:=hs j m hj (by omega)
    simp[keeps] at hk
    rcases hk with hk | hk
    ·omega
    ·have h3:d[j]!≤d[m - 1]!:=by
      by_cases e:j=m - 1
      ·rw[e];exact Int.le_refl _
      ·exact hs j (m - 1) (by omega) (by omega)
     have h4:=hs (m - 1) m (by omega) (by omega)
     have hk':d[m]!≠d[m - 1]!:=by simpa using hk
     omega
   ·rw[List.mem_append,h2]
    constructor
    ·rintro (⟨j,hj,e⟩ | hx)
     ·exact ⟨j,by omega,e⟩
     ·simp at hx;exact ⟨m,by omega,by simpa using hx.symm⟩
    ·rintro ⟨j,hj,e⟩
     by_cases hjm:j<m
     ·exact .inl ⟨j,hjm,e⟩
     ·have:j=m:=by omega
      subst this;right;simpa using e.symm
  ·rw[if_neg hk,List.append_nil]
   refine ⟨h1,fun x=>?_⟩
   rw[h2]
   constructor
   ·rintro ⟨j,hj,e⟩;exact ⟨j,by omega,e⟩
   ·rintro ⟨j,hj,e⟩
    by_cases hjm:j<m
    ·exact ⟨j,hjm,e⟩
    ·have:j=m:=by omega
     subst this
     simp[keeps] at hk
     have hk':d[j]! = d[j - 1]!:=by simpa using hk.2
     exact ⟨j - 1,by omega,by rw[←hk'];exact e⟩
theorem get_bang {l:List Int}{j:Nat}(hj:j<l.length):l.toArray[j]! = l[j]:=by simp[hj]
theorem compact_srt (zs:List Int):(compact (srt zs)).Pairwise (· < ·)∧∀ x,x∈compact (srt zs)↔x∈zs:=by
 obtain ⟨h1,h2⟩:=compact_props (srt zs).toArray (fun i j hij hj=>by
  have hj':j<(srt zs).length:=by simpa using hj
  rw[get_bang hj',get_bang (show i<(srt zs).length by omega)]
  exact srt_mono hij hj') (srt zs).length (by simp)
 refine ⟨h1,fun x=>?_⟩
 rw[show compact (srt zs)=compactUpTo (srt zs).toArray (srt zs).length from rfl,h2,←(srt_perm zs).mem_iff,List.mem_iff_getElem]
 constructor
 ·rintro ⟨j,hj,e⟩;exact ⟨j,hj,by rw[←e,get_bang hj]⟩
 ·rintro ⟨j,hj,e⟩;exact ⟨j,hj,by rw[get_bang hj];exact e⟩
def all64:List Int:=(List.range 64).map (fun k:Nat=>(k:Int))
def memF (o n:List Int):List Int:=all64.filter fun m=>hasB o m || hasB n m
theorem all64_up:all64.Pairwise (· < ·):=by decide +kernel
theorem mem_all64 (x:Int):x∈all64↔0≤x∧x<64:=by
 unfold all64
 rw[List.mem_map]
 constructor
 ·rintro ⟨k,hk,rfl⟩;simp at hk;omega
 ·rintro ⟨h1,h2⟩;exact ⟨x.toNat,by simp;omega,by omega⟩
theorem hasB_mem (l:List Int)(x:Int):hasB l x=true↔x∈l:=by unfold hasB;exact List.contains_iff_mem
theorem memF_up (o n:List Int):(memF o n).Pairwise (· < ·):=all64_up.sublist List.filter_sublist
theorem mem_memF (o n:List Int)(x:Int):x∈memF o n↔(0≤x∧x<64)∧(x∈o∨x∈n):=by
 unfold memF
 rw[List.mem_filter,mem_all64,Bool.or_eq_true,hasB_mem,hasB_mem]
theorem memF_le (o n:List Int):(memF o n).length≤64:=by
 have:=List.length_filter_le (fun m=>hasB o m || hasB n m) all64
 have e:all64.length=64:=by decide
 unfold memF;omega
theorem asc_range {l:List Int}(h:ascB l=true):∀ x∈l,0≤x∧x<64:=by
 intro x hx
 obtain ⟨k,hk,e⟩:=List.mem_iff_getElem.1 hx
 unfold ascB at h
 rw[List.all_eq_true] at h
 have:=h k (by simpa using hk)
 simp[okAt] at this
 rw[gd_get hk,e] at this
 omega
theorem ml_asc {l:List Int}(h:mlB l=true):ascB l=true∧1≤l.length∧l.length≤9:=by
 unfold mlB at h
 simp only[Bool.and_eq_true,decide_eq_true_eq] at h
 exact ⟨h.2,h.1.1,h.1.2⟩
theorem v_parts {o n:List Int}(h:vB o n=true):mlB o=true∧(n.length=0∨mlB n=true):=by
 unfold vB at h
 simp only[Bool.and_eq_true,Bool.or_eq_true,decide_eq_true_eq] at h
 exact h
theorem v_lens {o n:List Int}(h:vB o n=true):1≤o.length∧o.length≤9∧n.length≤9:=by
 obtain ⟨h1,h2⟩:=v_parts h
 have a:=ml_asc h1
 rcases h2 with h2 | h2
 ·omega
 ·have b:=ml_asc h2;omega
theorem v_range {o n:List Int}(h:vB o n=true):∀ x,(x∈o∨x∈n)→0≤x∧x<64:=by
 obtain ⟨h1,h2⟩:=v_parts h
 rintro x (hx | hx)
 ·exact asc_range (ml_asc h1).1 x hx
 ·rcases h2 with h2 | h2
  ·rw[List.eq_nil_of_length_eq_zero h2] at hx;simp at hx
  ·exact asc_range (ml_asc h2).1 x hx
theorem compact_mem {o n:List Int}(h:vB o n=true):compact (srt (o ++ n))=memF o n:=by
 obtain ⟨h1,h2⟩:=compact_srt (o ++ n)
 refine up_ext h1 (memF_up o n) (fun x=>?_)
 rw[h2,mem_memF,List.mem_append]
 exact ⟨fun hx=>⟨v_range h x hx,hx⟩,fun hx=>hx.2⟩
end Go.Quo
namespace Go.Quo
theorem reach_parts {o n y:List Int}(h:reachB o n y=true):vB o n=true∧conQ o y=true∧(n.length=0∨conQ n y=true):=by
 unfold reachB at h
 simp only[Bool.and_eq_true,Bool.or_eq_true,decide_eq_true_eq] at h
 exact ⟨h.1.1,h.1.2,h.2⟩
def cntGe (vs:List Int)(x:Int):Nat:=(vs.filter fun v=>decide (x≤v)).length
def medF (vs:List Int):Int:=gd (srt vs) (vs.length - (vs.length / 2+1))
theorem cntGe_perm {a b:List Int}(h:a.Perm b)(x:Int):cntGe a x=cntGe b x:=(h.filter _).length_eq
theorem cntGe_append (a b:List Int)(x:Int):cntGe (a ++ b) x=cntGe a x+cntGe b x:=by simp[cntGe]
theorem cntGe_le (a:List Int)(x:Int):cntGe a x≤a.length:=List.length_filter_le _ _
theorem cntGe_all {a:List Int}{x:Int}(h:∀ v∈a,x≤v):cntGe a x=a.length:=by
 unfold cntGe
 rw[List.filter_eq_self.2 (fun v hv=>by simpa using h v hv)]
theorem cntGe_none {a:List Int}{x:Int}(h:∀ v∈a,v<x):cntGe a x=0:=by
 unfold cntGe
 rw[List.filter_eq_nil_iff.2 (fun v hv=>by have:=h v hv;simp;omega)];rfl
theorem med_iff {vs:List Int}(h:0<vs.length)(x:Int):vs.length / 2+1≤cntGe vs x↔x≤medF vs:=by
 have hl:=srt_length vs
 have hk:vs.length - (vs.length / 2+1)<(srt vs).length:=by omega
 unfold medF
 rw[gd_get hk,←cntGe_perm (srt_perm vs) x]
 generalize hkk:vs.length - (vs.length / 2+1)=k at *
 constructor
 ·intro hc
  by_cases hx:x≤(srt vs)[k]
  ·exact hx
  ·exfalso
   have e:srt vs=(srt vs).take (k+1) ++ (srt vs).drop (k+1):=(List.take_append_drop _ _).symm
   rw[e,cntGe_append,cntGe_none (a:=(srt vs).take (k+1))] at hc
   ·have:=cntGe_le ((srt vs).drop (k+1)) x
    simp at this
    omega
   ·intro v hv
    obtain ⟨i,hi,rfl⟩:=List.mem_iff_getElem.1 hv
    simp at hi
    rw[List.getElem_take]
    rcases Nat.lt_or_ge i k with h1 | h1
    ·have:=srt_mono h1 hk;omega
    ·have:i=k:=by omega
     subst this;omega
 ·intro hx
  have e:srt vs=(srt vs).take k ++ (srt vs).drop k:=(List.take_append_drop _ _).symm
  rw[e,cntGe_append,cntGe_all (a:=(srt vs).drop k)]
  ·simp;omega
  ·intro v hv
   obtain ⟨i,hi,rfl⟩:=List.mem_iff_getElem.1 hv
   simp at hi
   rw[List.getElem_drop]
   rcases Nat.eq_zero_or_pos i with h1 | h1
   ·subst h1;simpa using hx
   ·have:=srt_mono (zs:=vs) (i:=k) (j:=k+i) (by omega) (by omega);omega
theorem med_mem {vs:List Int}(h:0<vs.length):medF vs∈vs:=by
 have hl:=srt_length vs
 have hk:vs.length - (vs.length / 2+1)<(srt vs).length:=by omega
 unfold medF
 rw[gd_get hk]
 exact (srt_perm vs).mem_iff.1 (List.getElem_mem hk)
def comF (o n:List Int)(num:Int→Int):Int:=if vB o n=true then (if 0<n.length then min (medF (o.map num)) (medF (n.map num)) else medF (o.map num)) else 0
end Go.Quo
namespace Go.Quo
open Go.Wire
def encM (o n:List Int):List Int:=if vB o n=true then encIs o ++ encIs n else []
def part (l:List Int):List Int:=(2 * (l.length:Int)) :: l.map (fun x=>2 * x)
theorem part_enc {l:List Int}(hl:l.length≤9)(h:∀ x∈l,0≤x∧x<64):encIs l=part l:=by
 unfold encIs part
 rw[encI_small (by omega) (by omega)]
 have:∀ r:List Int,(∀ x∈r,0≤x∧x<64)→r.flatMap za=r.map (fun x=>2 * x):=by
  intro r hr
  induction r with
  | nil=>rfl
  | cons a r ih=>
   have ha:=hr a (by simp)
   rw[List.flatMap_cons,ih (fun x hx=>hr x (by simp[hx])),encI_small (by omega) (by omega)]
   rfl
 rw[this l h];rfl
theorem part_len (l:List Int):(part l).length=l.length+1:=by simp[part]
def decF (b:List Int):List Int × List Int × Int:=
 if (rdIs b).1=0 then
  (if (rdIs (rdIs b).2.2).1=0 then
   (if (rdIs (rdIs b).2.2).2.2.length=0 then (if vB (rdIs b).2.1 (rdIs (rdIs b).2.2).2.1=true then ((rdIs b).2.1,(rdIs (rdIs b).2.2).2.1,0) else ([],[],2)) else ([],[],2))
   else ([],[],(rdIs (rdIs b).2.2).1))
 else ([],[],(rdIs b).1)
theorem encM_yes {o n:List Int}(h:vB o n=true):encM o n=part o ++ part n:=by
 obtain ⟨l1,l2,l3⟩:=v_lens h
 unfold encM
 rw[if_pos h,part_enc l2 (fun x hx=>v_range h x (.inl hx)),part_enc l3 (fun x hx=>v_range h x (.inr hx))]
theorem dec_enc {o n:List Int}(h:vB o n=true):decF (encM o n)=(o,n,0):=by
 obtain ⟨l1,l2,l3⟩:=v_lens h
 have hr:=v_range h
 have e1:rdIs (encM o n)=(0,o,encIs n):=by
  unfold encM
  rw[if_pos h]
  exact rdIs_enc (fun x hx=>by have:=hr x (.inl hx);omega) (by omega) _
 have e2:rdIs (encIs n)=(0,n,[]):=by
  have:=rdIs_enc (xs:=n) (fun x hx=>by have:=hr x (.inr hx);omega) (by omega) []
  rwa [List.append_nil] at this
 unfold decF
 rw[e1]
 simp only
 rw[e2]
 simp[h]
theorem dec_err (b:List Int):(decF b).2.2=0∨(((decF b).2.2=2∨(decF b).2.2=11)∧(decF b).1=[]∧(decF b).2.1=[]):=by
 unfold decF
 rcases rdIs_err b with h1 | ⟨h1,_⟩
 ·rw[if_pos h1]
  rcases rdIs_err (rdIs b).2.2 with h2 | ⟨h2,_⟩
  ·rw[if_pos h2]
   split
   ·split <;> simp
   ·simp
  ·rw[if_neg (by omega)];simp[h2]
 ·rw[if_neg (by omega)];simp[h1]
end Go.Quo

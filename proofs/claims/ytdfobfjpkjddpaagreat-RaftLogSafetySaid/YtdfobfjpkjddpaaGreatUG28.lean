import Derived.Test.YtdfobfjpkjddpaaGreatUG27
set_option linter.unusedVariables false
set_option linter.unusedSimpArgs false
set_option maxRecDepth 10000
set_option maxHeartbeats 8000000
namespace Go.Proofs.YtdfobfjpkjddpaaGreat
open Go.RowKit Go.Own Go.Quo Go.Wire Go.Raft
attribute [local irreducible] Go.wpQuiet
theorem i99x:∃ i,Tryz.prog.info? 99=some i∧i.size=9:=by obtain ⟨i,h,_,h2,_⟩:=info_parts info99;exact ⟨i,h,h2⟩
def cutM (A:Option Addr)(c k:Nat):Option Addr:=if c=k then A else A.map (·.add (k * 9))
theorem run_lo53 {A:Option Addr}{n c k:Nat}(hk:k≤n)(W:World):(Instr.slice 53 (.slice A n c) (some (.int .i64 (k:Int))) none none).run Tryz.prog W=.ok (.slice (cutM A c k) (n - k) (c - k)) W:=by
 have hu:Tryz.prog.underlying 53=some (.slice (Tryz.prog.elem 53)):=by kernel_rfl
 have he:Tryz.prog.elem 53=99:=by kernel_rfl
 obtain ⟨i,h1,h2⟩:=i99x
 rw[run_slice_l W 53 A n c hu .i64 (k:Int) (by omega) (by omega),he]
 simp[sizeOf,typeInfo,h1,h2,sliced,cutM]
theorem run_lo53b {A:Option Addr}{n c k:Nat}(hk:k≤n)(W:World):(Instr.sliceAt 53 (.slice A n c) (some (.int .i64 (k:Int))) none none).run Tryz.prog W=.ok (.slice (cutM A c k) (n - k) (c - k)) W:=by
 have hu:Tryz.prog.underlying 53=some (.slice (Tryz.prog.elem 53)):=by kernel_rfl
 rw[run_sliceAt_slice W 53 _ _ _ _ hu]
 exact run_lo53 hk W
theorem run_hi53 {A:Option Addr}{n c k:Nat}(hk:k≤c)(W:World):(Instr.slice 53 (.slice A n c) none (some (.int .i64 (k:Int))) none).run Tryz.prog W=.ok (.slice A k c) W:=by
 have hu:Tryz.prog.underlying 53=some (.slice (Tryz.prog.elem 53)):=by kernel_rfl
 have he:Tryz.prog.elem 53=99:=by kernel_rfl
 obtain ⟨i,h1,h2⟩:=i99x
 rw[run_slice_h W 53 A n c hu .i64 (k:Int) (by omega) (by omega),he]
 cases A with
 | none=>simp[sizeOf,typeInfo,h1,h2,sliced]
 | some a=>simp[sizeOf,typeInfo,h1,h2,sliced,add_zero_]
theorem run_hi53b {A:Option Addr}{n c k:Nat}(hk:k≤c)(W:World):(Instr.sliceAt 53 (.slice A n c) none (some (.int .i64 (k:Int))) none).run Tryz.prog W=.ok (.slice A k c) W:=by
 have hu:Tryz.prog.underlying 53=some (.slice (Tryz.prog.elem 53)):=by kernel_rfl
 rw[run_sliceAt_slice W 53 _ _ _ _ hu]
 exact run_hi53 hk W
theorem mv_drop (l:List MV)(k:Nat):(l.flatMap mvL).drop (k * 9)=(l.drop k).flatMap mvL:=by
 induction k generalizing l with
 | zero=>simp
 | succ k ih=>
  cases l with
  | nil=>simp
  | cons a r=>
   rw[List.flatMap_cons,List.drop_append,List.drop_of_length_le (by rw[mvL_len];omega),List.nil_append,mvL_len,show (k+1) * 9 - 9=k * 9 by omega,ih,List.drop_succ_cons]
theorem mv_take (l:List MV)(k:Nat):(l.flatMap mvL).take (k * 9)=(l.take k).flatMap mvL:=by
 induction k generalizing l with
 | zero=>simp
 | succ k ih=>
  cases l with
  | nil=>simp
  | cons a r=>
   rw[List.flatMap_cons,List.take_append,List.take_of_length_le (by rw[mvL_len];omega),mvL_len,show (k+1) * 9 - 9=k * 9 by omega,ih,List.take_succ_cons,List.flatMap_cons]
theorem mv_one (l:List MV):∀ u∈l.flatMap mvL,u.oneCell'=true:=by
 intro u hu
 obtain ⟨x,_,hx⟩:=List.mem_flatMap.1 hu
 simp only[mvL,List.mem_cons,List.not_mem_nil,or_false] at hx
 rcases hx with rfl | rfl | rfl | rfl | rfl | rfl | rfl | rfl | rfl <;> rfl
abbrev zM:Value:=.agg #[.int .i64 0,.int .i64 0,.int .i64 0,.int .i64 0,.int .i64 0,.int .i64 0,.int .i64 0,.bool false,.slice none 0 0]
section
variable {w:World} {cc:Nat→Nat} {g:Nat} {C:Cl} {K:List NQ} {fo:Ms} {Am Ap At Al:Option Addr} {cm cp ct cl:Nat} {mv:List MV}
theorem CZ.x (h:CZ w cc g C K fo Am cm Ap cp At ct Al cl mv):g<w.heap.size∧(∀ i,w.frozen? ⟨g,i,none⟩=false)∧w.cell? ⟨g,0,none⟩=some (.slice Am K.length cm)∧w.cell? ⟨g,1,none⟩=some (.slice Ap K.length cp)∧w.cell? ⟨g,2,none⟩=some (.slice At K.length ct)∧w.cell? ⟨g,3,none⟩=some (.slice Al mv.length cl)∧w.cell? ⟨g,4,none⟩=some (.int .i64 C.now)∧w.cell? ⟨g,5,none⟩=some (.bool false):=
 ⟨h.b.lt,h.b.frozen,h.b.cell 0,h.b.cell 1,h.b.cell 2,h.b.cell 3,h.b.cell 4,h.b.cell 5⟩
theorem CZ.ms_len (h:CZ w cc g C K fo Am cm Ap cp At ct Al cl mv):mv.length=C.ms.length:=by rw[←h.ms,List.length_map]
theorem CZ.nd_len (h:CZ w cc g C K fo Am cm Ap cp At ct Al cl mv):K.length=C.nd.length:=by rw[←h.nd,List.length_map]
end
def LsP (w:World)(cc:Nat→Nat)(g:Nat)(C:Cl)(K:List NQ)(fo:Ms)(Am:Option Addr)(cm:Nat)(Ap:Option Addr)(cp:Nat)(At:Option Addr)(ct:Nat)(W:World)(c1:Nat→Nat):Prop:=(∃ A' c' mv',CZ W c1 g C K fo Am cm Ap cp At ct A' c' mv')∧(∀ k,k<w.heap.size→c1 k=cc k)∧Fr (fun k=>cc k≠0∧cc k≠101) w W
theorem LsP.trans {w W W2:World}{cc c1 c2:Nat→Nat}{g:Nat}{C C2:Cl}{K K2:List NQ}{fo:Ms}{Am Ap At:Option Addr}{cm cp ct:Nat}(h:LsP w cc g C K fo Am cm Ap cp At ct W c1)(k:LsP W c1 g C2 K2 fo Am cm Ap cp At ct W2 c2):LsP w cc g C2 K2 fo Am cm Ap cp At ct W2 c2:=
 ⟨k.1,fun i hi=>(k.2.1 i (Nat.lt_of_lt_of_le hi h.2.2.size)).trans (h.2.1 i hi),fr_hot h.2.2 h.2.1 k.2.2⟩
theorem LsP.cb {w W:World}{cc c1:Nat→Nat}{g:Nat}{C:Cl}{K:List NQ}{fo:Ms}{Am Ap At:Option Addr}{cm cp ct:Nat}(h:LsP w cc g C K fo Am cm Ap cp At ct W c1):CB w cc g C fo W c1:=by
 obtain ⟨⟨A',c',mv',h1⟩,h2,h3⟩:=h
 exact ⟨⟨K,Am,cm,Ap,cp,At,ct,A',c',mv',h1⟩,h2,h3⟩
theorem send38 (w:World)(cc:Nat→Nat)(g:Nat)(C:Cl)(K:List NQ)(fo:Ms)(Am:Option Addr)(cm:Nat)(Ap:Option Addr)(cp:Nat)(At:Option Addr)(ct:Nat)(Al:Option Addr)(cl:Nat)(mv:List MV)(hz:CZ w cc g C K fo Am cm Ap cp At ct Al cl mv)(B:Nat→Prop)(A:Option Addr)(c:Nat)(ms:List MV)(hm:Msgs w B A ms)(hB:∀ k,B k→cc k=0)(hl:C.ms.length≤200)(hn:ms.length≤1000) :
 Calls Tryz.prog 38 #[.pointer (some ⟨g,0,none⟩),.slice A ms.length c] w fun e w'=>e=.returned (.tuple #[])∧∃ c1,LsP w cc g (C.send (ms.map MV.m)) K fo Am cm Ap cp At ct w' c1:=by
 have hml:=hz.ms_len
 have HML:=ħ hml
 have HZ:=ħ hz
 have HM:=ħ hm
 have hB0:=ħ hB
 have hmv:mv.length≤200:=by omega
 obtain ⟨c0,c1,x0,x1,x2,x3,x4,x5⟩:=hz.x
 clear hz hm hB hml hl x0 x1 x2 x4 x5
 go_enter Tryz.func38,Tryz.ntmps38
 go_upto_region 1 with (at_builtin;refine wpList_append_any _ rfl _ _ _ rfl 0 99 zM 9 88 Tryz.underlying53 info99 rfl (by omega) (.slice Al mv.length cl) mv.length (mv.flatMap mvL) rfl (by exact HZ.out.ol) B A ms.length c (ms.flatMap mvL) rfl (by exact HM.out.1) (mv_one ms) (by simp only[maxLen];omega) (by omega) (Nat.zero_le _) ?_;intro A5 c5 w5 hown5 hgr5 hat5;have HO5:=ħ hown5;have HG5:=ħ hgr5;have HA5:=ħ hat5;have b5:=HZ.out.b.grown hgr5 (fun e=>own_ne HZ.out.ol HZ.out.b (by decide) g e.symm rfl);clear hown5 hgr5 hat5 c0 c1 x3;obtain ⟨q0,q1,q2⟩:=b5.facts)
 have hlen:(mv ++ ms).length=mv.length+ms.length:=List.length_append
 obtain ⟨c1,hz1,ag1,fr1⟩:=CZ.setl HZ.out (w5:=w5) (A5:=A5) (c5:=c5) (mv':=mv ++ ms) ((Fr.refl _ w).grown HG5.out (fun k hk=>.inl hk)) (by rw[hlen,List.flatMap_append];exact HO5.out) (fun k hk=>by
  rw[hlen] at hk
  rcases HA5.out with e | e
  ·left;rw[←e];exact hk
  ·right;rw[hk] at e;injection e with e;omega) (fun x hx=>by
  rcases List.mem_append.1 hx with hx | hx
  ·exact HZ.out.mb x hx
  ·exact (HM.out.2.more hB0.out) x hx)
 rw[hlen] at hz1 fr1
 have HZ1:=ħ hz1
 have CB1:=ħ (show LsP w cc g { C with ms:=(mv ++ ms).map MV.m } K fo Am cm Ap cp At ct _ c1 from ⟨⟨A5,c5,mv ++ ms,hz1⟩,ag1,fr1⟩)
 clear hz1 ag1 fr1 q0 q1 q2 b5
 generalize w5.setCell ⟨g,3,none⟩ (.slice A5 (mv.length+ms.length) c5)=W6 at *
 have HSE:=ħ (show C.send (ms.map MV.m) = { C with ms:=((mv ++ ms).drop ((mv ++ ms).length - 200)).map MV.m } from by
  unfold Cl.send Cl.last200
  rw[←HZ.out.ms,←List.map_append,List.length_map,List.map_drop])
 obtain ⟨c0,c1',x0,x1,x2,x3,x4,x5⟩:=HZ1.out.x
 rw[hlen] at x3
 clear x0 x1 x2 x4
 obtain ⟨N,hN⟩:∃ N,N=mv.length+ms.length:=⟨_,rfl⟩
 have HN:=ħ hN
 rw[←hN] at x3 hlen
 have HLN:=ħ hlen
 have hNb:N≤1200:=by omega
 clear hN hlen
 by_cases hgt:200<N
 ·have hgt':(200:Int)<(N:Int):=by omega
  have hw1:IntKind.i64.wrap ((N:Int) - 200)=((N - 200:Nat):Int):=by rw[IntWalk.i64_in _ (by omega)];omega
  have r1:=fun W=>run_lo53 (A:=A5) (n:=N) (c:=c5) (k:=N - 200) (by omega) W
  have r2:=fun W=>run_lo53b (A:=A5) (n:=N) (c:=c5) (k:=N - 200) (by omega) W
  go_upto_region 2 with fail
  have hsrc:Reads W6 (fun k=>c1 k=1) 9 A5 N ((mv ++ ms).flatMap mvL):=by
   have:=(Reads.of_own HZ1.out.ol).more HZ1.out.lc
   rw[HLN.out] at this
   exact this
  have hcap:=own_cap HZ1.out.ol
  rw[HLN.out] at hcap
  have hs2:=(Reads.cut hsrc (k:=N - 200) (cap:=c5) (by omega) hcap)
  rw[mv_drop] at hs2
  have HS2:=ħ (show Reads W6 (fun k=>c1 k=1) 9 (cutM A5 c5 (N - 200)) (N - (N - 200)) (((mv ++ ms).drop (N - 200)).flatMap mvL) from hs2)
  have g6:=HZ1.out.b
  clear hsrc hs2
  have hdl:((mv ++ ms).drop (N - 200)).length=200:=by rw[List.length_drop,HLN.out];omega
  have HDL:=ħ hdl
  have hnn:N - (N - 200)=200:=by omega
  rw[hnn] at HS2 r1 r2
  clear hdl hnn
  go_region_law (first
   | (refine step_append_any _ (by rfl) (.tmp 27) (.tmp 38) _ (by rfl) W6.heap.size 99 zM 9 88 Tryz.underlying53 info99 rfl (by omega) _ 0 [] (by rfl) (by exact own_z (Blk.new W6 99 #[]) (Nat.le_refl _)) (fun k=>c1 k=1) (cutM A5 c5 (N - 200)) 200 (c5 - (N - 200)) (((mv ++ ms).drop (N - 200)).flatMap mvL) (by rfl) (by exact HS2.out.alloc (.cells #[] 99)) (mv_one _) (by simp only[maxLen];omega) (by omega) (by simp) ?_
      intro A7 c7 w7 hown7 hgr7 hat7
      have b7:=(g6.alloc (.cells #[] 99)).drew.grown hgr7 (fun e=>by have e':some g=some W6.heap.size:=e;injection e' with e';omega)
      obtain ⟨z0,z1,z2⟩:=b7.facts))
  all_goals
   have hfr7:Fr (fun k=>(Value.slice A5 (mv ++ ms).length c5).ownBlock=some k) W6 w7:=(((Fr.refl _ W6).alloc (.cells #[] 99)).drew).grown hgr7 (fun k hk=>by have e':some W6.heap.size=some k:=hk;injection e' with e';right;omega)
   obtain ⟨c2,hz2,ag2,fr2⟩:=CZ.setl HZ1.out (w5:=w7) (A5:=A7) (c5:=c7) (mv':=(mv ++ ms).drop (N - 200)) hfr7 (by rw[HDL.out];exact own_base hown7 (Nat.zero_le _)) (fun k hk=>by
    rw[HDL.out] at hk
    right
    rcases hat7 with e | e
    ·rw[show (Value.slice A7 (0+200) c7)=Value.slice A7 200 c7 from rfl,hk] at e
     have e':some k=some W6.heap.size:=e
     injection e' with e';omega
    ·rw[show (Value.slice A7 (0+200) c7)=Value.slice A7 200 c7 from rfl,hk] at e
     injection e with e;simp at e;omega) (fun x hx=>HZ1.out.mb x (List.mem_of_mem_drop hx))
   rw[HDL.out] at hz2 fr2
   have HSX:=ħ (show C.send (ms.map MV.m) = { C with ms:=((mv ++ ms).drop (N - 200)).map MV.m } by rw[HSE.out,HLN.out])
   refine bodyPost_end (v:=.tuple #[]) (by simp[results,Tryz.results38,go_sem]) rfl ⟨rfl,c2,?_⟩
   rw[HSX.out]
   exact CB1.out.trans ⟨⟨A7,c7,_,hz2⟩,ag2,fr2⟩
 ·have hgt':¬ (200:Int)<(N:Int):=by omega
  have HSX:=ħ (show C.send (ms.map MV.m) = { C with ms:=(mv ++ ms).map MV.m } by rw[HSE.out,HLN.out,show N - 200=0 by omega,List.drop_zero])
  clear hgt
  go_wp2_with fail
  refine bodyPost_end (v:=.tuple #[]) (by simp[results,Tryz.results38,go_sem]) rfl ⟨rfl,c1,?_⟩
  rw[HSX.out]
  exact CB1.out
theorem info31p:(Tryz.prog.info? 31).map (fun i=>(i.zero,i.size,i.bytes))=some (some (.pointer none),1,8):=by kernel_rfl
theorem i31x:∃ i,Tryz.prog.info? 31=some i∧i.size=1:=by obtain ⟨i,h,_,h2,_⟩:=info_parts info31p;exact ⟨i,h,h2⟩
theorem ix51 {A:Option Addr}{n:Nat}(hA:Plain A n)(c k:Nat)(hk:k<n)(w:World):(Instr.indexAt 51 (.slice A n c) (.int .i64 (k:Int))).run Tryz.prog w=.ok (.pointer (some ⟨bk A,ofs A+k,none⟩)) w:=by
 obtain ⟨i,hi,hi1⟩:=i31x
 have:=run_indexAt2 (P:=Tryz.prog) Tryz.underlying51 hi hi1 hA c k hk w
 rwa [Nat.mul_one] at this
theorem set_same {l:List Value}{k:Nat}{v:Value}(h:l[k]?=some v):(l.set k v)[k]?=some v:=by
 rw[List.getElem?_set_self (List.getElem?_eq_some_iff.1 h).1]
theorem mv_at {w:World}{B:Nat→Prop}{A:Option Addr}{l:List MV}(h:Reads w B 9 A l.length (l.flatMap mvL)){i:Nat}{x:MV}(hx:l[i]?=some x)(j:Nat)(hj:j<9):w.cell? ⟨bk A,ofs A+i * 9+j,none⟩=(mvL x)[j]?:=by
 have hi:=(List.getElem?_eq_some_iff.1 hx).1
 rw[Nat.add_assoc,h.cell2 (i * 9+j) (by omega) (by omega)]
 exact flat_get mvL 9 mvL_len l i j x hx hj
theorem mv_all {w:World}{B:Nat→Prop}{A:Option Addr}{l:List MV}(h:Reads w B 9 A l.length (l.flatMap mvL)){i:Nat}{kind frm tt term prev pterm commit:Int}{granted:Bool}{xA:Option Addr}{xc:Nat}{es:List EV}(hx:l[i]?=some ⟨kind,frm,tt,term,prev,pterm,commit,granted,xA,xc,es⟩) :
 w.cell? ⟨bk A,ofs A+i * 9,none⟩=some (.int .i64 kind)∧w.cell? ⟨bk A,ofs A+i * 9+1,none⟩=some (.int .i64 frm)∧w.cell? ⟨bk A,ofs A+i * 9+2,none⟩=some (.int .i64 tt)∧w.cell? ⟨bk A,ofs A+i * 9+3,none⟩=some (.int .i64 term)∧w.cell? ⟨bk A,ofs A+i * 9+4,none⟩=some (.int .i64 prev)∧w.cell? ⟨bk A,ofs A+i * 9+5,none⟩=some (.int .i64 pterm)∧w.cell? ⟨bk A,ofs A+i * 9+6,none⟩=some (.int .i64 commit)∧w.cell? ⟨bk A,ofs A+i * 9+7,none⟩=some (.bool granted)∧w.cell? ⟨bk A,ofs A+i * 9+8,none⟩=some (.slice xA es.length xc):=
 ⟨mv_at h hx 0 (by decide),mv_at h hx 1 (by decide),mv_at h hx 2 (by decide),mv_at h hx 3 (by decide),mv_at h hx 4 (by decide),mv_at h hx 5 (by decide),mv_at h hx 6 (by decide),mv_at h hx 7 (by decide),mv_at h hx 8 (by decide)⟩
section
variable {w w5 w6:World} {cc:Nat→Nat} {g:Nat} {C:Cl} {K:List NQ} {fo:Ms} {Am Ap At Al A6:Option Addr} {cm cp ct cl c6:Nat} {mv:List MV}
theorem CZ.cut (h:CZ w cc g C K fo Am cm Ap cp At ct Al cl mv){i:Nat}(hi:i<mv.length)(hf:Fr (fun k=>(Value.slice Al mv.length cl).ownBlock=some k) w w6){N:Nat}(hN:N=(mv.take i ++ mv.drop (i+1)).length)(ho:w6.ownsRow 0 99 9 (.slice A6 N c6) N ((mv.take i).flatMap mvL ++ (mv.drop (i+1)).flatMap mvL))
 (hat:∀ k,(Value.slice A6 N c6).ownBlock=some k→w.heap.size≤k) :
 ∃ c1,LsP w cc g (C.cut i) K fo Am cm Ap cp At ct (w6.setCell ⟨g,3,none⟩ (.slice A6 N c6)) c1:=by
 subst hN
 obtain ⟨c1,h1,h2,h3⟩:=CZ.setl h (w5:=w6) (A5:=A6) (c5:=c6) (mv':=mv.take i ++ mv.drop (i+1)) hf (by rw[List.flatMap_append];exact ho) (fun k hk=>.inr (hat k hk)) (fun x hx=>h.mb x ((List.mem_append.1 hx).elim List.mem_of_mem_take List.mem_of_mem_drop))
 refine ⟨c1,⟨A6,c6,mv.take i ++ mv.drop (i+1),?_⟩,h2,h3⟩
 have e:C.cut i = { C with ms:=(mv.take i ++ mv.drop (i+1)).map MV.m }:=by
  unfold Cl.cut
  rw[List.eraseIdx_eq_take_drop_succ,←h.ms,List.map_append,List.map_take,List.map_drop]
 rw[e]
 exact h1
theorem CZ.src (h:CZ w cc g C K fo Am cm Ap cp At ct Al cl mv):Reads w (fun k=>cc k=1) 9 Al mv.length (mv.flatMap mvL):=(Reads.of_own h.ol).more h.lc
theorem CZ.head (h:CZ w cc g C K fo Am cm Ap cp At ct Al cl mv){i:Nat}(hi:i≤mv.length):Reads w (fun k=>cc k=1) 9 Al i ((mv.take i).flatMap mvL):=by
 have h1:=own_cutN h.ol hi
 rw[mv_take] at h1
 exact (Reads.of_own h1).more (fun k hk=>h.lc k ((ownB Al mv.length i cl).trans hk))
theorem CZ.tail (h:CZ w cc g C K fo Am cm Ap cp At ct Al cl mv){i:Nat}(hi:i≤mv.length):Reads w (fun k=>cc k=1) 9 (cutM Al cl i) (mv.length - i) ((mv.drop i).flatMap mvL):=by
 have:=Reads.cut h.src (k:=i) (cap:=cl) hi (own_cap h.ol)
 rw[mv_drop] at this
 exact this
end
theorem come39 (w:World)(cc:Nat→Nat)(g:Nat)(C:Cl)(fo:Ms)(h:CS w cc g C fo){c0:Mb}{k:Nat}(hw:CW c0 k C)(hk:k≤1400)(i:Nat)(hi:i<C.ms.length)(hnd:C.nd.length≤9) :
 Calls Tryz.prog 39 #[.pointer (some ⟨g,0,none⟩),.int .i64 (i:Int)] w fun e w'=>e=.returned (.tuple #[])∧∃ c1,CB w cc g (C.come i) fo w' c1:=by
 obtain ⟨K,Am,cm,Ap,cp,At,ct,Al,cl,mv,hz⟩:=h
 have hml:=hz.ms_len
 have HKL:=ħ hz.nd_len
 have hk9:K.length≤9:=by have:=HKL.out;omega
 have hlm:=hw.l
 have him:i<mv.length:=by omega
 have hmv:mv.length≤200:=by omega
 obtain ⟨⟨kind,frm,tt,term,prev,pterm,commit,granted,xA,xc,es⟩,hx⟩:∃ x,mv[i]?=some x:=⟨_,List.getElem?_eq_getElem him⟩
 have hxm:C.ms[i]?=some (MV.m ⟨kind,frm,tt,term,prev,pterm,commit,granted,xA,xc,es⟩):=by rw[←hz.ms,List.getElem?_map,hx];rfl
 obtain ⟨hE,hcp⟩:=hz.mb _ (List.mem_of_getElem? hx)
 obtain ⟨hmw,hel⟩:=hw.m _ (List.mem_of_getElem? hxm)
 obtain ⟨y0,y1,y2,y3,y4,y5,y6,y7,y8⟩:=mv_all hz.src hx
 have hPl:=(hz.src.plain (by omega))
 obtain ⟨ti,hti,htz⟩:=i99x
 have hix:=fun W=>run_indexAt2 (P:=Tryz.prog) Tryz.underlying53 hti htz hPl cl i him W
 obtain ⟨x0,xf,x1,x2,x3,x4,x5,x6⟩:=hz.x
 have HW:=ħ hw
 have HX:=ħ hxm
 have HEL:=ħ hel
 have HMW:=ħ hmw
 simp only at hE hcp
 have b1:Below w.heap.size w (w.alloc (.cells (mvC kind frm tt term prev pterm commit granted xA es.length xc) 99)):=(Below.refl _ _).alloc (Nat.le_refl _) _
 have g1:Blk (w.alloc (.cells (mvC kind frm tt term prev pterm commit granted xA es.length xc) 99)) w.heap.size 99 (mvC kind frm tt term prev pterm commit granted xA es.length xc):=Blk.new w 99 _
 have hz1:=hz.fr (S:=fun _=>False) (Fr.of_below b1) (fun _ _ e=>e)
 have HZ1:=ħ hz1
 have HE:=ħ hE.old
 have hlt:=hz.lt
 have HLT:=ħ hlt
 have F1:=ħ (show Fr (fun k=>cc k≠0∧cc k≠101) w (w.alloc (.cells (mvC kind frm tt term prev pterm commit granted xA es.length xc) 99)) from Fr.of_below b1)
 clear hz hz1 hxm hE hmw hel hw hlm hml b1 hlt
 go_enter Tryz.func39,Tryz.ntmps39
 go_upto_region 1 with fail
 generalize w.alloc (.cells (mvC kind frm tt term prev pterm commit granted xA es.length xc) 99)=W1 at *
 clear y0 y1 y2 y3 y4 y5 y6 y7 y8 hix x0 xf x1 x2 x3 x4 x5 x6 hx
 obtain ⟨x0,xf,x1,x2,x3,x4,x5,x6⟩:=HZ1.out.x
 clear x1 x2 x3 x5 x6
 have hcap:=own_cap HZ1.out.ol
 obtain ⟨j,hj⟩:∃ j:Nat,j=i+1:=⟨_,rfl⟩
 have HJ:=ħ hj
 have hw1:IntKind.i64.wrap ((i:Int)+1)=(j:Int):=by rw[IntWalk.i64_in _ (by omega)];omega
 have r1:=fun W=>run_lo53 (A:=Al) (n:=mv.length) (c:=cl) (k:=j) (by omega) W
 have r2:=fun W=>run_lo53b (A:=Al) (n:=mv.length) (c:=cl) (k:=j) (by omega) W
 have r3:=fun W=>run_hi53 (A:=Al) (n:=mv.length) (c:=cl) (k:=i) (by omega) W
 have r4:=fun W=>run_hi53b (A:=Al) (n:=mv.length) (c:=cl) (k:=i) (by omega) W
 have HHd:=ħ (HZ1.out.head (i:=i) (by omega))
 have HTl:=ħ (HZ1.out.tail (i:=j) (by omega))
 have g0:=HZ1.out.b
 obtain ⟨n,hn⟩:∃ n,n=mv.length - j:=⟨_,rfl⟩
 have HNN:=ħ hn
 rw[←hn] at r1 r2 HTl
 have hnb:n≤200:=by omega
 clear hn hj
 go_cut [] (fun wx=>∃ c1,LsP W1 cc g (C.cut i) K fo Am cm Ap cp At ct wx c1)
 case first=>
  go_region_law (first
   | (refine step_append_any _ (by rfl) (.tmp 13) (.tmp 19) _ (by rfl) W1.heap.size 99 zM 9 88 Tryz.underlying53 info99 rfl (by omega) _ 0 [] (by rfl) (by exact own_z (Blk.new W1 99 #[]) (Nat.le_refl _)) (fun k=>cc k=1) Al i cl ((mv.take i).flatMap mvL) (by rfl) (by exact HHd.out.alloc (.cells #[] 99)) (mv_one _) (by simp only[maxLen];omega) (by omega) (by simp) ?_
      intro A5 c5 w5 hown5 hgr5 hat5
      simp only[Nat.zero_add,List.nil_append] at hown5 hat5
      have b5:=(g0.alloc (.cells #[] 99)).drew.grown hgr5 (fun e=>by have e':some g=some W1.heap.size:=e;injection e' with e';omega)
      have t5:=(HTl.out.alloc (.cells #[] 99)).drew.grown hgr5 (fun k hk e=>by have e':some k=some W1.heap.size:=e;injection e' with e';have:=HLT.out k (by rw[hk];decide);have:=HZ1.out.lt k (by rw[hk];decide);omega)
      have f5:Fr (fun _=>False) W1 w5:=(((Fr.refl _ W1).alloc (.cells #[] 99)).drew).grown hgr5 (fun k hk=>by have e':some W1.heap.size=some k:=hk;injection e' with e';right;omega)
      have l5:=b5.lt
      have q5:w5.cell? ⟨g,3,none⟩=some (.slice Al mv.length cl):=b5.cell 3)
   | (refine step_append_any _ (by rfl) (.tmp 20) (.tmp 27) _ (by rfl) W1.heap.size 99 zM 9 88 Tryz.underlying53 info99 rfl (by omega) _ i _ (by rfl) (by exact hown5) (fun k=>cc k=1) (cutM Al cl j) n (cl - j) ((mv.drop j).flatMap mvL) (by rfl) (by exact t5) (mv_one _) (by simp only[maxLen];omega) (by omega) (by have:=f5.size;simp;omega) ?_
      intro A6 c6 w6 hown6 hgr6 hat6
      have b6:=b5.grown hgr6 (fun e=>by have:=(hown5.lt g e.symm).1;omega)
      have f6:=f5.grown hgr6 (fun k hk=>by right;exact (hown5.lt k hk).1)
      obtain ⟨z0,z1,z2⟩:=b6.facts))
  all_goals
   go_wp2_with fail
   go_meet
   obtain rfl:=HJ.out
   exact CZ.cut HZ1.out him (f6.mono (fun _ _ h=>h.elim)) (by rw[List.length_append,List.length_take,List.length_drop,HNN.out];omega) (own_base hown6 (Nat.zero_le _)) (fun k hk=>(hown6.lt k hk).1)
 case rest=>
  obtain ⟨c1,hls⟩:=hcut
  have HLS:=ħ hls
  have hfrC:=hls.2.2
  have zcc:cc w.heap.size=0:=by
   cases hc:cc w.heap.size with
   | zero=>rfl
   | succ n=>have:=HLT.out w.heap.size (by omega);omega
  have hgl1:=g1.lt
  have g2:=g1.fr hfrC (fun e=>e.1 zcc)
  have HE2:=ħ ((HE.out.fr F1.out (fun k hk e=>e.1 hk.1)).fr hfrC (fun k hk e=>e.1 hk.1))
  have HCO:=ħ (show C.come i=if tt<0 then C.cut i else (match C.nd[tt.toNat]? with | none=>C.cut i | some s=>(C.cut i).put tt.toNat (s.step (MV.m ⟨kind,frm,tt,term,prev,pterm,commit,granted,xA,xc,es⟩) C.now)) from by
   unfold Cl.come
   rw[HX.out]
   rfl)
  have HFR:=ħ hfrC
  clear hls hfrC r1 r2 r3 r4 HHd HTl g0 x0 xf x4 hw1 g1
  obtain ⟨⟨A3,c3,mv3,hz3⟩,ag3,-⟩:=HLS.out
  have HZ3:=ħ hz3
  have HAG:=ħ ag3
  have hsz1:w.heap.size≤W1.heap.size:=F1.out.size
  have HK:=ħ fun W (hb:Below wc.heap.size wc W)=>(show (W.cell? ⟨w.heap.size,2,none⟩=some (.int .i64 tt))∧(W.cell? ⟨g,1,none⟩=some (.slice Ap K.length cp)) from ⟨(g2.below hb g2.lt).cell 2,(HZ3.out.fr (S:=fun _=>False) (Fr.of_below hb) (fun _ _ e=>e)).x.2.2.2.1⟩)
  have HBASE:=ħ (show ∀ W,Below wc.heap.size wc W→CB w cc g (C.cut i) fo W c1 from fun W hb=>by
   have h1:=HLS.out.cb
   exact (⟨h1.n,fun k hk=>h1.ag k (Nat.lt_of_lt_of_le hk hsz1),F1.out.trans h1.fr⟩:CB w cc g (C.cut i) fo wc c1).below hb)
  have hz3x:=hz3.x
  clear hz3 ag3 hz3x
  by_cases htn:0≤tt
  ·have wt0:decide (0≤tt)=true:=decide_eq_true htn
   by_cases htl:tt<(K.length:Int)
   ·have wt1:decide (tt<(K.length:Int))=true:=decide_eq_true htl
    go_upto_region 2 with fail
    refine wp_region_quiet (C:=fun w'=>Below wc.heap.size wc w') (by kernel_rfl) (by kernel_rfl) ((Below.refl _ _).drew) ?_
    repeat (refine wpQuiet_step (fun K hK=>?_);have HKK:=ħ hK;clear hK;first | (refine ite_no ?_ ?_;(focus (clear HKK K;go_simp;done));go_simp;refine HKK.out _ ?_;clear HKK K) | (refine ite_yes ?_ ?_;(focus (clear HKK K;go_simp;done));apply Exists.intro;refine ⟨fun wq hq=>?_,?_⟩;(focus ((obtain ⟨y0,y1⟩:=HK.out _ hq);go_simp;(first | done | rfl)));go_simp;refine HKK.out _ ?_;clear HKK K))
    refine wpQuiet_nil ?_
    intro w5 hw5
    obtain ⟨tn,rfl⟩:∃ tn:Nat,tt=(tn:Int):=⟨tt.toNat,by omega⟩
    have htk:tn<K.length:=by omega
    obtain ⟨⟨xp,xv,xj,xl,xf,xcol,xs⟩,hxq⟩:∃ x,K[tn]?=some x:=⟨_,List.getElem?_eq_getElem htk⟩
    have hxs:C.nd[tn]?=some xs:=by
     have h1:(C.cut i).nd=C.nd:=rfl
     rw[←h1,←HZ3.out.nd,List.getElem?_map,hxq];rfl
    have HRE:=ħ (show C.come i=Cl.send { C.cut i with nd:=(C.cut i).nd.set tn (xs.step (MV.m ⟨kind,frm,(tn:Int),term,prev,pterm,commit,granted,xA,xc,es⟩) C.now).1 } (xs.step (MV.m ⟨kind,frm,(tn:Int),term,prev,pterm,commit,granted,xA,xc,es⟩) C.now).2 by
     rw[HCO.out,if_neg (by omega),Int.toNat_natCast,hxs];rfl)
    have h5:=HBASE.out w5 hw5
    have HZ5:=ħ (HZ3.out.fr (S:=fun _=>False) (Fr.of_below hw5) (fun _ _ e=>e))
    have g5:=g2.below hw5 g2.lt
    have HE5:=ħ (HE2.out.fr (S:=fun _=>False) (Fr.of_below hw5) (fun _ _ e=>e))
    have z1:c1 w.heap.size=0:=by rw[HAG.out _ hgl1];exact zcc
    have HB5:=ħ h5
    obtain ⟨hns,hcl,hcl2⟩:=HZ5.out.n tn _ hxq
    have hnw:=HW.out.n tn xs hxs
    have H68:=ħ (show Calls Tryz.prog 68 #[.pointer (some ⟨xp,0,none⟩),.agg (mvC kind frm (tn:Int) term prev pterm commit granted xA es.length xc),.int .i64 C.now] w5.drew _ from step68 w5.drew xcol xp xv xj xl xf xs (hns.below (Below.refl _ _).drew) hcl hnw.w (by omega) ⟨kind,frm,(tn:Int),term,prev,pterm,commit,granted,xA,xc,es⟩ HMW.out _ (HE5.out.fr (S:=fun _=>False) (Fr.of_below (Below.refl _ _).drew) (fun _ _ e=>e)) (fun k hk=>by
     have e1:c1 k=0:=by rw[HAG.out k (by have:=hk.2;omega)];exact hk.1
     cases hx2:xcol k with
     | zero=>rfl
     | succ n=>have:=hcl2 k (by show xcol k≠0;omega);omega) hcp (by have:=HEL.out;have e:(es.map EV.e).length≤16:=this;rw[List.length_map] at e;show es.length≤1000;omega) C.now)
    have HZd:=ħ (HZ5.out.fr (S:=fun _=>False) (Fr.of_below (Below.refl w5.heap.size w5).drew) (fun _ _ e=>e))
    have hPp:=((Reads.of_own HZ5.out.op).plain (by omega))
    have hixp:=fun W=>ix51 hPp cp tn htk W
    have HKS:=ħ fun W c2 C2 K2 A' c' mv' (z:CZ W c2 g C2 K2 fo Am cm Ap cp At ct A' c' mv') (e1:C2.now=C.now) (e2:K2.length=K.length) (e3:(K2.map fun x=>(Value.pointer (some ⟨x.p,0,none⟩)))[tn]?=some (.pointer (some ⟨xp,0,none⟩))) (b:Blk W w.heap.size 99 (mvC kind frm (tn:Int) term prev pterm commit granted xA es.length xc))=>(show (W.cell? ⟨g,1,none⟩=some (.slice Ap K.length cp))∧(W.cell? ⟨w.heap.size,2,none⟩=some (.int .i64 (tn:Int)))∧(W.cell? ⟨bk Ap,ofs Ap+tn,none⟩=some (.pointer (some ⟨xp,0,none⟩)))∧(W.cell? ⟨w.heap.size,0,none⟩=some (.int .i64 kind)∧W.cell? ⟨w.heap.size,1,none⟩=some (.int .i64 frm)∧W.cell? ⟨w.heap.size,2,none⟩=some (.int .i64 (tn:Int))∧W.cell? ⟨w.heap.size,3,none⟩=some (.int .i64 term)∧W.cell? ⟨w.heap.size,4,none⟩=some (.int .i64 prev)∧W.cell? ⟨w.heap.size,5,none⟩=some (.int .i64 pterm)∧W.cell? ⟨w.heap.size,6,none⟩=some (.int .i64 commit)∧W.cell? ⟨w.heap.size,7,none⟩=some (.bool granted)∧W.cell? ⟨w.heap.size,8,none⟩=some (.slice xA es.length xc))∧(W.cell? ⟨g,4,none⟩=some (.int .i64 C.now)) from
     ⟨by rw[z.x.2.2.2.1,e2],b.cell 2,(by
      have h1:=Reads.of_own z.op
      rw[(h1.cell2 tn (by omega) (by omega))]
      exact e3),⟨b.cell 0,b.cell 1,b.cell 2,b.cell 3,b.cell 4,b.cell 5,b.cell 6,b.cell 7,b.cell 8⟩,by rw[z.x.2.2.2.2.2.2.1,e1]⟩)
    have hp3:(K.map fun x=>(Value.pointer (some ⟨x.p,0,none⟩)))[tn]?=some (.pointer (some ⟨xp,0,none⟩)):=by rw[List.getElem?_map,hxq];rfl
    have S5:=HKS.out w5 c1 _ K _ _ _ HZ5.out rfl rfl hp3 g5
    have HSL:=ħ (KP.step xs (MV.m ⟨kind,frm,(tn:Int),term,prev,pterm,commit,granted,xA,xc,es⟩) C.now).2.1
    have HCL:=ħ (show (C.cut i).ms.length≤200 by
     have h1:=HW.out.l
     have h2:=List.length_eraseIdx_le C.ms i
     show (C.ms.eraseIdx i).length≤200
     omega)
    have HQ:=ħ hxq
    have HP3:=ħ hp3
    have HNS:=ħ hns
    clear hns hcl hcl2 hnw hp3 hxq h5 HK HBASE hxs HE2 HE5
    generalize xs.step (MV.m ⟨kind,frm,(tn:Int),term,prev,pterm,commit,granted,xA,xc,es⟩) C.now=R at *
    go_upto_region 3 with fail
    go_region_held (fun W=>(W.cell? ⟨g,1,none⟩=some (.slice Ap K.length cp))∧(W.cell? ⟨w.heap.size,2,none⟩=some (.int .i64 (tn:Int)))∧(W.cell? ⟨bk Ap,ofs Ap+tn,none⟩=some (.pointer (some ⟨xp,0,none⟩)))∧(W.cell? ⟨w.heap.size,0,none⟩=some (.int .i64 kind)∧W.cell? ⟨w.heap.size,1,none⟩=some (.int .i64 frm)∧W.cell? ⟨w.heap.size,2,none⟩=some (.int .i64 (tn:Int))∧W.cell? ⟨w.heap.size,3,none⟩=some (.int .i64 term)∧W.cell? ⟨w.heap.size,4,none⟩=some (.int .i64 prev)∧W.cell? ⟨w.heap.size,5,none⟩=some (.int .i64 pterm)∧W.cell? ⟨w.heap.size,6,none⟩=some (.int .i64 commit)∧W.cell? ⟨w.heap.size,7,none⟩=some (.bool granted)∧W.cell? ⟨w.heap.size,8,none⟩=some (.slice xA es.length xc))∧(W.cell? ⟨g,4,none⟩=some (.int .i64 C.now))) (first | assumption | exact S5) (first
     | (((with_reducible refine H68.out.mono ?_);rintro e w6 ⟨A6,c6,ms6,col6,rfl,hm6,hM6,hb6,hc6⟩;obtain ⟨c7,hz7,ag7,fr7,z7⟩:=CZ.node HZd.out HQ.out (by omega) hb6 hc6;have g7:=g5.drew.fr fr7 (fun e=>e.1 z1);have S7:=HKS.out w6 c7 _ _ _ _ _ hz7 rfl List.length_set (by rw[List.map_set];exact set_same HP3.out) g7;have hms6:ms6.length≤1000:=by { have h1:=HSL.out;rw[←hm6,List.length_map] at h1;omega };have H38:=ħ (send38 w6 c7 g _ _ fo Am cm Ap cp At ct _ _ _ hz7 _ A6 c6 ms6 hM6 (fun k hk=>z7 k hk.1 hk.2) HCL.out hms6);have CB7:=ħ (show CB w5.drew c1 g _ fo w6 c7 from ⟨⟨_,_,_,_,_,_,_,_,_,_,hz7⟩,ag7,fr7⟩);have HM6:=ħ hm6;clear hz7 hM6 hb6 hc6 z7 hm6))
     | (((with_reducible refine H38.out.mono ?_);rintro e w8 ⟨rfl,c8,hls8⟩;obtain ⟨⟨A8,c8',mv8,hz8⟩,ag8,fr8⟩:=hls8;have g8:=g7.fr fr8 (fun e=>e.1 (by rw[ag7 _ g5.lt];exact z1));have S8:=HKS.out w8 c8 _ _ _ _ _ hz8 rfl List.length_set (by rw[List.map_set];exact set_same HP3.out) g8;have CB8:=ħ (show CB w6 c7 g _ fo w8 c8 from ⟨⟨_,_,_,_,_,_,_,_,_,_,hz8⟩,ag8,fr8⟩);clear hz8 ag8 fr8)))
    all_goals
     go_wp2_with fail
     refine bodyPost_end (v:=.tuple #[]) (by simp[results,Tryz.results39,go_sem]) rfl ⟨rfl,c8,?_⟩
     rw[HRE.out,←HM6.out]
     exact ((HB5.out.below (Below.refl _ _).drew).trans CB7.out).trans CB8.out
   ·have wt1:decide (tt<(K.length:Int))=false:=decide_eq_false htl
    have HRE:=ħ (show C.come i=C.cut i by rw[HCO.out,if_neg (by omega),List.getElem?_eq_none (by have:=HKL.out;omega)])
    go_upto_region 2 with fail
    refine wp_region_quiet (C:=fun w'=>Below wc.heap.size wc w') (by kernel_rfl) (by kernel_rfl) ((Below.refl _ _).drew) ?_
    repeat (refine wpQuiet_step (fun K hK=>?_);have HKK:=ħ hK;clear hK;first | (refine ite_no ?_ ?_;(focus (clear HKK K;go_simp;done));go_simp;refine HKK.out _ ?_;clear HKK K) | (refine ite_yes ?_ ?_;(focus (clear HKK K;go_simp;done));apply Exists.intro;refine ⟨fun wq hq=>?_,?_⟩;(focus ((obtain ⟨y0,y1⟩:=HK.out _ hq);go_simp;(first | done | rfl)));go_simp;refine HKK.out _ ?_;clear HKK K))
    refine wpQuiet_nil ?_
    intro w5 hw5
    go_wp2_with fail
    refine bodyPost_end (v:=.tuple #[]) (by simp[results,Tryz.results39,go_sem]) rfl ⟨rfl,c1,?_⟩
    rw[HRE.out]
    exact HBASE.out w5 hw5
  ·have wt0:decide (0≤tt)=false:=decide_eq_false htn
   have HRE:=ħ (show C.come i=C.cut i by rw[HCO.out,if_pos (by omega)])
   go_upto_region 2 with fail
   refine wp_region_quiet (C:=fun w'=>Below wc.heap.size wc w') (by kernel_rfl) (by kernel_rfl) ((Below.refl _ _).drew) ?_
   repeat (refine wpQuiet_step (fun K hK=>?_);have HKK:=ħ hK;clear hK;first | (refine ite_no ?_ ?_;(focus (clear HKK K;go_simp;done));go_simp;refine HKK.out _ ?_;clear HKK K) | (refine ite_yes ?_ ?_;(focus (clear HKK K;go_simp;done));apply Exists.intro;refine ⟨fun wq hq=>?_,?_⟩;(focus ((obtain ⟨y0,y1⟩:=HK.out _ hq);go_simp;(first | done | rfl)));go_simp;refine HKK.out _ ?_;clear HKK K))
   refine wpQuiet_nil ?_
   intro w5 hw5
   go_wp2_with fail
   refine bodyPost_end (v:=.tuple #[]) (by simp[results,Tryz.results39,go_sem]) rfl ⟨rfl,c1,?_⟩
   rw[HRE.out]
   exact HBASE.out w5 hw5
end Go.Proofs.YtdfobfjpkjddpaaGreat

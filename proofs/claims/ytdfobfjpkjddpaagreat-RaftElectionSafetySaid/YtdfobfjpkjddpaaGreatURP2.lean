import Derived.Test.YtdfobfjpkjddpaaGreatUG31
import Derived.Test.YtdfobfjpkjddpaaGreatUG7
import Derived.Deep.CutBlock
set_option linter.unusedVariables false
set_option linter.unusedSimpArgs false
set_option maxRecDepth 10000
set_option maxHeartbeats 8000000
namespace Go.Proofs.YtdfobfjpkjddpaaGreat
open Go.RowKit Go.Own Go.Quo Go.Wire Go.Raft
attribute [local irreducible] Go.wpQuiet
theorem BG.both {w5 W:World}{cc:Nat→Nat}{g:Nat}{cs:Array Value}{V0 V1 V2:Value}{n0 n1 n2:Nat}{X0 X1 X2:List Value}(h:BG w5 cc g cs V0 V1 V2 n0 n1 n2 X0 X1 X2 W):Fr (fun k=>cc k=1) w5 W∧Blk W g 55 cs:=⟨h.fr,h.b⟩
theorem begin13 (w:World)(a b:Nat)(ha:a<256)(hb:b<256) :
 Calls Tryz.prog 13 #[.int .u8 (a:Int),.int .u8 (b:Int)] w fun e w'=>∃ g cc fo,e=.returned (.pointer (some ⟨g,0,none⟩))∧CS w' cc g (clN (b % (a % 5+1)+1) (a % 5+1)) fo∧(⟨fo.o,fo.n⟩:Mb)=cN (b % (a % 5+1)+1)∧(∀ k,k<w.heap.size→cc k=0)∧Below w.heap.size w w':=by
 obtain ⟨n,hn⟩:∃ n,n=a % 5+1:=⟨_,rfl⟩
 obtain ⟨m,hm⟩:∃ m,m=b % n+1:=⟨_,rfl⟩
 rw[←hn,←hm]
 have hn1:1≤n∧n≤5:=by omega
 have hm1:1≤m∧m≤n:=by have:=Nat.mod_lt b (show 0<n by omega);omega
 have ha1:IntKind.i64.wrap (a:Int)=(a:Int):=IntWalk.i64_in _ (by omega)
 have hb1:IntKind.i64.wrap (b:Int)=(b:Int):=IntWalk.i64_in _ (by omega)
 have ha5:Int.tmod (a:Int) 5=((a % 5:Nat):Int):=by rw[show (5:Int)=((5:Nat):Int) from rfl,tmod_nat']
 have hbn:Int.tmod (b:Int) (n:Int)=((b % n:Nat):Int):=tmod_nat' _ _
 obtain ⟨a5,h5⟩:∃ x,x=a % 5:=⟨_,rfl⟩
 obtain ⟨bn,hbn'⟩:∃ x,x=b % n:=⟨_,rfl⟩
 rw[←h5] at ha5
 rw[←hbn'] at hbn
 have hs1:IntKind.i64.wrap ((a5:Int)+1)=(n:Int):=by rw[IntWalk.i64_in _ (by omega)];omega
 have hs2:IntKind.i64.wrap ((bn:Int)+1)=(m:Int):=by rw[IntWalk.i64_in _ (by omega)];omega
 have hn0:¬ ((n:Int)=0):=by omega
 clear h5 hbn' hn hm
 go_enter Tryz.func13,Tryz.ntmps13
 go_wp2_with fail
 have g0:Blk (w.alloc (.cells gC0 55)) w.heap.size 55 gC0:=Blk.new w 55 _
 have b1:Below w.heap.size w (w.alloc (.cells gC0 55)):=(Below.refl _ _).alloc (Nat.le_refl _) _
 have hsz:(w.alloc (.cells gC0 55)).heap.size=w.heap.size+1:=by simp
 have HSZ:=ħ hsz
 have HB1:=ħ b1
 have HG0:=ħ g0
 generalize w.alloc (.cells gC0 55)=W1 at *
 clear ha1 hb1 ha5 hbn hs1 hs2 hsz b1 g0
 go_loopw [7,24] (fun vo vi wr=>∃ (i:Nat) (A:Option Addr) (c:Nat),i≤m∧vi=.int .i64 (i:Int)∧vo=.slice A i c∧wr.ownsRow W1.heap.size 3 1 (.slice A i c) i (((List.range i).map (fun (k:Nat)=>(k:Int))).map (Value.int .i64))∧Below W1.heap.size W1 wr) (fun _ vi _=>m - (intOf vi).toNat)
 case atStart=>exact ⟨0,none,0,Nat.zero_le _,rfl,rfl,World.ownsRow_nil _ _ _ _,Below.refl _ _⟩
 case round=>
  obtain ⟨i,A,c,hi,rfl,rfl,ho,hb2⟩:=hrel
  have HS:=ħ ho
  have HB:=ħ hb2
  have hsz2:=hb2.size
  clear ho hb2
  by_cases him:i=m
  ·subst him
   have hlt:¬ ((i:Int)<(i:Int)):=by omega
   obtain ⟨cc0,hz0,hc0⟩:=CZ.zero i (HG0.out.below HB.out HG0.out.lt) HS.out HG0.out.lt (by omega)
   have HMD:=ħ fun (j:Nat)=>(show mdR ⟨A,c,(List.range i).map (fun (k:Nat)=>(k:Int)),none,0,[]⟩ j=[.int .i64 (j:Int),.slice A i c,.slice none 0 0,.int .i64 (8+2 * (j:Int)),.int .i64 2,.int .i64 0] from by
    unfold mdR
    simp)
   have HFO:=ħ (show ((⟨(⟨A,c,(List.range i).map (fun (k:Nat)=>(k:Int)),none,0,[]⟩:Ms).o,(⟨A,c,(List.range i).map (fun (k:Nat)=>(k:Int)),none,0,[]⟩:Ms).n⟩:Mb)=cN i) from rfl)
   generalize hfo:(⟨A,c,(List.range i).map (fun (k:Nat)=>(k:Int)),none,0,[]⟩:Ms)=fo at *
   clear hfo
   have HZ0:=ħ hz0
   have HC0:=ħ hc0
   have HW0:=ħ (HB1.out.trans (HB.out.mono (show w.heap.size≤W1.heap.size by have:=HSZ.out;omega)))
   clear hz0 hc0 hi
   go_wp2_with fail
   go_loopw [33] (fun vi wx=>∃ (j:Nat) (K:List NQ) (Am:Option Addr) (cm:Nat) (Ap:Option Addr) (cp:Nat) (At:Option Addr) (ct:Nat) (cc:Nat→Nat),j≤n∧vi=.int .i64 (j:Int)∧j=K.length∧CZ wx cc w.heap.size (clN i j) K fo Am cm Ap cp At ct none 0 []∧(∀ k,k<w.heap.size→cc k=0)∧Below w.heap.size w wx) (fun vi _=>n - (intOf vi).toNat)
   case atStart=>exact ⟨0,[],none,0,none,0,none,0,cc0,Nat.zero_le _,rfl,rfl,HZ0.out,HC0.out,HW0.out⟩
   case round=>
    obtain ⟨j,K,Am,cm,Ap,cp,At,ct,cc,hj,rfl,hjk,hz,hcc,hbw⟩:=hrel
    have HZ:=ħ hz
    have HCC:=ħ hcc
    have HBW:=ħ hbw
    have HJK:=ħ hjk
    have hszw:=hz.b.lt
    clear hz hcc hbw hjk HZ0 HC0 HW0
    by_cases hjn:j=n
    ·subst hjn
     have hlt:¬ ((j:Int)<(j:Int)):=by omega
     go_wp2_with fail
     go_ret
     exact ⟨w.heap.size,rfl,cc,fo,⟨K,_,_,_,_,_,_,_,_,_,HZ.out⟩,HFO.out,HCC.out,HBW.out⟩
    ·have hlt:(j:Int)<(n:Int):=by omega
     have hw2:IntKind.i64.wrap (2 * (j:Int))=2 * (j:Int):=IntWalk.i64_in _ (by omega)
     have hw3:IntKind.i64.wrap (8+2 * (j:Int))=8+2 * (j:Int):=IntWalk.i64_in _ (by omega)
     go_upto_block 3 with fail
     go_cut [] (fun wx=>∃ (K2:List NQ) (Am2:Option Addr) (cm2:Nat) (Ap2:Option Addr) (cp2:Nat) (At2:Option Addr) (ct2:Nat) (cc2:Nat→Nat),j+1=K2.length∧CZ wx cc2 w.heap.size (clN i (j+1)) K2 fo Am2 cm2 Ap2 cp2 At2 ct2 none 0 []∧(∀ k,k<w.heap.size→cc2 k=0)∧Below w.heap.size w wx)
     case rest=>
      obtain ⟨K2,Am2,cm2,Ap2,cp2,At2,ct2,cc2,q1,q2,q3,q4⟩:=hcut
      have HQ:=ħ (And.intro q1 (And.intro q2 (And.intro q3 q4)))
      clear q1 q2 q3 q4
      go_wp2_with fail
      exact ⟨⟨j+1,K2,Am2,cm2,Ap2,cp2,At2,ct2,cc2,by omega,by go_num,HQ.out.1,HQ.out.2.1,HQ.out.2.2.1,HQ.out.2.2.2⟩,by simp[intOf];omega⟩
     case' first=>skip
     go_upto_region 13 with fail
     have gE:Blk (wr.alloc (.cells #[.int .i64 (j:Int),.slice A i c,.slice none 0 0,.int .i64 (8+2 * (j:Int)),.int .i64 2,.int .i64 0] 26)) wr.heap.size 26 #[.int .i64 (j:Int),.slice A i c,.slice none 0 0,.int .i64 (8+2 * (j:Int)),.int .i64 2,.int .i64 0]:=Blk.new wr 26 _
     have bE:Below wr.heap.size wr (wr.alloc (.cells #[.int .i64 (j:Int),.slice A i c,.slice none 0 0,.int .i64 (8+2 * (j:Int)),.int .i64 2,.int .i64 0] 26)):=(Below.refl _ _).alloc (Nat.le_refl _) _
     have hE1:=gE.lt
     generalize wr.alloc (.cells #[.int .i64 (j:Int),.slice A i c,.slice none 0 0,.int .i64 (8+2 * (j:Int)),.int .i64 2,.int .i64 0] 26)=W2 at *
     have H11:=ħ (storage_new W2)
     have HBE:=ħ bE
     have HGE:=ħ gE
     clear hw2 hw3 bE gE
     have H23:=ħ fun W f (hW:Below wr.heap.size wr W) (hf:FileP W f (fun _=>False) [] 0 false) (hfl:wr.heap.size≤f)=>(show Calls Tryz.prog 23 #[.agg #[.int .i64 (j:Int),.slice A i c,.slice none 0 0,.int .i64 (8+2 * (j:Int)),.int .i64 2,.int .i64 0],.pointer (some ⟨f,0,none⟩)] W (OkQ f (fun _=>False) (nN i j) W) from by
      have h1:=open23 W f (fun _=>False) (fun k=>cc k=100) (j:Int) (8+2 * (j:Int)) 2 0 fo [] 0 (-1) [] (by rw[show encJ initS []=[] from by simp[encJ]];exact hf) (HZ.out.fo.below hW) ⟨by omega,by omega⟩ (by have h2:=perm_cN (i:=i) hm1.1 (by omega);rw[←HFO.out] at h2;exact h2) (by unfold MT;omega) RcOk.nil
      have e2:=opened_new j i _ HFO.out
      have e3:=md_open (HMD.out j)
      rw[e2,e3] at h1
      exact h1)
     go_upto_region 15 with (first
      | (go_at_call 11;((with_reducible refine H11.out.mono ?_);rintro e w4 ⟨rfl,hfp4,hb4⟩;have g4:=HGE.out.below hb4 hE1;have b4:Below wr.heap.size wr w4:=HBE.out.trans (hb4.mono HBE.out.size);have H23a:=ħ (H23.out w4 W2.heap.size b4 hfp4 (by omega));have t0:=g4.cell 0;have t1:=g4.cell 1;have t2:=g4.cell 2;have t3:=g4.cell 3;have t4:=g4.cell 4;have t5:=g4.cell 5;have HG4:=ħ g4;have HB4:=ħ b4;clear g4 b4 hb4 hfp4))
      | (go_at_call 23;((with_reducible refine H23a.out.mono ?_);rintro e w5 ⟨p5,v5,j5,l5,col5,rfl,n5,cl5,sp5,fr5⟩;have HN5:=ħ n5;have HCL5:=ħ cl5;have HSP5:=ħ sp5;have HF5:=ħ fr5;clear n5 cl5 sp5 fr5)))
     have HB5:=ħ (show Below wr.heap.size wr w5 from HB4.out.trans (HF5.out.below HB4.out.size (fun k hk e=>e.elim (fun e=>by omega) id)))
     have gE5:=HG4.out.fr HF5.out (fun e=>e.elim (fun e=>by omega) id)
     have Z5:=ħ (HZ.out.fr (S:=fun _=>False) (Fr.of_below HB5.out) (fun _ _ e=>e))
     have b5:BG w5 cc w.heap.size #[.slice Am K.length cm,.slice Ap K.length cp,.slice At K.length ct,.slice none 0 0,.int .i64 (clN i j).now,.bool false] (.slice Am K.length cm) (.slice At K.length ct) (.slice Ap K.length cp) K.length K.length K.length ((List.range K.length).flatMap (mdR fo)) (K.map fun x=>.pointer (some ⟨x.f,0,none⟩)) (K.map fun x=>.pointer (some ⟨x.p,0,none⟩)) w5:=
      ⟨Z5.out.om,Z5.out.ot,Z5.out.op,Fr.refl _ _,Z5.out.b,fun k hk=>.inl (Z5.out.mc k hk),fun k hk=>.inl (Z5.out.tc k hk),fun k hk=>.inl (Z5.out.pc k hk)⟩
     have HLm:=ħ (fun k (hk:(Value.slice Am K.length cm).ownBlock=some k)=>own_lt Z5.out.om hk)
     have HLt:=ħ (fun k (hk:(Value.slice At K.length ct).ownBlock=some k)=>own_lt Z5.out.ot hk)
     have hkl:K.length≤5:=by have:=HJK.out;omega
     clear t0 t1 t2 t3 t4 t5
     have t0:=gE5.cell 0
     have t1:=gE5.cell 1
     have t2:=gE5.cell 2
     have t3:=gE5.cell 3
     have t4:=gE5.cell 4
     have t5:=gE5.cell 5
     have z5d:=b5.b.cell 0
     have z5e:=b5.b.cell 1
     have z5f:=b5.b.cell 2
     obtain ⟨z5a,z5b,z5c⟩:=b5.b.facts
     have gE5x:=gE5
     clear gE5
     go_upto_region 17 with fail
     have HGE5:=ħ gE5x
     have HBX:=ħ (show ¬ cc wr.heap.size=1 from fun e=>by have:=HZ.out.lt wr.heap.size (by rw[e];decide);omega)
     have HGC:=ħ HZ.out.gc
     clear t0 t1 t2 t3 t4 t5 z5a z5b z5c z5d z5e z5f
     have FIN:=ħ (fun (wx:World) (A6:Option Addr) (c6:Nat) (A7:Option Addr) (c7:Nat) (A8:Option Addr) (c8:Nat) (b9:BG w5 cc w.heap.size #[.slice A6 (K.length+1) c6,.slice A8 (K.length+1) c8,.slice A7 (K.length+1) c7,.slice none 0 0,.int .i64 (clN i j).now,.bool false] (.slice A6 (K.length+1) c6) (.slice A7 (K.length+1) c7) (.slice A8 (K.length+1) c8) (K.length+1) (K.length+1) (K.length+1) ((List.range K.length).flatMap (mdR fo) ++ [.int .i64 (j:Int),.slice A i c,.slice none 0 0,.int .i64 (8+2 * (j:Int)),.int .i64 2,.int .i64 0]) ((K.map fun x=>.pointer (some ⟨x.f,0,none⟩)) ++ [.pointer (some ⟨W2.heap.size,0,none⟩)]) ((K.map fun x=>.pointer (some ⟨x.p,0,none⟩)) ++ [.pointer (some ⟨p5,0,none⟩)]) wx)=>(show ∃ (K2:List NQ) (Am2:Option Addr) (cm2:Nat) (Ap2:Option Addr) (cp2:Nat) (At2:Option Addr) (ct2:Nat) (cc2:Nat→Nat),j+1=K2.length∧CZ wx cc2 w.heap.size (clN i (j+1)) K2 fo Am2 cm2 Ap2 cp2 At2 ct2 none 0 []∧(∀ k,k<w.heap.size→cc2 k=0)∧Below w.heap.size w wx from by
      have e0:[Value.int .i64 (j:Int),.slice A i c,.slice none 0 0,.int .i64 (8+2 * (j:Int)),.int .i64 2,.int .i64 0]=mdR fo K.length:=by rw[←HJK.out,HMD.out j]
      rw[e0] at b9
      obtain ⟨c1,hz9,ag9⟩:=BG.done (x:=⟨p5,v5,j5,l5,W2.heap.size,col5,nN i j⟩) HZ.out (by omega) HB5.out HN5.out HCL5.out (fun k hk=>by
       rcases HSP5.out k hk with e | e | e
       ·rw[e];omega
       ·exact e.1.elim
       ·exact Nat.le_trans HB4.out.size e) b9
      refine ⟨K ++ [⟨p5,v5,j5,l5,W2.heap.size,col5,nN i j⟩],A6,c6,A8,c8,A7,c7,c1,by rw[List.length_append,←HJK.out];rfl,?_,fun k hk=>?_,?_⟩
      ·rw[clN_succ]
       exact hz9
      ·rw[ag9 k (Nat.lt_of_lt_of_le hk HBW.out.size)];exact HCC.out k hk
      ·exact ((HBW.out.trans (HB5.out.mono HBW.out.size)).trans (b9.fr.below (Nat.le_trans HBW.out.size HB5.out.size) (fun k hk e=>by have e:cc k=1:=e;rw[HCC.out k hk] at e;omega)))))
     refine wp_region_any (by kernel_rfl) ?_
     change wpAny _ _ _ _ _ _ _ (World.drew _)
     refine wpAny_take (i:=1) (v:=?v0) rfl (by kernel_rfl) (by kernel_rfl) (by kernel_rfl) (fun _ _ _ h=>h) (Or.inl ⟨by rfl,?hy0⟩) ?rest0
     case hy0=>
      intro w
      go_simp
      try with_reducible rfl
     try simp only[Act.put,σa,σb,σc]
     refine wpAny_take (i:=2) (v:=?v1) rfl (by kernel_rfl) (by kernel_rfl) (by kernel_rfl) (fun _ _ _ h=>h) (Or.inl ⟨by rfl,?hy1⟩) ?rest1
     case hy1=>
      intro w
      go_simp
      try with_reducible rfl
     try simp only[Act.put,σa,σb,σc]
     refine wpAny_take (i:=10) (v:=?v2) rfl (by kernel_rfl) (by kernel_rfl) (by kernel_rfl) (fun _ _ _ h=>h) (Or.inl ⟨by rfl,?hy2⟩) ?rest2
     case hy2=>
      intro w
      go_simp
      try with_reducible rfl
     try simp only[Act.put,σa,σb,σc]
     refine wpAny_take (i:=11) (v:=?v3) rfl (by kernel_rfl) (by kernel_rfl) (by kernel_rfl) (fun _ _ _ h=>h) (Or.inl ⟨by rfl,?hy3⟩) ?rest3
     case hy3=>
      intro w
      go_simp
      try with_reducible rfl
     try simp only[Act.put,σa,σb,σc]
     refine wpAny_take (i:=14) (v:=?v4) rfl (by kernel_rfl) (by kernel_rfl) (by kernel_rfl) (fun _ _ _ h=>h) (Or.inl ⟨by rfl,?hy4⟩) ?rest4
     case hy4=>
      intro w
      go_simp
      try with_reducible rfl
     try simp only[Act.put,σa,σb,σc]
     refine wpAny_take (i:=17) (v:=?v5) rfl (by kernel_rfl) (by kernel_rfl) (by kernel_rfl) (fun _ _ _ h=>h) (Or.inl ⟨by rfl,?hy5⟩) ?rest5
     case hy5=>
      intro w
      go_simp
      try with_reducible rfl
     try simp only[Act.put,σa,σb,σc]
     refine wpAny_take (i:=18) (v:=?v6) rfl (by kernel_rfl) (by kernel_rfl) (by kernel_rfl) (fun _ _ _ h=>h) (Or.inl ⟨by rfl,?hy6⟩) ?rest6
     case hy6=>
      intro w
      go_simp
      try with_reducible rfl
     try simp only[Act.put,σa,σb,σc]
     refine wpAny_take (i:=21) (v:=?v7) rfl (by kernel_rfl) (by kernel_rfl) (by kernel_rfl) (fun _ _ _ h=>h) (Or.inl ⟨by rfl,?hy7⟩) ?rest7
     case hy7=>
      intro w
      go_simp
      try with_reducible rfl
     try simp only[Act.put,σa,σb,σc]
     refine region_tail (m:=16) (S:=fun W=>Fr (fun k=>cc k=1) w5 W∧Blk W w.heap.size 55 #[.slice Am K.length cm,.slice Ap K.length cp,.slice At K.length ct,.slice none 0 0,.int .i64 (clN i j).now,.bool false]) #[{ dst:=some 49,op:=Op.move (Operand.tmp 6),type:=42,pos:= "law.go:217",after:=#[],guard:=none },{ dst:=some 50,op:=Op.move (Operand.tmp 6),type:=42,pos:= "law.go:217",after:=#[{ on:=26,ground:=Ground.gcOnly Go.Departure.lateStores }],guard:=none },{ dst:=some 51,op:=Op.move (Operand.tmp 6),type:=42,pos:= "law.go:217",after:=#[{ on:=29,ground:=Ground.gcOnly Go.Departure.lateStores }],guard:=none },{ dst:=some 52,op:=Op.move (Operand.tmp 6),type:=42,pos:= "law.go:217",after:=#[],guard:=none },{ dst:=some 53,op:=Op.nilCheck (Operand.tmp 52),type:=0,pos:= "law.go:217",after:=#[{ on:=3,ground:=Ground.data }],guard:=none },{ dst:=some 54,op:=Op.fieldAddr 55 (Operand.tmp 53) 0,type:=0,pos:= "law.go:217",after:=#[{ on:=4,ground:=Ground.data }],guard:=none },{ dst:=some 55,op:=Op.load 50 (Operand.tmp 54),type:=50,pos:= "law.go:217",after:=#[{ on:=5,ground:=Ground.data }],guard:=none },{ dst:=some 56,op:=Op.load 26 (Operand.tmp 10),type:=26,pos:= "law.go:217",after:=#[],guard:=none },{ dst:=some 57,op:=Op.buildSlice 50 1 #[(0,Operand.tmp 56)],type:=50,pos:= "law.go:217",after:=#[{ on:=7,ground:=Ground.data }],guard:=none },{ dst:=some 58,op:=Op.call { callee:=Callee.builtin Go.Builtin.append,args:=#[Operand.tmp 55,Operand.tmp 57],argTypes:=#[50,50] },type:=50,pos:= "law.go:217",after:=#[{ on:=6,ground:=Ground.data },{ on:=8,ground:=Ground.data }],guard:=none },{ dst:=some 59,op:=Op.move (Operand.tmp 6),type:=42,pos:= "law.go:217",after:=#[],guard:=none },{ dst:=some 60,op:=Op.nilCheck (Operand.tmp 59),type:=0,pos:= "law.go:217",after:=#[{ on:=10,ground:=Ground.data }],guard:=none },{ dst:=some 61,op:=Op.fieldAddr 55 (Operand.tmp 60) 2,type:=0,pos:= "law.go:217",after:=#[{ on:=11,ground:=Ground.data }],guard:=none },{ dst:=some 62,op:=Op.load 52 (Operand.tmp 61),type:=52,pos:= "law.go:217",after:=#[{ on:=12,ground:=Ground.data }],guard:=none },{ dst:=some 63,op:=Op.move (Operand.tmp 11),type:=36,pos:= "law.go:217",after:=#[],guard:=none },{ dst:=some 64,op:=Op.buildSlice 52 1 #[(0,Operand.tmp 63)],type:=52,pos:= "law.go:217",after:=#[{ on:=14,ground:=Ground.data }],guard:=none },{ dst:=some 65,op:=Op.call { callee:=Callee.builtin Go.Builtin.append,args:=#[Operand.tmp 62,Operand.tmp 64],argTypes:=#[52,52] },type:=52,pos:= "law.go:217",after:=#[{ on:=13,ground:=Ground.data },{ on:=15,ground:=Ground.data },{ on:=9,ground:=Ground.chain }],guard:=none },{ dst:=some 66,op:=Op.move (Operand.tmp 6),type:=42,pos:= "law.go:217",after:=#[],guard:=none },{ dst:=some 67,op:=Op.nilCheck (Operand.tmp 66),type:=0,pos:= "law.go:217",after:=#[{ on:=17,ground:=Ground.data }],guard:=none },{ dst:=some 68,op:=Op.fieldAddr 55 (Operand.tmp 67) 1,type:=0,pos:= "law.go:217",after:=#[{ on:=18,ground:=Ground.data }],guard:=none },{ dst:=some 69,op:=Op.load 51 (Operand.tmp 68),type:=51,pos:= "law.go:217",after:=#[{ on:=19,ground:=Ground.data }],guard:=none },{ dst:=some 70,op:=Op.move (Operand.tmp 12),type:=31,pos:= "law.go:217",after:=#[],guard:=none },{ dst:=some 71,op:=Op.buildSlice 51 1 #[(0,Operand.tmp 70)],type:=51,pos:= "law.go:217",after:=#[{ on:=21,ground:=Ground.data }],guard:=none },{ dst:=some 72,op:=Op.call { callee:=Callee.builtin Go.Builtin.append,args:=#[Operand.tmp 69,Operand.tmp 71],argTypes:=#[51,51] },type:=51,pos:= "law.go:217",after:=#[{ on:=20,ground:=Ground.data },{ on:=22,ground:=Ground.data },{ on:=16,ground:=Ground.chain }],guard:=none }] #[{ dst:=some 73,op:=Op.nilCheck (Operand.tmp 49),type:=0,pos:= "law.go:217",after:=#[{ on:=0,ground:=Ground.data },{ on:=0,ground:=Ground.phase },{ on:=1,ground:=Ground.textOnly Go.Departure.lateStores },{ on:=2,ground:=Ground.textOnly Go.Departure.lateStores },{ on:=3,ground:=Ground.phase },{ on:=4,ground:=Ground.phase },{ on:=5,ground:=Ground.phase },{ on:=6,ground:=Ground.phase },{ on:=7,ground:=Ground.phase },{ on:=8,ground:=Ground.phase },{ on:=9,ground:=Ground.phase },{ on:=10,ground:=Ground.textOnly Go.Departure.lateStores },{ on:=11,ground:=Ground.textOnly Go.Departure.lateStoresUnsure },{ on:=12,ground:=Ground.textOnly Go.Departure.lateStoresUnsure },{ on:=13,ground:=Ground.phase },{ on:=14,ground:=Ground.textOnly Go.Departure.lateStores },{ on:=15,ground:=Ground.textOnly Go.Departure.lateStoresUnsure },{ on:=16,ground:=Ground.phase },{ on:=17,ground:=Ground.textOnly Go.Departure.lateStores },{ on:=18,ground:=Ground.textOnly Go.Departure.lateStoresUnsure },{ on:=19,ground:=Ground.textOnly Go.Departure.lateStoresUnsure },{ on:=20,ground:=Ground.phase },{ on:=21,ground:=Ground.textOnly Go.Departure.lateStores },{ on:=22,ground:=Ground.textOnly Go.Departure.lateStoresUnsure },{ on:=23,ground:=Ground.phase }],guard:=none },{ dst:=some 74,op:=Op.fieldAddr 55 (Operand.tmp 73) 0,type:=0,pos:= "law.go:217",after:=#[{ on:=24,ground:=Ground.data },{ on:=0,ground:=Ground.phase },{ on:=1,ground:=Ground.textOnly Go.Departure.lateStores },{ on:=2,ground:=Ground.textOnly Go.Departure.lateStores },{ on:=3,ground:=Ground.phase },{ on:=4,ground:=Ground.phase },{ on:=5,ground:=Ground.phase },{ on:=6,ground:=Ground.phase },{ on:=7,ground:=Ground.phase },{ on:=8,ground:=Ground.phase },{ on:=9,ground:=Ground.phase },{ on:=10,ground:=Ground.textOnly Go.Departure.lateStores },{ on:=11,ground:=Ground.textOnly Go.Departure.lateStoresUnsure },{ on:=12,ground:=Ground.textOnly Go.Departure.lateStoresUnsure },{ on:=13,ground:=Ground.phase },{ on:=14,ground:=Ground.textOnly Go.Departure.lateStores },{ on:=15,ground:=Ground.textOnly Go.Departure.lateStoresUnsure },{ on:=16,ground:=Ground.phase },{ on:=17,ground:=Ground.textOnly Go.Departure.lateStores },{ on:=18,ground:=Ground.textOnly Go.Departure.lateStoresUnsure },{ on:=19,ground:=Ground.textOnly Go.Departure.lateStoresUnsure },{ on:=20,ground:=Ground.phase },{ on:=21,ground:=Ground.textOnly Go.Departure.lateStores },{ on:=22,ground:=Ground.textOnly Go.Departure.lateStoresUnsure },{ on:=23,ground:=Ground.phase }],guard:=none },{ dst:=none,op:=Op.store 50 (Operand.tmp 74) (Operand.tmp 58),type:=0,pos:= "law.go:217",after:=#[{ on:=25,ground:=Ground.data },{ on:=9,ground:=Ground.data },{ on:=23,ground:=Ground.chain },{ on:=0,ground:=Ground.phase },{ on:=1,ground:=Ground.textOnly Go.Departure.lateStores },{ on:=2,ground:=Ground.textOnly Go.Departure.lateStores },{ on:=3,ground:=Ground.phase },{ on:=4,ground:=Ground.phase },{ on:=5,ground:=Ground.phase },{ on:=6,ground:=Ground.phase },{ on:=7,ground:=Ground.phase },{ on:=8,ground:=Ground.phase },{ on:=9,ground:=Ground.phase },{ on:=10,ground:=Ground.textOnly Go.Departure.lateStores },{ on:=11,ground:=Ground.textOnly Go.Departure.lateStoresUnsure },{ on:=12,ground:=Ground.textOnly Go.Departure.lateStoresUnsure },{ on:=13,ground:=Ground.phase },{ on:=14,ground:=Ground.textOnly Go.Departure.lateStores },{ on:=15,ground:=Ground.textOnly Go.Departure.lateStoresUnsure },{ on:=16,ground:=Ground.phase },{ on:=17,ground:=Ground.textOnly Go.Departure.lateStores },{ on:=18,ground:=Ground.textOnly Go.Departure.lateStoresUnsure },{ on:=19,ground:=Ground.textOnly Go.Departure.lateStoresUnsure },{ on:=20,ground:=Ground.phase },{ on:=21,ground:=Ground.textOnly Go.Departure.lateStores },{ on:=22,ground:=Ground.textOnly Go.Departure.lateStoresUnsure },{ on:=23,ground:=Ground.phase }],guard:=none },{ dst:=some 75,op:=Op.nilCheck (Operand.tmp 50),type:=0,pos:= "law.go:217",after:=#[{ on:=1,ground:=Ground.data },{ on:=0,ground:=Ground.phase },{ on:=1,ground:=Ground.phase },{ on:=2,ground:=Ground.textOnly Go.Departure.lateStores },{ on:=3,ground:=Ground.phase },{ on:=4,ground:=Ground.phase },{ on:=5,ground:=Ground.phase },{ on:=6,ground:=Ground.phase },{ on:=7,ground:=Ground.phase },{ on:=8,ground:=Ground.phase },{ on:=9,ground:=Ground.phase },{ on:=10,ground:=Ground.phase },{ on:=11,ground:=Ground.phase },{ on:=12,ground:=Ground.phase },{ on:=13,ground:=Ground.phase },{ on:=14,ground:=Ground.phase },{ on:=15,ground:=Ground.phase },{ on:=16,ground:=Ground.phase },{ on:=17,ground:=Ground.textOnly Go.Departure.lateStores },{ on:=18,ground:=Ground.textOnly Go.Departure.lateStoresUnsure },{ on:=19,ground:=Ground.textOnly Go.Departure.lateStoresUnsure },{ on:=20,ground:=Ground.phase },{ on:=21,ground:=Ground.textOnly Go.Departure.lateStores },{ on:=22,ground:=Ground.textOnly Go.Departure.lateStoresUnsure },{ on:=23,ground:=Ground.phase },{ on:=24,ground:=Ground.phase },{ on:=25,ground:=Ground.phase },{ on:=26,ground:=Ground.phase }],guard:=none },{ dst:=some 76,op:=Op.fieldAddr 55 (Operand.tmp 75) 2,type:=0,pos:= "law.go:217",after:=#[{ on:=27,ground:=Ground.data },{ on:=0,ground:=Ground.phase },{ on:=1,ground:=Ground.phase },{ on:=2,ground:=Ground.textOnly Go.Departure.lateStores },{ on:=3,ground:=Ground.phase },{ on:=4,ground:=Ground.phase },{ on:=5,ground:=Ground.phase },{ on:=6,ground:=Ground.phase },{ on:=7,ground:=Ground.phase },{ on:=8,ground:=Ground.phase },{ on:=9,ground:=Ground.phase },{ on:=10,ground:=Ground.phase },{ on:=11,ground:=Ground.phase },{ on:=12,ground:=Ground.phase },{ on:=13,ground:=Ground.phase },{ on:=14,ground:=Ground.phase },{ on:=15,ground:=Ground.phase },{ on:=16,ground:=Ground.phase },{ on:=17,ground:=Ground.textOnly Go.Departure.lateStores },{ on:=18,ground:=Ground.textOnly Go.Departure.lateStoresUnsure },{ on:=19,ground:=Ground.textOnly Go.Departure.lateStoresUnsure },{ on:=20,ground:=Ground.phase },{ on:=21,ground:=Ground.textOnly Go.Departure.lateStores },{ on:=22,ground:=Ground.textOnly Go.Departure.lateStoresUnsure },{ on:=23,ground:=Ground.phase },{ on:=24,ground:=Ground.phase },{ on:=25,ground:=Ground.phase },{ on:=26,ground:=Ground.phase }],guard:=none },{ dst:=none,op:=Op.store 52 (Operand.tmp 76) (Operand.tmp 65),type:=0,pos:= "law.go:217",after:=#[{ on:=28,ground:=Ground.data },{ on:=16,ground:=Ground.data },{ on:=26,ground:=Ground.chain },{ on:=0,ground:=Ground.phase },{ on:=1,ground:=Ground.phase },{ on:=2,ground:=Ground.textOnly Go.Departure.lateStores },{ on:=3,ground:=Ground.phase },{ on:=4,ground:=Ground.phase },{ on:=5,ground:=Ground.phase },{ on:=6,ground:=Ground.phase },{ on:=7,ground:=Ground.phase },{ on:=8,ground:=Ground.phase },{ on:=9,ground:=Ground.phase },{ on:=10,ground:=Ground.phase },{ on:=11,ground:=Ground.phase },{ on:=12,ground:=Ground.phase },{ on:=13,ground:=Ground.phase },{ on:=14,ground:=Ground.phase },{ on:=15,ground:=Ground.phase },{ on:=16,ground:=Ground.phase },{ on:=17,ground:=Ground.textOnly Go.Departure.lateStores },{ on:=18,ground:=Ground.textOnly Go.Departure.lateStoresUnsure },{ on:=19,ground:=Ground.textOnly Go.Departure.lateStoresUnsure },{ on:=20,ground:=Ground.phase },{ on:=21,ground:=Ground.textOnly Go.Departure.lateStores },{ on:=22,ground:=Ground.textOnly Go.Departure.lateStoresUnsure },{ on:=23,ground:=Ground.phase },{ on:=24,ground:=Ground.phase },{ on:=25,ground:=Ground.phase },{ on:=26,ground:=Ground.phase }],guard:=none },{ dst:=some 77,op:=Op.nilCheck (Operand.tmp 51),type:=0,pos:= "law.go:217",after:=#[{ on:=2,ground:=Ground.data },{ on:=0,ground:=Ground.phase },{ on:=1,ground:=Ground.phase },{ on:=2,ground:=Ground.phase },{ on:=3,ground:=Ground.phase },{ on:=4,ground:=Ground.phase },{ on:=5,ground:=Ground.phase },{ on:=6,ground:=Ground.phase },{ on:=7,ground:=Ground.phase },{ on:=8,ground:=Ground.phase },{ on:=9,ground:=Ground.phase },{ on:=10,ground:=Ground.phase },{ on:=11,ground:=Ground.phase },{ on:=12,ground:=Ground.phase },{ on:=13,ground:=Ground.phase },{ on:=14,ground:=Ground.phase },{ on:=15,ground:=Ground.phase },{ on:=16,ground:=Ground.phase },{ on:=17,ground:=Ground.phase },{ on:=18,ground:=Ground.phase },{ on:=19,ground:=Ground.phase },{ on:=20,ground:=Ground.phase },{ on:=21,ground:=Ground.phase },{ on:=22,ground:=Ground.phase },{ on:=23,ground:=Ground.phase },{ on:=24,ground:=Ground.phase },{ on:=25,ground:=Ground.phase },{ on:=26,ground:=Ground.phase },{ on:=27,ground:=Ground.phase },{ on:=28,ground:=Ground.phase },{ on:=29,ground:=Ground.phase }],guard:=none },{ dst:=some 78,op:=Op.fieldAddr 55 (Operand.tmp 77) 1,type:=0,pos:= "law.go:217",after:=#[{ on:=30,ground:=Ground.data },{ on:=0,ground:=Ground.phase },{ on:=1,ground:=Ground.phase },{ on:=2,ground:=Ground.phase },{ on:=3,ground:=Ground.phase },{ on:=4,ground:=Ground.phase },{ on:=5,ground:=Ground.phase },{ on:=6,ground:=Ground.phase },{ on:=7,ground:=Ground.phase },{ on:=8,ground:=Ground.phase },{ on:=9,ground:=Ground.phase },{ on:=10,ground:=Ground.phase },{ on:=11,ground:=Ground.phase },{ on:=12,ground:=Ground.phase },{ on:=13,ground:=Ground.phase },{ on:=14,ground:=Ground.phase },{ on:=15,ground:=Ground.phase },{ on:=16,ground:=Ground.phase },{ on:=17,ground:=Ground.phase },{ on:=18,ground:=Ground.phase },{ on:=19,ground:=Ground.phase },{ on:=20,ground:=Ground.phase },{ on:=21,ground:=Ground.phase },{ on:=22,ground:=Ground.phase },{ on:=23,ground:=Ground.phase },{ on:=24,ground:=Ground.phase },{ on:=25,ground:=Ground.phase },{ on:=26,ground:=Ground.phase },{ on:=27,ground:=Ground.phase },{ on:=28,ground:=Ground.phase },{ on:=29,ground:=Ground.phase }],guard:=none },{ dst:=none,op:=Op.store 51 (Operand.tmp 78) (Operand.tmp 72),type:=0,pos:= "law.go:217",after:=#[{ on:=31,ground:=Ground.data },{ on:=23,ground:=Ground.data },{ on:=29,ground:=Ground.chain },{ on:=0,ground:=Ground.phase },{ on:=1,ground:=Ground.phase },{ on:=2,ground:=Ground.phase },{ on:=3,ground:=Ground.phase },{ on:=4,ground:=Ground.phase },{ on:=5,ground:=Ground.phase },{ on:=6,ground:=Ground.phase },{ on:=7,ground:=Ground.phase },{ on:=8,ground:=Ground.phase },{ on:=9,ground:=Ground.phase },{ on:=10,ground:=Ground.phase },{ on:=11,ground:=Ground.phase },{ on:=12,ground:=Ground.phase },{ on:=13,ground:=Ground.phase },{ on:=14,ground:=Ground.phase },{ on:=15,ground:=Ground.phase },{ on:=16,ground:=Ground.phase },{ on:=17,ground:=Ground.phase },{ on:=18,ground:=Ground.phase },{ on:=19,ground:=Ground.phase },{ on:=20,ground:=Ground.phase },{ on:=21,ground:=Ground.phase },{ on:=22,ground:=Ground.phase },{ on:=23,ground:=Ground.phase },{ on:=24,ground:=Ground.phase },{ on:=25,ground:=Ground.phase },{ on:=26,ground:=Ground.phase },{ on:=27,ground:=Ground.phase },{ on:=28,ground:=Ground.phase },{ on:=29,ground:=Ground.phase }],guard:=none }] #[false,true,true,false,false,false,false,false,false,false,true,true,false,false,true,false,false,true,true,false,false,true,false,false] (by rfl) (by kernel_rfl) (by kernel_rfl) (by rfl) (by rfl) (by rfl) ?_ (fun hHeld=>?_)
     ·exact ⟨b5.drew.fr,b5.drew.b⟩
     skip
     refine wpAnyH_take (i:=0) (v:=?v8) rfl (by kernel_rfl) (by kernel_rfl) (by kernel_rfl) (fun _ _ _ h=>h) (Or.inl ⟨by rfl,?hy8⟩) hHeld ?rest8
     case hy8=>
      intro W hSw
      obtain ⟨hS1,hS2⟩:=hSw
      have u0:=hS2.cell 0
      have u1:=hS2.cell 1
      have u2:=hS2.cell 2
      have ee:=HGE5.out.fr hS1 HBX.out
      have x0:=ee.cell 0
      have x1:=ee.cell 1
      have x2:=ee.cell 2
      have x3:=ee.cell 3
      have x4:=ee.cell 4
      have x5:=ee.cell 5
      clear hS1 hS2 ee
      go_simp
      try with_reducible rfl
     try simp only[Act.put,σa,σb,σc]
     refine wpAnyH_take (i:=3) (v:=?v9) rfl (by kernel_rfl) (by kernel_rfl) (by kernel_rfl) (fun _ _ _ h=>h) (Or.inl ⟨by rfl,?hy9⟩) hHeld ?rest9
     case hy9=>
      intro W hSw
      obtain ⟨hS1,hS2⟩:=hSw
      have u0:=hS2.cell 0
      have u1:=hS2.cell 1
      have u2:=hS2.cell 2
      have ee:=HGE5.out.fr hS1 HBX.out
      have x0:=ee.cell 0
      have x1:=ee.cell 1
      have x2:=ee.cell 2
      have x3:=ee.cell 3
      have x4:=ee.cell 4
      have x5:=ee.cell 5
      clear hS1 hS2 ee
      go_simp
      try with_reducible rfl
     try simp only[Act.put,σa,σb,σc]
     refine wpAnyH_take (i:=4) (v:=?v10) rfl (by kernel_rfl) (by kernel_rfl) (by kernel_rfl) (fun _ _ _ h=>h) (Or.inl ⟨by rfl,?hy10⟩) hHeld ?rest10
     case hy10=>
      intro W hSw
      obtain ⟨hS1,hS2⟩:=hSw
      have u0:=hS2.cell 0
      have u1:=hS2.cell 1
      have u2:=hS2.cell 2
      have ee:=HGE5.out.fr hS1 HBX.out
      have x0:=ee.cell 0
      have x1:=ee.cell 1
      have x2:=ee.cell 2
      have x3:=ee.cell 3
      have x4:=ee.cell 4
      have x5:=ee.cell 5
      clear hS1 hS2 ee
      go_simp
      try with_reducible rfl
     try simp only[Act.put,σa,σb,σc]
     refine wpAnyH_take (i:=5) (v:=?v11) rfl (by kernel_rfl) (by kernel_rfl) (by kernel_rfl) (fun _ _ _ h=>h) (Or.inl ⟨by rfl,?hy11⟩) hHeld ?rest11
     case hy11=>
      intro W hSw
      obtain ⟨hS1,hS2⟩:=hSw
      have u0:=hS2.cell 0
      have u1:=hS2.cell 1
      have u2:=hS2.cell 2
      have ee:=HGE5.out.fr hS1 HBX.out
      have x0:=ee.cell 0
      have x1:=ee.cell 1
      have x2:=ee.cell 2
      have x3:=ee.cell 3
      have x4:=ee.cell 4
      have x5:=ee.cell 5
      clear hS1 hS2 ee
      go_simp
      try with_reducible rfl
     try simp only[Act.put,σa,σb,σc]
     refine wpAnyH_take (i:=6) (v:=?v12) rfl (by kernel_rfl) (by kernel_rfl) (by kernel_rfl) (fun _ _ _ h=>h) (Or.inl ⟨by rfl,?hy12⟩) hHeld ?rest12
     case hy12=>
      intro W hSw
      obtain ⟨hS1,hS2⟩:=hSw
      have u0:=hS2.cell 0
      have u1:=hS2.cell 1
      have u2:=hS2.cell 2
      have ee:=HGE5.out.fr hS1 HBX.out
      have x0:=ee.cell 0
      have x1:=ee.cell 1
      have x2:=ee.cell 2
      have x3:=ee.cell 3
      have x4:=ee.cell 4
      have x5:=ee.cell 5
      clear hS1 hS2 ee
      go_simp
      try with_reducible rfl
     try simp only[Act.put,σa,σb,σc]
     refine wpAnyH_take (i:=7) (v:=?v13) rfl (by kernel_rfl) (by kernel_rfl) (by kernel_rfl) (fun _ _ _ h=>h) (Or.inl ⟨by rfl,?hy13⟩) hHeld ?rest13
     case hy13=>
      intro W hSw
      obtain ⟨hS1,hS2⟩:=hSw
      have u0:=hS2.cell 0
      have u1:=hS2.cell 1
      have u2:=hS2.cell 2
      have ee:=HGE5.out.fr hS1 HBX.out
      have x0:=ee.cell 0
      have x1:=ee.cell 1
      have x2:=ee.cell 2
      have x3:=ee.cell 3
      have x4:=ee.cell 4
      have x5:=ee.cell 5
      clear hS1 hS2 ee
      go_simp
      try with_reducible rfl
     try simp only[Act.put,σa,σb,σc]
     refine wpAnyH_take (i:=12) (v:=?v14) rfl (by kernel_rfl) (by kernel_rfl) (by kernel_rfl) (fun _ _ _ h=>h) (Or.inl ⟨by rfl,?hy14⟩) hHeld ?rest14
     case hy14=>
      intro W hSw
      obtain ⟨hS1,hS2⟩:=hSw
      have u0:=hS2.cell 0
      have u1:=hS2.cell 1
      have u2:=hS2.cell 2
      have ee:=HGE5.out.fr hS1 HBX.out
      have x0:=ee.cell 0
      have x1:=ee.cell 1
      have x2:=ee.cell 2
      have x3:=ee.cell 3
      have x4:=ee.cell 4
      have x5:=ee.cell 5
      clear hS1 hS2 ee
      go_simp
      try with_reducible rfl
     try simp only[Act.put,σa,σb,σc]
     refine wpAnyH_take (i:=13) (v:=?v15) rfl (by kernel_rfl) (by kernel_rfl) (by kernel_rfl) (fun _ _ _ h=>h) (Or.inl ⟨by rfl,?hy15⟩) hHeld ?rest15
     case hy15=>
      intro W hSw
      obtain ⟨hS1,hS2⟩:=hSw
      have u0:=hS2.cell 0
      have u1:=hS2.cell 1
      have u2:=hS2.cell 2
      have ee:=HGE5.out.fr hS1 HBX.out
      have x0:=ee.cell 0
      have x1:=ee.cell 1
      have x2:=ee.cell 2
      have x3:=ee.cell 3
      have x4:=ee.cell 4
      have x5:=ee.cell 5
      clear hS1 hS2 ee
      go_simp
      try with_reducible rfl
     try simp only[Act.put,σa,σb,σc]
     refine wpAnyH_take (i:=19) (v:=?v16) rfl (by kernel_rfl) (by kernel_rfl) (by kernel_rfl) (fun _ _ _ h=>h) (Or.inl ⟨by rfl,?hy16⟩) hHeld ?rest16
     case hy16=>
      intro W hSw
      obtain ⟨hS1,hS2⟩:=hSw
      have u0:=hS2.cell 0
      have u1:=hS2.cell 1
      have u2:=hS2.cell 2
      have ee:=HGE5.out.fr hS1 HBX.out
      have x0:=ee.cell 0
      have x1:=ee.cell 1
      have x2:=ee.cell 2
      have x3:=ee.cell 3
      have x4:=ee.cell 4
      have x5:=ee.cell 5
      clear hS1 hS2 ee
      go_simp
      try with_reducible rfl
     try simp only[Act.put,σa,σb,σc]
     refine wpAnyH_take (i:=20) (v:=?v17) rfl (by kernel_rfl) (by kernel_rfl) (by kernel_rfl) (fun _ _ _ h=>h) (Or.inl ⟨by rfl,?hy17⟩) hHeld ?rest17
     case hy17=>
      intro W hSw
      obtain ⟨hS1,hS2⟩:=hSw
      have u0:=hS2.cell 0
      have u1:=hS2.cell 1
      have u2:=hS2.cell 2
      have ee:=HGE5.out.fr hS1 HBX.out
      have x0:=ee.cell 0
      have x1:=ee.cell 1
      have x2:=ee.cell 2
      have x3:=ee.cell 3
      have x4:=ee.cell 4
      have x5:=ee.cell 5
      clear hS1 hS2 ee
      go_simp
      try with_reducible rfl
     try simp only[Act.put,σa,σb,σc]
     refine wpAnyH_ready (rs:=[8,15,22]) (by kernel_rfl) (by simp) ?_
     refine AllReadyH.cons rfl (fun KO hK=>?_) ?_
     ·skip
      go_simp
      skip
      refine hK.out _ _ ?_ (fun hHeld=>?_)
      ·exact BG.both (g:=w.heap.size) (by repeat (first | with_reducible exact b8 | with_reducible exact b7 | with_reducible exact b6 | with_reducible exact b5 | with_reducible apply BG.alloc | with_reducible apply BG.drew))
      clear hK KO
      try simp only[Act.put,σa,σb,σc]
      refine wpAnyH_ready (rs:=[9,15,22]) (by kernel_rfl) (by simp) ?_
      refine AllReadyH.cons rfl (fun KO hK=>?_) ?_
      ·skip
       refine step_append_any _ (by rfl) (.tmp 55) (.tmp 57) _ (by rfl) 0 26 (.agg #[.int .i64 0,.slice none 0 0,.slice none 0 0,.int .i64 0,.int .i64 0,.int .i64 0]) 6 80 Tryz.underlying50 info26p rfl (by omega) (.slice Am K.length cm) K.length ((List.range K.length).flatMap (mdR fo)) (by rfl) (by exact BG.r0 (show BG w5 cc w.heap.size _ _ _ _ _ _ _ _ _ _ _ from (by repeat (first | with_reducible apply BG.alloc | with_reducible apply BG.drew | with_reducible exact b7 | with_reducible exact b6 | with_reducible exact b5)))) (fun _=>True) _ 1 1 [.int .i64 (j:Int),.slice A i c,.slice none 0 0,.int .i64 (8+2 * (j:Int)),.int .i64 2,.int .i64 0] (by rfl) (by exact rd_blk (t:=26) _ (by repeat (first | with_reducible exact blk_n (by first | (simp;done) | rfl) | with_reducible refine Blk.alloc ?_ _ | with_reducible refine Blk.drew ?_)) rfl) (by intro u hu;simp at hu;rcases hu with rfl | rfl | rfl | rfl | rfl | rfl <;> rfl) (by simp only[maxLen];omega) (by omega) (Nat.zero_le _) ?_
       intro A6 c6 w6 hown6 hgr6 hat6
       have b6:=BG.grow0 (by repeat (first | with_reducible apply BG.alloc | with_reducible apply BG.drew | with_reducible exact b7 | with_reducible exact b6 | with_reducible exact b5)) hgr6 hown6 hat6
       obtain ⟨z6a,z6b,z6c⟩:=b6.b.facts
       have s6:=b6.fr.size
       have z6d:=b6.b.cell 0
       have z6e:=b6.b.cell 1
       have z6f:=b6.b.cell 2
       skip
       refine hK.out _ _ ?_ (fun hHeld=>?_)
       ·exact BG.both (g:=w.heap.size) (by repeat (first | with_reducible exact b8 | with_reducible exact b7 | with_reducible exact b6 | with_reducible exact b5 | with_reducible apply BG.alloc | with_reducible apply BG.drew))
       clear hK KO
       try simp only[Act.put,σa,σb,σc]
       refine wpAnyH_ready (rs:=[15,22]) (by kernel_rfl) (by simp) ?_
       refine AllReadyH.cons rfl (fun KO hK=>?_) ?_
       ·skip
        go_simp
        skip
        refine hK.out _ _ ?_ (fun hHeld=>?_)
        ·exact BG.both (g:=w.heap.size) (by repeat (first | with_reducible exact b8 | with_reducible exact b7 | with_reducible exact b6 | with_reducible exact b5 | with_reducible apply BG.alloc | with_reducible apply BG.drew))
        clear hK KO
        try simp only[Act.put,σa,σb,σc]
        refine wpAnyH_ready (rs:=[16,22]) (by kernel_rfl) (by simp) ?_
        refine AllReadyH.cons rfl (fun KO hK=>?_) ?_
        ·skip
         refine step_append_any _ (by rfl) (.tmp 62) (.tmp 64) _ (by rfl) 0 36 (.pointer none) 1 8 Tryz.underlying52 info36p rfl (by omega) (.slice At K.length ct) K.length (K.map fun x=>.pointer (some ⟨x.f,0,none⟩)) (by rfl) (by exact BG.r1 (show BG w5 cc w.heap.size _ _ _ _ _ _ _ _ _ _ _ from (by repeat (first | with_reducible apply BG.alloc | with_reducible apply BG.drew | with_reducible exact b7 | with_reducible exact b6 | with_reducible exact b5)))) (fun _=>True) _ 1 1 [.pointer (some ⟨W2.heap.size,0,none⟩)] (by rfl) (by exact rd_blk (t:=36) _ (by repeat (first | with_reducible exact blk_n (by first | (simp;done) | rfl) | with_reducible refine Blk.alloc ?_ _ | with_reducible refine Blk.drew ?_ | with_reducible refine Blk.grown ?_ hgr6 (fun e=>by have:=HLm.out _ e.symm;first | omega | (simp at this;omega)))) rfl) (by intro u hu;simp at hu;rcases hu with rfl <;> rfl) (by simp only[maxLen];omega) (by omega) (Nat.zero_le _) ?_
         intro A7 c7 w7 hown7 hgr7 hat7
         have b7:=BG.grow1 (by repeat (first | with_reducible apply BG.alloc | with_reducible apply BG.drew | with_reducible exact b7 | with_reducible exact b6 | with_reducible exact b5)) hgr7 hown7 hat7
         obtain ⟨z7a,z7b,z7c⟩:=b7.b.facts
         have s7:=b7.fr.size
         have z7d:=b7.b.cell 0
         have z7e:=b7.b.cell 1
         have z7f:=b7.b.cell 2
         skip
         refine hK.out _ _ ?_ (fun hHeld=>?_)
         ·exact BG.both (g:=w.heap.size) (by repeat (first | with_reducible exact b8 | with_reducible exact b7 | with_reducible exact b6 | with_reducible exact b5 | with_reducible apply BG.alloc | with_reducible apply BG.drew))
         clear hK KO
         try simp only[Act.put,σa,σb,σc]
         refine wpAnyH_ready (rs:=[22]) (by kernel_rfl) (by simp) ?_
         refine AllReadyH.cons rfl (fun KO hK=>?_) ?_
         ·skip
          go_simp
          skip
          refine hK.out _ _ ?_ (fun hHeld=>?_)
          ·exact BG.both (g:=w.heap.size) (by repeat (first | with_reducible exact b8 | with_reducible exact b7 | with_reducible exact b6 | with_reducible exact b5 | with_reducible apply BG.alloc | with_reducible apply BG.drew))
          clear hK KO
          try simp only[Act.put,σa,σb,σc]
          refine wpAnyH_ready (rs:=[23]) (by kernel_rfl) (by simp) ?_
          refine AllReadyH.cons rfl (fun KO hK=>?_) ?_
          ·skip
           refine step_append_any _ (by rfl) (.tmp 69) (.tmp 71) _ (by rfl) 0 31 (.pointer none) 1 8 Tryz.underlying51 info31p rfl (by omega) (.slice Ap K.length cp) K.length (K.map fun x=>.pointer (some ⟨x.p,0,none⟩)) (by rfl) (by exact BG.r2 (show BG w5 cc w.heap.size _ _ _ _ _ _ _ _ _ _ _ from (by repeat (first | with_reducible apply BG.alloc | with_reducible apply BG.drew | with_reducible exact b7 | with_reducible exact b6 | with_reducible exact b5)))) (fun _=>True) _ 1 1 [.pointer (some ⟨p5,0,none⟩)] (by rfl) (by exact rd_blk (t:=31) _ (by repeat (first | with_reducible exact blk_n (by first | (simp;done) | rfl) | with_reducible refine Blk.alloc ?_ _ | with_reducible refine Blk.drew ?_ | with_reducible refine Blk.grown ?_ hgr7 (fun e=>by have:=HLt.out _ e.symm;first | omega | (simp at this;omega)) | with_reducible refine Blk.grown ?_ hgr6 (fun e=>by have:=HLm.out _ e.symm;first | omega | (simp at this;omega)))) rfl) (by intro u hu;simp at hu;rcases hu with rfl <;> rfl) (by simp only[maxLen];omega) (by omega) (Nat.zero_le _) ?_
           intro A8 c8 w8 hown8 hgr8 hat8
           have b8:=BG.grow2 (by repeat (first | with_reducible apply BG.alloc | with_reducible apply BG.drew | with_reducible exact b7 | with_reducible exact b6 | with_reducible exact b5)) hgr8 hown8 hat8
           obtain ⟨z8a,z8b,z8c⟩:=b8.b.facts
           have s8:=b8.fr.size
           have z8d:=b8.b.cell 0
           have z8e:=b8.b.cell 1
           have z8f:=b8.b.cell 2
           skip
           refine hK.out _ _ ?_ (fun hHeld=>?_)
           ·exact BG.both (g:=w.heap.size) (by repeat (first | with_reducible exact b8 | with_reducible exact b7 | with_reducible exact b6 | with_reducible exact b5 | with_reducible apply BG.alloc | with_reducible apply BG.drew))
           clear hK KO
           try simp only[Act.put,σa,σb,σc]
           refine wpAnyH_done (by kernel_rfl) ?_ _
           skip
           refine tail_go (L:=#[true,true,true,true,true,true,true,true,true,true,true,true,true,true,true,true,true,true,true,true,true,true,true,true,false,false,false,false,false,false,false,false,false]) (by rfl) ?_
           refine wpAnyH_take (i:=24) (v:=?v18) rfl (by kernel_rfl) (by kernel_rfl) (by kernel_rfl) (fun _ _ _ h=>h) (Or.inl ⟨by rfl,?hy18⟩) trivial ?rest18
           case hy18=>
            intro w _
            go_simp
            try with_reducible rfl
           try simp only[Act.put,σa,σb,σc]
           refine wpAnyH_take (i:=25) (v:=?v19) rfl (by kernel_rfl) (by kernel_rfl) (by kernel_rfl) (fun _ _ _ h=>h) (Or.inl ⟨by rfl,?hy19⟩) trivial ?rest19
           case hy19=>
            intro w _
            go_simp
            try with_reducible rfl
           try simp only[Act.put,σa,σb,σc]
           refine wpAnyH_ready (rs:=[26]) (by kernel_rfl) (by simp) ?_
           refine AllReadyH.cons rfl (fun KO hK=>?_) AllReadyH.nil
           go_simp
           refine hK.out _ _ trivial (fun _=>?_)
           clear hK KO
           try simp only[Act.put,σa,σb,σc]
           refine wpAnyH_take (i:=27) (v:=?v20) rfl (by kernel_rfl) (by kernel_rfl) (by kernel_rfl) (fun _ _ _ h=>h) (Or.inl ⟨by rfl,?hy20⟩) trivial ?rest20
           case hy20=>
            intro w _
            go_simp
            try with_reducible rfl
           try simp only[Act.put,σa,σb,σc]
           refine wpAnyH_take (i:=28) (v:=?v21) rfl (by kernel_rfl) (by kernel_rfl) (by kernel_rfl) (fun _ _ _ h=>h) (Or.inl ⟨by rfl,?hy21⟩) trivial ?rest21
           case hy21=>
            intro w _
            go_simp
            try with_reducible rfl
           try simp only[Act.put,σa,σb,σc]
           refine wpAnyH_ready (rs:=[29]) (by kernel_rfl) (by simp) ?_
           refine AllReadyH.cons rfl (fun KO hK=>?_) AllReadyH.nil
           go_simp
           refine hK.out _ _ trivial (fun _=>?_)
           clear hK KO
           try simp only[Act.put,σa,σb,σc]
           refine wpAnyH_take (i:=30) (v:=?v22) rfl (by kernel_rfl) (by kernel_rfl) (by kernel_rfl) (fun _ _ _ h=>h) (Or.inl ⟨by rfl,?hy22⟩) trivial ?rest22
           case hy22=>
            intro w _
            go_simp
            try with_reducible rfl
           try simp only[Act.put,σa,σb,σc]
           refine wpAnyH_take (i:=31) (v:=?v23) rfl (by kernel_rfl) (by kernel_rfl) (by kernel_rfl) (fun _ _ _ h=>h) (Or.inl ⟨by rfl,?hy23⟩) trivial ?rest23
           case hy23=>
            intro w _
            go_simp
            try with_reducible rfl
           try simp only[Act.put,σa,σb,σc]
           refine wpAnyH_ready (rs:=[32]) (by kernel_rfl) (by simp) ?_
           refine AllReadyH.cons rfl (fun KO hK=>?_) AllReadyH.nil
           go_simp
           refine hK.out _ _ trivial (fun _=>?_)
           clear hK KO
           try simp only[Act.put,σa,σb,σc]
           refine wpAnyH_done (by kernel_rfl) ?_ _
           go_wp2_with fail
           go_meet
           exact FIN.out _ A6 c6 A7 c7 A8 c8 (((b8.set HGC.out 0 _).set HGC.out 2 _).set HGC.out 1 _)
          exact AllReadyH.nil
         exact AllReadyH.nil
        refine AllReadyH.cons rfl (fun KO hK=>?_) ?_
        ·skip
         go_simp
         skip
         refine hK.out _ _ ?_ (fun hHeld=>?_)
         ·exact BG.both (g:=w.heap.size) (by repeat (first | with_reducible exact b8 | with_reducible exact b7 | with_reducible exact b6 | with_reducible exact b5 | with_reducible apply BG.alloc | with_reducible apply BG.drew))
         clear hK KO
         try simp only[Act.put,σa,σb,σc]
         refine wpAnyH_ready (rs:=[16]) (by kernel_rfl) (by simp) ?_
         refine AllReadyH.cons rfl (fun KO hK=>?_) ?_
         ·skip
          refine step_append_any _ (by rfl) (.tmp 62) (.tmp 64) _ (by rfl) 0 36 (.pointer none) 1 8 Tryz.underlying52 info36p rfl (by omega) (.slice At K.length ct) K.length (K.map fun x=>.pointer (some ⟨x.f,0,none⟩)) (by rfl) (by exact BG.r1 (show BG w5 cc w.heap.size _ _ _ _ _ _ _ _ _ _ _ from (by repeat (first | with_reducible apply BG.alloc | with_reducible apply BG.drew | with_reducible exact b7 | with_reducible exact b6 | with_reducible exact b5)))) (fun _=>True) _ 1 1 [.pointer (some ⟨W2.heap.size,0,none⟩)] (by rfl) (by exact rd_blk (t:=36) _ (by repeat (first | with_reducible exact blk_n (by first | (simp;done) | rfl) | with_reducible refine Blk.alloc ?_ _ | with_reducible refine Blk.drew ?_ | with_reducible refine Blk.grown ?_ hgr6 (fun e=>by have:=HLm.out _ e.symm;first | omega | (simp at this;omega)))) rfl) (by intro u hu;simp at hu;rcases hu with rfl <;> rfl) (by simp only[maxLen];omega) (by omega) (Nat.zero_le _) ?_
          intro A7 c7 w7 hown7 hgr7 hat7
          have b7:=BG.grow1 (by repeat (first | with_reducible apply BG.alloc | with_reducible apply BG.drew | with_reducible exact b7 | with_reducible exact b6 | with_reducible exact b5)) hgr7 hown7 hat7
          obtain ⟨z7a,z7b,z7c⟩:=b7.b.facts
          have s7:=b7.fr.size
          have z7d:=b7.b.cell 0
          have z7e:=b7.b.cell 1
          have z7f:=b7.b.cell 2
          skip
          refine hK.out _ _ ?_ (fun hHeld=>?_)
          ·exact BG.both (g:=w.heap.size) (by repeat (first | with_reducible exact b8 | with_reducible exact b7 | with_reducible exact b6 | with_reducible exact b5 | with_reducible apply BG.alloc | with_reducible apply BG.drew))
          clear hK KO
          try simp only[Act.put,σa,σb,σc]
          refine wpAnyH_ready (rs:=[23]) (by kernel_rfl) (by simp) ?_
          refine AllReadyH.cons rfl (fun KO hK=>?_) ?_
          ·skip
           refine step_append_any _ (by rfl) (.tmp 69) (.tmp 71) _ (by rfl) 0 31 (.pointer none) 1 8 Tryz.underlying51 info31p rfl (by omega) (.slice Ap K.length cp) K.length (K.map fun x=>.pointer (some ⟨x.p,0,none⟩)) (by rfl) (by exact BG.r2 (show BG w5 cc w.heap.size _ _ _ _ _ _ _ _ _ _ _ from (by repeat (first | with_reducible apply BG.alloc | with_reducible apply BG.drew | with_reducible exact b7 | with_reducible exact b6 | with_reducible exact b5)))) (fun _=>True) _ 1 1 [.pointer (some ⟨p5,0,none⟩)] (by rfl) (by exact rd_blk (t:=31) _ (by repeat (first | with_reducible exact blk_n (by first | (simp;done) | rfl) | with_reducible refine Blk.alloc ?_ _ | with_reducible refine Blk.drew ?_ | with_reducible refine Blk.grown ?_ hgr7 (fun e=>by have:=HLt.out _ e.symm;first | omega | (simp at this;omega)) | with_reducible refine Blk.grown ?_ hgr6 (fun e=>by have:=HLm.out _ e.symm;first | omega | (simp at this;omega)))) rfl) (by intro u hu;simp at hu;rcases hu with rfl <;> rfl) (by simp only[maxLen];omega) (by omega) (Nat.zero_le _) ?_
           intro A8 c8 w8 hown8 hgr8 hat8
           have b8:=BG.grow2 (by repeat (first | with_reducible apply BG.alloc | with_reducible apply BG.drew | with_reducible exact b7 | with_reducible exact b6 | with_reducible exact b5)) hgr8 hown8 hat8
           obtain ⟨z8a,z8b,z8c⟩:=b8.b.facts
           have s8:=b8.fr.size
           have z8d:=b8.b.cell 0
           have z8e:=b8.b.cell 1
           have z8f:=b8.b.cell 2
           skip
           refine hK.out _ _ ?_ (fun hHeld=>?_)
           ·exact BG.both (g:=w.heap.size) (by repeat (first | with_reducible exact b8 | with_reducible exact b7 | with_reducible exact b6 | with_reducible exact b5 | with_reducible apply BG.alloc | with_reducible apply BG.drew))
           clear hK KO
           try simp only[Act.put,σa,σb,σc]
           refine wpAnyH_done (by kernel_rfl) ?_ _
           skip
           refine tail_go (L:=#[true,true,true,true,true,true,true,true,true,true,true,true,true,true,true,true,true,true,true,true,true,true,true,true,false,false,false,false,false,false,false,false,false]) (by rfl) ?_
           refine wpAnyH_take (i:=24) (v:=?v24) rfl (by kernel_rfl) (by kernel_rfl) (by kernel_rfl) (fun _ _ _ h=>h) (Or.inl ⟨by rfl,?hy24⟩) trivial ?rest24
           case hy24=>
            intro w _
            go_simp
            try with_reducible rfl
           try simp only[Act.put,σa,σb,σc]
           refine wpAnyH_take (i:=25) (v:=?v25) rfl (by kernel_rfl) (by kernel_rfl) (by kernel_rfl) (fun _ _ _ h=>h) (Or.inl ⟨by rfl,?hy25⟩) trivial ?rest25
           case hy25=>
            intro w _
            go_simp
            try with_reducible rfl
           try simp only[Act.put,σa,σb,σc]
           refine wpAnyH_ready (rs:=[26]) (by kernel_rfl) (by simp) ?_
           refine AllReadyH.cons rfl (fun KO hK=>?_) AllReadyH.nil
           go_simp
           refine hK.out _ _ trivial (fun _=>?_)
           clear hK KO
           try simp only[Act.put,σa,σb,σc]
           refine wpAnyH_take (i:=27) (v:=?v26) rfl (by kernel_rfl) (by kernel_rfl) (by kernel_rfl) (fun _ _ _ h=>h) (Or.inl ⟨by rfl,?hy26⟩) trivial ?rest26
           case hy26=>
            intro w _
            go_simp
            try with_reducible rfl
           try simp only[Act.put,σa,σb,σc]
           refine wpAnyH_take (i:=28) (v:=?v27) rfl (by kernel_rfl) (by kernel_rfl) (by kernel_rfl) (fun _ _ _ h=>h) (Or.inl ⟨by rfl,?hy27⟩) trivial ?rest27
           case hy27=>
            intro w _
            go_simp
            try with_reducible rfl
           try simp only[Act.put,σa,σb,σc]
           refine wpAnyH_ready (rs:=[29]) (by kernel_rfl) (by simp) ?_
           refine AllReadyH.cons rfl (fun KO hK=>?_) AllReadyH.nil
           go_simp
           refine hK.out _ _ trivial (fun _=>?_)
           clear hK KO
           try simp only[Act.put,σa,σb,σc]
           refine wpAnyH_take (i:=30) (v:=?v28) rfl (by kernel_rfl) (by kernel_rfl) (by kernel_rfl) (fun _ _ _ h=>h) (Or.inl ⟨by rfl,?hy28⟩) trivial ?rest28
           case hy28=>
            intro w _
            go_simp
            try with_reducible rfl
           try simp only[Act.put,σa,σb,σc]
           refine wpAnyH_take (i:=31) (v:=?v29) rfl (by kernel_rfl) (by kernel_rfl) (by kernel_rfl) (fun _ _ _ h=>h) (Or.inl ⟨by rfl,?hy29⟩) trivial ?rest29
           case hy29=>
            intro w _
            go_simp
            try with_reducible rfl
           try simp only[Act.put,σa,σb,σc]
           refine wpAnyH_ready (rs:=[32]) (by kernel_rfl) (by simp) ?_
           refine AllReadyH.cons rfl (fun KO hK=>?_) AllReadyH.nil
           go_simp
           refine hK.out _ _ trivial (fun _=>?_)
           clear hK KO
           try simp only[Act.put,σa,σb,σc]
           refine wpAnyH_done (by kernel_rfl) ?_ _
           go_wp2_with fail
           go_meet
           exact FIN.out _ A6 c6 A7 c7 A8 c8 (((b8.set HGC.out 0 _).set HGC.out 2 _).set HGC.out 1 _)
          exact AllReadyH.nil
         exact AllReadyH.nil
        exact AllReadyH.nil
       refine AllReadyH.cons rfl (fun KO hK=>?_) ?_
       ·skip
        go_simp
        skip
        refine hK.out _ _ ?_ (fun hHeld=>?_)
        ·exact BG.both (g:=w.heap.size) (by repeat (first | with_reducible exact b8 | with_reducible exact b7 | with_reducible exact b6 | with_reducible exact b5 | with_reducible apply BG.alloc | with_reducible apply BG.drew))
        clear hK KO
        try simp only[Act.put,σa,σb,σc]
        refine wpAnyH_ready (rs:=[15]) (by kernel_rfl) (by simp) ?_
        refine AllReadyH.cons rfl (fun KO hK=>?_) ?_
        ·skip
         go_simp
         skip
         refine hK.out _ _ ?_ (fun hHeld=>?_)
         ·exact BG.both (g:=w.heap.size) (by repeat (first | with_reducible exact b8 | with_reducible exact b7 | with_reducible exact b6 | with_reducible exact b5 | with_reducible apply BG.alloc | with_reducible apply BG.drew))
         clear hK KO
         try simp only[Act.put,σa,σb,σc]
         refine wpAnyH_ready (rs:=[16]) (by kernel_rfl) (by simp) ?_
         refine AllReadyH.cons rfl (fun KO hK=>?_) ?_
         ·skip
          refine step_append_any _ (by rfl) (.tmp 62) (.tmp 64) _ (by rfl) 0 36 (.pointer none) 1 8 Tryz.underlying52 info36p rfl (by omega) (.slice At K.length ct) K.length (K.map fun x=>.pointer (some ⟨x.f,0,none⟩)) (by rfl) (by exact BG.r1 (show BG w5 cc w.heap.size _ _ _ _ _ _ _ _ _ _ _ from (by repeat (first | with_reducible apply BG.alloc | with_reducible apply BG.drew | with_reducible exact b7 | with_reducible exact b6 | with_reducible exact b5)))) (fun _=>True) _ 1 1 [.pointer (some ⟨W2.heap.size,0,none⟩)] (by rfl) (by exact rd_blk (t:=36) _ (by repeat (first | with_reducible exact blk_n (by first | (simp;done) | rfl) | with_reducible refine Blk.alloc ?_ _ | with_reducible refine Blk.drew ?_ | with_reducible refine Blk.grown ?_ hgr6 (fun e=>by have:=HLm.out _ e.symm;first | omega | (simp at this;omega)))) rfl) (by intro u hu;simp at hu;rcases hu with rfl <;> rfl) (by simp only[maxLen];omega) (by omega) (Nat.zero_le _) ?_
          intro A7 c7 w7 hown7 hgr7 hat7
          have b7:=BG.grow1 (by repeat (first | with_reducible apply BG.alloc | with_reducible apply BG.drew | with_reducible exact b7 | with_reducible exact b6 | with_reducible exact b5)) hgr7 hown7 hat7
          obtain ⟨z7a,z7b,z7c⟩:=b7.b.facts
          have s7:=b7.fr.size
          have z7d:=b7.b.cell 0
          have z7e:=b7.b.cell 1
          have z7f:=b7.b.cell 2
          skip
          refine hK.out _ _ ?_ (fun hHeld=>?_)
          ·exact BG.both (g:=w.heap.size) (by repeat (first | with_reducible exact b8 | with_reducible exact b7 | with_reducible exact b6 | with_reducible exact b5 | with_reducible apply BG.alloc | with_reducible apply BG.drew))
          clear hK KO
          try simp only[Act.put,σa,σb,σc]
          refine wpAnyH_ready (rs:=[23]) (by kernel_rfl) (by simp) ?_
          refine AllReadyH.cons rfl (fun KO hK=>?_) ?_
          ·skip
           refine step_append_any _ (by rfl) (.tmp 69) (.tmp 71) _ (by rfl) 0 31 (.pointer none) 1 8 Tryz.underlying51 info31p rfl (by omega) (.slice Ap K.length cp) K.length (K.map fun x=>.pointer (some ⟨x.p,0,none⟩)) (by rfl) (by exact BG.r2 (show BG w5 cc w.heap.size _ _ _ _ _ _ _ _ _ _ _ from (by repeat (first | with_reducible apply BG.alloc | with_reducible apply BG.drew | with_reducible exact b7 | with_reducible exact b6 | with_reducible exact b5)))) (fun _=>True) _ 1 1 [.pointer (some ⟨p5,0,none⟩)] (by rfl) (by exact rd_blk (t:=31) _ (by repeat (first | with_reducible exact blk_n (by first | (simp;done) | rfl) | with_reducible refine Blk.alloc ?_ _ | with_reducible refine Blk.drew ?_ | with_reducible refine Blk.grown ?_ hgr7 (fun e=>by have:=HLt.out _ e.symm;first | omega | (simp at this;omega)) | with_reducible refine Blk.grown ?_ hgr6 (fun e=>by have:=HLm.out _ e.symm;first | omega | (simp at this;omega)))) rfl) (by intro u hu;simp at hu;rcases hu with rfl <;> rfl) (by simp only[maxLen];omega) (by omega) (Nat.zero_le _) ?_
           intro A8 c8 w8 hown8 hgr8 hat8
           have b8:=BG.grow2 (by repeat (first | with_reducible apply BG.alloc | with_reducible apply BG.drew | with_reducible exact b7 | with_reducible exact b6 | with_reducible exact b5)) hgr8 hown8 hat8
           obtain ⟨z8a,z8b,z8c⟩:=b8.b.facts
           have s8:=b8.fr.size
           have z8d:=b8.b.cell 0
           have z8e:=b8.b.cell 1
           have z8f:=b8.b.cell 2
           skip
           refine hK.out _ _ ?_ (fun hHeld=>?_)
           ·exact BG.both (g:=w.heap.size) (by repeat (first | with_reducible exact b8 | with_reducible exact b7 | with_reducible exact b6 | with_reducible exact b5 | with_reducible apply BG.alloc | with_reducible apply BG.drew))
           clear hK KO
           try simp only[Act.put,σa,σb,σc]
           refine wpAnyH_done (by kernel_rfl) ?_ _
           skip
           refine tail_go (L:=#[true,true,true,true,true,true,true,true,true,true,true,true,true,true,true,true,true,true,true,true,true,true,true,true,false,false,false,false,false,false,false,false,false]) (by rfl) ?_
           refine wpAnyH_take (i:=24) (v:=?v30) rfl (by kernel_rfl) (by kernel_rfl) (by kernel_rfl) (fun _ _ _ h=>h) (Or.inl ⟨by rfl,?hy30⟩) trivial ?rest30
           case hy30=>
            intro w _
            go_simp
            try with_reducible rfl
           try simp only[Act.put,σa,σb,σc]
           refine wpAnyH_take (i:=25) (v:=?v31) rfl (by kernel_rfl) (by kernel_rfl) (by kernel_rfl) (fun _ _ _ h=>h) (Or.inl ⟨by rfl,?hy31⟩) trivial ?rest31
           case hy31=>
            intro w _
            go_simp
            try with_reducible rfl
           try simp only[Act.put,σa,σb,σc]
           refine wpAnyH_ready (rs:=[26]) (by kernel_rfl) (by simp) ?_
           refine AllReadyH.cons rfl (fun KO hK=>?_) AllReadyH.nil
           go_simp
           refine hK.out _ _ trivial (fun _=>?_)
           clear hK KO
           try simp only[Act.put,σa,σb,σc]
           refine wpAnyH_take (i:=27) (v:=?v32) rfl (by kernel_rfl) (by kernel_rfl) (by kernel_rfl) (fun _ _ _ h=>h) (Or.inl ⟨by rfl,?hy32⟩) trivial ?rest32
           case hy32=>
            intro w _
            go_simp
            try with_reducible rfl
           try simp only[Act.put,σa,σb,σc]
           refine wpAnyH_take (i:=28) (v:=?v33) rfl (by kernel_rfl) (by kernel_rfl) (by kernel_rfl) (fun _ _ _ h=>h) (Or.inl ⟨by rfl,?hy33⟩) trivial ?rest33
           case hy33=>
            intro w _
            go_simp
            try with_reducible rfl
           try simp only[Act.put,σa,σb,σc]
           refine wpAnyH_ready (rs:=[29]) (by kernel_rfl) (by simp) ?_
           refine AllReadyH.cons rfl (fun KO hK=>?_) AllReadyH.nil
           go_simp
           refine hK.out _ _ trivial (fun _=>?_)
           clear hK KO
           try simp only[Act.put,σa,σb,σc]
           refine wpAnyH_take (i:=30) (v:=?v34) rfl (by kernel_rfl) (by kernel_rfl) (by kernel_rfl) (fun _ _ _ h=>h) (Or.inl ⟨by rfl,?hy34⟩) trivial ?rest34
           case hy34=>
            intro w _
            go_simp
            try with_reducible rfl
           try simp only[Act.put,σa,σb,σc]
           refine wpAnyH_take (i:=31) (v:=?v35) rfl (by kernel_rfl) (by kernel_rfl) (by kernel_rfl) (fun _ _ _ h=>h) (Or.inl ⟨by rfl,?hy35⟩) trivial ?rest35
           case hy35=>
            intro w _
            go_simp
            try with_reducible rfl
           try simp only[Act.put,σa,σb,σc]
           refine wpAnyH_ready (rs:=[32]) (by kernel_rfl) (by simp) ?_
           refine AllReadyH.cons rfl (fun KO hK=>?_) AllReadyH.nil
           go_simp
           refine hK.out _ _ trivial (fun _=>?_)
           clear hK KO
           try simp only[Act.put,σa,σb,σc]
           refine wpAnyH_done (by kernel_rfl) ?_ _
           go_wp2_with fail
           go_meet
           exact FIN.out _ A6 c6 A7 c7 A8 c8 (((b8.set HGC.out 0 _).set HGC.out 2 _).set HGC.out 1 _)
          exact AllReadyH.nil
         exact AllReadyH.nil
        exact AllReadyH.nil
       exact AllReadyH.nil
      refine AllReadyH.cons rfl (fun KO hK=>?_) ?_
      ·skip
       go_simp
       skip
       refine hK.out _ _ ?_ (fun hHeld=>?_)
       ·exact BG.both (g:=w.heap.size) (by repeat (first | with_reducible exact b8 | with_reducible exact b7 | with_reducible exact b6 | with_reducible exact b5 | with_reducible apply BG.alloc | with_reducible apply BG.drew))
       clear hK KO
       try simp only[Act.put,σa,σb,σc]
       refine wpAnyH_ready (rs:=[9,22]) (by kernel_rfl) (by simp) ?_
       refine AllReadyH.cons rfl (fun KO hK=>?_) ?_
       ·skip
        refine step_append_any _ (by rfl) (.tmp 55) (.tmp 57) _ (by rfl) 0 26 (.agg #[.int .i64 0,.slice none 0 0,.slice none 0 0,.int .i64 0,.int .i64 0,.int .i64 0]) 6 80 Tryz.underlying50 info26p rfl (by omega) (.slice Am K.length cm) K.length ((List.range K.length).flatMap (mdR fo)) (by rfl) (by exact BG.r0 (show BG w5 cc w.heap.size _ _ _ _ _ _ _ _ _ _ _ from (by repeat (first | with_reducible apply BG.alloc | with_reducible apply BG.drew | with_reducible exact b7 | with_reducible exact b6 | with_reducible exact b5)))) (fun _=>True) _ 1 1 [.int .i64 (j:Int),.slice A i c,.slice none 0 0,.int .i64 (8+2 * (j:Int)),.int .i64 2,.int .i64 0] (by rfl) (by exact rd_blk (t:=26) _ (by repeat (first | with_reducible exact blk_n (by first | (simp;done) | rfl) | with_reducible refine Blk.alloc ?_ _ | with_reducible refine Blk.drew ?_)) rfl) (by intro u hu;simp at hu;rcases hu with rfl | rfl | rfl | rfl | rfl | rfl <;> rfl) (by simp only[maxLen];omega) (by omega) (Nat.zero_le _) ?_
        intro A6 c6 w6 hown6 hgr6 hat6
        have b6:=BG.grow0 (by repeat (first | with_reducible apply BG.alloc | with_reducible apply BG.drew | with_reducible exact b7 | with_reducible exact b6 | with_reducible exact b5)) hgr6 hown6 hat6
        obtain ⟨z6a,z6b,z6c⟩:=b6.b.facts
        have s6:=b6.fr.size
        have z6d:=b6.b.cell 0
        have z6e:=b6.b.cell 1
        have z6f:=b6.b.cell 2
        skip
        refine hK.out _ _ ?_ (fun hHeld=>?_)
        ·exact BG.both (g:=w.heap.size) (by repeat (first | with_reducible exact b8 | with_reducible exact b7 | with_reducible exact b6 | with_reducible exact b5 | with_reducible apply BG.alloc | with_reducible apply BG.drew))
        clear hK KO
        try simp only[Act.put,σa,σb,σc]
        refine wpAnyH_ready (rs:=[16,22]) (by kernel_rfl) (by simp) ?_
        refine AllReadyH.cons rfl (fun KO hK=>?_) ?_
        ·skip
         refine step_append_any _ (by rfl) (.tmp 62) (.tmp 64) _ (by rfl) 0 36 (.pointer none) 1 8 Tryz.underlying52 info36p rfl (by omega) (.slice At K.length ct) K.length (K.map fun x=>.pointer (some ⟨x.f,0,none⟩)) (by rfl) (by exact BG.r1 (show BG w5 cc w.heap.size _ _ _ _ _ _ _ _ _ _ _ from (by repeat (first | with_reducible apply BG.alloc | with_reducible apply BG.drew | with_reducible exact b7 | with_reducible exact b6 | with_reducible exact b5)))) (fun _=>True) _ 1 1 [.pointer (some ⟨W2.heap.size,0,none⟩)] (by rfl) (by exact rd_blk (t:=36) _ (by repeat (first | with_reducible exact blk_n (by first | (simp;done) | rfl) | with_reducible refine Blk.alloc ?_ _ | with_reducible refine Blk.drew ?_ | with_reducible refine Blk.grown ?_ hgr6 (fun e=>by have:=HLm.out _ e.symm;first | omega | (simp at this;omega)))) rfl) (by intro u hu;simp at hu;rcases hu with rfl <;> rfl) (by simp only[maxLen];omega) (by omega) (Nat.zero_le _) ?_
         intro A7 c7 w7 hown7 hgr7 hat7
         have b7:=BG.grow1 (by repeat (first | with_reducible apply BG.alloc | with_reducible apply BG.drew | with_reducible exact b7 | with_reducible exact b6 | with_reducible exact b5)) hgr7 hown7 hat7
         obtain ⟨z7a,z7b,z7c⟩:=b7.b.facts
         have s7:=b7.fr.size
         have z7d:=b7.b.cell 0
         have z7e:=b7.b.cell 1
         have z7f:=b7.b.cell 2
         skip
         refine hK.out _ _ ?_ (fun hHeld=>?_)
         ·exact BG.both (g:=w.heap.size) (by repeat (first | with_reducible exact b8 | with_reducible exact b7 | with_reducible exact b6 | with_reducible exact b5 | with_reducible apply BG.alloc | with_reducible apply BG.drew))
         clear hK KO
         try simp only[Act.put,σa,σb,σc]
         refine wpAnyH_ready (rs:=[22]) (by kernel_rfl) (by simp) ?_
         refine AllReadyH.cons rfl (fun KO hK=>?_) ?_
         ·skip
          go_simp
          skip
          refine hK.out _ _ ?_ (fun hHeld=>?_)
          ·exact BG.both (g:=w.heap.size) (by repeat (first | with_reducible exact b8 | with_reducible exact b7 | with_reducible exact b6 | with_reducible exact b5 | with_reducible apply BG.alloc | with_reducible apply BG.drew))
          clear hK KO
          try simp only[Act.put,σa,σb,σc]
          refine wpAnyH_ready (rs:=[23]) (by kernel_rfl) (by simp) ?_
          refine AllReadyH.cons rfl (fun KO hK=>?_) ?_
          ·skip
           refine step_append_any _ (by rfl) (.tmp 69) (.tmp 71) _ (by rfl) 0 31 (.pointer none) 1 8 Tryz.underlying51 info31p rfl (by omega) (.slice Ap K.length cp) K.length (K.map fun x=>.pointer (some ⟨x.p,0,none⟩)) (by rfl) (by exact BG.r2 (show BG w5 cc w.heap.size _ _ _ _ _ _ _ _ _ _ _ from (by repeat (first | with_reducible apply BG.alloc | with_reducible apply BG.drew | with_reducible exact b7 | with_reducible exact b6 | with_reducible exact b5)))) (fun _=>True) _ 1 1 [.pointer (some ⟨p5,0,none⟩)] (by rfl) (by exact rd_blk (t:=31) _ (by repeat (first | with_reducible exact blk_n (by first | (simp;done) | rfl) | with_reducible refine Blk.alloc ?_ _ | with_reducible refine Blk.drew ?_ | with_reducible refine Blk.grown ?_ hgr7 (fun e=>by have:=HLt.out _ e.symm;first | omega | (simp at this;omega)) | with_reducible refine Blk.grown ?_ hgr6 (fun e=>by have:=HLm.out _ e.symm;first | omega | (simp at this;omega)))) rfl) (by intro u hu;simp at hu;rcases hu with rfl <;> rfl) (by simp only[maxLen];omega) (by omega) (Nat.zero_le _) ?_
           intro A8 c8 w8 hown8 hgr8 hat8
           have b8:=BG.grow2 (by repeat (first | with_reducible apply BG.alloc | with_reducible apply BG.drew | with_reducible exact b7 | with_reducible exact b6 | with_reducible exact b5)) hgr8 hown8 hat8
           obtain ⟨z8a,z8b,z8c⟩:=b8.b.facts
           have s8:=b8.fr.size
           have z8d:=b8.b.cell 0
           have z8e:=b8.b.cell 1
           have z8f:=b8.b.cell 2
           skip
           refine hK.out _ _ ?_ (fun hHeld=>?_)
           ·exact BG.both (g:=w.heap.size) (by repeat (first | with_reducible exact b8 | with_reducible exact b7 | with_reducible exact b6 | with_reducible exact b5 | with_reducible apply BG.alloc | with_reducible apply BG.drew))
           clear hK KO
           try simp only[Act.put,σa,σb,σc]
           refine wpAnyH_done (by kernel_rfl) ?_ _
           skip
           refine tail_go (L:=#[true,true,true,true,true,true,true,true,true,true,true,true,true,true,true,true,true,true,true,true,true,true,true,true,false,false,false,false,false,false,false,false,false]) (by rfl) ?_
           refine wpAnyH_take (i:=24) (v:=?v36) rfl (by kernel_rfl) (by kernel_rfl) (by kernel_rfl) (fun _ _ _ h=>h) (Or.inl ⟨by rfl,?hy36⟩) trivial ?rest36
           case hy36=>
            intro w _
            go_simp
            try with_reducible rfl
           try simp only[Act.put,σa,σb,σc]
           refine wpAnyH_take (i:=25) (v:=?v37) rfl (by kernel_rfl) (by kernel_rfl) (by kernel_rfl) (fun _ _ _ h=>h) (Or.inl ⟨by rfl,?hy37⟩) trivial ?rest37
           case hy37=>
            intro w _
            go_simp
            try with_reducible rfl
           try simp only[Act.put,σa,σb,σc]
           refine wpAnyH_ready (rs:=[26]) (by kernel_rfl) (by simp) ?_
           refine AllReadyH.cons rfl (fun KO hK=>?_) AllReadyH.nil
           go_simp
           refine hK.out _ _ trivial (fun _=>?_)
           clear hK KO
           try simp only[Act.put,σa,σb,σc]
           refine wpAnyH_take (i:=27) (v:=?v38) rfl (by kernel_rfl) (by kernel_rfl) (by kernel_rfl) (fun _ _ _ h=>h) (Or.inl ⟨by rfl,?hy38⟩) trivial ?rest38
           case hy38=>
            intro w _
            go_simp
            try with_reducible rfl
           try simp only[Act.put,σa,σb,σc]
           refine wpAnyH_take (i:=28) (v:=?v39) rfl (by kernel_rfl) (by kernel_rfl) (by kernel_rfl) (fun _ _ _ h=>h) (Or.inl ⟨by rfl,?hy39⟩) trivial ?rest39
           case hy39=>
            intro w _
            go_simp
            try with_reducible rfl
           try simp only[Act.put,σa,σb,σc]
           refine wpAnyH_ready (rs:=[29]) (by kernel_rfl) (by simp) ?_
           refine AllReadyH.cons rfl (fun KO hK=>?_) AllReadyH.nil
           go_simp
           refine hK.out _ _ trivial (fun _=>?_)
           clear hK KO
           try simp only[Act.put,σa,σb,σc]
           refine wpAnyH_take (i:=30) (v:=?v40) rfl (by kernel_rfl) (by kernel_rfl) (by kernel_rfl) (fun _ _ _ h=>h) (Or.inl ⟨by rfl,?hy40⟩) trivial ?rest40
           case hy40=>
            intro w _
            go_simp
            try with_reducible rfl
           try simp only[Act.put,σa,σb,σc]
           refine wpAnyH_take (i:=31) (v:=?v41) rfl (by kernel_rfl) (by kernel_rfl) (by kernel_rfl) (fun _ _ _ h=>h) (Or.inl ⟨by rfl,?hy41⟩) trivial ?rest41
           case hy41=>
            intro w _
            go_simp
            try with_reducible rfl
           try simp only[Act.put,σa,σb,σc]
           refine wpAnyH_ready (rs:=[32]) (by kernel_rfl) (by simp) ?_
           refine AllReadyH.cons rfl (fun KO hK=>?_) AllReadyH.nil
           go_simp
           refine hK.out _ _ trivial (fun _=>?_)
           clear hK KO
           try simp only[Act.put,σa,σb,σc]
           refine wpAnyH_done (by kernel_rfl) ?_ _
           go_wp2_with fail
           go_meet
           exact FIN.out _ A6 c6 A7 c7 A8 c8 (((b8.set HGC.out 0 _).set HGC.out 2 _).set HGC.out 1 _)
          exact AllReadyH.nil
         exact AllReadyH.nil
        refine AllReadyH.cons rfl (fun KO hK=>?_) ?_
        ·skip
         go_simp
         skip
         refine hK.out _ _ ?_ (fun hHeld=>?_)
         ·exact BG.both (g:=w.heap.size) (by repeat (first | with_reducible exact b8 | with_reducible exact b7 | with_reducible exact b6 | with_reducible exact b5 | with_reducible apply BG.alloc | with_reducible apply BG.drew))
         clear hK KO
         try simp only[Act.put,σa,σb,σc]
         refine wpAnyH_ready (rs:=[16]) (by kernel_rfl) (by simp) ?_
         refine AllReadyH.cons rfl (fun KO hK=>?_) ?_
         ·skip
          refine step_append_any _ (by rfl) (.tmp 62) (.tmp 64) _ (by rfl) 0 36 (.pointer none) 1 8 Tryz.underlying52 info36p rfl (by omega) (.slice At K.length ct) K.length (K.map fun x=>.pointer (some ⟨x.f,0,none⟩)) (by rfl) (by exact BG.r1 (show BG w5 cc w.heap.size _ _ _ _ _ _ _ _ _ _ _ from (by repeat (first | with_reducible apply BG.alloc | with_reducible apply BG.drew | with_reducible exact b7 | with_reducible exact b6 | with_reducible exact b5)))) (fun _=>True) _ 1 1 [.pointer (some ⟨W2.heap.size,0,none⟩)] (by rfl) (by exact rd_blk (t:=36) _ (by repeat (first | with_reducible exact blk_n (by first | (simp;done) | rfl) | with_reducible refine Blk.alloc ?_ _ | with_reducible refine Blk.drew ?_ | with_reducible refine Blk.grown ?_ hgr6 (fun e=>by have:=HLm.out _ e.symm;first | omega | (simp at this;omega)))) rfl) (by intro u hu;simp at hu;rcases hu with rfl <;> rfl) (by simp only[maxLen];omega) (by omega) (Nat.zero_le _) ?_
          intro A7 c7 w7 hown7 hgr7 hat7
          have b7:=BG.grow1 (by repeat (first | with_reducible apply BG.alloc | with_reducible apply BG.drew | with_reducible exact b7 | with_reducible exact b6 | with_reducible exact b5)) hgr7 hown7 hat7
          obtain ⟨z7a,z7b,z7c⟩:=b7.b.facts
          have s7:=b7.fr.size
          have z7d:=b7.b.cell 0
          have z7e:=b7.b.cell 1
          have z7f:=b7.b.cell 2
          skip
          refine hK.out _ _ ?_ (fun hHeld=>?_)
          ·exact BG.both (g:=w.heap.size) (by repeat (first | with_reducible exact b8 | with_reducible exact b7 | with_reducible exact b6 | with_reducible exact b5 | with_reducible apply BG.alloc | with_reducible apply BG.drew))
          clear hK KO
          try simp only[Act.put,σa,σb,σc]
          refine wpAnyH_ready (rs:=[23]) (by kernel_rfl) (by simp) ?_
          refine AllReadyH.cons rfl (fun KO hK=>?_) ?_
          ·skip
           refine step_append_any _ (by rfl) (.tmp 69) (.tmp 71) _ (by rfl) 0 31 (.pointer none) 1 8 Tryz.underlying51 info31p rfl (by omega) (.slice Ap K.length cp) K.length (K.map fun x=>.pointer (some ⟨x.p,0,none⟩)) (by rfl) (by exact BG.r2 (show BG w5 cc w.heap.size _ _ _ _ _ _ _ _ _ _ _ from (by repeat (first | with_reducible apply BG.alloc | with_reducible apply BG.drew | with_reducible exact b7 | with_reducible exact b6 | with_reducible exact b5)))) (fun _=>True) _ 1 1 [.pointer (some ⟨p5,0,none⟩)] (by rfl) (by exact rd_blk (t:=31) _ (by repeat (first | with_reducible exact blk_n (by first | (simp;done) | rfl) | with_reducible refine Blk.alloc ?_ _ | with_reducible refine Blk.drew ?_ | with_reducible refine Blk.grown ?_ hgr7 (fun e=>by have:=HLt.out _ e.symm;first | omega | (simp at this;omega)) | with_reducible refine Blk.grown ?_ hgr6 (fun e=>by have:=HLm.out _ e.symm;first | omega | (simp at this;omega)))) rfl) (by intro u hu;simp at hu;rcases hu with rfl <;> rfl) (by simp only[maxLen];omega) (by omega) (Nat.zero_le _) ?_
           intro A8 c8 w8 hown8 hgr8 hat8
           have b8:=BG.grow2 (by repeat (first | with_reducible apply BG.alloc | with_reducible apply BG.drew | with_reducible exact b7 | with_reducible exact b6 | with_reducible exact b5)) hgr8 hown8 hat8
           obtain ⟨z8a,z8b,z8c⟩:=b8.b.facts
           have s8:=b8.fr.size
           have z8d:=b8.b.cell 0
           have z8e:=b8.b.cell 1
           have z8f:=b8.b.cell 2
           skip
           refine hK.out _ _ ?_ (fun hHeld=>?_)
           ·exact BG.both (g:=w.heap.size) (by repeat (first | with_reducible exact b8 | with_reducible exact b7 | with_reducible exact b6 | with_reducible exact b5 | with_reducible apply BG.alloc | with_reducible apply BG.drew))
           clear hK KO
           try simp only[Act.put,σa,σb,σc]
           refine wpAnyH_done (by kernel_rfl) ?_ _
           skip
           refine tail_go (L:=#[true,true,true,true,true,true,true,true,true,true,true,true,true,true,true,true,true,true,true,true,true,true,true,true,false,false,false,false,false,false,false,false,false]) (by rfl) ?_
           refine wpAnyH_take (i:=24) (v:=?v42) rfl (by kernel_rfl) (by kernel_rfl) (by kernel_rfl) (fun _ _ _ h=>h) (Or.inl ⟨by rfl,?hy42⟩) trivial ?rest42
           case hy42=>
            intro w _
            go_simp
            try with_reducible rfl
           try simp only[Act.put,σa,σb,σc]
           refine wpAnyH_take (i:=25) (v:=?v43) rfl (by kernel_rfl) (by kernel_rfl) (by kernel_rfl) (fun _ _ _ h=>h) (Or.inl ⟨by rfl,?hy43⟩) trivial ?rest43
           case hy43=>
            intro w _
            go_simp
            try with_reducible rfl
           try simp only[Act.put,σa,σb,σc]
           refine wpAnyH_ready (rs:=[26]) (by kernel_rfl) (by simp) ?_
           refine AllReadyH.cons rfl (fun KO hK=>?_) AllReadyH.nil
           go_simp
           refine hK.out _ _ trivial (fun _=>?_)
           clear hK KO
           try simp only[Act.put,σa,σb,σc]
           refine wpAnyH_take (i:=27) (v:=?v44) rfl (by kernel_rfl) (by kernel_rfl) (by kernel_rfl) (fun _ _ _ h=>h) (Or.inl ⟨by rfl,?hy44⟩) trivial ?rest44
           case hy44=>
            intro w _
            go_simp
            try with_reducible rfl
           try simp only[Act.put,σa,σb,σc]
           refine wpAnyH_take (i:=28) (v:=?v45) rfl (by kernel_rfl) (by kernel_rfl) (by kernel_rfl) (fun _ _ _ h=>h) (Or.inl ⟨by rfl,?hy45⟩) trivial ?rest45
           case hy45=>
            intro w _
            go_simp
            try with_reducible rfl
           try simp only[Act.put,σa,σb,σc]
           refine wpAnyH_ready (rs:=[29]) (by kernel_rfl) (by simp) ?_
           refine AllReadyH.cons rfl (fun KO hK=>?_) AllReadyH.nil
           go_simp
           refine hK.out _ _ trivial (fun _=>?_)
           clear hK KO
           try simp only[Act.put,σa,σb,σc]
           refine wpAnyH_take (i:=30) (v:=?v46) rfl (by kernel_rfl) (by kernel_rfl) (by kernel_rfl) (fun _ _ _ h=>h) (Or.inl ⟨by rfl,?hy46⟩) trivial ?rest46
           case hy46=>
            intro w _
            go_simp
            try with_reducible rfl
           try simp only[Act.put,σa,σb,σc]
           refine wpAnyH_take (i:=31) (v:=?v47) rfl (by kernel_rfl) (by kernel_rfl) (by kernel_rfl) (fun _ _ _ h=>h) (Or.inl ⟨by rfl,?hy47⟩) trivial ?rest47
           case hy47=>
            intro w _
            go_simp
            try with_reducible rfl
           try simp only[Act.put,σa,σb,σc]
           refine wpAnyH_ready (rs:=[32]) (by kernel_rfl) (by simp) ?_
           refine AllReadyH.cons rfl (fun KO hK=>?_) AllReadyH.nil
           go_simp
           refine hK.out _ _ trivial (fun _=>?_)
           clear hK KO
           try simp only[Act.put,σa,σb,σc]
           refine wpAnyH_done (by kernel_rfl) ?_ _
           go_wp2_with fail
           go_meet
           exact FIN.out _ A6 c6 A7 c7 A8 c8 (((b8.set HGC.out 0 _).set HGC.out 2 _).set HGC.out 1 _)
          exact AllReadyH.nil
         exact AllReadyH.nil
        exact AllReadyH.nil
       refine AllReadyH.cons rfl (fun KO hK=>?_) ?_
       ·skip
        go_simp
        skip
        refine hK.out _ _ ?_ (fun hHeld=>?_)
        ·exact BG.both (g:=w.heap.size) (by repeat (first | with_reducible exact b8 | with_reducible exact b7 | with_reducible exact b6 | with_reducible exact b5 | with_reducible apply BG.alloc | with_reducible apply BG.drew))
        clear hK KO
        try simp only[Act.put,σa,σb,σc]
        refine wpAnyH_ready (rs:=[9]) (by kernel_rfl) (by simp) ?_
        refine AllReadyH.cons rfl (fun KO hK=>?_) ?_
        ·skip
         refine step_append_any _ (by rfl) (.tmp 55) (.tmp 57) _ (by rfl) 0 26 (.agg #[.int .i64 0,.slice none 0 0,.slice none 0 0,.int .i64 0,.int .i64 0,.int .i64 0]) 6 80 Tryz.underlying50 info26p rfl (by omega) (.slice Am K.length cm) K.length ((List.range K.length).flatMap (mdR fo)) (by rfl) (by exact BG.r0 (show BG w5 cc w.heap.size _ _ _ _ _ _ _ _ _ _ _ from (by repeat (first | with_reducible apply BG.alloc | with_reducible apply BG.drew | with_reducible exact b7 | with_reducible exact b6 | with_reducible exact b5)))) (fun _=>True) _ 1 1 [.int .i64 (j:Int),.slice A i c,.slice none 0 0,.int .i64 (8+2 * (j:Int)),.int .i64 2,.int .i64 0] (by rfl) (by exact rd_blk (t:=26) _ (by repeat (first | with_reducible exact blk_n (by first | (simp;done) | rfl) | with_reducible refine Blk.alloc ?_ _ | with_reducible refine Blk.drew ?_)) rfl) (by intro u hu;simp at hu;rcases hu with rfl | rfl | rfl | rfl | rfl | rfl <;> rfl) (by simp only[maxLen];omega) (by omega) (Nat.zero_le _) ?_
         intro A6 c6 w6 hown6 hgr6 hat6
         have b6:=BG.grow0 (by repeat (first | with_reducible apply BG.alloc | with_reducible apply BG.drew | with_reducible exact b7 | with_reducible exact b6 | with_reducible exact b5)) hgr6 hown6 hat6
         obtain ⟨z6a,z6b,z6c⟩:=b6.b.facts
         have s6:=b6.fr.size
         have z6d:=b6.b.cell 0
         have z6e:=b6.b.cell 1
         have z6f:=b6.b.cell 2
         skip
         refine hK.out _ _ ?_ (fun hHeld=>?_)
         ·exact BG.both (g:=w.heap.size) (by repeat (first | with_reducible exact b8 | with_reducible exact b7 | with_reducible exact b6 | with_reducible exact b5 | with_reducible apply BG.alloc | with_reducible apply BG.drew))
         clear hK KO
         try simp only[Act.put,σa,σb,σc]
         refine wpAnyH_ready (rs:=[16]) (by kernel_rfl) (by simp) ?_
         refine AllReadyH.cons rfl (fun KO hK=>?_) ?_
         ·skip
          refine step_append_any _ (by rfl) (.tmp 62) (.tmp 64) _ (by rfl) 0 36 (.pointer none) 1 8 Tryz.underlying52 info36p rfl (by omega) (.slice At K.length ct) K.length (K.map fun x=>.pointer (some ⟨x.f,0,none⟩)) (by rfl) (by exact BG.r1 (show BG w5 cc w.heap.size _ _ _ _ _ _ _ _ _ _ _ from (by repeat (first | with_reducible apply BG.alloc | with_reducible apply BG.drew | with_reducible exact b7 | with_reducible exact b6 | with_reducible exact b5)))) (fun _=>True) _ 1 1 [.pointer (some ⟨W2.heap.size,0,none⟩)] (by rfl) (by exact rd_blk (t:=36) _ (by repeat (first | with_reducible exact blk_n (by first | (simp;done) | rfl) | with_reducible refine Blk.alloc ?_ _ | with_reducible refine Blk.drew ?_ | with_reducible refine Blk.grown ?_ hgr6 (fun e=>by have:=HLm.out _ e.symm;first | omega | (simp at this;omega)))) rfl) (by intro u hu;simp at hu;rcases hu with rfl <;> rfl) (by simp only[maxLen];omega) (by omega) (Nat.zero_le _) ?_
          intro A7 c7 w7 hown7 hgr7 hat7
          have b7:=BG.grow1 (by repeat (first | with_reducible apply BG.alloc | with_reducible apply BG.drew | with_reducible exact b7 | with_reducible exact b6 | with_reducible exact b5)) hgr7 hown7 hat7
          obtain ⟨z7a,z7b,z7c⟩:=b7.b.facts
          have s7:=b7.fr.size
          have z7d:=b7.b.cell 0
          have z7e:=b7.b.cell 1
          have z7f:=b7.b.cell 2
          skip
          refine hK.out _ _ ?_ (fun hHeld=>?_)
          ·exact BG.both (g:=w.heap.size) (by repeat (first | with_reducible exact b8 | with_reducible exact b7 | with_reducible exact b6 | with_reducible exact b5 | with_reducible apply BG.alloc | with_reducible apply BG.drew))
          clear hK KO
          try simp only[Act.put,σa,σb,σc]
          refine wpAnyH_ready (rs:=[23]) (by kernel_rfl) (by simp) ?_
          refine AllReadyH.cons rfl (fun KO hK=>?_) ?_
          ·skip
           refine step_append_any _ (by rfl) (.tmp 69) (.tmp 71) _ (by rfl) 0 31 (.pointer none) 1 8 Tryz.underlying51 info31p rfl (by omega) (.slice Ap K.length cp) K.length (K.map fun x=>.pointer (some ⟨x.p,0,none⟩)) (by rfl) (by exact BG.r2 (show BG w5 cc w.heap.size _ _ _ _ _ _ _ _ _ _ _ from (by repeat (first | with_reducible apply BG.alloc | with_reducible apply BG.drew | with_reducible exact b7 | with_reducible exact b6 | with_reducible exact b5)))) (fun _=>True) _ 1 1 [.pointer (some ⟨p5,0,none⟩)] (by rfl) (by exact rd_blk (t:=31) _ (by repeat (first | with_reducible exact blk_n (by first | (simp;done) | rfl) | with_reducible refine Blk.alloc ?_ _ | with_reducible refine Blk.drew ?_ | with_reducible refine Blk.grown ?_ hgr7 (fun e=>by have:=HLt.out _ e.symm;first | omega | (simp at this;omega)) | with_reducible refine Blk.grown ?_ hgr6 (fun e=>by have:=HLm.out _ e.symm;first | omega | (simp at this;omega)))) rfl) (by intro u hu;simp at hu;rcases hu with rfl <;> rfl) (by simp only[maxLen];omega) (by omega) (Nat.zero_le _) ?_
           intro A8 c8 w8 hown8 hgr8 hat8
           have b8:=BG.grow2 (by repeat (first | with_reducible apply BG.alloc | with_reducible apply BG.drew | with_reducible exact b7 | with_reducible exact b6 | with_reducible exact b5)) hgr8 hown8 hat8
           obtain ⟨z8a,z8b,z8c⟩:=b8.b.facts
           have s8:=b8.fr.size
           have z8d:=b8.b.cell 0
           have z8e:=b8.b.cell 1
           have z8f:=b8.b.cell 2
           skip
           refine hK.out _ _ ?_ (fun hHeld=>?_)
           ·exact BG.both (g:=w.heap.size) (by repeat (first | with_reducible exact b8 | with_reducible exact b7 | with_reducible exact b6 | with_reducible exact b5 | with_reducible apply BG.alloc | with_reducible apply BG.drew))
           clear hK KO
           try simp only[Act.put,σa,σb,σc]
           refine wpAnyH_done (by kernel_rfl) ?_ _
           skip
           refine tail_go (L:=#[true,true,true,true,true,true,true,true,true,true,true,true,true,true,true,true,true,true,true,true,true,true,true,true,false,false,false,false,false,false,false,false,false]) (by rfl) ?_
           refine wpAnyH_take (i:=24) (v:=?v48) rfl (by kernel_rfl) (by kernel_rfl) (by kernel_rfl) (fun _ _ _ h=>h) (Or.inl ⟨by rfl,?hy48⟩) trivial ?rest48
           case hy48=>
            intro w _
            go_simp
            try with_reducible rfl
           try simp only[Act.put,σa,σb,σc]
           refine wpAnyH_take (i:=25) (v:=?v49) rfl (by kernel_rfl) (by kernel_rfl) (by kernel_rfl) (fun _ _ _ h=>h) (Or.inl ⟨by rfl,?hy49⟩) trivial ?rest49
           case hy49=>
            intro w _
            go_simp
            try with_reducible rfl
           try simp only[Act.put,σa,σb,σc]
           refine wpAnyH_ready (rs:=[26]) (by kernel_rfl) (by simp) ?_
           refine AllReadyH.cons rfl (fun KO hK=>?_) AllReadyH.nil
           go_simp
           refine hK.out _ _ trivial (fun _=>?_)
           clear hK KO
           try simp only[Act.put,σa,σb,σc]
           refine wpAnyH_take (i:=27) (v:=?v50) rfl (by kernel_rfl) (by kernel_rfl) (by kernel_rfl) (fun _ _ _ h=>h) (Or.inl ⟨by rfl,?hy50⟩) trivial ?rest50
           case hy50=>
            intro w _
            go_simp
            try with_reducible rfl
           try simp only[Act.put,σa,σb,σc]
           refine wpAnyH_take (i:=28) (v:=?v51) rfl (by kernel_rfl) (by kernel_rfl) (by kernel_rfl) (fun _ _ _ h=>h) (Or.inl ⟨by rfl,?hy51⟩) trivial ?rest51
           case hy51=>
            intro w _
            go_simp
            try with_reducible rfl
           try simp only[Act.put,σa,σb,σc]
           refine wpAnyH_ready (rs:=[29]) (by kernel_rfl) (by simp) ?_
           refine AllReadyH.cons rfl (fun KO hK=>?_) AllReadyH.nil
           go_simp
           refine hK.out _ _ trivial (fun _=>?_)
           clear hK KO
           try simp only[Act.put,σa,σb,σc]
           refine wpAnyH_take (i:=30) (v:=?v52) rfl (by kernel_rfl) (by kernel_rfl) (by kernel_rfl) (fun _ _ _ h=>h) (Or.inl ⟨by rfl,?hy52⟩) trivial ?rest52
           case hy52=>
            intro w _
            go_simp
            try with_reducible rfl
           try simp only[Act.put,σa,σb,σc]
           refine wpAnyH_take (i:=31) (v:=?v53) rfl (by kernel_rfl) (by kernel_rfl) (by kernel_rfl) (fun _ _ _ h=>h) (Or.inl ⟨by rfl,?hy53⟩) trivial ?rest53
           case hy53=>
            intro w _
            go_simp
            try with_reducible rfl
           try simp only[Act.put,σa,σb,σc]
           refine wpAnyH_ready (rs:=[32]) (by kernel_rfl) (by simp) ?_
           refine AllReadyH.cons rfl (fun KO hK=>?_) AllReadyH.nil
           go_simp
           refine hK.out _ _ trivial (fun _=>?_)
           clear hK KO
           try simp only[Act.put,σa,σb,σc]
           refine wpAnyH_done (by kernel_rfl) ?_ _
           go_wp2_with fail
           go_meet
           exact FIN.out _ A6 c6 A7 c7 A8 c8 (((b8.set HGC.out 0 _).set HGC.out 2 _).set HGC.out 1 _)
          exact AllReadyH.nil
         exact AllReadyH.nil
        exact AllReadyH.nil
       exact AllReadyH.nil
      refine AllReadyH.cons rfl (fun KO hK=>?_) ?_
      ·skip
       go_simp
       skip
       refine hK.out _ _ ?_ (fun hHeld=>?_)
       ·exact BG.both (g:=w.heap.size) (by repeat (first | with_reducible exact b8 | with_reducible exact b7 | with_reducible exact b6 | with_reducible exact b5 | with_reducible apply BG.alloc | with_reducible apply BG.drew))
       clear hK KO
       try simp only[Act.put,σa,σb,σc]
       refine wpAnyH_ready (rs:=[9,15]) (by kernel_rfl) (by simp) ?_
       refine AllReadyH.cons rfl (fun KO hK=>?_) ?_
       ·skip
        refine step_append_any _ (by rfl) (.tmp 55) (.tmp 57) _ (by rfl) 0 26 (.agg #[.int .i64 0,.slice none 0 0,.slice none 0 0,.int .i64 0,.int .i64 0,.int .i64 0]) 6 80 Tryz.underlying50 info26p rfl (by omega) (.slice Am K.length cm) K.length ((List.range K.length).flatMap (mdR fo)) (by rfl) (by exact BG.r0 (show BG w5 cc w.heap.size _ _ _ _ _ _ _ _ _ _ _ from (by repeat (first | with_reducible apply BG.alloc | with_reducible apply BG.drew | with_reducible exact b7 | with_reducible exact b6 | with_reducible exact b5)))) (fun _=>True) _ 1 1 [.int .i64 (j:Int),.slice A i c,.slice none 0 0,.int .i64 (8+2 * (j:Int)),.int .i64 2,.int .i64 0] (by rfl) (by exact rd_blk (t:=26) _ (by repeat (first | with_reducible exact blk_n (by first | (simp;done) | rfl) | with_reducible refine Blk.alloc ?_ _ | with_reducible refine Blk.drew ?_)) rfl) (by intro u hu;simp at hu;rcases hu with rfl | rfl | rfl | rfl | rfl | rfl <;> rfl) (by simp only[maxLen];omega) (by omega) (Nat.zero_le _) ?_
        intro A6 c6 w6 hown6 hgr6 hat6
        have b6:=BG.grow0 (by repeat (first | with_reducible apply BG.alloc | with_reducible apply BG.drew | with_reducible exact b7 | with_reducible exact b6 | with_reducible exact b5)) hgr6 hown6 hat6
        obtain ⟨z6a,z6b,z6c⟩:=b6.b.facts
        have s6:=b6.fr.size
        have z6d:=b6.b.cell 0
        have z6e:=b6.b.cell 1
        have z6f:=b6.b.cell 2
        skip
        refine hK.out _ _ ?_ (fun hHeld=>?_)
        ·exact BG.both (g:=w.heap.size) (by repeat (first | with_reducible exact b8 | with_reducible exact b7 | with_reducible exact b6 | with_reducible exact b5 | with_reducible apply BG.alloc | with_reducible apply BG.drew))
        clear hK KO
        try simp only[Act.put,σa,σb,σc]
        refine wpAnyH_ready (rs:=[15]) (by kernel_rfl) (by simp) ?_
        refine AllReadyH.cons rfl (fun KO hK=>?_) ?_
        ·skip
         go_simp
         skip
         refine hK.out _ _ ?_ (fun hHeld=>?_)
         ·exact BG.both (g:=w.heap.size) (by repeat (first | with_reducible exact b8 | with_reducible exact b7 | with_reducible exact b6 | with_reducible exact b5 | with_reducible apply BG.alloc | with_reducible apply BG.drew))
         clear hK KO
         try simp only[Act.put,σa,σb,σc]
         refine wpAnyH_ready (rs:=[16]) (by kernel_rfl) (by simp) ?_
         refine AllReadyH.cons rfl (fun KO hK=>?_) ?_
         ·skip
          refine step_append_any _ (by rfl) (.tmp 62) (.tmp 64) _ (by rfl) 0 36 (.pointer none) 1 8 Tryz.underlying52 info36p rfl (by omega) (.slice At K.length ct) K.length (K.map fun x=>.pointer (some ⟨x.f,0,none⟩)) (by rfl) (by exact BG.r1 (show BG w5 cc w.heap.size _ _ _ _ _ _ _ _ _ _ _ from (by repeat (first | with_reducible apply BG.alloc | with_reducible apply BG.drew | with_reducible exact b7 | with_reducible exact b6 | with_reducible exact b5)))) (fun _=>True) _ 1 1 [.pointer (some ⟨W2.heap.size,0,none⟩)] (by rfl) (by exact rd_blk (t:=36) _ (by repeat (first | with_reducible exact blk_n (by first | (simp;done) | rfl) | with_reducible refine Blk.alloc ?_ _ | with_reducible refine Blk.drew ?_ | with_reducible refine Blk.grown ?_ hgr6 (fun e=>by have:=HLm.out _ e.symm;first | omega | (simp at this;omega)))) rfl) (by intro u hu;simp at hu;rcases hu with rfl <;> rfl) (by simp only[maxLen];omega) (by omega) (Nat.zero_le _) ?_
          intro A7 c7 w7 hown7 hgr7 hat7
          have b7:=BG.grow1 (by repeat (first | with_reducible apply BG.alloc | with_reducible apply BG.drew | with_reducible exact b7 | with_reducible exact b6 | with_reducible exact b5)) hgr7 hown7 hat7
          obtain ⟨z7a,z7b,z7c⟩:=b7.b.facts
          have s7:=b7.fr.size
          have z7d:=b7.b.cell 0
          have z7e:=b7.b.cell 1
          have z7f:=b7.b.cell 2
          skip
          refine hK.out _ _ ?_ (fun hHeld=>?_)
          ·exact BG.both (g:=w.heap.size) (by repeat (first | with_reducible exact b8 | with_reducible exact b7 | with_reducible exact b6 | with_reducible exact b5 | with_reducible apply BG.alloc | with_reducible apply BG.drew))
          clear hK KO
          try simp only[Act.put,σa,σb,σc]
          refine wpAnyH_ready (rs:=[23]) (by kernel_rfl) (by simp) ?_
          refine AllReadyH.cons rfl (fun KO hK=>?_) ?_
          ·skip
           refine step_append_any _ (by rfl) (.tmp 69) (.tmp 71) _ (by rfl) 0 31 (.pointer none) 1 8 Tryz.underlying51 info31p rfl (by omega) (.slice Ap K.length cp) K.length (K.map fun x=>.pointer (some ⟨x.p,0,none⟩)) (by rfl) (by exact BG.r2 (show BG w5 cc w.heap.size _ _ _ _ _ _ _ _ _ _ _ from (by repeat (first | with_reducible apply BG.alloc | with_reducible apply BG.drew | with_reducible exact b7 | with_reducible exact b6 | with_reducible exact b5)))) (fun _=>True) _ 1 1 [.pointer (some ⟨p5,0,none⟩)] (by rfl) (by exact rd_blk (t:=31) _ (by repeat (first | with_reducible exact blk_n (by first | (simp;done) | rfl) | with_reducible refine Blk.alloc ?_ _ | with_reducible refine Blk.drew ?_ | with_reducible refine Blk.grown ?_ hgr7 (fun e=>by have:=HLt.out _ e.symm;first | omega | (simp at this;omega)) | with_reducible refine Blk.grown ?_ hgr6 (fun e=>by have:=HLm.out _ e.symm;first | omega | (simp at this;omega)))) rfl) (by intro u hu;simp at hu;rcases hu with rfl <;> rfl) (by simp only[maxLen];omega) (by omega) (Nat.zero_le _) ?_
           intro A8 c8 w8 hown8 hgr8 hat8
           have b8:=BG.grow2 (by repeat (first | with_reducible apply BG.alloc | with_reducible apply BG.drew | with_reducible exact b7 | with_reducible exact b6 | with_reducible exact b5)) hgr8 hown8 hat8
           obtain ⟨z8a,z8b,z8c⟩:=b8.b.facts
           have s8:=b8.fr.size
           have z8d:=b8.b.cell 0
           have z8e:=b8.b.cell 1
           have z8f:=b8.b.cell 2
           skip
           refine hK.out _ _ ?_ (fun hHeld=>?_)
           ·exact BG.both (g:=w.heap.size) (by repeat (first | with_reducible exact b8 | with_reducible exact b7 | with_reducible exact b6 | with_reducible exact b5 | with_reducible apply BG.alloc | with_reducible apply BG.drew))
           clear hK KO
           try simp only[Act.put,σa,σb,σc]
           refine wpAnyH_done (by kernel_rfl) ?_ _
           skip
           refine tail_go (L:=#[true,true,true,true,true,true,true,true,true,true,true,true,true,true,true,true,true,true,true,true,true,true,true,true,false,false,false,false,false,false,false,false,false]) (by rfl) ?_
           refine wpAnyH_take (i:=24) (v:=?v54) rfl (by kernel_rfl) (by kernel_rfl) (by kernel_rfl) (fun _ _ _ h=>h) (Or.inl ⟨by rfl,?hy54⟩) trivial ?rest54
           case hy54=>
            intro w _
            go_simp
            try with_reducible rfl
           try simp only[Act.put,σa,σb,σc]
           refine wpAnyH_take (i:=25) (v:=?v55) rfl (by kernel_rfl) (by kernel_rfl) (by kernel_rfl) (fun _ _ _ h=>h) (Or.inl ⟨by rfl,?hy55⟩) trivial ?rest55
           case hy55=>
            intro w _
            go_simp
            try with_reducible rfl
           try simp only[Act.put,σa,σb,σc]
           refine wpAnyH_ready (rs:=[26]) (by kernel_rfl) (by simp) ?_
           refine AllReadyH.cons rfl (fun KO hK=>?_) AllReadyH.nil
           go_simp
           refine hK.out _ _ trivial (fun _=>?_)
           clear hK KO
           try simp only[Act.put,σa,σb,σc]
           refine wpAnyH_take (i:=27) (v:=?v56) rfl (by kernel_rfl) (by kernel_rfl) (by kernel_rfl) (fun _ _ _ h=>h) (Or.inl ⟨by rfl,?hy56⟩) trivial ?rest56
           case hy56=>
            intro w _
            go_simp
            try with_reducible rfl
           try simp only[Act.put,σa,σb,σc]
           refine wpAnyH_take (i:=28) (v:=?v57) rfl (by kernel_rfl) (by kernel_rfl) (by kernel_rfl) (fun _ _ _ h=>h) (Or.inl ⟨by rfl,?hy57⟩) trivial ?rest57
           case hy57=>
            intro w _
            go_simp
            try with_reducible rfl
           try simp only[Act.put,σa,σb,σc]
           refine wpAnyH_ready (rs:=[29]) (by kernel_rfl) (by simp) ?_
           refine AllReadyH.cons rfl (fun KO hK=>?_) AllReadyH.nil
           go_simp
           refine hK.out _ _ trivial (fun _=>?_)
           clear hK KO
           try simp only[Act.put,σa,σb,σc]
           refine wpAnyH_take (i:=30) (v:=?v58) rfl (by kernel_rfl) (by kernel_rfl) (by kernel_rfl) (fun _ _ _ h=>h) (Or.inl ⟨by rfl,?hy58⟩) trivial ?rest58
           case hy58=>
            intro w _
            go_simp
            try with_reducible rfl
           try simp only[Act.put,σa,σb,σc]
           refine wpAnyH_take (i:=31) (v:=?v59) rfl (by kernel_rfl) (by kernel_rfl) (by kernel_rfl) (fun _ _ _ h=>h) (Or.inl ⟨by rfl,?hy59⟩) trivial ?rest59
           case hy59=>
            intro w _
            go_simp
            try with_reducible rfl
           try simp only[Act.put,σa,σb,σc]
           refine wpAnyH_ready (rs:=[32]) (by kernel_rfl) (by simp) ?_
           refine AllReadyH.cons rfl (fun KO hK=>?_) AllReadyH.nil
           go_simp
           refine hK.out _ _ trivial (fun _=>?_)
           clear hK KO
           try simp only[Act.put,σa,σb,σc]
           refine wpAnyH_done (by kernel_rfl) ?_ _
           go_wp2_with fail
           go_meet
           exact FIN.out _ A6 c6 A7 c7 A8 c8 (((b8.set HGC.out 0 _).set HGC.out 2 _).set HGC.out 1 _)
          exact AllReadyH.nil
         exact AllReadyH.nil
        exact AllReadyH.nil
       refine AllReadyH.cons rfl (fun KO hK=>?_) ?_
       ·skip
        go_simp
        skip
        refine hK.out _ _ ?_ (fun hHeld=>?_)
        ·exact BG.both (g:=w.heap.size) (by repeat (first | with_reducible exact b8 | with_reducible exact b7 | with_reducible exact b6 | with_reducible exact b5 | with_reducible apply BG.alloc | with_reducible apply BG.drew))
        clear hK KO
        try simp only[Act.put,σa,σb,σc]
        refine wpAnyH_ready (rs:=[9]) (by kernel_rfl) (by simp) ?_
        refine AllReadyH.cons rfl (fun KO hK=>?_) ?_
        ·skip
         refine step_append_any _ (by rfl) (.tmp 55) (.tmp 57) _ (by rfl) 0 26 (.agg #[.int .i64 0,.slice none 0 0,.slice none 0 0,.int .i64 0,.int .i64 0,.int .i64 0]) 6 80 Tryz.underlying50 info26p rfl (by omega) (.slice Am K.length cm) K.length ((List.range K.length).flatMap (mdR fo)) (by rfl) (by exact BG.r0 (show BG w5 cc w.heap.size _ _ _ _ _ _ _ _ _ _ _ from (by repeat (first | with_reducible apply BG.alloc | with_reducible apply BG.drew | with_reducible exact b7 | with_reducible exact b6 | with_reducible exact b5)))) (fun _=>True) _ 1 1 [.int .i64 (j:Int),.slice A i c,.slice none 0 0,.int .i64 (8+2 * (j:Int)),.int .i64 2,.int .i64 0] (by rfl) (by exact rd_blk (t:=26) _ (by repeat (first | with_reducible exact blk_n (by first | (simp;done) | rfl) | with_reducible refine Blk.alloc ?_ _ | with_reducible refine Blk.drew ?_)) rfl) (by intro u hu;simp at hu;rcases hu with rfl | rfl | rfl | rfl | rfl | rfl <;> rfl) (by simp only[maxLen];omega) (by omega) (Nat.zero_le _) ?_
         intro A6 c6 w6 hown6 hgr6 hat6
         have b6:=BG.grow0 (by repeat (first | with_reducible apply BG.alloc | with_reducible apply BG.drew | with_reducible exact b7 | with_reducible exact b6 | with_reducible exact b5)) hgr6 hown6 hat6
         obtain ⟨z6a,z6b,z6c⟩:=b6.b.facts
         have s6:=b6.fr.size
         have z6d:=b6.b.cell 0
         have z6e:=b6.b.cell 1
         have z6f:=b6.b.cell 2
         skip
         refine hK.out _ _ ?_ (fun hHeld=>?_)
         ·exact BG.both (g:=w.heap.size) (by repeat (first | with_reducible exact b8 | with_reducible exact b7 | with_reducible exact b6 | with_reducible exact b5 | with_reducible apply BG.alloc | with_reducible apply BG.drew))
         clear hK KO
         try simp only[Act.put,σa,σb,σc]
         refine wpAnyH_ready (rs:=[16]) (by kernel_rfl) (by simp) ?_
         refine AllReadyH.cons rfl (fun KO hK=>?_) ?_
         ·skip
          refine step_append_any _ (by rfl) (.tmp 62) (.tmp 64) _ (by rfl) 0 36 (.pointer none) 1 8 Tryz.underlying52 info36p rfl (by omega) (.slice At K.length ct) K.length (K.map fun x=>.pointer (some ⟨x.f,0,none⟩)) (by rfl) (by exact BG.r1 (show BG w5 cc w.heap.size _ _ _ _ _ _ _ _ _ _ _ from (by repeat (first | with_reducible apply BG.alloc | with_reducible apply BG.drew | with_reducible exact b7 | with_reducible exact b6 | with_reducible exact b5)))) (fun _=>True) _ 1 1 [.pointer (some ⟨W2.heap.size,0,none⟩)] (by rfl) (by exact rd_blk (t:=36) _ (by repeat (first | with_reducible exact blk_n (by first | (simp;done) | rfl) | with_reducible refine Blk.alloc ?_ _ | with_reducible refine Blk.drew ?_ | with_reducible refine Blk.grown ?_ hgr6 (fun e=>by have:=HLm.out _ e.symm;first | omega | (simp at this;omega)))) rfl) (by intro u hu;simp at hu;rcases hu with rfl <;> rfl) (by simp only[maxLen];omega) (by omega) (Nat.zero_le _) ?_
          intro A7 c7 w7 hown7 hgr7 hat7
          have b7:=BG.grow1 (by repeat (first | with_reducible apply BG.alloc | with_reducible apply BG.drew | with_reducible exact b7 | with_reducible exact b6 | with_reducible exact b5)) hgr7 hown7 hat7
          obtain ⟨z7a,z7b,z7c⟩:=b7.b.facts
          have s7:=b7.fr.size
          have z7d:=b7.b.cell 0
          have z7e:=b7.b.cell 1
          have z7f:=b7.b.cell 2
          skip
          refine hK.out _ _ ?_ (fun hHeld=>?_)
          ·exact BG.both (g:=w.heap.size) (by repeat (first | with_reducible exact b8 | with_reducible exact b7 | with_reducible exact b6 | with_reducible exact b5 | with_reducible apply BG.alloc | with_reducible apply BG.drew))
          clear hK KO
          try simp only[Act.put,σa,σb,σc]
          refine wpAnyH_ready (rs:=[23]) (by kernel_rfl) (by simp) ?_
          refine AllReadyH.cons rfl (fun KO hK=>?_) ?_
          ·skip
           refine step_append_any _ (by rfl) (.tmp 69) (.tmp 71) _ (by rfl) 0 31 (.pointer none) 1 8 Tryz.underlying51 info31p rfl (by omega) (.slice Ap K.length cp) K.length (K.map fun x=>.pointer (some ⟨x.p,0,none⟩)) (by rfl) (by exact BG.r2 (show BG w5 cc w.heap.size _ _ _ _ _ _ _ _ _ _ _ from (by repeat (first | with_reducible apply BG.alloc | with_reducible apply BG.drew | with_reducible exact b7 | with_reducible exact b6 | with_reducible exact b5)))) (fun _=>True) _ 1 1 [.pointer (some ⟨p5,0,none⟩)] (by rfl) (by exact rd_blk (t:=31) _ (by repeat (first | with_reducible exact blk_n (by first | (simp;done) | rfl) | with_reducible refine Blk.alloc ?_ _ | with_reducible refine Blk.drew ?_ | with_reducible refine Blk.grown ?_ hgr7 (fun e=>by have:=HLt.out _ e.symm;first | omega | (simp at this;omega)) | with_reducible refine Blk.grown ?_ hgr6 (fun e=>by have:=HLm.out _ e.symm;first | omega | (simp at this;omega)))) rfl) (by intro u hu;simp at hu;rcases hu with rfl <;> rfl) (by simp only[maxLen];omega) (by omega) (Nat.zero_le _) ?_
           intro A8 c8 w8 hown8 hgr8 hat8
           have b8:=BG.grow2 (by repeat (first | with_reducible apply BG.alloc | with_reducible apply BG.drew | with_reducible exact b7 | with_reducible exact b6 | with_reducible exact b5)) hgr8 hown8 hat8
           obtain ⟨z8a,z8b,z8c⟩:=b8.b.facts
           have s8:=b8.fr.size
           have z8d:=b8.b.cell 0
           have z8e:=b8.b.cell 1
           have z8f:=b8.b.cell 2
           skip
           refine hK.out _ _ ?_ (fun hHeld=>?_)
           ·exact BG.both (g:=w.heap.size) (by repeat (first | with_reducible exact b8 | with_reducible exact b7 | with_reducible exact b6 | with_reducible exact b5 | with_reducible apply BG.alloc | with_reducible apply BG.drew))
           clear hK KO
           try simp only[Act.put,σa,σb,σc]
           refine wpAnyH_done (by kernel_rfl) ?_ _
           skip
           refine tail_go (L:=#[true,true,true,true,true,true,true,true,true,true,true,true,true,true,true,true,true,true,true,true,true,true,true,true,false,false,false,false,false,false,false,false,false]) (by rfl) ?_
           refine wpAnyH_take (i:=24) (v:=?v60) rfl (by kernel_rfl) (by kernel_rfl) (by kernel_rfl) (fun _ _ _ h=>h) (Or.inl ⟨by rfl,?hy60⟩) trivial ?rest60
           case hy60=>
            intro w _
            go_simp
            try with_reducible rfl
           try simp only[Act.put,σa,σb,σc]
           refine wpAnyH_take (i:=25) (v:=?v61) rfl (by kernel_rfl) (by kernel_rfl) (by kernel_rfl) (fun _ _ _ h=>h) (Or.inl ⟨by rfl,?hy61⟩) trivial ?rest61
           case hy61=>
            intro w _
            go_simp
            try with_reducible rfl
           try simp only[Act.put,σa,σb,σc]
           refine wpAnyH_ready (rs:=[26]) (by kernel_rfl) (by simp) ?_
           refine AllReadyH.cons rfl (fun KO hK=>?_) AllReadyH.nil
           go_simp
           refine hK.out _ _ trivial (fun _=>?_)
           clear hK KO
           try simp only[Act.put,σa,σb,σc]
           refine wpAnyH_take (i:=27) (v:=?v62) rfl (by kernel_rfl) (by kernel_rfl) (by kernel_rfl) (fun _ _ _ h=>h) (Or.inl ⟨by rfl,?hy62⟩) trivial ?rest62
           case hy62=>
            intro w _
            go_simp
            try with_reducible rfl
           try simp only[Act.put,σa,σb,σc]
           refine wpAnyH_take (i:=28) (v:=?v63) rfl (by kernel_rfl) (by kernel_rfl) (by kernel_rfl) (fun _ _ _ h=>h) (Or.inl ⟨by rfl,?hy63⟩) trivial ?rest63
           case hy63=>
            intro w _
            go_simp
            try with_reducible rfl
           try simp only[Act.put,σa,σb,σc]
           refine wpAnyH_ready (rs:=[29]) (by kernel_rfl) (by simp) ?_
           refine AllReadyH.cons rfl (fun KO hK=>?_) AllReadyH.nil
           go_simp
           refine hK.out _ _ trivial (fun _=>?_)
           clear hK KO
           try simp only[Act.put,σa,σb,σc]
           refine wpAnyH_take (i:=30) (v:=?v64) rfl (by kernel_rfl) (by kernel_rfl) (by kernel_rfl) (fun _ _ _ h=>h) (Or.inl ⟨by rfl,?hy64⟩) trivial ?rest64
           case hy64=>
            intro w _
            go_simp
            try with_reducible rfl
           try simp only[Act.put,σa,σb,σc]
           refine wpAnyH_take (i:=31) (v:=?v65) rfl (by kernel_rfl) (by kernel_rfl) (by kernel_rfl) (fun _ _ _ h=>h) (Or.inl ⟨by rfl,?hy65⟩) trivial ?rest65
           case hy65=>
            intro w _
            go_simp
            try with_reducible rfl
           try simp only[Act.put,σa,σb,σc]
           refine wpAnyH_ready (rs:=[32]) (by kernel_rfl) (by simp) ?_
           refine AllReadyH.cons rfl (fun KO hK=>?_) AllReadyH.nil
           go_simp
           refine hK.out _ _ trivial (fun _=>?_)
           clear hK KO
           try simp only[Act.put,σa,σb,σc]
           refine wpAnyH_done (by kernel_rfl) ?_ _
           go_wp2_with fail
           go_meet
           exact FIN.out _ A6 c6 A7 c7 A8 c8 (((b8.set HGC.out 0 _).set HGC.out 2 _).set HGC.out 1 _)
          exact AllReadyH.nil
         exact AllReadyH.nil
        exact AllReadyH.nil
       exact AllReadyH.nil
      exact AllReadyH.nil
     refine AllReadyH.cons rfl (fun KO hK=>?_) ?_
     ·skip
      go_simp
      skip
      refine hK.out _ _ ?_ (fun hHeld=>?_)
      ·exact BG.both (g:=w.heap.size) (by repeat (first | with_reducible exact b8 | with_reducible exact b7 | with_reducible exact b6 | with_reducible exact b5 | with_reducible apply BG.alloc | with_reducible apply BG.drew))
      clear hK KO
      try simp only[Act.put,σa,σb,σc]
      refine wpAnyH_ready (rs:=[8,22]) (by kernel_rfl) (by simp) ?_
      refine AllReadyH.cons rfl (fun KO hK=>?_) ?_
      ·skip
       go_simp
       skip
       refine hK.out _ _ ?_ (fun hHeld=>?_)
       ·exact BG.both (g:=w.heap.size) (by repeat (first | with_reducible exact b8 | with_reducible exact b7 | with_reducible exact b6 | with_reducible exact b5 | with_reducible apply BG.alloc | with_reducible apply BG.drew))
       clear hK KO
       try simp only[Act.put,σa,σb,σc]
       refine wpAnyH_ready (rs:=[9,22]) (by kernel_rfl) (by simp) ?_
       refine AllReadyH.cons rfl (fun KO hK=>?_) ?_
       ·skip
        refine step_append_any _ (by rfl) (.tmp 55) (.tmp 57) _ (by rfl) 0 26 (.agg #[.int .i64 0,.slice none 0 0,.slice none 0 0,.int .i64 0,.int .i64 0,.int .i64 0]) 6 80 Tryz.underlying50 info26p rfl (by omega) (.slice Am K.length cm) K.length ((List.range K.length).flatMap (mdR fo)) (by rfl) (by exact BG.r0 (show BG w5 cc w.heap.size _ _ _ _ _ _ _ _ _ _ _ from (by repeat (first | with_reducible apply BG.alloc | with_reducible apply BG.drew | with_reducible exact b7 | with_reducible exact b6 | with_reducible exact b5)))) (fun _=>True) _ 1 1 [.int .i64 (j:Int),.slice A i c,.slice none 0 0,.int .i64 (8+2 * (j:Int)),.int .i64 2,.int .i64 0] (by rfl) (by exact rd_blk (t:=26) _ (by repeat (first | with_reducible exact blk_n (by first | (simp;done) | rfl) | with_reducible refine Blk.alloc ?_ _ | with_reducible refine Blk.drew ?_)) rfl) (by intro u hu;simp at hu;rcases hu with rfl | rfl | rfl | rfl | rfl | rfl <;> rfl) (by simp only[maxLen];omega) (by omega) (Nat.zero_le _) ?_
        intro A6 c6 w6 hown6 hgr6 hat6
        have b6:=BG.grow0 (by repeat (first | with_reducible apply BG.alloc | with_reducible apply BG.drew | with_reducible exact b7 | with_reducible exact b6 | with_reducible exact b5)) hgr6 hown6 hat6
        obtain ⟨z6a,z6b,z6c⟩:=b6.b.facts
        have s6:=b6.fr.size
        have z6d:=b6.b.cell 0
        have z6e:=b6.b.cell 1
        have z6f:=b6.b.cell 2
        skip
        refine hK.out _ _ ?_ (fun hHeld=>?_)
        ·exact BG.both (g:=w.heap.size) (by repeat (first | with_reducible exact b8 | with_reducible exact b7 | with_reducible exact b6 | with_reducible exact b5 | with_reducible apply BG.alloc | with_reducible apply BG.drew))
        clear hK KO
        try simp only[Act.put,σa,σb,σc]
        refine wpAnyH_ready (rs:=[16,22]) (by kernel_rfl) (by simp) ?_
        refine AllReadyH.cons rfl (fun KO hK=>?_) ?_
        ·skip
         refine step_append_any _ (by rfl) (.tmp 62) (.tmp 64) _ (by rfl) 0 36 (.pointer none) 1 8 Tryz.underlying52 info36p rfl (by omega) (.slice At K.length ct) K.length (K.map fun x=>.pointer (some ⟨x.f,0,none⟩)) (by rfl) (by exact BG.r1 (show BG w5 cc w.heap.size _ _ _ _ _ _ _ _ _ _ _ from (by repeat (first | with_reducible apply BG.alloc | with_reducible apply BG.drew | with_reducible exact b7 | with_reducible exact b6 | with_reducible exact b5)))) (fun _=>True) _ 1 1 [.pointer (some ⟨W2.heap.size,0,none⟩)] (by rfl) (by exact rd_blk (t:=36) _ (by repeat (first | with_reducible exact blk_n (by first | (simp;done) | rfl) | with_reducible refine Blk.alloc ?_ _ | with_reducible refine Blk.drew ?_ | with_reducible refine Blk.grown ?_ hgr6 (fun e=>by have:=HLm.out _ e.symm;first | omega | (simp at this;omega)))) rfl) (by intro u hu;simp at hu;rcases hu with rfl <;> rfl) (by simp only[maxLen];omega) (by omega) (Nat.zero_le _) ?_
         intro A7 c7 w7 hown7 hgr7 hat7
         have b7:=BG.grow1 (by repeat (first | with_reducible apply BG.alloc | with_reducible apply BG.drew | with_reducible exact b7 | with_reducible exact b6 | with_reducible exact b5)) hgr7 hown7 hat7
         obtain ⟨z7a,z7b,z7c⟩:=b7.b.facts
         have s7:=b7.fr.size
         have z7d:=b7.b.cell 0
         have z7e:=b7.b.cell 1
         have z7f:=b7.b.cell 2
         skip
         refine hK.out _ _ ?_ (fun hHeld=>?_)
         ·exact BG.both (g:=w.heap.size) (by repeat (first | with_reducible exact b8 | with_reducible exact b7 | with_reducible exact b6 | with_reducible exact b5 | with_reducible apply BG.alloc | with_reducible apply BG.drew))
         clear hK KO
         try simp only[Act.put,σa,σb,σc]
         refine wpAnyH_ready (rs:=[22]) (by kernel_rfl) (by simp) ?_
         refine AllReadyH.cons rfl (fun KO hK=>?_) ?_
         ·skip
          go_simp
          skip
          refine hK.out _ _ ?_ (fun hHeld=>?_)
          ·exact BG.both (g:=w.heap.size) (by repeat (first | with_reducible exact b8 | with_reducible exact b7 | with_reducible exact b6 | with_reducible exact b5 | with_reducible apply BG.alloc | with_reducible apply BG.drew))
          clear hK KO
          try simp only[Act.put,σa,σb,σc]
          refine wpAnyH_ready (rs:=[23]) (by kernel_rfl) (by simp) ?_
          refine AllReadyH.cons rfl (fun KO hK=>?_) ?_
          ·skip
           refine step_append_any _ (by rfl) (.tmp 69) (.tmp 71) _ (by rfl) 0 31 (.pointer none) 1 8 Tryz.underlying51 info31p rfl (by omega) (.slice Ap K.length cp) K.length (K.map fun x=>.pointer (some ⟨x.p,0,none⟩)) (by rfl) (by exact BG.r2 (show BG w5 cc w.heap.size _ _ _ _ _ _ _ _ _ _ _ from (by repeat (first | with_reducible apply BG.alloc | with_reducible apply BG.drew | with_reducible exact b7 | with_reducible exact b6 | with_reducible exact b5)))) (fun _=>True) _ 1 1 [.pointer (some ⟨p5,0,none⟩)] (by rfl) (by exact rd_blk (t:=31) _ (by repeat (first | with_reducible exact blk_n (by first | (simp;done) | rfl) | with_reducible refine Blk.alloc ?_ _ | with_reducible refine Blk.drew ?_ | with_reducible refine Blk.grown ?_ hgr7 (fun e=>by have:=HLt.out _ e.symm;first | omega | (simp at this;omega)) | with_reducible refine Blk.grown ?_ hgr6 (fun e=>by have:=HLm.out _ e.symm;first | omega | (simp at this;omega)))) rfl) (by intro u hu;simp at hu;rcases hu with rfl <;> rfl) (by simp only[maxLen];omega) (by omega) (Nat.zero_le _) ?_
           intro A8 c8 w8 hown8 hgr8 hat8
           have b8:=BG.grow2 (by repeat (first | with_reducible apply BG.alloc | with_reducible apply BG.drew | with_reducible exact b7 | with_reducible exact b6 | with_reducible exact b5)) hgr8 hown8 hat8
           obtain ⟨z8a,z8b,z8c⟩:=b8.b.facts
           have s8:=b8.fr.size
           have z8d:=b8.b.cell 0
           have z8e:=b8.b.cell 1
           have z8f:=b8.b.cell 2
           skip
           refine hK.out _ _ ?_ (fun hHeld=>?_)
           ·exact BG.both (g:=w.heap.size) (by repeat (first | with_reducible exact b8 | with_reducible exact b7 | with_reducible exact b6 | with_reducible exact b5 | with_reducible apply BG.alloc | with_reducible apply BG.drew))
           clear hK KO
           try simp only[Act.put,σa,σb,σc]
           refine wpAnyH_done (by kernel_rfl) ?_ _
           skip
           refine tail_go (L:=#[true,true,true,true,true,true,true,true,true,true,true,true,true,true,true,true,true,true,true,true,true,true,true,true,false,false,false,false,false,false,false,false,false]) (by rfl) ?_
           refine wpAnyH_take (i:=24) (v:=?v66) rfl (by kernel_rfl) (by kernel_rfl) (by kernel_rfl) (fun _ _ _ h=>h) (Or.inl ⟨by rfl,?hy66⟩) trivial ?rest66
           case hy66=>
            intro w _
            go_simp
            try with_reducible rfl
           try simp only[Act.put,σa,σb,σc]
           refine wpAnyH_take (i:=25) (v:=?v67) rfl (by kernel_rfl) (by kernel_rfl) (by kernel_rfl) (fun _ _ _ h=>h) (Or.inl ⟨by rfl,?hy67⟩) trivial ?rest67
           case hy67=>
            intro w _
            go_simp
            try with_reducible rfl
           try simp only[Act.put,σa,σb,σc]
           refine wpAnyH_ready (rs:=[26]) (by kernel_rfl) (by simp) ?_
           refine AllReadyH.cons rfl (fun KO hK=>?_) AllReadyH.nil
           go_simp
           refine hK.out _ _ trivial (fun _=>?_)
           clear hK KO
           try simp only[Act.put,σa,σb,σc]
           refine wpAnyH_take (i:=27) (v:=?v68) rfl (by kernel_rfl) (by kernel_rfl) (by kernel_rfl) (fun _ _ _ h=>h) (Or.inl ⟨by rfl,?hy68⟩) trivial ?rest68
           case hy68=>
            intro w _
            go_simp
            try with_reducible rfl
           try simp only[Act.put,σa,σb,σc]
           refine wpAnyH_take (i:=28) (v:=?v69) rfl (by kernel_rfl) (by kernel_rfl) (by kernel_rfl) (fun _ _ _ h=>h) (Or.inl ⟨by rfl,?hy69⟩) trivial ?rest69
           case hy69=>
            intro w _
            go_simp
            try with_reducible rfl
           try simp only[Act.put,σa,σb,σc]
           refine wpAnyH_ready (rs:=[29]) (by kernel_rfl) (by simp) ?_
           refine AllReadyH.cons rfl (fun KO hK=>?_) AllReadyH.nil
           go_simp
           refine hK.out _ _ trivial (fun _=>?_)
           clear hK KO
           try simp only[Act.put,σa,σb,σc]
           refine wpAnyH_take (i:=30) (v:=?v70) rfl (by kernel_rfl) (by kernel_rfl) (by kernel_rfl) (fun _ _ _ h=>h) (Or.inl ⟨by rfl,?hy70⟩) trivial ?rest70
           case hy70=>
            intro w _
            go_simp
            try with_reducible rfl
           try simp only[Act.put,σa,σb,σc]
           refine wpAnyH_take (i:=31) (v:=?v71) rfl (by kernel_rfl) (by kernel_rfl) (by kernel_rfl) (fun _ _ _ h=>h) (Or.inl ⟨by rfl,?hy71⟩) trivial ?rest71
           case hy71=>
            intro w _
            go_simp
            try with_reducible rfl
           try simp only[Act.put,σa,σb,σc]
           refine wpAnyH_ready (rs:=[32]) (by kernel_rfl) (by simp) ?_
           refine AllReadyH.cons rfl (fun KO hK=>?_) AllReadyH.nil
           go_simp
           refine hK.out _ _ trivial (fun _=>?_)
           clear hK KO
           try simp only[Act.put,σa,σb,σc]
           refine wpAnyH_done (by kernel_rfl) ?_ _
           go_wp2_with fail
           go_meet
           exact FIN.out _ A6 c6 A7 c7 A8 c8 (((b8.set HGC.out 0 _).set HGC.out 2 _).set HGC.out 1 _)
          exact AllReadyH.nil
         exact AllReadyH.nil
        refine AllReadyH.cons rfl (fun KO hK=>?_) ?_
        ·skip
         go_simp
         skip
         refine hK.out _ _ ?_ (fun hHeld=>?_)
         ·exact BG.both (g:=w.heap.size) (by repeat (first | with_reducible exact b8 | with_reducible exact b7 | with_reducible exact b6 | with_reducible exact b5 | with_reducible apply BG.alloc | with_reducible apply BG.drew))
         clear hK KO
         try simp only[Act.put,σa,σb,σc]
         refine wpAnyH_ready (rs:=[16]) (by kernel_rfl) (by simp) ?_
         refine AllReadyH.cons rfl (fun KO hK=>?_) ?_
         ·skip
          refine step_append_any _ (by rfl) (.tmp 62) (.tmp 64) _ (by rfl) 0 36 (.pointer none) 1 8 Tryz.underlying52 info36p rfl (by omega) (.slice At K.length ct) K.length (K.map fun x=>.pointer (some ⟨x.f,0,none⟩)) (by rfl) (by exact BG.r1 (show BG w5 cc w.heap.size _ _ _ _ _ _ _ _ _ _ _ from (by repeat (first | with_reducible apply BG.alloc | with_reducible apply BG.drew | with_reducible exact b7 | with_reducible exact b6 | with_reducible exact b5)))) (fun _=>True) _ 1 1 [.pointer (some ⟨W2.heap.size,0,none⟩)] (by rfl) (by exact rd_blk (t:=36) _ (by repeat (first | with_reducible exact blk_n (by first | (simp;done) | rfl) | with_reducible refine Blk.alloc ?_ _ | with_reducible refine Blk.drew ?_ | with_reducible refine Blk.grown ?_ hgr6 (fun e=>by have:=HLm.out _ e.symm;first | omega | (simp at this;omega)))) rfl) (by intro u hu;simp at hu;rcases hu with rfl <;> rfl) (by simp only[maxLen];omega) (by omega) (Nat.zero_le _) ?_
          intro A7 c7 w7 hown7 hgr7 hat7
          have b7:=BG.grow1 (by repeat (first | with_reducible apply BG.alloc | with_reducible apply BG.drew | with_reducible exact b7 | with_reducible exact b6 | with_reducible exact b5)) hgr7 hown7 hat7
          obtain ⟨z7a,z7b,z7c⟩:=b7.b.facts
          have s7:=b7.fr.size
          have z7d:=b7.b.cell 0
          have z7e:=b7.b.cell 1
          have z7f:=b7.b.cell 2
          skip
          refine hK.out _ _ ?_ (fun hHeld=>?_)
          ·exact BG.both (g:=w.heap.size) (by repeat (first | with_reducible exact b8 | with_reducible exact b7 | with_reducible exact b6 | with_reducible exact b5 | with_reducible apply BG.alloc | with_reducible apply BG.drew))
          clear hK KO
          try simp only[Act.put,σa,σb,σc]
          refine wpAnyH_ready (rs:=[23]) (by kernel_rfl) (by simp) ?_
          refine AllReadyH.cons rfl (fun KO hK=>?_) ?_
          ·skip
           refine step_append_any _ (by rfl) (.tmp 69) (.tmp 71) _ (by rfl) 0 31 (.pointer none) 1 8 Tryz.underlying51 info31p rfl (by omega) (.slice Ap K.length cp) K.length (K.map fun x=>.pointer (some ⟨x.p,0,none⟩)) (by rfl) (by exact BG.r2 (show BG w5 cc w.heap.size _ _ _ _ _ _ _ _ _ _ _ from (by repeat (first | with_reducible apply BG.alloc | with_reducible apply BG.drew | with_reducible exact b7 | with_reducible exact b6 | with_reducible exact b5)))) (fun _=>True) _ 1 1 [.pointer (some ⟨p5,0,none⟩)] (by rfl) (by exact rd_blk (t:=31) _ (by repeat (first | with_reducible exact blk_n (by first | (simp;done) | rfl) | with_reducible refine Blk.alloc ?_ _ | with_reducible refine Blk.drew ?_ | with_reducible refine Blk.grown ?_ hgr7 (fun e=>by have:=HLt.out _ e.symm;first | omega | (simp at this;omega)) | with_reducible refine Blk.grown ?_ hgr6 (fun e=>by have:=HLm.out _ e.symm;first | omega | (simp at this;omega)))) rfl) (by intro u hu;simp at hu;rcases hu with rfl <;> rfl) (by simp only[maxLen];omega) (by omega) (Nat.zero_le _) ?_
           intro A8 c8 w8 hown8 hgr8 hat8
           have b8:=BG.grow2 (by repeat (first | with_reducible apply BG.alloc | with_reducible apply BG.drew | with_reducible exact b7 | with_reducible exact b6 | with_reducible exact b5)) hgr8 hown8 hat8
           obtain ⟨z8a,z8b,z8c⟩:=b8.b.facts
           have s8:=b8.fr.size
           have z8d:=b8.b.cell 0
           have z8e:=b8.b.cell 1
           have z8f:=b8.b.cell 2
           skip
           refine hK.out _ _ ?_ (fun hHeld=>?_)
           ·exact BG.both (g:=w.heap.size) (by repeat (first | with_reducible exact b8 | with_reducible exact b7 | with_reducible exact b6 | with_reducible exact b5 | with_reducible apply BG.alloc | with_reducible apply BG.drew))
           clear hK KO
           try simp only[Act.put,σa,σb,σc]
           refine wpAnyH_done (by kernel_rfl) ?_ _
           skip
           refine tail_go (L:=#[true,true,true,true,true,true,true,true,true,true,true,true,true,true,true,true,true,true,true,true,true,true,true,true,false,false,false,false,false,false,false,false,false]) (by rfl) ?_
           refine wpAnyH_take (i:=24) (v:=?v72) rfl (by kernel_rfl) (by kernel_rfl) (by kernel_rfl) (fun _ _ _ h=>h) (Or.inl ⟨by rfl,?hy72⟩) trivial ?rest72
           case hy72=>
            intro w _
            go_simp
            try with_reducible rfl
           try simp only[Act.put,σa,σb,σc]
           refine wpAnyH_take (i:=25) (v:=?v73) rfl (by kernel_rfl) (by kernel_rfl) (by kernel_rfl) (fun _ _ _ h=>h) (Or.inl ⟨by rfl,?hy73⟩) trivial ?rest73
           case hy73=>
            intro w _
            go_simp
            try with_reducible rfl
           try simp only[Act.put,σa,σb,σc]
           refine wpAnyH_ready (rs:=[26]) (by kernel_rfl) (by simp) ?_
           refine AllReadyH.cons rfl (fun KO hK=>?_) AllReadyH.nil
           go_simp
           refine hK.out _ _ trivial (fun _=>?_)
           clear hK KO
           try simp only[Act.put,σa,σb,σc]
           refine wpAnyH_take (i:=27) (v:=?v74) rfl (by kernel_rfl) (by kernel_rfl) (by kernel_rfl) (fun _ _ _ h=>h) (Or.inl ⟨by rfl,?hy74⟩) trivial ?rest74
           case hy74=>
            intro w _
            go_simp
            try with_reducible rfl
           try simp only[Act.put,σa,σb,σc]
           refine wpAnyH_take (i:=28) (v:=?v75) rfl (by kernel_rfl) (by kernel_rfl) (by kernel_rfl) (fun _ _ _ h=>h) (Or.inl ⟨by rfl,?hy75⟩) trivial ?rest75
           case hy75=>
            intro w _
            go_simp
            try with_reducible rfl
           try simp only[Act.put,σa,σb,σc]
           refine wpAnyH_ready (rs:=[29]) (by kernel_rfl) (by simp) ?_
           refine AllReadyH.cons rfl (fun KO hK=>?_) AllReadyH.nil
           go_simp
           refine hK.out _ _ trivial (fun _=>?_)
           clear hK KO
           try simp only[Act.put,σa,σb,σc]
           refine wpAnyH_take (i:=30) (v:=?v76) rfl (by kernel_rfl) (by kernel_rfl) (by kernel_rfl) (fun _ _ _ h=>h) (Or.inl ⟨by rfl,?hy76⟩) trivial ?rest76
           case hy76=>
            intro w _
            go_simp
            try with_reducible rfl
           try simp only[Act.put,σa,σb,σc]
           refine wpAnyH_take (i:=31) (v:=?v77) rfl (by kernel_rfl) (by kernel_rfl) (by kernel_rfl) (fun _ _ _ h=>h) (Or.inl ⟨by rfl,?hy77⟩) trivial ?rest77
           case hy77=>
            intro w _
            go_simp
            try with_reducible rfl
           try simp only[Act.put,σa,σb,σc]
           refine wpAnyH_ready (rs:=[32]) (by kernel_rfl) (by simp) ?_
           refine AllReadyH.cons rfl (fun KO hK=>?_) AllReadyH.nil
           go_simp
           refine hK.out _ _ trivial (fun _=>?_)
           clear hK KO
           try simp only[Act.put,σa,σb,σc]
           refine wpAnyH_done (by kernel_rfl) ?_ _
           go_wp2_with fail
           go_meet
           exact FIN.out _ A6 c6 A7 c7 A8 c8 (((b8.set HGC.out 0 _).set HGC.out 2 _).set HGC.out 1 _)
          exact AllReadyH.nil
         exact AllReadyH.nil
        exact AllReadyH.nil
       refine AllReadyH.cons rfl (fun KO hK=>?_) ?_
       ·skip
        go_simp
        skip
        refine hK.out _ _ ?_ (fun hHeld=>?_)
        ·exact BG.both (g:=w.heap.size) (by repeat (first | with_reducible exact b8 | with_reducible exact b7 | with_reducible exact b6 | with_reducible exact b5 | with_reducible apply BG.alloc | with_reducible apply BG.drew))
        clear hK KO
        try simp only[Act.put,σa,σb,σc]
        refine wpAnyH_ready (rs:=[9]) (by kernel_rfl) (by simp) ?_
        refine AllReadyH.cons rfl (fun KO hK=>?_) ?_
        ·skip
         refine step_append_any _ (by rfl) (.tmp 55) (.tmp 57) _ (by rfl) 0 26 (.agg #[.int .i64 0,.slice none 0 0,.slice none 0 0,.int .i64 0,.int .i64 0,.int .i64 0]) 6 80 Tryz.underlying50 info26p rfl (by omega) (.slice Am K.length cm) K.length ((List.range K.length).flatMap (mdR fo)) (by rfl) (by exact BG.r0 (show BG w5 cc w.heap.size _ _ _ _ _ _ _ _ _ _ _ from (by repeat (first | with_reducible apply BG.alloc | with_reducible apply BG.drew | with_reducible exact b7 | with_reducible exact b6 | with_reducible exact b5)))) (fun _=>True) _ 1 1 [.int .i64 (j:Int),.slice A i c,.slice none 0 0,.int .i64 (8+2 * (j:Int)),.int .i64 2,.int .i64 0] (by rfl) (by exact rd_blk (t:=26) _ (by repeat (first | with_reducible exact blk_n (by first | (simp;done) | rfl) | with_reducible refine Blk.alloc ?_ _ | with_reducible refine Blk.drew ?_)) rfl) (by intro u hu;simp at hu;rcases hu with rfl | rfl | rfl | rfl | rfl | rfl <;> rfl) (by simp only[maxLen];omega) (by omega) (Nat.zero_le _) ?_
         intro A6 c6 w6 hown6 hgr6 hat6
         have b6:=BG.grow0 (by repeat (first | with_reducible apply BG.alloc | with_reducible apply BG.drew | with_reducible exact b7 | with_reducible exact b6 | with_reducible exact b5)) hgr6 hown6 hat6
         obtain ⟨z6a,z6b,z6c⟩:=b6.b.facts
         have s6:=b6.fr.size
         have z6d:=b6.b.cell 0
         have z6e:=b6.b.cell 1
         have z6f:=b6.b.cell 2
         skip
         refine hK.out _ _ ?_ (fun hHeld=>?_)
         ·exact BG.both (g:=w.heap.size) (by repeat (first | with_reducible exact b8 | with_reducible exact b7 | with_reducible exact b6 | with_reducible exact b5 | with_reducible apply BG.alloc | with_reducible apply BG.drew))
         clear hK KO
         try simp only[Act.put,σa,σb,σc]
         refine wpAnyH_ready (rs:=[16]) (by kernel_rfl) (by simp) ?_
         refine AllReadyH.cons rfl (fun KO hK=>?_) ?_
         ·skip
          refine step_append_any _ (by rfl) (.tmp 62) (.tmp 64) _ (by rfl) 0 36 (.pointer none) 1 8 Tryz.underlying52 info36p rfl (by omega) (.slice At K.length ct) K.length (K.map fun x=>.pointer (some ⟨x.f,0,none⟩)) (by rfl) (by exact BG.r1 (show BG w5 cc w.heap.size _ _ _ _ _ _ _ _ _ _ _ from (by repeat (first | with_reducible apply BG.alloc | with_reducible apply BG.drew | with_reducible exact b7 | with_reducible exact b6 | with_reducible exact b5)))) (fun _=>True) _ 1 1 [.pointer (some ⟨W2.heap.size,0,none⟩)] (by rfl) (by exact rd_blk (t:=36) _ (by repeat (first | with_reducible exact blk_n (by first | (simp;done) | rfl) | with_reducible refine Blk.alloc ?_ _ | with_reducible refine Blk.drew ?_ | with_reducible refine Blk.grown ?_ hgr6 (fun e=>by have:=HLm.out _ e.symm;first | omega | (simp at this;omega)))) rfl) (by intro u hu;simp at hu;rcases hu with rfl <;> rfl) (by simp only[maxLen];omega) (by omega) (Nat.zero_le _) ?_
          intro A7 c7 w7 hown7 hgr7 hat7
          have b7:=BG.grow1 (by repeat (first | with_reducible apply BG.alloc | with_reducible apply BG.drew | with_reducible exact b7 | with_reducible exact b6 | with_reducible exact b5)) hgr7 hown7 hat7
          obtain ⟨z7a,z7b,z7c⟩:=b7.b.facts
          have s7:=b7.fr.size
          have z7d:=b7.b.cell 0
          have z7e:=b7.b.cell 1
          have z7f:=b7.b.cell 2
          skip
          refine hK.out _ _ ?_ (fun hHeld=>?_)
          ·exact BG.both (g:=w.heap.size) (by repeat (first | with_reducible exact b8 | with_reducible exact b7 | with_reducible exact b6 | with_reducible exact b5 | with_reducible apply BG.alloc | with_reducible apply BG.drew))
          clear hK KO
          try simp only[Act.put,σa,σb,σc]
          refine wpAnyH_ready (rs:=[23]) (by kernel_rfl) (by simp) ?_
          refine AllReadyH.cons rfl (fun KO hK=>?_) ?_
          ·skip
           refine step_append_any _ (by rfl) (.tmp 69) (.tmp 71) _ (by rfl) 0 31 (.pointer none) 1 8 Tryz.underlying51 info31p rfl (by omega) (.slice Ap K.length cp) K.length (K.map fun x=>.pointer (some ⟨x.p,0,none⟩)) (by rfl) (by exact BG.r2 (show BG w5 cc w.heap.size _ _ _ _ _ _ _ _ _ _ _ from (by repeat (first | with_reducible apply BG.alloc | with_reducible apply BG.drew | with_reducible exact b7 | with_reducible exact b6 | with_reducible exact b5)))) (fun _=>True) _ 1 1 [.pointer (some ⟨p5,0,none⟩)] (by rfl) (by exact rd_blk (t:=31) _ (by repeat (first | with_reducible exact blk_n (by first | (simp;done) | rfl) | with_reducible refine Blk.alloc ?_ _ | with_reducible refine Blk.drew ?_ | with_reducible refine Blk.grown ?_ hgr7 (fun e=>by have:=HLt.out _ e.symm;first | omega | (simp at this;omega)) | with_reducible refine Blk.grown ?_ hgr6 (fun e=>by have:=HLm.out _ e.symm;first | omega | (simp at this;omega)))) rfl) (by intro u hu;simp at hu;rcases hu with rfl <;> rfl) (by simp only[maxLen];omega) (by omega) (Nat.zero_le _) ?_
           intro A8 c8 w8 hown8 hgr8 hat8
           have b8:=BG.grow2 (by repeat (first | with_reducible apply BG.alloc | with_reducible apply BG.drew | with_reducible exact b7 | with_reducible exact b6 | with_reducible exact b5)) hgr8 hown8 hat8
           obtain ⟨z8a,z8b,z8c⟩:=b8.b.facts
           have s8:=b8.fr.size
           have z8d:=b8.b.cell 0
           have z8e:=b8.b.cell 1
           have z8f:=b8.b.cell 2
           skip
           refine hK.out _ _ ?_ (fun hHeld=>?_)
           ·exact BG.both (g:=w.heap.size) (by repeat (first | with_reducible exact b8 | with_reducible exact b7 | with_reducible exact b6 | with_reducible exact b5 | with_reducible apply BG.alloc | with_reducible apply BG.drew))
           clear hK KO
           try simp only[Act.put,σa,σb,σc]
           refine wpAnyH_done (by kernel_rfl) ?_ _
           skip
           refine tail_go (L:=#[true,true,true,true,true,true,true,true,true,true,true,true,true,true,true,true,true,true,true,true,true,true,true,true,false,false,false,false,false,false,false,false,false]) (by rfl) ?_
           refine wpAnyH_take (i:=24) (v:=?v78) rfl (by kernel_rfl) (by kernel_rfl) (by kernel_rfl) (fun _ _ _ h=>h) (Or.inl ⟨by rfl,?hy78⟩) trivial ?rest78
           case hy78=>
            intro w _
            go_simp
            try with_reducible rfl
           try simp only[Act.put,σa,σb,σc]
           refine wpAnyH_take (i:=25) (v:=?v79) rfl (by kernel_rfl) (by kernel_rfl) (by kernel_rfl) (fun _ _ _ h=>h) (Or.inl ⟨by rfl,?hy79⟩) trivial ?rest79
           case hy79=>
            intro w _
            go_simp
            try with_reducible rfl
           try simp only[Act.put,σa,σb,σc]
           refine wpAnyH_ready (rs:=[26]) (by kernel_rfl) (by simp) ?_
           refine AllReadyH.cons rfl (fun KO hK=>?_) AllReadyH.nil
           go_simp
           refine hK.out _ _ trivial (fun _=>?_)
           clear hK KO
           try simp only[Act.put,σa,σb,σc]
           refine wpAnyH_take (i:=27) (v:=?v80) rfl (by kernel_rfl) (by kernel_rfl) (by kernel_rfl) (fun _ _ _ h=>h) (Or.inl ⟨by rfl,?hy80⟩) trivial ?rest80
           case hy80=>
            intro w _
            go_simp
            try with_reducible rfl
           try simp only[Act.put,σa,σb,σc]
           refine wpAnyH_take (i:=28) (v:=?v81) rfl (by kernel_rfl) (by kernel_rfl) (by kernel_rfl) (fun _ _ _ h=>h) (Or.inl ⟨by rfl,?hy81⟩) trivial ?rest81
           case hy81=>
            intro w _
            go_simp
            try with_reducible rfl
           try simp only[Act.put,σa,σb,σc]
           refine wpAnyH_ready (rs:=[29]) (by kernel_rfl) (by simp) ?_
           refine AllReadyH.cons rfl (fun KO hK=>?_) AllReadyH.nil
           go_simp
           refine hK.out _ _ trivial (fun _=>?_)
           clear hK KO
           try simp only[Act.put,σa,σb,σc]
           refine wpAnyH_take (i:=30) (v:=?v82) rfl (by kernel_rfl) (by kernel_rfl) (by kernel_rfl) (fun _ _ _ h=>h) (Or.inl ⟨by rfl,?hy82⟩) trivial ?rest82
           case hy82=>
            intro w _
            go_simp
            try with_reducible rfl
           try simp only[Act.put,σa,σb,σc]
           refine wpAnyH_take (i:=31) (v:=?v83) rfl (by kernel_rfl) (by kernel_rfl) (by kernel_rfl) (fun _ _ _ h=>h) (Or.inl ⟨by rfl,?hy83⟩) trivial ?rest83
           case hy83=>
            intro w _
            go_simp
            try with_reducible rfl
           try simp only[Act.put,σa,σb,σc]
           refine wpAnyH_ready (rs:=[32]) (by kernel_rfl) (by simp) ?_
           refine AllReadyH.cons rfl (fun KO hK=>?_) AllReadyH.nil
           go_simp
           refine hK.out _ _ trivial (fun _=>?_)
           clear hK KO
           try simp only[Act.put,σa,σb,σc]
           refine wpAnyH_done (by kernel_rfl) ?_ _
           go_wp2_with fail
           go_meet
           exact FIN.out _ A6 c6 A7 c7 A8 c8 (((b8.set HGC.out 0 _).set HGC.out 2 _).set HGC.out 1 _)
          exact AllReadyH.nil
         exact AllReadyH.nil
        exact AllReadyH.nil
       exact AllReadyH.nil
      refine AllReadyH.cons rfl (fun KO hK=>?_) ?_
      ·skip
       go_simp
       skip
       refine hK.out _ _ ?_ (fun hHeld=>?_)
       ·exact BG.both (g:=w.heap.size) (by repeat (first | with_reducible exact b8 | with_reducible exact b7 | with_reducible exact b6 | with_reducible exact b5 | with_reducible apply BG.alloc | with_reducible apply BG.drew))
       clear hK KO
       try simp only[Act.put,σa,σb,σc]
       refine wpAnyH_ready (rs:=[8]) (by kernel_rfl) (by simp) ?_
       refine AllReadyH.cons rfl (fun KO hK=>?_) ?_
       ·skip
        go_simp
        skip
        refine hK.out _ _ ?_ (fun hHeld=>?_)
        ·exact BG.both (g:=w.heap.size) (by repeat (first | with_reducible exact b8 | with_reducible exact b7 | with_reducible exact b6 | with_reducible exact b5 | with_reducible apply BG.alloc | with_reducible apply BG.drew))
        clear hK KO
        try simp only[Act.put,σa,σb,σc]
        refine wpAnyH_ready (rs:=[9]) (by kernel_rfl) (by simp) ?_
        refine AllReadyH.cons rfl (fun KO hK=>?_) ?_
        ·skip
         refine step_append_any _ (by rfl) (.tmp 55) (.tmp 57) _ (by rfl) 0 26 (.agg #[.int .i64 0,.slice none 0 0,.slice none 0 0,.int .i64 0,.int .i64 0,.int .i64 0]) 6 80 Tryz.underlying50 info26p rfl (by omega) (.slice Am K.length cm) K.length ((List.range K.length).flatMap (mdR fo)) (by rfl) (by exact BG.r0 (show BG w5 cc w.heap.size _ _ _ _ _ _ _ _ _ _ _ from (by repeat (first | with_reducible apply BG.alloc | with_reducible apply BG.drew | with_reducible exact b7 | with_reducible exact b6 | with_reducible exact b5)))) (fun _=>True) _ 1 1 [.int .i64 (j:Int),.slice A i c,.slice none 0 0,.int .i64 (8+2 * (j:Int)),.int .i64 2,.int .i64 0] (by rfl) (by exact rd_blk (t:=26) _ (by repeat (first | with_reducible exact blk_n (by first | (simp;done) | rfl) | with_reducible refine Blk.alloc ?_ _ | with_reducible refine Blk.drew ?_)) rfl) (by intro u hu;simp at hu;rcases hu with rfl | rfl | rfl | rfl | rfl | rfl <;> rfl) (by simp only[maxLen];omega) (by omega) (Nat.zero_le _) ?_
         intro A6 c6 w6 hown6 hgr6 hat6
         have b6:=BG.grow0 (by repeat (first | with_reducible apply BG.alloc | with_reducible apply BG.drew | with_reducible exact b7 | with_reducible exact b6 | with_reducible exact b5)) hgr6 hown6 hat6
         obtain ⟨z6a,z6b,z6c⟩:=b6.b.facts
         have s6:=b6.fr.size
         have z6d:=b6.b.cell 0
         have z6e:=b6.b.cell 1
         have z6f:=b6.b.cell 2
         skip
         refine hK.out _ _ ?_ (fun hHeld=>?_)
         ·exact BG.both (g:=w.heap.size) (by repeat (first | with_reducible exact b8 | with_reducible exact b7 | with_reducible exact b6 | with_reducible exact b5 | with_reducible apply BG.alloc | with_reducible apply BG.drew))
         clear hK KO
         try simp only[Act.put,σa,σb,σc]
         refine wpAnyH_ready (rs:=[16]) (by kernel_rfl) (by simp) ?_
         refine AllReadyH.cons rfl (fun KO hK=>?_) ?_
         ·skip
          refine step_append_any _ (by rfl) (.tmp 62) (.tmp 64) _ (by rfl) 0 36 (.pointer none) 1 8 Tryz.underlying52 info36p rfl (by omega) (.slice At K.length ct) K.length (K.map fun x=>.pointer (some ⟨x.f,0,none⟩)) (by rfl) (by exact BG.r1 (show BG w5 cc w.heap.size _ _ _ _ _ _ _ _ _ _ _ from (by repeat (first | with_reducible apply BG.alloc | with_reducible apply BG.drew | with_reducible exact b7 | with_reducible exact b6 | with_reducible exact b5)))) (fun _=>True) _ 1 1 [.pointer (some ⟨W2.heap.size,0,none⟩)] (by rfl) (by exact rd_blk (t:=36) _ (by repeat (first | with_reducible exact blk_n (by first | (simp;done) | rfl) | with_reducible refine Blk.alloc ?_ _ | with_reducible refine Blk.drew ?_ | with_reducible refine Blk.grown ?_ hgr6 (fun e=>by have:=HLm.out _ e.symm;first | omega | (simp at this;omega)))) rfl) (by intro u hu;simp at hu;rcases hu with rfl <;> rfl) (by simp only[maxLen];omega) (by omega) (Nat.zero_le _) ?_
          intro A7 c7 w7 hown7 hgr7 hat7
          have b7:=BG.grow1 (by repeat (first | with_reducible apply BG.alloc | with_reducible apply BG.drew | with_reducible exact b7 | with_reducible exact b6 | with_reducible exact b5)) hgr7 hown7 hat7
          obtain ⟨z7a,z7b,z7c⟩:=b7.b.facts
          have s7:=b7.fr.size
          have z7d:=b7.b.cell 0
          have z7e:=b7.b.cell 1
          have z7f:=b7.b.cell 2
          skip
          refine hK.out _ _ ?_ (fun hHeld=>?_)
          ·exact BG.both (g:=w.heap.size) (by repeat (first | with_reducible exact b8 | with_reducible exact b7 | with_reducible exact b6 | with_reducible exact b5 | with_reducible apply BG.alloc | with_reducible apply BG.drew))
          clear hK KO
          try simp only[Act.put,σa,σb,σc]
          refine wpAnyH_ready (rs:=[23]) (by kernel_rfl) (by simp) ?_
          refine AllReadyH.cons rfl (fun KO hK=>?_) ?_
          ·skip
           refine step_append_any _ (by rfl) (.tmp 69) (.tmp 71) _ (by rfl) 0 31 (.pointer none) 1 8 Tryz.underlying51 info31p rfl (by omega) (.slice Ap K.length cp) K.length (K.map fun x=>.pointer (some ⟨x.p,0,none⟩)) (by rfl) (by exact BG.r2 (show BG w5 cc w.heap.size _ _ _ _ _ _ _ _ _ _ _ from (by repeat (first | with_reducible apply BG.alloc | with_reducible apply BG.drew | with_reducible exact b7 | with_reducible exact b6 | with_reducible exact b5)))) (fun _=>True) _ 1 1 [.pointer (some ⟨p5,0,none⟩)] (by rfl) (by exact rd_blk (t:=31) _ (by repeat (first | with_reducible exact blk_n (by first | (simp;done) | rfl) | with_reducible refine Blk.alloc ?_ _ | with_reducible refine Blk.drew ?_ | with_reducible refine Blk.grown ?_ hgr7 (fun e=>by have:=HLt.out _ e.symm;first | omega | (simp at this;omega)) | with_reducible refine Blk.grown ?_ hgr6 (fun e=>by have:=HLm.out _ e.symm;first | omega | (simp at this;omega)))) rfl) (by intro u hu;simp at hu;rcases hu with rfl <;> rfl) (by simp only[maxLen];omega) (by omega) (Nat.zero_le _) ?_
           intro A8 c8 w8 hown8 hgr8 hat8
           have b8:=BG.grow2 (by repeat (first | with_reducible apply BG.alloc | with_reducible apply BG.drew | with_reducible exact b7 | with_reducible exact b6 | with_reducible exact b5)) hgr8 hown8 hat8
           obtain ⟨z8a,z8b,z8c⟩:=b8.b.facts
           have s8:=b8.fr.size
           have z8d:=b8.b.cell 0
           have z8e:=b8.b.cell 1
           have z8f:=b8.b.cell 2
           skip
           refine hK.out _ _ ?_ (fun hHeld=>?_)
           ·exact BG.both (g:=w.heap.size) (by repeat (first | with_reducible exact b8 | with_reducible exact b7 | with_reducible exact b6 | with_reducible exact b5 | with_reducible apply BG.alloc | with_reducible apply BG.drew))
           clear hK KO
           try simp only[Act.put,σa,σb,σc]
           refine wpAnyH_done (by kernel_rfl) ?_ _
           skip
           refine tail_go (L:=#[true,true,true,true,true,true,true,true,true,true,true,true,true,true,true,true,true,true,true,true,true,true,true,true,false,false,false,false,false,false,false,false,false]) (by rfl) ?_
           refine wpAnyH_take (i:=24) (v:=?v84) rfl (by kernel_rfl) (by kernel_rfl) (by kernel_rfl) (fun _ _ _ h=>h) (Or.inl ⟨by rfl,?hy84⟩) trivial ?rest84
           case hy84=>
            intro w _
            go_simp
            try with_reducible rfl
           try simp only[Act.put,σa,σb,σc]
           refine wpAnyH_take (i:=25) (v:=?v85) rfl (by kernel_rfl) (by kernel_rfl) (by kernel_rfl) (fun _ _ _ h=>h) (Or.inl ⟨by rfl,?hy85⟩) trivial ?rest85
           case hy85=>
            intro w _
            go_simp
            try with_reducible rfl
           try simp only[Act.put,σa,σb,σc]
           refine wpAnyH_ready (rs:=[26]) (by kernel_rfl) (by simp) ?_
           refine AllReadyH.cons rfl (fun KO hK=>?_) AllReadyH.nil
           go_simp
           refine hK.out _ _ trivial (fun _=>?_)
           clear hK KO
           try simp only[Act.put,σa,σb,σc]
           refine wpAnyH_take (i:=27) (v:=?v86) rfl (by kernel_rfl) (by kernel_rfl) (by kernel_rfl) (fun _ _ _ h=>h) (Or.inl ⟨by rfl,?hy86⟩) trivial ?rest86
           case hy86=>
            intro w _
            go_simp
            try with_reducible rfl
           try simp only[Act.put,σa,σb,σc]
           refine wpAnyH_take (i:=28) (v:=?v87) rfl (by kernel_rfl) (by kernel_rfl) (by kernel_rfl) (fun _ _ _ h=>h) (Or.inl ⟨by rfl,?hy87⟩) trivial ?rest87
           case hy87=>
            intro w _
            go_simp
            try with_reducible rfl
           try simp only[Act.put,σa,σb,σc]
           refine wpAnyH_ready (rs:=[29]) (by kernel_rfl) (by simp) ?_
           refine AllReadyH.cons rfl (fun KO hK=>?_) AllReadyH.nil
           go_simp
           refine hK.out _ _ trivial (fun _=>?_)
           clear hK KO
           try simp only[Act.put,σa,σb,σc]
           refine wpAnyH_take (i:=30) (v:=?v88) rfl (by kernel_rfl) (by kernel_rfl) (by kernel_rfl) (fun _ _ _ h=>h) (Or.inl ⟨by rfl,?hy88⟩) trivial ?rest88
           case hy88=>
            intro w _
            go_simp
            try with_reducible rfl
           try simp only[Act.put,σa,σb,σc]
           refine wpAnyH_take (i:=31) (v:=?v89) rfl (by kernel_rfl) (by kernel_rfl) (by kernel_rfl) (fun _ _ _ h=>h) (Or.inl ⟨by rfl,?hy89⟩) trivial ?rest89
           case hy89=>
            intro w _
            go_simp
            try with_reducible rfl
           try simp only[Act.put,σa,σb,σc]
           refine wpAnyH_ready (rs:=[32]) (by kernel_rfl) (by simp) ?_
           refine AllReadyH.cons rfl (fun KO hK=>?_) AllReadyH.nil
           go_simp
           refine hK.out _ _ trivial (fun _=>?_)
           clear hK KO
           try simp only[Act.put,σa,σb,σc]
           refine wpAnyH_done (by kernel_rfl) ?_ _
           go_wp2_with fail
           go_meet
           exact FIN.out _ A6 c6 A7 c7 A8 c8 (((b8.set HGC.out 0 _).set HGC.out 2 _).set HGC.out 1 _)
          exact AllReadyH.nil
         exact AllReadyH.nil
        exact AllReadyH.nil
       exact AllReadyH.nil
      exact AllReadyH.nil
     refine AllReadyH.cons rfl (fun KO hK=>?_) ?_
     ·skip
      go_simp
      skip
      refine hK.out _ _ ?_ (fun hHeld=>?_)
      ·exact BG.both (g:=w.heap.size) (by repeat (first | with_reducible exact b8 | with_reducible exact b7 | with_reducible exact b6 | with_reducible exact b5 | with_reducible apply BG.alloc | with_reducible apply BG.drew))
      clear hK KO
      try simp only[Act.put,σa,σb,σc]
      refine wpAnyH_ready (rs:=[8,15]) (by kernel_rfl) (by simp) ?_
      refine AllReadyH.cons rfl (fun KO hK=>?_) ?_
      ·skip
       go_simp
       skip
       refine hK.out _ _ ?_ (fun hHeld=>?_)
       ·exact BG.both (g:=w.heap.size) (by repeat (first | with_reducible exact b8 | with_reducible exact b7 | with_reducible exact b6 | with_reducible exact b5 | with_reducible apply BG.alloc | with_reducible apply BG.drew))
       clear hK KO
       try simp only[Act.put,σa,σb,σc]
       refine wpAnyH_ready (rs:=[9,15]) (by kernel_rfl) (by simp) ?_
       refine AllReadyH.cons rfl (fun KO hK=>?_) ?_
       ·skip
        refine step_append_any _ (by rfl) (.tmp 55) (.tmp 57) _ (by rfl) 0 26 (.agg #[.int .i64 0,.slice none 0 0,.slice none 0 0,.int .i64 0,.int .i64 0,.int .i64 0]) 6 80 Tryz.underlying50 info26p rfl (by omega) (.slice Am K.length cm) K.length ((List.range K.length).flatMap (mdR fo)) (by rfl) (by exact BG.r0 (show BG w5 cc w.heap.size _ _ _ _ _ _ _ _ _ _ _ from (by repeat (first | with_reducible apply BG.alloc | with_reducible apply BG.drew | with_reducible exact b7 | with_reducible exact b6 | with_reducible exact b5)))) (fun _=>True) _ 1 1 [.int .i64 (j:Int),.slice A i c,.slice none 0 0,.int .i64 (8+2 * (j:Int)),.int .i64 2,.int .i64 0] (by rfl) (by exact rd_blk (t:=26) _ (by repeat (first | with_reducible exact blk_n (by first | (simp;done) | rfl) | with_reducible refine Blk.alloc ?_ _ | with_reducible refine Blk.drew ?_)) rfl) (by intro u hu;simp at hu;rcases hu with rfl | rfl | rfl | rfl | rfl | rfl <;> rfl) (by simp only[maxLen];omega) (by omega) (Nat.zero_le _) ?_
        intro A6 c6 w6 hown6 hgr6 hat6
        have b6:=BG.grow0 (by repeat (first | with_reducible apply BG.alloc | with_reducible apply BG.drew | with_reducible exact b7 | with_reducible exact b6 | with_reducible exact b5)) hgr6 hown6 hat6
        obtain ⟨z6a,z6b,z6c⟩:=b6.b.facts
        have s6:=b6.fr.size
        have z6d:=b6.b.cell 0
        have z6e:=b6.b.cell 1
        have z6f:=b6.b.cell 2
        skip
        refine hK.out _ _ ?_ (fun hHeld=>?_)
        ·exact BG.both (g:=w.heap.size) (by repeat (first | with_reducible exact b8 | with_reducible exact b7 | with_reducible exact b6 | with_reducible exact b5 | with_reducible apply BG.alloc | with_reducible apply BG.drew))
        clear hK KO
        try simp only[Act.put,σa,σb,σc]
        refine wpAnyH_ready (rs:=[15]) (by kernel_rfl) (by simp) ?_
        refine AllReadyH.cons rfl (fun KO hK=>?_) ?_
        ·skip
         go_simp
         skip
         refine hK.out _ _ ?_ (fun hHeld=>?_)
         ·exact BG.both (g:=w.heap.size) (by repeat (first | with_reducible exact b8 | with_reducible exact b7 | with_reducible exact b6 | with_reducible exact b5 | with_reducible apply BG.alloc | with_reducible apply BG.drew))
         clear hK KO
         try simp only[Act.put,σa,σb,σc]
         refine wpAnyH_ready (rs:=[16]) (by kernel_rfl) (by simp) ?_
         refine AllReadyH.cons rfl (fun KO hK=>?_) ?_
         ·skip
          refine step_append_any _ (by rfl) (.tmp 62) (.tmp 64) _ (by rfl) 0 36 (.pointer none) 1 8 Tryz.underlying52 info36p rfl (by omega) (.slice At K.length ct) K.length (K.map fun x=>.pointer (some ⟨x.f,0,none⟩)) (by rfl) (by exact BG.r1 (show BG w5 cc w.heap.size _ _ _ _ _ _ _ _ _ _ _ from (by repeat (first | with_reducible apply BG.alloc | with_reducible apply BG.drew | with_reducible exact b7 | with_reducible exact b6 | with_reducible exact b5)))) (fun _=>True) _ 1 1 [.pointer (some ⟨W2.heap.size,0,none⟩)] (by rfl) (by exact rd_blk (t:=36) _ (by repeat (first | with_reducible exact blk_n (by first | (simp;done) | rfl) | with_reducible refine Blk.alloc ?_ _ | with_reducible refine Blk.drew ?_ | with_reducible refine Blk.grown ?_ hgr6 (fun e=>by have:=HLm.out _ e.symm;first | omega | (simp at this;omega)))) rfl) (by intro u hu;simp at hu;rcases hu with rfl <;> rfl) (by simp only[maxLen];omega) (by omega) (Nat.zero_le _) ?_
          intro A7 c7 w7 hown7 hgr7 hat7
          have b7:=BG.grow1 (by repeat (first | with_reducible apply BG.alloc | with_reducible apply BG.drew | with_reducible exact b7 | with_reducible exact b6 | with_reducible exact b5)) hgr7 hown7 hat7
          obtain ⟨z7a,z7b,z7c⟩:=b7.b.facts
          have s7:=b7.fr.size
          have z7d:=b7.b.cell 0
          have z7e:=b7.b.cell 1
          have z7f:=b7.b.cell 2
          skip
          refine hK.out _ _ ?_ (fun hHeld=>?_)
          ·exact BG.both (g:=w.heap.size) (by repeat (first | with_reducible exact b8 | with_reducible exact b7 | with_reducible exact b6 | with_reducible exact b5 | with_reducible apply BG.alloc | with_reducible apply BG.drew))
          clear hK KO
          try simp only[Act.put,σa,σb,σc]
          refine wpAnyH_ready (rs:=[23]) (by kernel_rfl) (by simp) ?_
          refine AllReadyH.cons rfl (fun KO hK=>?_) ?_
          ·skip
           refine step_append_any _ (by rfl) (.tmp 69) (.tmp 71) _ (by rfl) 0 31 (.pointer none) 1 8 Tryz.underlying51 info31p rfl (by omega) (.slice Ap K.length cp) K.length (K.map fun x=>.pointer (some ⟨x.p,0,none⟩)) (by rfl) (by exact BG.r2 (show BG w5 cc w.heap.size _ _ _ _ _ _ _ _ _ _ _ from (by repeat (first | with_reducible apply BG.alloc | with_reducible apply BG.drew | with_reducible exact b7 | with_reducible exact b6 | with_reducible exact b5)))) (fun _=>True) _ 1 1 [.pointer (some ⟨p5,0,none⟩)] (by rfl) (by exact rd_blk (t:=31) _ (by repeat (first | with_reducible exact blk_n (by first | (simp;done) | rfl) | with_reducible refine Blk.alloc ?_ _ | with_reducible refine Blk.drew ?_ | with_reducible refine Blk.grown ?_ hgr7 (fun e=>by have:=HLt.out _ e.symm;first | omega | (simp at this;omega)) | with_reducible refine Blk.grown ?_ hgr6 (fun e=>by have:=HLm.out _ e.symm;first | omega | (simp at this;omega)))) rfl) (by intro u hu;simp at hu;rcases hu with rfl <;> rfl) (by simp only[maxLen];omega) (by omega) (Nat.zero_le _) ?_
           intro A8 c8 w8 hown8 hgr8 hat8
           have b8:=BG.grow2 (by repeat (first | with_reducible apply BG.alloc | with_reducible apply BG.drew | with_reducible exact b7 | with_reducible exact b6 | with_reducible exact b5)) hgr8 hown8 hat8
           obtain ⟨z8a,z8b,z8c⟩:=b8.b.facts
           have s8:=b8.fr.size
           have z8d:=b8.b.cell 0
           have z8e:=b8.b.cell 1
           have z8f:=b8.b.cell 2
           skip
           refine hK.out _ _ ?_ (fun hHeld=>?_)
           ·exact BG.both (g:=w.heap.size) (by repeat (first | with_reducible exact b8 | with_reducible exact b7 | with_reducible exact b6 | with_reducible exact b5 | with_reducible apply BG.alloc | with_reducible apply BG.drew))
           clear hK KO
           try simp only[Act.put,σa,σb,σc]
           refine wpAnyH_done (by kernel_rfl) ?_ _
           skip
           refine tail_go (L:=#[true,true,true,true,true,true,true,true,true,true,true,true,true,true,true,true,true,true,true,true,true,true,true,true,false,false,false,false,false,false,false,false,false]) (by rfl) ?_
           refine wpAnyH_take (i:=24) (v:=?v90) rfl (by kernel_rfl) (by kernel_rfl) (by kernel_rfl) (fun _ _ _ h=>h) (Or.inl ⟨by rfl,?hy90⟩) trivial ?rest90
           case hy90=>
            intro w _
            go_simp
            try with_reducible rfl
           try simp only[Act.put,σa,σb,σc]
           refine wpAnyH_take (i:=25) (v:=?v91) rfl (by kernel_rfl) (by kernel_rfl) (by kernel_rfl) (fun _ _ _ h=>h) (Or.inl ⟨by rfl,?hy91⟩) trivial ?rest91
           case hy91=>
            intro w _
            go_simp
            try with_reducible rfl
           try simp only[Act.put,σa,σb,σc]
           refine wpAnyH_ready (rs:=[26]) (by kernel_rfl) (by simp) ?_
           refine AllReadyH.cons rfl (fun KO hK=>?_) AllReadyH.nil
           go_simp
           refine hK.out _ _ trivial (fun _=>?_)
           clear hK KO
           try simp only[Act.put,σa,σb,σc]
           refine wpAnyH_take (i:=27) (v:=?v92) rfl (by kernel_rfl) (by kernel_rfl) (by kernel_rfl) (fun _ _ _ h=>h) (Or.inl ⟨by rfl,?hy92⟩) trivial ?rest92
           case hy92=>
            intro w _
            go_simp
            try with_reducible rfl
           try simp only[Act.put,σa,σb,σc]
           refine wpAnyH_take (i:=28) (v:=?v93) rfl (by kernel_rfl) (by kernel_rfl) (by kernel_rfl) (fun _ _ _ h=>h) (Or.inl ⟨by rfl,?hy93⟩) trivial ?rest93
           case hy93=>
            intro w _
            go_simp
            try with_reducible rfl
           try simp only[Act.put,σa,σb,σc]
           refine wpAnyH_ready (rs:=[29]) (by kernel_rfl) (by simp) ?_
           refine AllReadyH.cons rfl (fun KO hK=>?_) AllReadyH.nil
           go_simp
           refine hK.out _ _ trivial (fun _=>?_)
           clear hK KO
           try simp only[Act.put,σa,σb,σc]
           refine wpAnyH_take (i:=30) (v:=?v94) rfl (by kernel_rfl) (by kernel_rfl) (by kernel_rfl) (fun _ _ _ h=>h) (Or.inl ⟨by rfl,?hy94⟩) trivial ?rest94
           case hy94=>
            intro w _
            go_simp
            try with_reducible rfl
           try simp only[Act.put,σa,σb,σc]
           refine wpAnyH_take (i:=31) (v:=?v95) rfl (by kernel_rfl) (by kernel_rfl) (by kernel_rfl) (fun _ _ _ h=>h) (Or.inl ⟨by rfl,?hy95⟩) trivial ?rest95
           case hy95=>
            intro w _
            go_simp
            try with_reducible rfl
           try simp only[Act.put,σa,σb,σc]
           refine wpAnyH_ready (rs:=[32]) (by kernel_rfl) (by simp) ?_
           refine AllReadyH.cons rfl (fun KO hK=>?_) AllReadyH.nil
           go_simp
           refine hK.out _ _ trivial (fun _=>?_)
           clear hK KO
           try simp only[Act.put,σa,σb,σc]
           refine wpAnyH_done (by kernel_rfl) ?_ _
           go_wp2_with fail
           go_meet
           exact FIN.out _ A6 c6 A7 c7 A8 c8 (((b8.set HGC.out 0 _).set HGC.out 2 _).set HGC.out 1 _)
          exact AllReadyH.nil
         exact AllReadyH.nil
        exact AllReadyH.nil
       refine AllReadyH.cons rfl (fun KO hK=>?_) ?_
       ·skip
        go_simp
        skip
        refine hK.out _ _ ?_ (fun hHeld=>?_)
        ·exact BG.both (g:=w.heap.size) (by repeat (first | with_reducible exact b8 | with_reducible exact b7 | with_reducible exact b6 | with_reducible exact b5 | with_reducible apply BG.alloc | with_reducible apply BG.drew))
        clear hK KO
        try simp only[Act.put,σa,σb,σc]
        refine wpAnyH_ready (rs:=[9]) (by kernel_rfl) (by simp) ?_
        refine AllReadyH.cons rfl (fun KO hK=>?_) ?_
        ·skip
         refine step_append_any _ (by rfl) (.tmp 55) (.tmp 57) _ (by rfl) 0 26 (.agg #[.int .i64 0,.slice none 0 0,.slice none 0 0,.int .i64 0,.int .i64 0,.int .i64 0]) 6 80 Tryz.underlying50 info26p rfl (by omega) (.slice Am K.length cm) K.length ((List.range K.length).flatMap (mdR fo)) (by rfl) (by exact BG.r0 (show BG w5 cc w.heap.size _ _ _ _ _ _ _ _ _ _ _ from (by repeat (first | with_reducible apply BG.alloc | with_reducible apply BG.drew | with_reducible exact b7 | with_reducible exact b6 | with_reducible exact b5)))) (fun _=>True) _ 1 1 [.int .i64 (j:Int),.slice A i c,.slice none 0 0,.int .i64 (8+2 * (j:Int)),.int .i64 2,.int .i64 0] (by rfl) (by exact rd_blk (t:=26) _ (by repeat (first | with_reducible exact blk_n (by first | (simp;done) | rfl) | with_reducible refine Blk.alloc ?_ _ | with_reducible refine Blk.drew ?_)) rfl) (by intro u hu;simp at hu;rcases hu with rfl | rfl | rfl | rfl | rfl | rfl <;> rfl) (by simp only[maxLen];omega) (by omega) (Nat.zero_le _) ?_
         intro A6 c6 w6 hown6 hgr6 hat6
         have b6:=BG.grow0 (by repeat (first | with_reducible apply BG.alloc | with_reducible apply BG.drew | with_reducible exact b7 | with_reducible exact b6 | with_reducible exact b5)) hgr6 hown6 hat6
         obtain ⟨z6a,z6b,z6c⟩:=b6.b.facts
         have s6:=b6.fr.size
         have z6d:=b6.b.cell 0
         have z6e:=b6.b.cell 1
         have z6f:=b6.b.cell 2
         skip
         refine hK.out _ _ ?_ (fun hHeld=>?_)
         ·exact BG.both (g:=w.heap.size) (by repeat (first | with_reducible exact b8 | with_reducible exact b7 | with_reducible exact b6 | with_reducible exact b5 | with_reducible apply BG.alloc | with_reducible apply BG.drew))
         clear hK KO
         try simp only[Act.put,σa,σb,σc]
         refine wpAnyH_ready (rs:=[16]) (by kernel_rfl) (by simp) ?_
         refine AllReadyH.cons rfl (fun KO hK=>?_) ?_
         ·skip
          refine step_append_any _ (by rfl) (.tmp 62) (.tmp 64) _ (by rfl) 0 36 (.pointer none) 1 8 Tryz.underlying52 info36p rfl (by omega) (.slice At K.length ct) K.length (K.map fun x=>.pointer (some ⟨x.f,0,none⟩)) (by rfl) (by exact BG.r1 (show BG w5 cc w.heap.size _ _ _ _ _ _ _ _ _ _ _ from (by repeat (first | with_reducible apply BG.alloc | with_reducible apply BG.drew | with_reducible exact b7 | with_reducible exact b6 | with_reducible exact b5)))) (fun _=>True) _ 1 1 [.pointer (some ⟨W2.heap.size,0,none⟩)] (by rfl) (by exact rd_blk (t:=36) _ (by repeat (first | with_reducible exact blk_n (by first | (simp;done) | rfl) | with_reducible refine Blk.alloc ?_ _ | with_reducible refine Blk.drew ?_ | with_reducible refine Blk.grown ?_ hgr6 (fun e=>by have:=HLm.out _ e.symm;first | omega | (simp at this;omega)))) rfl) (by intro u hu;simp at hu;rcases hu with rfl <;> rfl) (by simp only[maxLen];omega) (by omega) (Nat.zero_le _) ?_
          intro A7 c7 w7 hown7 hgr7 hat7
          have b7:=BG.grow1 (by repeat (first | with_reducible apply BG.alloc | with_reducible apply BG.drew | with_reducible exact b7 | with_reducible exact b6 | with_reducible exact b5)) hgr7 hown7 hat7
          obtain ⟨z7a,z7b,z7c⟩:=b7.b.facts
          have s7:=b7.fr.size
          have z7d:=b7.b.cell 0
          have z7e:=b7.b.cell 1
          have z7f:=b7.b.cell 2
          skip
          refine hK.out _ _ ?_ (fun hHeld=>?_)
          ·exact BG.both (g:=w.heap.size) (by repeat (first | with_reducible exact b8 | with_reducible exact b7 | with_reducible exact b6 | with_reducible exact b5 | with_reducible apply BG.alloc | with_reducible apply BG.drew))
          clear hK KO
          try simp only[Act.put,σa,σb,σc]
          refine wpAnyH_ready (rs:=[23]) (by kernel_rfl) (by simp) ?_
          refine AllReadyH.cons rfl (fun KO hK=>?_) ?_
          ·skip
           refine step_append_any _ (by rfl) (.tmp 69) (.tmp 71) _ (by rfl) 0 31 (.pointer none) 1 8 Tryz.underlying51 info31p rfl (by omega) (.slice Ap K.length cp) K.length (K.map fun x=>.pointer (some ⟨x.p,0,none⟩)) (by rfl) (by exact BG.r2 (show BG w5 cc w.heap.size _ _ _ _ _ _ _ _ _ _ _ from (by repeat (first | with_reducible apply BG.alloc | with_reducible apply BG.drew | with_reducible exact b7 | with_reducible exact b6 | with_reducible exact b5)))) (fun _=>True) _ 1 1 [.pointer (some ⟨p5,0,none⟩)] (by rfl) (by exact rd_blk (t:=31) _ (by repeat (first | with_reducible exact blk_n (by first | (simp;done) | rfl) | with_reducible refine Blk.alloc ?_ _ | with_reducible refine Blk.drew ?_ | with_reducible refine Blk.grown ?_ hgr7 (fun e=>by have:=HLt.out _ e.symm;first | omega | (simp at this;omega)) | with_reducible refine Blk.grown ?_ hgr6 (fun e=>by have:=HLm.out _ e.symm;first | omega | (simp at this;omega)))) rfl) (by intro u hu;simp at hu;rcases hu with rfl <;> rfl) (by simp only[maxLen];omega) (by omega) (Nat.zero_le _) ?_
           intro A8 c8 w8 hown8 hgr8 hat8
           have b8:=BG.grow2 (by repeat (first | with_reducible apply BG.alloc | with_reducible apply BG.drew | with_reducible exact b7 | with_reducible exact b6 | with_reducible exact b5)) hgr8 hown8 hat8
           obtain ⟨z8a,z8b,z8c⟩:=b8.b.facts
           have s8:=b8.fr.size
           have z8d:=b8.b.cell 0
           have z8e:=b8.b.cell 1
           have z8f:=b8.b.cell 2
           skip
           refine hK.out _ _ ?_ (fun hHeld=>?_)
           ·exact BG.both (g:=w.heap.size) (by repeat (first | with_reducible exact b8 | with_reducible exact b7 | with_reducible exact b6 | with_reducible exact b5 | with_reducible apply BG.alloc | with_reducible apply BG.drew))
           clear hK KO
           try simp only[Act.put,σa,σb,σc]
           refine wpAnyH_done (by kernel_rfl) ?_ _
           skip
           refine tail_go (L:=#[true,true,true,true,true,true,true,true,true,true,true,true,true,true,true,true,true,true,true,true,true,true,true,true,false,false,false,false,false,false,false,false,false]) (by rfl) ?_
           refine wpAnyH_take (i:=24) (v:=?v96) rfl (by kernel_rfl) (by kernel_rfl) (by kernel_rfl) (fun _ _ _ h=>h) (Or.inl ⟨by rfl,?hy96⟩) trivial ?rest96
           case hy96=>
            intro w _
            go_simp
            try with_reducible rfl
           try simp only[Act.put,σa,σb,σc]
           refine wpAnyH_take (i:=25) (v:=?v97) rfl (by kernel_rfl) (by kernel_rfl) (by kernel_rfl) (fun _ _ _ h=>h) (Or.inl ⟨by rfl,?hy97⟩) trivial ?rest97
           case hy97=>
            intro w _
            go_simp
            try with_reducible rfl
           try simp only[Act.put,σa,σb,σc]
           refine wpAnyH_ready (rs:=[26]) (by kernel_rfl) (by simp) ?_
           refine AllReadyH.cons rfl (fun KO hK=>?_) AllReadyH.nil
           go_simp
           refine hK.out _ _ trivial (fun _=>?_)
           clear hK KO
           try simp only[Act.put,σa,σb,σc]
           refine wpAnyH_take (i:=27) (v:=?v98) rfl (by kernel_rfl) (by kernel_rfl) (by kernel_rfl) (fun _ _ _ h=>h) (Or.inl ⟨by rfl,?hy98⟩) trivial ?rest98
           case hy98=>
            intro w _
            go_simp
            try with_reducible rfl
           try simp only[Act.put,σa,σb,σc]
           refine wpAnyH_take (i:=28) (v:=?v99) rfl (by kernel_rfl) (by kernel_rfl) (by kernel_rfl) (fun _ _ _ h=>h) (Or.inl ⟨by rfl,?hy99⟩) trivial ?rest99
           case hy99=>
            intro w _
            go_simp
            try with_reducible rfl
           try simp only[Act.put,σa,σb,σc]
           refine wpAnyH_ready (rs:=[29]) (by kernel_rfl) (by simp) ?_
           refine AllReadyH.cons rfl (fun KO hK=>?_) AllReadyH.nil
           go_simp
           refine hK.out _ _ trivial (fun _=>?_)
           clear hK KO
           try simp only[Act.put,σa,σb,σc]
           refine wpAnyH_take (i:=30) (v:=?v100) rfl (by kernel_rfl) (by kernel_rfl) (by kernel_rfl) (fun _ _ _ h=>h) (Or.inl ⟨by rfl,?hy100⟩) trivial ?rest100
           case hy100=>
            intro w _
            go_simp
            try with_reducible rfl
           try simp only[Act.put,σa,σb,σc]
           refine wpAnyH_take (i:=31) (v:=?v101) rfl (by kernel_rfl) (by kernel_rfl) (by kernel_rfl) (fun _ _ _ h=>h) (Or.inl ⟨by rfl,?hy101⟩) trivial ?rest101
           case hy101=>
            intro w _
            go_simp
            try with_reducible rfl
           try simp only[Act.put,σa,σb,σc]
           refine wpAnyH_ready (rs:=[32]) (by kernel_rfl) (by simp) ?_
           refine AllReadyH.cons rfl (fun KO hK=>?_) AllReadyH.nil
           go_simp
           refine hK.out _ _ trivial (fun _=>?_)
           clear hK KO
           try simp only[Act.put,σa,σb,σc]
           refine wpAnyH_done (by kernel_rfl) ?_ _
           go_wp2_with fail
           go_meet
           exact FIN.out _ A6 c6 A7 c7 A8 c8 (((b8.set HGC.out 0 _).set HGC.out 2 _).set HGC.out 1 _)
          exact AllReadyH.nil
         exact AllReadyH.nil
        exact AllReadyH.nil
       exact AllReadyH.nil
      refine AllReadyH.cons rfl (fun KO hK=>?_) ?_
      ·skip
       go_simp
       skip
       refine hK.out _ _ ?_ (fun hHeld=>?_)
       ·exact BG.both (g:=w.heap.size) (by repeat (first | with_reducible exact b8 | with_reducible exact b7 | with_reducible exact b6 | with_reducible exact b5 | with_reducible apply BG.alloc | with_reducible apply BG.drew))
       clear hK KO
       try simp only[Act.put,σa,σb,σc]
       refine wpAnyH_ready (rs:=[8]) (by kernel_rfl) (by simp) ?_
       refine AllReadyH.cons rfl (fun KO hK=>?_) ?_
       ·skip
        go_simp
        skip
        refine hK.out _ _ ?_ (fun hHeld=>?_)
        ·exact BG.both (g:=w.heap.size) (by repeat (first | with_reducible exact b8 | with_reducible exact b7 | with_reducible exact b6 | with_reducible exact b5 | with_reducible apply BG.alloc | with_reducible apply BG.drew))
        clear hK KO
        try simp only[Act.put,σa,σb,σc]
        refine wpAnyH_ready (rs:=[9]) (by kernel_rfl) (by simp) ?_
        refine AllReadyH.cons rfl (fun KO hK=>?_) ?_
        ·skip
         refine step_append_any _ (by rfl) (.tmp 55) (.tmp 57) _ (by rfl) 0 26 (.agg #[.int .i64 0,.slice none 0 0,.slice none 0 0,.int .i64 0,.int .i64 0,.int .i64 0]) 6 80 Tryz.underlying50 info26p rfl (by omega) (.slice Am K.length cm) K.length ((List.range K.length).flatMap (mdR fo)) (by rfl) (by exact BG.r0 (show BG w5 cc w.heap.size _ _ _ _ _ _ _ _ _ _ _ from (by repeat (first | with_reducible apply BG.alloc | with_reducible apply BG.drew | with_reducible exact b7 | with_reducible exact b6 | with_reducible exact b5)))) (fun _=>True) _ 1 1 [.int .i64 (j:Int),.slice A i c,.slice none 0 0,.int .i64 (8+2 * (j:Int)),.int .i64 2,.int .i64 0] (by rfl) (by exact rd_blk (t:=26) _ (by repeat (first | with_reducible exact blk_n (by first | (simp;done) | rfl) | with_reducible refine Blk.alloc ?_ _ | with_reducible refine Blk.drew ?_)) rfl) (by intro u hu;simp at hu;rcases hu with rfl | rfl | rfl | rfl | rfl | rfl <;> rfl) (by simp only[maxLen];omega) (by omega) (Nat.zero_le _) ?_
         intro A6 c6 w6 hown6 hgr6 hat6
         have b6:=BG.grow0 (by repeat (first | with_reducible apply BG.alloc | with_reducible apply BG.drew | with_reducible exact b7 | with_reducible exact b6 | with_reducible exact b5)) hgr6 hown6 hat6
         obtain ⟨z6a,z6b,z6c⟩:=b6.b.facts
         have s6:=b6.fr.size
         have z6d:=b6.b.cell 0
         have z6e:=b6.b.cell 1
         have z6f:=b6.b.cell 2
         skip
         refine hK.out _ _ ?_ (fun hHeld=>?_)
         ·exact BG.both (g:=w.heap.size) (by repeat (first | with_reducible exact b8 | with_reducible exact b7 | with_reducible exact b6 | with_reducible exact b5 | with_reducible apply BG.alloc | with_reducible apply BG.drew))
         clear hK KO
         try simp only[Act.put,σa,σb,σc]
         refine wpAnyH_ready (rs:=[16]) (by kernel_rfl) (by simp) ?_
         refine AllReadyH.cons rfl (fun KO hK=>?_) ?_
         ·skip
          refine step_append_any _ (by rfl) (.tmp 62) (.tmp 64) _ (by rfl) 0 36 (.pointer none) 1 8 Tryz.underlying52 info36p rfl (by omega) (.slice At K.length ct) K.length (K.map fun x=>.pointer (some ⟨x.f,0,none⟩)) (by rfl) (by exact BG.r1 (show BG w5 cc w.heap.size _ _ _ _ _ _ _ _ _ _ _ from (by repeat (first | with_reducible apply BG.alloc | with_reducible apply BG.drew | with_reducible exact b7 | with_reducible exact b6 | with_reducible exact b5)))) (fun _=>True) _ 1 1 [.pointer (some ⟨W2.heap.size,0,none⟩)] (by rfl) (by exact rd_blk (t:=36) _ (by repeat (first | with_reducible exact blk_n (by first | (simp;done) | rfl) | with_reducible refine Blk.alloc ?_ _ | with_reducible refine Blk.drew ?_ | with_reducible refine Blk.grown ?_ hgr6 (fun e=>by have:=HLm.out _ e.symm;first | omega | (simp at this;omega)))) rfl) (by intro u hu;simp at hu;rcases hu with rfl <;> rfl) (by simp only[maxLen];omega) (by omega) (Nat.zero_le _) ?_
          intro A7 c7 w7 hown7 hgr7 hat7
          have b7:=BG.grow1 (by repeat (first | with_reducible apply BG.alloc | with_reducible apply BG.drew | with_reducible exact b7 | with_reducible exact b6 | with_reducible exact b5)) hgr7 hown7 hat7
          obtain ⟨z7a,z7b,z7c⟩:=b7.b.facts
          have s7:=b7.fr.size
          have z7d:=b7.b.cell 0
          have z7e:=b7.b.cell 1
          have z7f:=b7.b.cell 2
          skip
          refine hK.out _ _ ?_ (fun hHeld=>?_)
          ·exact BG.both (g:=w.heap.size) (by repeat (first | with_reducible exact b8 | with_reducible exact b7 | with_reducible exact b6 | with_reducible exact b5 | with_reducible apply BG.alloc | with_reducible apply BG.drew))
          clear hK KO
          try simp only[Act.put,σa,σb,σc]
          refine wpAnyH_ready (rs:=[23]) (by kernel_rfl) (by simp) ?_
          refine AllReadyH.cons rfl (fun KO hK=>?_) ?_
          ·skip
           refine step_append_any _ (by rfl) (.tmp 69) (.tmp 71) _ (by rfl) 0 31 (.pointer none) 1 8 Tryz.underlying51 info31p rfl (by omega) (.slice Ap K.length cp) K.length (K.map fun x=>.pointer (some ⟨x.p,0,none⟩)) (by rfl) (by exact BG.r2 (show BG w5 cc w.heap.size _ _ _ _ _ _ _ _ _ _ _ from (by repeat (first | with_reducible apply BG.alloc | with_reducible apply BG.drew | with_reducible exact b7 | with_reducible exact b6 | with_reducible exact b5)))) (fun _=>True) _ 1 1 [.pointer (some ⟨p5,0,none⟩)] (by rfl) (by exact rd_blk (t:=31) _ (by repeat (first | with_reducible exact blk_n (by first | (simp;done) | rfl) | with_reducible refine Blk.alloc ?_ _ | with_reducible refine Blk.drew ?_ | with_reducible refine Blk.grown ?_ hgr7 (fun e=>by have:=HLt.out _ e.symm;first | omega | (simp at this;omega)) | with_reducible refine Blk.grown ?_ hgr6 (fun e=>by have:=HLm.out _ e.symm;first | omega | (simp at this;omega)))) rfl) (by intro u hu;simp at hu;rcases hu with rfl <;> rfl) (by simp only[maxLen];omega) (by omega) (Nat.zero_le _) ?_
           intro A8 c8 w8 hown8 hgr8 hat8
           have b8:=BG.grow2 (by repeat (first | with_reducible apply BG.alloc | with_reducible apply BG.drew | with_reducible exact b7 | with_reducible exact b6 | with_reducible exact b5)) hgr8 hown8 hat8
           obtain ⟨z8a,z8b,z8c⟩:=b8.b.facts
           have s8:=b8.fr.size
           have z8d:=b8.b.cell 0
           have z8e:=b8.b.cell 1
           have z8f:=b8.b.cell 2
           skip
           refine hK.out _ _ ?_ (fun hHeld=>?_)
           ·exact BG.both (g:=w.heap.size) (by repeat (first | with_reducible exact b8 | with_reducible exact b7 | with_reducible exact b6 | with_reducible exact b5 | with_reducible apply BG.alloc | with_reducible apply BG.drew))
           clear hK KO
           try simp only[Act.put,σa,σb,σc]
           refine wpAnyH_done (by kernel_rfl) ?_ _
           skip
           refine tail_go (L:=#[true,true,true,true,true,true,true,true,true,true,true,true,true,true,true,true,true,true,true,true,true,true,true,true,false,false,false,false,false,false,false,false,false]) (by rfl) ?_
           refine wpAnyH_take (i:=24) (v:=?v102) rfl (by kernel_rfl) (by kernel_rfl) (by kernel_rfl) (fun _ _ _ h=>h) (Or.inl ⟨by rfl,?hy102⟩) trivial ?rest102
           case hy102=>
            intro w _
            go_simp
            try with_reducible rfl
           try simp only[Act.put,σa,σb,σc]
           refine wpAnyH_take (i:=25) (v:=?v103) rfl (by kernel_rfl) (by kernel_rfl) (by kernel_rfl) (fun _ _ _ h=>h) (Or.inl ⟨by rfl,?hy103⟩) trivial ?rest103
           case hy103=>
            intro w _
            go_simp
            try with_reducible rfl
           try simp only[Act.put,σa,σb,σc]
           refine wpAnyH_ready (rs:=[26]) (by kernel_rfl) (by simp) ?_
           refine AllReadyH.cons rfl (fun KO hK=>?_) AllReadyH.nil
           go_simp
           refine hK.out _ _ trivial (fun _=>?_)
           clear hK KO
           try simp only[Act.put,σa,σb,σc]
           refine wpAnyH_take (i:=27) (v:=?v104) rfl (by kernel_rfl) (by kernel_rfl) (by kernel_rfl) (fun _ _ _ h=>h) (Or.inl ⟨by rfl,?hy104⟩) trivial ?rest104
           case hy104=>
            intro w _
            go_simp
            try with_reducible rfl
           try simp only[Act.put,σa,σb,σc]
           refine wpAnyH_take (i:=28) (v:=?v105) rfl (by kernel_rfl) (by kernel_rfl) (by kernel_rfl) (fun _ _ _ h=>h) (Or.inl ⟨by rfl,?hy105⟩) trivial ?rest105
           case hy105=>
            intro w _
            go_simp
            try with_reducible rfl
           try simp only[Act.put,σa,σb,σc]
           refine wpAnyH_ready (rs:=[29]) (by kernel_rfl) (by simp) ?_
           refine AllReadyH.cons rfl (fun KO hK=>?_) AllReadyH.nil
           go_simp
           refine hK.out _ _ trivial (fun _=>?_)
           clear hK KO
           try simp only[Act.put,σa,σb,σc]
           refine wpAnyH_take (i:=30) (v:=?v106) rfl (by kernel_rfl) (by kernel_rfl) (by kernel_rfl) (fun _ _ _ h=>h) (Or.inl ⟨by rfl,?hy106⟩) trivial ?rest106
           case hy106=>
            intro w _
            go_simp
            try with_reducible rfl
           try simp only[Act.put,σa,σb,σc]
           refine wpAnyH_take (i:=31) (v:=?v107) rfl (by kernel_rfl) (by kernel_rfl) (by kernel_rfl) (fun _ _ _ h=>h) (Or.inl ⟨by rfl,?hy107⟩) trivial ?rest107
           case hy107=>
            intro w _
            go_simp
            try with_reducible rfl
           try simp only[Act.put,σa,σb,σc]
           refine wpAnyH_ready (rs:=[32]) (by kernel_rfl) (by simp) ?_
           refine AllReadyH.cons rfl (fun KO hK=>?_) AllReadyH.nil
           go_simp
           refine hK.out _ _ trivial (fun _=>?_)
           clear hK KO
           try simp only[Act.put,σa,σb,σc]
           refine wpAnyH_done (by kernel_rfl) ?_ _
           go_wp2_with fail
           go_meet
           exact FIN.out _ A6 c6 A7 c7 A8 c8 (((b8.set HGC.out 0 _).set HGC.out 2 _).set HGC.out 1 _)
          exact AllReadyH.nil
         exact AllReadyH.nil
        exact AllReadyH.nil
       exact AllReadyH.nil
      exact AllReadyH.nil
     exact AllReadyH.nil
  ·have hlt:(i:Int)<(m:Int):=by omega
   have hrp:=range_push i
   have HRP:=ħ hrp
   clear hrp
   have hwi:IntKind.i64.wrap ((i:Int)+1)=((i+1:Nat):Int):=by rw[IntWalk.i64_in _ (by omega)];rfl
   go_wp2_with (at_builtin;refine wpList_append_any _ rfl _ _ _ rfl W1.heap.size 3 _ 1 8 Tryz.underlying22 info3 rfl (by omega) (.slice A i c) i (((List.range i).map (fun (k:Nat)=>(k:Int))).map (Value.int .i64)) rfl (by exact own_fr HS.out (Fr.of_below (S:=fun _=>False) ((Below.refl _ _).alloc (Nat.le_refl _) _)) (fun _ _=>id)) (fun _=>True) (some ⟨wr.heap.size,0,none⟩) 1 1 [.int .i64 i] rfl (by exact ((Reads.newS _ [.int .i64 i] 3 (0,0) 1 1 rfl _ rfl).more (fun _ _=>trivial))) (by intro u hu;simp at hu;rcases hu with rfl;rfl) (by simp only[maxLen];omega) (by omega) (by simp;omega) ?_;intro A6 c6 w6 hown hgr hat;have HS6:=ħ hown;have HB6:=ħ (Below.grown (HB.out.alloc HB.out.size _) hgr (by simp;omega) (fun j hj=>(HS.out.lt j hj).1));clear hown hgr hat)
   exact ⟨⟨i+1,A6,c6,by omega,rfl,rfl,by rw[HRP.out,List.map_append];exact HS6.out,HB6.out⟩,by simp[intOf];omega⟩
end Go.Proofs.YtdfobfjpkjddpaaGreat

import Derived.Test.YtdfobfjpkjddpaaGreatUG9
import Derived.Test.YtdfobfjpkjddpaaGreatUG8
import Derived.Test.YtdfobfjpkjddpaaGreatUVot2
set_option linter.unusedVariables false
set_option linter.unusedSimpArgs false
set_option maxRecDepth 10000
set_option maxHeartbeats 2000000
namespace Go.Wire
theorem rdL_le (l:List Int)(h:(rdL l).1=0):0≤(rdL l).2.1∧(rdL l).2.1≤(rdL l).2.2.length:=by
 unfold rdL at h⊢
 by_cases h0:(rdI l).1=0
 ·rw[if_pos h0] at h⊢
  by_cases h1:(rdI l).2.1<0
  ·rw[if_pos h1] at h;simp at h
  ·rw[if_neg h1] at h⊢
   by_cases h2:((rdI l).2.2.length:Int)<(rdI l).2.1
   ·rw[if_pos h2] at h;simp at h
   ·rw[if_neg h2];omega
 ·rw[if_neg h0] at h;exact absurd h h0
theorem rdL_suf (l:List Int):∃ pre,l=pre ++ (rdL l).2.2:=by
 unfold rdL
 split
 ·split
  ·exact ⟨l,by simp⟩
  ·split
   ·exact ⟨l,by simp⟩
   ·exact rdI_suf l
 ·exact ⟨l,by simp⟩
theorem rdL_bytes {l:List Int}(h:Bytes l):Bytes (rdL l).2.2:=by
 obtain ⟨pre,e⟩:=rdL_suf l
 rw[e] at h
 exact h.right
theorem rdL_len (l:List Int):(rdL l).2.2.length≤l.length:=by
 obtain ⟨pre,e⟩:=rdL_suf l
 have:=congrArg List.length e
 rw[List.length_append] at this;omega
end Go.Wire
namespace Go.Proofs.YtdfobfjpkjddpaaGreat
open Go.RowKit Go.Own Go.Quo Go.Wire
def IsPost (p:Nat)(B:Nat→Prop)(R:Int × List Int × List Int)(w:World)(e:Ending)(w':World):Prop:=
 ∃ A c,e=.returned (.slice A R.2.1.length c)∧RI w' (w.heap.size≤·) A R.2.1∧RdP w' p B R.2.2 R.1∧Fr (·=p) w w'
theorem ints_err (p:Nat)(B:Nat→Prop)(rest:List Int)(err:Int)(w:World)(h:RdP w p B rest err)(he:err≠0) :
 Calls Tryz.prog 128 #[.pointer (some ⟨p,0,none⟩)] w fun e w'=>e=.returned (.slice none 0 0)∧w=w':=by
 have HI:=ħ (length_err p B rest err w h he)
 clear h he
 go_enter Tryz.func128,Tryz.ntmps128
 go_wp2_with (go_at_call 152;((with_reducible refine HI.out.mono ?_);rintro e w1 ⟨rfl,rfl⟩))
 go_ret
 exact ⟨rfl,rfl⟩
theorem RdP.alloc {w:World}{p:Nat}{B:Nat→Prop}{rest:List Int}{err:Int}(h:RdP w p B rest err)(o:Obj):RdP (w.alloc o) p B rest err:=by
 obtain ⟨A,c,h1,h2,h3⟩:=h
 exact ⟨A,c,h1.alloc o,h2.alloc o,h3⟩
theorem ints_ok (p:Nat)(B:Nat→Prop)(rest:List Int)(w:World)(h:RdP w p B rest 0)(hp:¬ B p)(hBw:∀ k,B k→k<w.heap.size)(hB:Bytes rest)(hl:rest.length≤1000000) :
 Calls Tryz.prog 128 #[.pointer (some ⟨p,0,none⟩)] w (IsPost p B (rdIs rest) w):=by
 have HI:=ħ (length_ok p B rest w h hp hB)
 have HR:=ħ (show rdIs rest=if (rdL rest).2.1=0 then ((rdL rest).1,[],(rdL rest).2.2) else readA (rdL rest).2.1.toNat [] (rdL rest).2.2 from rfl)
 have hLe:=rdL_le rest
 have hLb:=rdL_bytes hB
 have hLl:=rdL_len rest
 have HEr:=ħ (rdL_err rest)
 generalize rdIs rest=RR at *
 generalize rdL rest=R0 at *
 obtain ⟨e1,n0,r1⟩:=R0
 simp only at HI HR hLe hLb HEr hLl
 clear h hB
 go_enter Tryz.func128,Tryz.ntmps128
 go_wp2_with fail
 refine HI.out.mono ?_
 rintro e w1 ⟨rfl,hrd,hfr⟩
 have hs1:=hfr.size
 by_cases h0:n0=0
 ·have h0b:(n0 == 0)=true:=by simpa using h0
  have HE:=ħ (show RR=(e1,[],r1) by rw[HR.out,if_pos h0])
  clear h0
  go_wp2
  go_ret
  rw[HE.out]
  exact ⟨none,0,rfl,Reads.none_,hrd,hfr⟩
 ·have h0b:(n0 == 0)=false:=by simpa using h0
  obtain ⟨rfl,hn0,hnr⟩:e1=0∧0≤n0∧n0≤r1.length:=by
   rcases HEr.out with h | ⟨_,h⟩
   ·exact ⟨h,(hLe h).1,(hLe h).2⟩
   ·exfalso;apply h0;simpa using congrArg Prod.fst h
  obtain ⟨n,rfl⟩:∃ n:Nat,n0=(n:Int):=⟨n0.toNat,by omega⟩
  have HE:=ħ (show RR=readA n [] r1 by rw[HR.out,if_neg h0];rfl)
  have hr1l:r1.length≤1000000:=Nat.le_trans hLl hl
  clear h0 HR HI hLe HEr
  have hmk:=run_make1 (P:=Tryz.prog) 22 3 (.int .i64 0) 8 Tryz.underlying22 info3 rfl n (by omega) (by omega)
  have k1:Blk (w1.alloc (.cells (zrow (.int .i64 0) n) 3)) w1.heap.size 3 (ivs (List.replicate n 0)).toArray:=by
   have:=Blk.new w1 3 (zrow (.int .i64 0) n)
   simpa [zrow,ivs] using this
  have hrd2:=hrd.alloc (.cells (zrow (.int .i64 0) n) 3)
  have f2:Fr (fun x=>x=p) w (w1.alloc (.cells (zrow (.int .i64 0) n) 3)):=hfr.alloc _
  have hp1:p<w1.heap.size:=by obtain ⟨A1,c1,hk1,_⟩:=hrd;exact hk1.lt
  have hBp:¬ B w1.heap.size:=fun hb=>by have:=hBw _ hb;omega
  clear hrd hfr
  go_wp2_with fail
  clear hmk
  generalize w1.alloc (.cells (zrow (.int .i64 0) n) 3)=W2 at *
  go_loopw [14] (fun vi wr=>∃ (k:Nat) (acc q r:List Int),k≤n∧vi=.int .i64 k∧acc.length=k∧q.length=n∧(∀ j,j<k→gd q j=gd acc j)∧readA (n - k) acc r=RR∧Bytes r∧r.length≤1000000∧Blk wr w1.heap.size 3 (ivs q).toArray∧RdP wr p B r 0∧Fr (fun x=>x=p) w wr) (fun i _=>n - (intOf i).toNat)
  case atStart=>exact ⟨0,[],List.replicate n 0,r1,Nat.zero_le _,rfl,rfl,by simp,fun j hj=>absurd hj (by omega),HE.out.symm,hLb,hr1l,k1,hrd2,f2⟩
  case round=>
   obtain ⟨k,acc,q,r,hk,rfl,hal,hql,hqv,hrr,hBr,hrl,hkq,hrd,hfr⟩:=hrel
   have HA:=ħ hal
   have HQl:=ħ hql
   have HQv:=ħ hqv
   have HRr:=ħ hrr
   have hq1:q.length≤n:=by omega
   have hq2:n≤q.length:=by omega
   clear hal hql hqv hrr k1 hrd2 f2
   by_cases hlt:k<n
   ·have hlt':(k:Int)<n:=by omega
    have HI:=ħ (int_ok p B r wr hrd hp hBr)
    have HSt:=ħ (show RR=if (rdI r).1=0 then readA (n - (k+1)) (acc ++ [(rdI r).2.1]) (rdI r).2.2 else ((rdI r).1,[],[]) by
     rw[←HRr.out,show n - k=(n - (k+1))+1 by omega,readA])
    have hIb:=rdI_bytes hBr
    have hIl:=rdI_len r
    have HIe:=ħ (rdI_err r)
    generalize rdI r=R1 at *
    obtain ⟨e',x,r'⟩:=R1
    simp only at HI HSt hIb hIl HIe
    clear hrd hBr
    have hix:∀ W:World,(Instr.indexAt 22 (.slice (some ⟨w1.heap.size,0,none⟩) n n) (.int .i64 (k:Int))).run Tryz.prog W=.ok (.pointer (some ⟨w1.heap.size,k,none⟩)) W:=fun W=>by
     have:=ix22 (A:=some ⟨w1.heap.size,0,none⟩) (n:=n) (fun _=>⟨w1.heap.size,0,rfl⟩) n k hlt W
     simpa [bk,ofs,adr] using this
    go_wp2_with fail
    refine HI.out.mono ?_
    rintro e w2 ⟨rfl,hrd,hf2⟩
    have kq2:=hkq.fr hf2 (by omega)
    have a0:=kq2.lt
    have a2:=kq2.frozen
    have hcq:w2.cell? ⟨w1.heap.size,k,none⟩=some (.int .i64 (gd q k)):=by rw[kq2.cell];exact ivs_get (by omega)
    have hrd3:RdP (w2.setCell ⟨w1.heap.size,k,none⟩ (.int .i64 x)) p B r' e':=by
     obtain ⟨A3,c3,z1,z2,z3⟩:=hrd
     exact ⟨A3,c3,z1.far (by simp;omega) _,z2.setCell (by simpa using hBp) _,z3⟩
    have kq3:=kq2.set_ k (.int .i64 x)
    rw[ivs_set] at kq3
    have f3:Fr (fun x=>x=p) w (w2.setCell ⟨w1.heap.size,k,none⟩ (.int .i64 x)):=(hfr.trans hf2).setCell (.inr (by simp;omega)) _
    obtain ⟨A3,c3,z1,z2,z3⟩:=hrd
    obtain ⟨y0,y1,y2⟩:=z1.facts
    have hne:p≠w1.heap.size:=by omega
    by_cases h0:e'=0
    ·have h0b:(e' == 0)=true:=by simpa using h0
     have HS2:=ħ (show readA (n - (k+1)) (acc ++ [x]) r'=RR by rw[HSt.out,if_pos h0])
     subst h0
     go_wp2_with fail
     refine ⟨⟨k+1,acc ++ [x],q.set k x,r',by omega,by go_num,by rw[List.length_append,HA.out];rfl,by rw[List.length_set];exact HQl.out,fun j hj=>?_,HS2.out,hIb,by omega,kq3,hrd3,f3⟩,by simp[intOf];omega⟩
     rw[gd_set (by omega)]
     have hal:=HA.out
     rcases (show j<k∨j=k by omega) with hjk | hjk
     ·rw[if_neg (by omega),HQv.out j hjk,gd_get (by omega),gd_get (by rw[List.length_append];omega),List.getElem_append_left]
     ·subst hjk
      rw[if_pos rfl,gd_get (by rw[List.length_append,hal];simp),List.getElem_append_right (by omega)]
      simp[hal]
    ·have h0b:(e' == 0)=false:=by simpa using h0
     have HS2:=ħ (show RR=(e',[],[]) by rw[HSt.out,if_neg h0])
     obtain rfl:r'=[]:=by
      rcases HIe.out with h | ⟨_,h⟩
      ·exact absurd h h0
      ·simpa using congrArg Prod.snd h
     clear h0
     go_wp2_with fail
     go_ret
     rw[HS2.out]
     exact ⟨none,0,rfl,Reads.none_,hrd3,f3⟩
   ·have hge:¬ ((k:Int)<n):=by omega
    have HK:=ħ (show RR=(0,acc,r) by rw[←HRr.out,show n - k=0 by omega,readA])
    have hqe:q=acc:=gd_ext (by rw[HQl.out,HA.out];omega) (fun j hj=>HQv.out j (by have:=HA.out;omega))
    subst hqe
    go_wp2
    go_ret
    rw[HK.out]
    refine ⟨some ⟨w1.heap.size,0,none⟩,n,by rw[HQl.out];rfl,?_,hrd,hfr⟩
    have:=Reads.of_blk (B:=(w.heap.size≤·)) (n:=q.length) (size:=1) hkq (by simp) hs1
    have h2:(ivs q).toArray.toList.take (q.length * 1)=ivs q:=List.take_of_length_le (by simp)
    rw[h2] at this
    exact this
end Go.Proofs.YtdfobfjpkjddpaaGreat
namespace Go.Proofs.YtdfobfjpkjddpaaGreat
open Go.RowKit Go.Own Go.Quo Go.Wire
def JOPost (p:Nat)(recs:List (Int × List Int))(X:Nat→Prop)(w:World)(e:Ending)(w':World):Prop:=
 ∃ j,e=.returned (.tuple #[.pointer (some ⟨j,0,none⟩),.int .i64 0])∧w.heap.size≤j∧JS w' (fun k=>k=p∨X k∨w.heap.size≤k) p j recs (encJ initS recs).length false∧Fr (fun k=>k=p) w w'
def finE (err:Int)(rest:List Int):Int:=if err=0 then (if rest.length=0 then 0 else 2) else err
def rTerm (body:List Int)(term:Int):Option (Int × Int):=
 if finE (rdI body).1 (rdI body).2.2=0∧validT (rdI body).2.1=true∧¬ (rdI body).2.1≤term then some ((rdI body).2.1,-1) else none
def rdN (a:Int × Int × List Int):Int × Int × List Int:=if a.1=0 then rdI a.2.2 else (a.1,0,a.2.2)
def rVote (body:List Int)(term voted:Int):Option (Int × Int):=
 if (finE (rdN (rdI body)).1 (rdN (rdI body)).2.2=0∧validT (rdI body).2.1=true∧validN (rdN (rdI body)).2.1=true)∧¬ (rdI body).2.1<term∧¬ ((rdI body).2.1=term∧0≤voted) then some ((rdI body).2.1,(rdN (rdI body)).2.1) else none
def RsPost (v j:Nat)(res:Option (Int × Int))(w:World)(e:Ending)(w':World):Prop:=
 (∀ t n,res=some (t,n)→e=.returned (.bool true)∧Blk w' v 122 #[.pointer (some ⟨j,0,none⟩),.int .i64 t,.int .i64 n])∧(res=none→e=.returned (.bool false))∧Fr (fun k=>k=v) w w'
theorem fr_rd {w w1 w2:World}{p:Nat}{S:Nat→Prop}(h1:Fr S w w1)(h2:Fr (fun x=>x=p) w1 w2)(hp:w.heap.size≤p):Fr S w w2:=
 ⟨h2.os.trans h1.os,h2.tape.trans h1.tape,h2.output.trans h1.output,Nat.le_trans h1.size h2.size,fun k hk hn=>(h2.block k (Nat.lt_of_lt_of_le hk h1.size) (by omega)).trans (h1.block k hk hn)⟩
theorem restoreTerm_any (B:Nat→Prop)(A:Option Addr)(c:Nat)(body:List Int)(w:World)(v j:Nat)(term voted:Int)(hv:Blk w v 122 #[.pointer (some ⟨j,0,none⟩),.int .i64 term,.int .i64 voted])(h:Reads w B 1 A body.length (bys body))(hB:Bytes body)(hl:body.length≤1000000) :
 Calls Tryz.prog 62 #[.pointer (some ⟨v,0,none⟩),.slice A body.length c] w (RsPost v j (rTerm body term) w):=by
 have HN:=ħ (newReader_any B A c body w h (by omega))
 have HI:=ħ fun W' (x:RdP W' (w.heap.size+1) (·=w.heap.size) body 0)=>int_ok (w.heap.size+1) _ body W' x (by omega) hB
 have HF:=ħ fun W' rest err (x:RdP W' (w.heap.size+1) (·=w.heap.size) rest err)=>finish_any (w.heap.size+1) _ rest err W' x
 have hvl:=hv.lt
 have HR:=ħ (show rTerm body term=if finE (rdI body).1 (rdI body).2.2=0∧validT (rdI body).2.1=true∧¬ (rdI body).2.1≤term then some ((rdI body).2.1,-1) else none from rfl)
 generalize rTerm body term=res at *
 generalize rdI body=a at *
 obtain ⟨er,t,rest⟩:=a
 simp only at HI
 have HQ:=ħ fun W' q (x:validT t=q)=>validTerm_any t W' q x
 have HFe:=ħ (show (if er=0 then (if rest.length=0 then (0:Int) else 2) else er)=finE er rest from rfl)
 have HR2:=ħ (show res=if finE er rest=0∧validT t=true∧¬ t≤term then some (t,-1) else none from HR.out)
 clear HR
 generalize finE er rest=fe at *
 have hcs:¬ fe=0∧res=none∨(fe=0∧(validT t=false∧res=none∨validT t=true∧(t≤term∧res=none∨¬ t≤term∧res=some (t,-1)))):=by
  rw[HR2.out]
  by_cases h1:fe=0
  ·right
   refine ⟨h1,?_⟩
   cases hvt:validT t
   ·left;simp
   ·right
    refine ⟨rfl,?_⟩
    by_cases h2:t≤term
    ·left;exact ⟨h2,by simp[h2]⟩
    ·right;exact ⟨h2,by rw[if_pos ⟨h1,rfl,h2⟩]⟩
  ·left;exact ⟨h1,by simp[h1]⟩
 clear h hB HR2
 go_enter Tryz.func62,Tryz.ntmps62
 go_wp2_with fail
 refine HN.out.mono ?_
 rintro e w1 ⟨rfl,h1,hB1⟩
 have f1:Fr (fun k=>k=v) w w1:=Fr.of_below hB1
 go_wp2_with fail
 refine (HI.out w1 h1).mono ?_
 rintro e w2 ⟨rfl,h2,hf2⟩
 have f2:=fr_rd f1 hf2 (by omega)
 have hv2:=(hv.below hB1 hvl).fr hf2 (by omega)
 obtain ⟨q0,q1,q2⟩:=hv2.facts
 have HF2:=ħ (HF.out w2 _ _ h2)
 rw[HFe.out] at HF2
 rcases hcs with ⟨x1,rfl⟩ | ⟨rfl,⟨x2,rfl⟩ | ⟨x2,⟨x3,rfl⟩ | ⟨x3,rfl⟩⟩⟩
 ·go_wp2_with (go_at_call 93;((with_reducible refine HF2.out.mono ?_);rintro e w3 ⟨rfl,rfl⟩))
  go_ret
  exact ⟨fun _ _ e=>(by cases e),fun _=>rfl,f2⟩
 ·have HV:=ħ (HQ.out w2 _ x2)
  go_wp2_with (first
   | (go_at_call 93;((with_reducible refine HF2.out.mono ?_);rintro e w3 ⟨rfl,rfl⟩))
   | (go_at_call 94;((with_reducible refine HV.out.mono ?_);rintro e w3 ⟨rfl,rfl⟩)))
  go_ret
  exact ⟨fun _ _ e=>(by cases e),fun _=>rfl,f2⟩
 ·have HV:=ħ (HQ.out w2 _ x2)
  go_wp2_with (first
   | (go_at_call 93;((with_reducible refine HF2.out.mono ?_);rintro e w3 ⟨rfl,rfl⟩))
   | (go_at_call 94;((with_reducible refine HV.out.mono ?_);rintro e w3 ⟨rfl,rfl⟩)))
  go_ret
  exact ⟨fun _ _ e=>(by cases e),fun _=>rfl,f2⟩
 ·have HV:=ħ (HQ.out w2 _ x2)
  go_wp2_with (first
   | (go_at_call 93;((with_reducible refine HF2.out.mono ?_);rintro e w3 ⟨rfl,rfl⟩))
   | (go_at_call 94;((with_reducible refine HV.out.mono ?_);rintro e w3 ⟨rfl,rfl⟩)))
  go_ret
  refine ⟨fun _ _ e=>?_,fun e=>(by cases e),?_⟩
  ·cases e
   exact ⟨rfl,by simpa using (hv2.set_ 1 (.int .i64 t)).set_ 2 (.int .i64 (-1))⟩
  ·exact f2.trans (((Fr.refl (fun x=>x=v) _).setCell (.inl rfl) _).setCell (.inl rfl) _)
theorem int_gen (p:Nat)(B:Nat→Prop)(a:Int × Int × List Int)(w:World)(h:RdP w p B a.2.2 a.1)(hp:¬ B p)(hB:Bytes a.2.2) :
 Calls Tryz.prog 92 #[.pointer (some ⟨p,0,none⟩)] w fun e w'=>e=.returned (.int .i64 (rdN a).2.1)∧RdP w' p B (rdN a).2.2 (rdN a).1∧Fr (·=p) w w':=by
 obtain ⟨er,t,rest⟩:=a
 unfold rdN
 by_cases h0:er=0
 ·subst h0
  exact int_ok p B rest w h hp hB
 ·simp only[h0,if_false]
  refine (int_err p B rest er w h h0).mono ?_
  rintro e w' ⟨rfl,rfl⟩
  exact ⟨rfl,h,Fr.refl _ _⟩
theorem restoreVote_any (B:Nat→Prop)(A:Option Addr)(c:Nat)(body:List Int)(w:World)(v j:Nat)(term voted:Int)(hv:Blk w v 122 #[.pointer (some ⟨j,0,none⟩),.int .i64 term,.int .i64 voted])(h:Reads w B 1 A body.length (bys body))(hB:Bytes body)(hl:body.length≤1000000) :
 Calls Tryz.prog 63 #[.pointer (some ⟨v,0,none⟩),.slice A body.length c] w (RsPost v j (rVote body term voted) w):=by
 have HN:=ħ (newReader_any B A c body w h (by omega))
 have HI:=ħ fun W' (x:RdP W' (w.heap.size+1) (·=w.heap.size) body 0)=>int_ok (w.heap.size+1) _ body W' x (by omega) hB
 have HI2:=ħ fun W' (x:RdP W' (w.heap.size+1) (·=w.heap.size) (rdI body).2.2 (rdI body).1)=>int_gen (w.heap.size+1) _ (rdI body) W' x (by omega) (rdI_bytes hB)
 have HF:=ħ fun W' rest err (x:RdP W' (w.heap.size+1) (·=w.heap.size) rest err)=>finish_any (w.heap.size+1) _ rest err W' x
 have hvl:=hv.lt
 have HR:=ħ (show rVote body term voted=if (finE (rdN (rdI body)).1 (rdN (rdI body)).2.2=0∧validT (rdI body).2.1=true∧validN (rdN (rdI body)).2.1=true)∧¬ (rdI body).2.1<term∧¬ ((rdI body).2.1=term∧0≤voted) then some ((rdI body).2.1,(rdN (rdI body)).2.1) else none from rfl)
 generalize rVote body term voted=res at *
 generalize rdI body=a at *
 generalize rdN a=b at *
 obtain ⟨er,t,rest⟩:=a
 obtain ⟨er2,n,rest2⟩:=b
 simp only at HI HI2
 have HQ:=ħ fun W' q (x:validT t=q)=>validTerm_any t W' q x
 have HM:=ħ fun W' q (x:validN n=q)=>validNode_any n W' q x
 have HFe:=ħ (show (if er2=0 then (if rest2.length=0 then (0:Int) else 2) else er2)=finE er2 rest2 from rfl)
 have HR2:=ħ (show res=if (finE er2 rest2=0∧validT t=true∧validN n=true)∧¬ t<term∧¬ (t=term∧0≤voted) then some (t,n) else none from HR.out)
 clear HR
 generalize finE er2 rest2=fe at *
 have hcs:¬ fe=0∧res=none∨(fe=0∧(validT t=false∧res=none∨validT t=true∧(validN n=false∧res=none∨validN n=true∧(t<term∧res=none∨¬ t<term∧(t=term∧0≤voted∧res=none∨t=term∧¬ 0≤voted∧res=some (t,n)∨(t == term)=false∧res=some (t,n)))))):=by
  rw[HR2.out]
  by_cases h1:fe=0
  ·right
   refine ⟨h1,?_⟩
   cases hvt:validT t
   ·left;simp
   ·right
    refine ⟨rfl,?_⟩
    cases hvn:validN n
    ·left;simp
    ·right
     refine ⟨rfl,?_⟩
     by_cases h2:t<term
     ·left;exact ⟨h2,by simp[h2]⟩
     ·right
      refine ⟨h2,?_⟩
      by_cases h3:t=term
      ·by_cases h4:0≤voted
       ·left;exact ⟨h3,h4,by simp[h3,h4]⟩
       ·right;left;exact ⟨h3,h4,by rw[if_pos ⟨⟨h1,rfl,rfl⟩,h2,fun hh=>h4 hh.2⟩]⟩
      ·right;right;exact ⟨by simpa using h3,by rw[if_pos ⟨⟨h1,rfl,rfl⟩,h2,fun hh=>h3 hh.1⟩]⟩
  ·left;exact ⟨h1,by simp[h1]⟩
 clear h hB HR2
 go_enter Tryz.func63,Tryz.ntmps63
 go_wp2_with fail
 refine HN.out.mono ?_
 rintro e w1 ⟨rfl,h1,hB1⟩
 have f1:Fr (fun k=>k=v) w w1:=Fr.of_below hB1
 go_wp2_with fail
 refine (HI.out w1 h1).mono ?_
 rintro e w2 ⟨rfl,h2,hf2⟩
 have f2:=fr_rd f1 hf2 (by omega)
 go_wp2_with fail
 refine (HI2.out w2 h2).mono ?_
 rintro e w3 ⟨rfl,h3,hf3⟩
 have f3:=fr_rd f2 hf3 (by omega)
 have hv2:=((hv.below hB1 hvl).fr hf2 (by omega)).fr hf3 (by omega)
 obtain ⟨q0,q1,q2⟩:=hv2.facts
 have HF2:=ħ (HF.out w3 _ _ h3)
 rw[HFe.out] at HF2
 rcases hcs with ⟨x1,rfl⟩ | ⟨rfl,⟨x2,rfl⟩ | ⟨x2,⟨x3,rfl⟩ | ⟨x3,⟨x4,rfl⟩ | ⟨x4,⟨rfl,x5,rfl⟩ | ⟨rfl,x5,rfl⟩ | ⟨x5,rfl⟩⟩⟩⟩⟩
 ·go_wp2_with (go_at_call 93;((with_reducible refine HF2.out.mono ?_);rintro e w4 ⟨rfl,rfl⟩))
  go_ret
  exact ⟨fun _ _ e=>(by cases e),fun _=>rfl,f3⟩
 ·have HV:=ħ (HQ.out w3 _ x2)
  go_wp2_with (first
   | (go_at_call 93;((with_reducible refine HF2.out.mono ?_);rintro e w4 ⟨rfl,rfl⟩))
   | (go_at_call 94;((with_reducible refine HV.out.mono ?_);rintro e w4 ⟨rfl,rfl⟩)))
  go_ret
  exact ⟨fun _ _ e=>(by cases e),fun _=>rfl,f3⟩
 all_goals
  have HV:=ħ (HQ.out w3 _ x2)
  have HV2:=ħ (HM.out w3 _ x3)
  go_wp2_with (first
   | (go_at_call 93;((with_reducible refine HF2.out.mono ?_);rintro e w4 ⟨rfl,rfl⟩))
   | (go_at_call 94;((with_reducible refine HV.out.mono ?_);rintro e w4 ⟨rfl,rfl⟩))
   | (go_at_call 95;((with_reducible refine HV2.out.mono ?_);rintro e w4 ⟨rfl,rfl⟩)))
  go_ret
  first
   | exact ⟨fun _ _ e=>(by cases e),fun _=>rfl,f3⟩
   | (refine ⟨fun _ _ e=>?_,fun e=>(by cases e),?_⟩
      ·cases e
       exact ⟨rfl,by simpa using (hv2.set_ 1 (.int .i64 _)).set_ 2 (.int .i64 _)⟩
      ·exact f3.trans (((Fr.refl (fun x=>x=v) _).setCell (.inl rfl) _).setCell (.inl rfl) _))
def rcZ:Rc:=⟨0,none,0,[]⟩
theorem rcL_set (ds:List Rc)(z r:Rc)(t:List Rc):((((ds ++ z :: t).flatMap rcL).toArray.setIfInBounds (ds.length * 2) (.int .u8 r.kind)).setIfInBounds (ds.length * 2+1) (.slice r.A r.body.length r.c))=((ds ++ r :: t).flatMap rcL).toArray:=by
 have hl:(ds.flatMap rcL).length=ds.length * 2:=flat_length rcL 2 rcL_len ds
 simp only[List.flatMap_append,List.flatMap_cons,σa]
 rw[List.set_append_right _ _ (by omega),hl,Nat.sub_self]
 rw[List.set_append_right _ _ (by omega),hl,show ds.length * 2+1 - ds.length * 2=1 by omega]
 rfl
theorem rcL_zero (n:Nat):madeCells (Value.agg #[.int .u8 0,.slice none 0 0]).cells (n * 2)=((List.replicate n rcZ).flatMap rcL).toArray:=by
 have hz:∀ (n j:Nat),((List.replicate n rcZ).flatMap rcL)[j]?=if j<n * 2 then (if j % 2=0 then some (Value.int .u8 0) else some (.slice none 0 0)) else none:=by
  intro n
  induction n with
  | zero=>intro j;simp
  | succ n ih=>
   intro j
   rw[List.replicate_succ,List.flatMap_cons]
   match j with
   | 0=>simp[rcL,rcZ]
   | 1=>simp[rcL,rcZ];omega
   | j+2=>
    rw[List.getElem?_append_right (by rw[rcL_len];omega),rcL_len,show j+2 - 2=j by omega,ih]
    simp only[show (j+2<(n+1) * 2)=(j<n * 2) by simp;omega,show (j+2) % 2=j % 2 by omega]
 apply Array.ext'
 apply List.ext_getElem?
 intro j
 rw[hz]
 by_cases hj:j<n * 2
 ·rw[if_pos hj]
  simp only[madeCells,Value.cells,Array.toList_map,Array.toList_range,List.getElem?_map,List.getElem?_range hj,Option.map_some]
  rcases (show j % 2=0∨j % 2=1 by omega) with e | e
  ·simp[e]
  ·simp[e]
 ·rw[if_neg hj]
  simp[madeCells,hj]
theorem rc_cells {w:World}{B:Nat→Prop}{A:Option Addr}{l:List Rc}(h:Reads w B 2 A l.length (l.flatMap rcL)){k:Nat}{x:Rc}(hx:l[k]?=some x) :
 w.cell? ⟨bk A,ofs A+k * 2,none⟩=some (.int .u8 x.kind)∧w.cell? ⟨bk A,ofs A+k * 2+1,none⟩=some (.slice x.A x.body.length x.c):=by
 have hk:=(List.getElem?_eq_some_iff.1 hx).1
 constructor
 ·rw[h.cell2 (k * 2) (by omega) (by omega)]
  have:=flat_get rcL 2 rcL_len l k 0 x hx (by omega)
  simpa [rcL] using this
 ·rw[Nat.add_assoc,h.cell2 (k * 2+1) (by omega) (by omega)]
  have:=flat_get rcL 2 rcL_len l k 1 x hx (by omega)
  simpa [rcL] using this
def RcsPost (recs:List (Int × List Int))(w:World)(e:Ending)(w':World):Prop:=
 ∃ ds:List Rc,e=.returned (.slice (some ⟨w.heap.size,0,none⟩) ds.length ds.length)∧Reads w' (·=w.heap.size) 2 (some ⟨w.heap.size,0,none⟩) ds.length (ds.flatMap rcL)∧ds.map recOf=recs∧(∀ r∈ds,Reads w' (fun k=>w.heap.size<k) 1 r.A r.body.length (bys r.body))∧Below w.heap.size w w'
theorem i35x:∃ i,Tryz.prog.info? 115=some i∧i.size=2:=by obtain ⟨i,h,_,h2,_⟩:=info_parts info35;exact ⟨i,h,h2⟩
theorem records_any (w:World)(Z:Nat→Prop)(p j:Nat)(recs:List (Int × List Int))(dur:Int)(off:Bool)(h:JS w Z p j recs dur off)(hl:recs.length≤1000000)(hb:∀ x∈recs,x.2.length≤1000000) :
 Calls Tryz.prog 35 #[.pointer (some ⟨j,0,none⟩)] w (RcsPost recs w):=by
 obtain ⟨A,c,Ar,cr,As,cs,rs,h1,h2⟩:=h
 have hrl:rs.length=recs.length:=by rw[←h2];simp
 obtain ⟨q0,q1,q2⟩:=h1.jb.facts
 have hR:=((Reads.of_own h1.ro).old (by omega)).more (B':=(· < w.heap.size)) (fun k hk=>hk.2)
 have hPl:=hR.plain (by omega)
 have hBd:∀ r∈rs,Reads w (· < w.heap.size) 1 r.A r.body.length (bys r.body):=fun r hr=>((h1.bd r hr).old (by omega)).more (fun k hk=>hk.2)
 have hbl:∀ r∈rs,r.body.length≤1000000:=fun r hr=>hb (recOf r) (by rw[←h2];exact List.mem_map_of_mem hr)
 have HB:=ħ hBd
 have HBl:=ħ hbl
 have H2:=ħ h2
 have HRl:=ħ hrl
 have hn:rs.length≤1000000:=by omega
 clear h1 hBd hbl h2 hb hl hrl
 obtain ⟨i,hi,hz,hsz,hby⟩:=info_parts info35
 have hmk:∀ W:World,(Instr.makeSlice 91 (.int .i64 rs.length) (.int .i64 rs.length)).run Tryz.prog W=.ok (.slice (some ⟨W.heap.size,0,none⟩) rs.length rs.length) (W.alloc (.cells ((List.replicate rs.length rcZ).flatMap rcL).toArray 115)):=fun W=>by
  have:=run_make_rowN (P:=Tryz.prog) 91 115 i _ Tryz.underlying91 hi hz .i64 .i64 rs.length rs.length (Nat.le_refl _) (by rw[hby];omega) (by omega) W
  rw[hsz,rcL_zero] at this
  exact this
 go_enter Tryz.func35,Tryz.ntmps35
 go_wp2_with fail
 go_loopw [17] (fun vi wr=>∃ (k:Nat) (ds:List Rc),k=ds.length∧k≤rs.length∧vi=.int .i64 k∧Blk wr w.heap.size 115 ((ds ++ List.replicate (rs.length - k) rcZ).flatMap rcL).toArray∧ds.map recOf=(rs.take k).map recOf∧(∀ r∈ds,Reads wr (fun k=>w.heap.size<k) 1 r.A r.body.length (bys r.body))∧Below w.heap.size w wr) (fun vi _=>rs.length - (intOf vi).toNat)
 case atStart=>exact ⟨0,[],rfl,Nat.zero_le _,rfl,by simpa using Blk.new w 115 _,rfl,by simp,(Below.refl _ _).alloc (Nat.le_refl _) _⟩
 case round=>
  obtain ⟨k,ds,hkd,hk,rfl,hblk,hmap,hrd,hbel⟩:=hrel
  have HM:=ħ hmap
  have HD:=ħ hrd
  have HK:=ħ hkd
  clear hmap hrd hkd
  have hsz':=hbel.size
  by_cases hlt:k<rs.length
  ·have hlt':(k:Int)<rs.length:=by omega
   obtain ⟨x,hgx⟩:∃ x,rs[k]?=some x:=⟨_,List.getElem?_eq_getElem hlt⟩
   have hxm:=List.mem_of_getElem? hgx
   have hRr:=hR.below hbel (fun _ h=>h)
   have hix:=fun W=>run_indexAt2 (P:=Tryz.prog) Tryz.underlying91 hi hsz hPl cr k hlt W
   have hix2:∀ W:World,(Instr.indexAt 91 (.slice (some ⟨w.heap.size,0,none⟩) rs.length rs.length) (.int .i64 (k:Int))).run Tryz.prog W=.ok (.pointer (some ⟨w.heap.size,k * 2,none⟩)) W:=fun W=>by simpa [bk,ofs,adr] using run_indexAt2 (P:=Tryz.prog) Tryz.underlying91 hi hsz (A:=some ⟨w.heap.size,0,none⟩) (n:=rs.length) (fun _=>⟨_,_,rfl⟩) rs.length k hlt W
   obtain ⟨c0,c1⟩:=rc_cells hRr hgx
   have HG:=ħ hgx
   have HX:=ħ ((HB.out x hxm).below hbel (fun _ h=>h))
   have HCl:=ħ fun W' B (y:Reads W' B 1 x.A x.body.length (bys x.body))=>clone_any B x.kind x.A x.c x.body W' y (HBl.out x hxm)
   clear hR hgx hRr hxm
   go_wp2_with fail
   refine (HCl.out _ _ (HX.out.alloc _)).mono ?_
   rintro e w2 ⟨A2,c2,rfl,r2,hB2⟩
   have B2:Below w.heap.size w w2:=(hbel.alloc hsz' _).trans (hB2.mono (by simp;omega))
   have hlw:w.heap.size<wr.heap.size:=hblk.lt
   have k2:=(hblk.alloc (.cells #[.int .u8 x.kind,.slice x.A x.body.length x.c] 115)).below hB2 (by simp;omega)
   obtain ⟨y0,y1,y2⟩:=k2.facts
   have hrep:List.replicate (rs.length - k) rcZ=rcZ :: List.replicate (rs.length - (k+1)) rcZ:=by
    rw[show rs.length - k=(rs.length - (k+1))+1 by omega,List.replicate_succ]
   have hz0:(ds ++ List.replicate (rs.length - k) rcZ)[k]?=some rcZ:=by
    rw[hrep,List.getElem?_append_right (by rw[←HK.out];exact Nat.le_refl _),←HK.out];simp
   have z0:w2.cell? ⟨w.heap.size,k * 2,none⟩=some (.int .u8 0):=by
    rw[y1,List.getElem?_toArray]
    have:=flat_get rcL 2 rcL_len _ k 0 _ hz0 (by omega)
    simpa [rcL,rcZ] using this
   have z1:w2.cell? ⟨w.heap.size,k * 2+1,none⟩=some (.slice none 0 0):=by
    rw[y1,List.getElem?_toArray]
    have:=flat_get rcL 2 rcL_len _ k 1 _ hz0 (by omega)
    simpa [rcL,rcZ] using this
   have HR:=ħ hrep
   clear y1 hrep hz0
   go_wp2
   have kk:=(k2.set_ (k * 2) (.int .u8 x.kind)).set_ (k * 2+1) (.slice A2 x.body.length c2)
   rw[HR.out,HK.out,rcL_set ds rcZ (Rc.mk x.kind A2 c2 x.body) (List.replicate (rs.length - (ds.length+1)) rcZ),←HK.out] at kk
   refine ⟨⟨k+1,ds ++ [Rc.mk x.kind A2 c2 x.body],by rw[HK.out];simp,by omega,by go_num,?_,?_,?_,?_⟩,by simp[intOf];omega⟩
   ·rw[List.append_assoc];exact kk
   ·rw[List.map_append,HM.out,List.take_add_one,HG.out];simp[recOf]
   ·intro r hr
    rcases List.mem_append.1 hr with hr | hr
    ·exact (((((HD.out r hr).old (by omega)).alloc _).below hB2 (fun k hk=>by simp;omega)).more (fun k hk=>hk.1) |>.setCell (by simp) _).setCell (by simp) _
    ·obtain rfl:r=Rc.mk x.kind A2 c2 x.body:=by simpa using hr
     exact ((r2.more (fun k hk=>by simp at hk;omega)).setCell (by simp) _).setCell (by simp) _
   ·exact (B2.setCell (by simp) _).setCell (by simp) _
  ·have hk':¬ (k:Int)<rs.length:=by omega
   have he:k=rs.length:=by omega
   go_wp2
   go_ret
   have hd:ds.length=rs.length:=by rw[←HK.out,he]
   have hbk:=hblk
   rw[he,Nat.sub_self,List.replicate_zero,List.append_nil] at hbk
   refine ⟨ds,by rw[hd];rfl,?_,by rw[HM.out,he,List.take_length,H2.out],HD.out,hbel⟩
   have:=Reads.of_blk (B:=(·=w.heap.size)) (n:=ds.length) (size:=2) hbk (by simp[flat_length rcL 2 rcL_len]) rfl
   rwa [List.take_of_length_le (by simp[flat_length rcL 2 rcL_len])] at this
end Go.Proofs.YtdfobfjpkjddpaaGreat

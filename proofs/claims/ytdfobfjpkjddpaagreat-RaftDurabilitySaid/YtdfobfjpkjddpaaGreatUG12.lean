import Derived.Test.YtdfobfjpkjddpaaGreatUG11
import Derived.Test.YtdfobfjpkjddpaaGreatUG6
import Derived.Test.YtdfobfjpkjddpaaGreatUG9
import Derived.Test.YtdfobfjpkjddpaaGreatUG10
set_option linter.unusedVariables false
set_option linter.unusedSimpArgs false
set_option maxRecDepth 10000
set_option maxHeartbeats 2000000
namespace Go.Proofs.YtdfobfjpkjddpaaGreat
open Go.RowKit Go.Own Go.Quo Go.Wire
theorem validT_r {x:Int}(h:¬ validT x=false):1≤x∧x≤1099511627776:=by unfold validT at h;simpa using h
theorem validN_r {x:Int}(h:¬ validN x=false):0≤x∧x<9:=by unfold validN at h;simpa using h
theorem rTerm_enc {x t:Int}(h:¬ validT x=false)(ht:¬ x≤t):rTerm (za x) t=some (x,-1):=by
 have hr:=validT_r h
 have:=rdI_enc (n:=x) (by omega) (by omega) []
 rw[List.append_nil] at this
 unfold rTerm
 rw[this]
 have hv:validT x=true:=by simpa using h
 rw[if_pos ⟨by simp[finE],hv,ht⟩]
theorem rVote_enc {x y t n:Int}(h:¬ validT x=false)(hy:¬ validN y=false)(ht:¬ x<t)(hn:¬ (x=t∧0≤n)):rVote (za x ++ za y) t n=some (x,y):=by
 have hr:=validT_r h
 have hry:=validN_r hy
 have h1:=rdI_enc (n:=x) (by omega) (by omega) (za y)
 have h2:=rdI_enc (n:=y) (by omega) (by omega) []
 rw[List.append_nil] at h2
 have hN:rdN (0,x,za y)=(0,y,[]):=by unfold rdN;rw[if_pos rfl];exact h2
 unfold rVote
 rw[h1,hN]
 have hv:validT x=true:=by simpa using h
 have hv2:validN y=true:=by simpa using hy
 rw[if_pos ⟨⟨by simp[finE],hv,hv2⟩,ht,hn⟩]
theorem VS.file {w:World}{Z:Nat→Prop}{p j v:Nat}{recs:List (Int × List Int)}{t n:Int}(h:VS w Z p j v recs t n):FileP w p Z (encJ initS recs) (encJ initS recs).length false:=by
 obtain ⟨A,c,Ar,cr,As,cs,rs,h1,h2⟩:=h.js
 exact ⟨A,c,h1.fb,h1.fo,h1.zf⟩
end Go.Proofs.YtdfobfjpkjddpaaGreat
namespace Go.Raft
open Go.Quo Go.Wire
theorem encU_bytes':∀ u:Nat,Bytes (encU u):=by
 intro u
 induction u using Nat.strongRecOn with
 | _ u ih=>
  by_cases h:u<128
  ·rw[encU_lt h];intro x hx;simp at hx;omega
  ·rw[encU_ge h]
   intro x hx
   rcases List.mem_cons.1 hx with rfl | hx
   ·omega
   ·exact ih (u / 128) (by omega) x hx
abbrev Sd:=Int × List Int
def sI (s:Sd):Int × Sd:=if s.1=0 then ((rdI s.2).2.1,((rdI s.2).1,(rdI s.2).2.2)) else (0,s)
def rdS (l:List Int):Int × List Int × List Int:=((rdL l).1,(rdL l).2.2.take (rdL l).2.1.toNat,(rdL l).2.2.drop (rdL l).2.1.toNat)
def sS (s:Sd):List Int × Sd:=if s.1=0 then ((rdS s.2).2.1,((rdS s.2).1,(rdS s.2).2.2)) else ([],s)
def endS (s:Sd):Int:=if s.1=0 then (if s.2.length=0 then 0 else 2) else s.1
theorem sI_enc {n:Int}(h0:-9223372036854775808≤n)(h1:n<9223372036854775808)(r:List Int):sI (0,za n ++ r)=(n,(0,r)):=by
 unfold sI
 rw[if_pos rfl,rdI_enc h0 h1]
theorem sS_enc {b:List Int}(hb:b.length≤100000)(r:List Int):sS (0,encB b ++ r)=(b,(0,r)):=by
 have hL:rdL (encB b ++ r)=(0,(b.length:Int),b ++ r):=by
  unfold rdL encB
  rw[List.append_assoc,rdI_enc (by omega) (by omega)]
  simp only
  rw[if_pos trivial,if_neg (by omega),if_neg (by simp;omega)]
 unfold sS rdS
 rw[if_pos rfl]
 simp only[hL]
 simp
def entS (s:Sd):Ent × Sd:=(⟨(sI s).1,(sI (sI s).2).1,(sS (sI (sI s).2).2).1⟩,(sS (sI (sI s).2).2).2)
theorem entS_enc {e:Ent}(h:Nd.validE e=true)(r:List Int):entS (0,encE e ++ r)=(e,(0,r)):=by
 unfold Nd.validE MT at h
 simp only[Bool.and_eq_true,decide_eq_true_eq] at h
 obtain ⟨⟨⟨⟨a,b⟩,c⟩,d⟩,g⟩:=h
 unfold entS encE
 rw[List.append_assoc,List.append_assoc,sI_enc (by omega) (by omega)]
 simp only
 rw[sI_enc (by omega) (by omega)]
 simp only
 rw[sS_enc (by omega)]
def decR (b:List Int):Int × Ent × Bool:=if endS (entS (sI (0,b)).2).2=0∧Nd.validE (entS (sI (0,b)).2).1=true then ((sI (0,b)).1,(entS (sI (0,b)).2).1,true) else (0,⟨0,0,[]⟩,false)
theorem decR_enc {n:Int}{e:Ent}(h0:-9223372036854775808≤n)(h1:n<9223372036854775808)(h:Nd.validE e=true):decR (za n ++ encE e)=(n,e,true):=by
 unfold decR
 rw[sI_enc h0 h1]
 simp only
 have:=entS_enc h []
 rw[List.append_nil] at this
 rw[this]
 rw[if_pos ⟨rfl,h⟩]
def lOk (i:Int)(e:Ent)(L:List Ent):Bool:=decide (1≤i) && decide (i≤L.length+1) && (decide (i≤1) || decide ((termAt L (i - 1)).getD 0≤e.term))
def lStep (x:Int × List Int)(L:List Ent):Option (List Ent):=
 if x.1=69 then (if ((decR x.2).2.2 && lOk (decR x.2).1 (decR x.2).2.1 L)=true then some (L.take ((decR x.2).1 - 1).toNat ++ [(decR x.2).2.1]) else none) else some L
def lAll:List (Int × List Int)→List Ent→Option (List Ent)
 | [],L=>some L
 | x :: r,L=>(lStep x L).bind (lAll r)
theorem lAll_append:∀ (l r:List (Int × List Int)) (L:List Ent),lAll (l ++ r) L=(lAll l L).bind (lAll r)
 | [],r,L=>rfl
 | x :: l,r,L=>by
  show (lStep x L).bind (lAll (l ++ r))=((lStep x L).bind (lAll l)).bind (lAll r)
  cases lStep x L with
  | none=>rfl
  | some q=>exact lAll_append l r q
def EW (e:Ent):Prop:=1≤e.term∧e.term≤MT∧1≤e.kind∧e.kind≤3∧e.body.length≤200∧Bytes e.body
theorem EW.val {e:Ent}(h:EW e):Nd.validE e=true:=by
 obtain ⟨a,b,c,d,g,_⟩:=h
 unfold Nd.validE
 simp only[Bool.and_eq_true,decide_eq_true_eq]
 exact ⟨⟨⟨⟨a,b⟩,c⟩,d⟩,by omega⟩
def Srt (L:List Ent):Prop:=∀ (i j:Nat) (a b:Ent),i≤j→L[i]?=some a→L[j]?=some b→a.term≤b.term
theorem lAll_recs:∀ (es L:List Ent),(∀ e∈es,EW e)→Srt (L ++ es)→L.length+es.length≤1000000→lAll (recsOf (L.length+1) es) L=some (L ++ es)
 | [],L,_,_,_=>by simp[recsOf,lAll]
 | e :: r,L,h,hs,hl=>by
  have he:=h e (by simp)
  simp only[List.length_cons] at hl
  have hd:decR (za ((L.length+1:Nat):Int) ++ encE e)=(((L.length+1:Nat):Int),e,true):=decR_enc (by omega) (by omega) he.val
  have hst:lStep (69,za ((L.length+1:Nat):Int) ++ encE e) L=some (L ++ [e]):=by
   unfold lStep
   rw[if_pos rfl]
   simp only
   rw[hd]
   simp only
   have hok:lOk ((L.length+1:Nat):Int) e L=true:=by
    unfold lOk
    simp only[Bool.and_eq_true,Bool.or_eq_true,decide_eq_true_eq]
    refine ⟨⟨by omega,by omega⟩,?_⟩
    rcases Nat.eq_zero_or_pos L.length with h0 | h0
    ·left;omega
    ·right
     rw[show ((L.length+1:Nat):Int) - 1=(L.length:Int) by omega,termAt_nat,if_neg (by omega)]
     obtain ⟨d,hd⟩:=at_lt (X:=L) (k:=L.length - 1) (by omega)
     rw[hd]
     show d.term≤e.term
     exact hs (L.length - 1) L.length d e (by omega) (by rw[List.getElem?_append_left (by omega)];exact hd) (by simp)
   rw[hok]
   simp only[Bool.and_self,if_true]
   rw[show (((L.length+1:Nat):Int) - 1).toNat=L.length by omega,List.take_length]
  show (lStep (69,za ((L.length+1:Nat):Int) ++ encE e) L).bind (lAll (recsOf (L.length+1+1) r))=_
  rw[hst]
  have ih:=lAll_recs r (L ++ [e]) (fun x hx=>h x (by simp[hx])) (by rw[List.append_assoc];exact hs) (by simp;omega)
  rw[List.length_append,List.length_singleton] at ih
  show lAll (recsOf (L.length+1+1) r) (L ++ [e])=_
  rw[ih,List.append_assoc];rfl
end Go.Raft
namespace Go.Proofs.YtdfobfjpkjddpaaGreat
open Go.RowKit Go.Own Go.Quo Go.Wire Go.Raft
theorem run_copy_part {P:Program}(dT sT ty elem:TypeId)(hu:P.underlying dT=some (.slice elem))(hs:(P.info? elem).map (·.size)=some 1)
 {w:World} {B:Nat→Prop} {A:Option Addr} {n m c d:Nat} {xs:List Value} (t:TypeId) (cur:Array Value) (hr:Reads w B 1 A m xs) (h1:∀ v∈xs,v.oneCell'=true) (hnm:n≤m) (h0:0<n) (hc:cur.size=n) (g:Nat) (hg:g=w.heap.size) :
 (Builtin.copy_ #[dT,sT] ty #[.slice (some ⟨g,0,none⟩) n d,.slice A m c]).run P (w.alloc (.cells cur t))=.ok (goInt n) (w.alloc (.cells (xs.take n).toArray t)):=by
 subst hg
 have hl:xs.length=m:=by simpa using hr.1
 have hl2:(xs.take n).length=n:=by rw[List.length_take];omega
 obtain ⟨ad,rfl,hb,hcell⟩:=(hr.alloc (.cells cur t)).2 (by omega)
 have hcell2:∀ j v,(xs.take n)[j]?=some v→(w.alloc (.cells cur t)).cell? (ad.add j)=some v:=fun j v hv=>hcell j v (by
  rw[←hv]
  have hj:j<n:=by have:=(List.getElem?_eq_some_iff.1 hv).1;omega
  rw[List.getElem?_take_of_lt hj])
 have:=run_copy_row (P:=P) (w.alloc (.cells cur t)) dT sT ty elem w.heap.size 0 n d ad m c cur t (xs.take n) hu hs (heap_alloc_new w _) (by rw[hl2];exact (Nat.min_eq_right hnm).symm) hcell2 (by omega) (fun v hv=>h1 v (List.mem_of_mem_take hv))
 rw[this,hl2]
 congr 1
 have e:(List.take 0 cur.toList ++ xs.take n ++ List.drop (0+n) cur.toList).toArray=(xs.take n).toArray:=by
  simp[show List.drop n cur.toList=[] from List.drop_eq_nil_of_le (by simp;omega)]
 rw[e]
 simp only[World.setRow,World.alloc]
 congr 1
 apply Array.ext_getElem?
 intro i
 rw[Array.getElem?_modify,Array.getElem?_push,Array.getElem?_push]
 by_cases hi:w.heap.size=i
 ·subst hi;simp
 ·rw[if_neg hi]
  by_cases h2:i=w.heap.size
  ·exact absurd h2.symm hi
  ·simp[h2]
def ByPost (p:Nat)(B:Nat→Prop)(R:Int × List Int × List Int)(w:World)(e:Ending)(w':World):Prop:=
 ∃ A c,e=.returned (.slice A R.2.1.length c)∧Reads w' (w.heap.size≤·) 1 A R.2.1.length (bys R.2.1)∧RdP w' p B R.2.2 R.1∧Fr (·=p) w w'
theorem bytes_err (p:Nat)(B:Nat→Prop)(rest:List Int)(err:Int)(w:World)(h:RdP w p B rest err)(he:err≠0) :
 Calls Tryz.prog 126 #[.pointer (some ⟨p,0,none⟩)] w fun e w'=>e=.returned (.slice none 0 0)∧w=w':=by
 have HI:=ħ (length_err p B rest err w h he)
 clear h he
 go_enter Tryz.func126,Tryz.ntmps126
 go_wp2_with (go_at_call 152;((with_reducible refine HI.out.mono ?_);rintro e w1 ⟨rfl,rfl⟩))
 go_ret
 exact ⟨rfl,rfl⟩
theorem bytes_ok (p:Nat)(B:Nat→Prop)(rest:List Int)(w:World)(h:RdP w p B rest 0)(hp:¬ B p)(hBw:∀ k,B k→k<w.heap.size)(hB:Bytes rest)(hl:rest.length≤1000000) :
 Calls Tryz.prog 126 #[.pointer (some ⟨p,0,none⟩)] w (ByPost p B (rdS rest) w):=by
 have HI:=ħ (length_ok p B rest w h hp hB)
 have HR:=ħ (show rdS rest=((rdL rest).1,(rdL rest).2.2.take (rdL rest).2.1.toNat,(rdL rest).2.2.drop (rdL rest).2.1.toNat) from rfl)
 have hLe:=rdL_le rest
 have hLl:=rdL_len rest
 have HEr:=ħ (rdL_err rest)
 generalize rdS rest=RR at *
 generalize rdL rest=R0 at *
 obtain ⟨e1,n0,r1⟩:=R0
 simp only at HI HR hLe HEr hLl
 clear h hB
 go_enter Tryz.func126,Tryz.ntmps126
 go_wp2_with fail
 refine HI.out.mono ?_
 rintro e w1 ⟨rfl,hrd,hfr⟩
 have hs1:=hfr.size
 by_cases h0:n0=0
 ·have h0b:(n0 == 0)=true:=by simpa using h0
  have HE:=ħ (show RR=(e1,[],r1) by rw[HR.out,h0];simp)
  clear h0
  go_wp2
  go_ret
  rw[HE.out]
  exact ⟨none,0,rfl,Reads.none_,hrd,hfr⟩
 ·have h0b:(n0 == 0)=false:=by simpa using h0
  have he1:e1=0:=by
   rcases HEr.out with h | ⟨_,h⟩
   ·exact h
   ·injection h with h2 _;exact absurd h2 h0
  subst he1
  obtain ⟨hn1,hn2⟩:=hLe rfl
  obtain ⟨n,rfl⟩:∃ n:Nat,n0=(n:Int):=⟨n0.toNat,by omega⟩
  have hn3:n≤r1.length:=by omega
  have hn4:0<n:=by omega
  have HE:=ħ (show RR=(0,r1.take n,r1.drop n) by rw[HR.out];simp)
  clear h0
  obtain ⟨A1,c1,hk1,hr1,hc1⟩:=hrd
  obtain ⟨xs,hxs⟩:∃ xs,xs=r1.take n:=⟨_,rfl⟩
  have hl1:xs.length=n:=by rw[hxs,List.length_take];omega
  have HXs:=ħ hxs
  have hk2:=hk1.alloc (.cells (zrow (.int .u8 0) n) 5)
  have hk3:=hk1.alloc (.cells (bys xs).toArray 5)
  obtain ⟨q0,q1,q2⟩:=hk2.facts
  obtain ⟨t0,t1,t2⟩:=hk3.facts
  have hmk:=run_make1 (P:=Tryz.prog) 46 5 (.int .u8 0) 1 Tryz.underlying46 info5 rfl n (by omega) (by omega)
  have hcp1:=run_copy_part (P:=Tryz.prog) 46 46 3 5 Tryz.underlying46 size5 (c:=c1) (d:=n) 5 (zrow (.int .u8 0) n) hr1 (bys_one r1) hn3 hn4 (size_zrow _ _) w1.heap.size rfl
  have hcp2:(Builtin.copy_ #[46,46] 3 #[.slice (some ⟨w1.heap.size,0,none⟩) n n,.slice A1 r1.length c1]).run Tryz.prog (w1.alloc (.cells (zrow (.int .u8 0) n) 5))=.ok (goInt n) (w1.alloc (.cells (bys xs).toArray 5)):=by
   rw[hcp1,hxs,bys,bys,List.map_take]
  have hct:=fun W=>run_cutB (A:=A1) (n:=r1.length) (c:=c1) n hn3 W
  have hct2:=fun W=>run_cutB2 (A:=A1) (n:=r1.length) (c:=c1) n hn3 W
  have HLx:=ħ hl1
  clear hcp1 hxs hl1
  go_wp2
  go_ret
  rw[HE.out]
  have hl1:=HLx.out
  rw[←HXs.out]
  have hl2:(r1.drop n).length=r1.length - n:=List.length_drop
  refine ⟨some ⟨w1.heap.size,0,none⟩,n,by simp only[hl1];rfl,?_,⟨cutA A1 c1 n,c1 - n,?_,?_,by show (r1.drop n).length≤_;omega⟩,?_⟩
  ·have h5:=Reads.newS w1 (bys xs) 5 (0,0) xs.length 1 (by simp[bys]) w1.heap.size rfl
   have h6:=h5.setCell (p:=⟨p,0,none⟩) (fun e=>by have e2:p=w1.heap.size:=e;have:=hk1.lt;omega) (.slice (cutA A1 c1 n) (r1.length - n) (c1 - n))
   exact h6.more (fun b hb=>by have e2:b=w1.heap.size:=hb;omega)
  ·have:=hk3.set_ 0 (.slice (cutA A1 c1 n) (r1.length - n) (c1 - n))
   rw[hl2]
   simpa using this
  ·have h5:=Reads.cutB hr1 (k:=n) (c:=c1) hn3 hc1
   exact ((h5.alloc _).setCell (p:=⟨p,0,none⟩) (fun e=>hp e) _)
  ·exact (hfr.alloc _).setCell (p:=⟨p,0,none⟩) (.inl rfl) _
theorem rd_int (p:Nat)(B:Nat→Prop)(s:Sd)(w:World)(h:RdP w p B s.2 s.1)(hp:¬ B p)(hB:Bytes s.2) :
 Calls Tryz.prog 92 #[.pointer (some ⟨p,0,none⟩)] w fun e w'=>e=.returned (.int .i64 (sI s).1)∧RdP w' p B (sI s).2.2 (sI s).2.1∧Fr (·=p) w w':=by
 obtain ⟨err,l⟩:=s
 by_cases h0:err=0
 ·subst h0
  exact int_ok p B l w h hp hB
 ·have e:sI (err,l)=(0,(err,l)):=by unfold sI;rw[if_neg h0]
  rw[e]
  exact (int_err p B l err w h h0).mono (fun e w' ⟨h1,h2⟩=>⟨h1,h2 ▸ h,h2 ▸ Fr.refl _ _⟩)
theorem rd_fin (p:Nat)(B:Nat→Prop)(s:Sd)(w:World)(h:RdP w p B s.2 s.1) :
 Calls Tryz.prog 93 #[.pointer (some ⟨p,0,none⟩)] w fun e w'=>e=.returned (.int .i64 (endS s))∧w=w':=finish_any p B s.2 s.1 w h
theorem rd_bytes (p:Nat)(B:Nat→Prop)(s:Sd)(w:World)(h:RdP w p B s.2 s.1)(hp:¬ B p)(hBw:∀ k,B k→k<w.heap.size)(hB:Bytes s.2)(hl:s.2.length≤1000000) :
 Calls Tryz.prog 126 #[.pointer (some ⟨p,0,none⟩)] w fun e w'=>∃ A c,e=.returned (.slice A (sS s).1.length c)∧Reads w' (w.heap.size≤·) 1 A (sS s).1.length (bys (sS s).1)∧RdP w' p B (sS s).2.2 (sS s).2.1∧Fr (·=p) w w':=by
 obtain ⟨err,l⟩:=s
 by_cases h0:err=0
 ·subst h0
  exact bytes_ok p B l w h hp hBw hB hl
 ·have e:sS (err,l)=([],(err,l)):=by unfold sS;rw[if_neg h0]
  rw[e]
  exact (bytes_err p B l err w h h0).mono (fun e w' ⟨h1,h2⟩=>⟨none,0,h1,Reads.none_,h2 ▸ h,h2 ▸ Fr.refl _ _⟩)
theorem sI_bytes {s:Sd}(h:Bytes s.2):Bytes (sI s).2.2:=by
 unfold sI
 split
 ·exact rdI_bytes h
 ·exact h
theorem sI_len (s:Sd):(sI s).2.2.length≤s.2.length:=by
 unfold sI
 split
 ·exact rdI_len s.2
 ·exact Nat.le_refl _
theorem wb_any (p:Nat)(B:Nat→Prop)(A0:Option Addr)(c0:Nat)(b out:List Int)(w:World)(hw:WrP w p out)(h:Reads w B 1 A0 b.length (bys b))(hB:∀ k,B k→k<p)(hl:out.length≤900000000)(hb:b.length≤1000000) :
 Calls Tryz.prog 127 #[.pointer (some ⟨p,0,none⟩),.slice A0 b.length c0] w (fun e w'=>e=.returned (.tuple #[])∧WrP w' p (out ++ Raft.encB b)∧Below p w w'):=by
 have HI:=ħ (int_any p (b.length:Int) out w hw (by omega) (by omega) (by omega))
 have hlen:=encI_len (n:=(b.length:Int)) (by omega) (by omega)
 have hpl:p<w.heap.size:=by obtain ⟨A,c,hk,_⟩:=hw;exact hk.lt
 obtain ⟨o,ho⟩:∃ o,o=out ++ Wire.za (b.length:Int):=⟨_,rfl⟩
 have hol:o.length≤900000010:=by rw[ho,List.length_append];omega
 have HO:=ħ (show out ++ Raft.encB b=o ++ b by rw[ho];unfold Raft.encB;rw[List.append_assoc])
 rw[←ho] at HI
 clear ho hlen hw
 go_enter Tryz.func127,Tryz.ntmps127
 go_wp2_with fail
 refine HI.out.mono ?_
 rintro e w2 ⟨rfl,⟨A,c,hk,hown⟩,hb2⟩
 have h2:=h.below hb2 hB
 obtain ⟨q0,q1,q2⟩:=hk.facts
 go_wp2_with (first
  | (at_builtin;refine wpList_append_any _ rfl _ _ _ rfl (p+1) 5 _ 1 1 Tryz.underlying46 info5 rfl (by omega) (.slice A o.length c) o.length (bys o) rfl hown _ A0 b.length c0 (bys b) rfl h2 (bys_one b) (by simp only[maxLen];omega) (by omega) (by omega) ?_;intro A4 c4 w4 hown4 hgr4 hat4;have hk4:=hk.grown hgr4 (by intro e;have:=(hown.lt p e.symm).1;omega);obtain ⟨x0,x1,x2⟩:=hk4.facts))
 refine bodyPost_end (v:=.tuple #[]) (by simp[results,Tryz.results127,go_sem]) rfl ⟨rfl,?_,?_⟩
 ·rw[HO.out]
  have e1:(o ++ b).length=o.length+b.length:=List.length_append
  have o4:w4.ownsRow (p+1) 5 1 (.slice A4 (o ++ b).length c4) (o ++ b).length (bys (o ++ b)):=by rw[e1];simpa [bys] using hown4
  refine ⟨A4,c4,?_,?_⟩
  ·have:=hk4.set_ 0 (.slice A4 (o ++ b).length c4)
   rw[e1] at this⊢
   simpa using this
  ·rw[e1] at o4⊢
   exact own_far o4 (p:=⟨p,0,none⟩) (by simp) _
 ·exact (hb2.grown hgr4 (by omega) (fun g hg=>by have:=(hown.lt g hg).1;omega)).setCell (by simp) _
structure KL (w:World) (p:Nat) (rs:List (Nat × TypeId × Array Value)):Prop where
 al:∀ x∈rs,Blk w x.1 x.2.1 x.2.2∧x.2.1≠5∧x.1≠p
theorem KL.wr2 {w w2:World}{p n c:Nat}{A:Option Addr}{xs:List Value}{rs:List (Nat × TypeId × Array Value)}(h:KL w p rs)(hown:w.ownsRow (p+1) 5 1 (.slice A n c) n xs)(hg:w.grownBy w2 (Value.slice A n c).ownBlock):KL w2 p rs:=
 ⟨fun x hx=>by
  obtain ⟨h1,h2,h3⟩:=h.al x hx
  exact ⟨h1.grown hg (fun e=>own_ne hown h1 (fun e=>h2 e.symm) _ e.symm rfl),h2,h3⟩⟩
theorem KL.wr {w w2:World}{p n c:Nat}{A:Option Addr}{xs:List Value}{rs:List (Nat × TypeId × Array Value)}{o:Obj}(h:KL w p rs)(hown:w.ownsRow (p+1) 5 1 (.slice A n c) n xs)(hg:(w.alloc o).grownBy w2 (Value.slice A n c).ownBlock):KL w2 p rs:=
 ⟨fun x hx=>by
  obtain ⟨h1,h2,h3⟩:=h.al x hx
  exact ⟨(h1.alloc _).grown hg (fun e=>own_ne hown h1 (fun e=>h2 e.symm) _ e.symm rfl),h2,h3⟩⟩
theorem KL.far_ {w:World}{p:Nat}{rs:List (Nat × TypeId × Array Value)}(h:KL w p rs)(v:Value):KL (w.setCell ⟨p,0,none⟩ v) p rs:=
 ⟨fun x hx=>by
  obtain ⟨h1,h2,h3⟩:=h.al x hx
  exact ⟨h1.far (p:=⟨p,0,none⟩) h3 v,h2,h3⟩⟩
theorem int_b (p:Nat)(n:Int)(out:List Int)(w:World)(hw:WrP w p out)(rs:List (Nat × TypeId × Array Value))(hr:KL w p rs)(h0:-9223372036854775808≤n)(h1:n<9223372036854775808)(hl:out.length≤1000000000) :
 Calls Tryz.prog 117 #[.pointer (some ⟨p,0,none⟩),.int .i64 n] w (fun e w'=>e=.returned (.tuple #[])∧WrP w' p (out ++ Wire.za n)∧Below p w w'∧KL w' p rs):=by
 have hz:=zig_bits h0 h1
 have hlen:=encI_len h0 h1
 have hzl:=zig_lt h0 h1
 have HE:=ħ (show Wire.za n=encU (zig n) from rfl)
 generalize Wire.za n=en at *
 go_enter Tryz.func117,Tryz.ntmps117
 go_wp2_with fail
 generalize zig n=z at *
 clear hz
 go_loopw [4] (fun vu wr=>∃ (u:Nat) (o:List Int),vu=.int .u64 u∧u<18446744073709551616∧WrP wr p o∧o ++ encU u=out ++ en∧Below p w wr∧KL wr p rs) (fun u _=>(intOf u).toNat)
 case atStart=>exact ⟨z,out,rfl,hzl,hw,by rw[HE.out],Below.refl _ _,hr⟩
 case round=>
  obtain ⟨u,o,rfl,hu,hwr,ho,hb,hr⟩:=hrel
  have HO:=ħ ho
  have hol:o.length+(encU u).length≤out.length+en.length:=by rw[←List.length_append,←List.length_append,ho];exact Nat.le_refl _
  clear ho
  obtain ⟨A,c,hk,hown⟩:=hwr
  obtain ⟨q0,q1,q2⟩:=hk.facts
  by_cases h:u<128
  ·have h':¬ (128:Int)≤u:=by omega
   have hu8:IntKind.u8.wrap (u:Int)=u:=by rw[IntKind.wrap_u8'];omega
   go_wp2_with (at_builtin;refine wpList_append_any _ rfl _ _ _ rfl (p+1) 5 _ 1 1 Tryz.underlying46 info5 rfl (by omega) (.slice A o.length c) o.length (bys o) rfl (hown.alloc _) _ (some ⟨wr.heap.size,0,none⟩) 1 1 [.int .u8 u] rfl (Reads.newS _ [.int .u8 u] 5 (0,0) 1 1 rfl _ rfl) (by simp[Value.oneCell']) (by simp only[maxLen];omega) (by omega) (by simp;omega) ?_;intro A4 c4 w4 hown4 hgr4 hat4;have hr4:=hr.wr hown hgr4;have hk4:=(hk.alloc _).grown hgr4 (by intro e;have:=(hown.lt p e.symm).1;omega);obtain ⟨r0,r1,r2⟩:=hk4.facts)
   refine bodyPost_end (v:=.tuple #[]) (by simp[results,Tryz.results117,go_sem]) rfl ⟨rfl,?_,?_,hr4.far_ _⟩
   ·rw[←HO.out,encU_lt h]
    refine ⟨A4,c4,?_,?_⟩
    ·have:=hk4.set_ 0 (.slice A4 (o.length+1) c4)
     simpa using this
    ·have:=own_far hown4 (p:=⟨p,0,none⟩) (by simp) (.slice A4 (o.length+1) c4)
     simpa using this
   ·exact ((hb.alloc (Nat.le_of_lt (Nat.lt_of_lt_of_le q0 (Nat.le_refl _))) _).grown hgr4 (by simp;omega) (fun g hg=>by have:=(hown.lt g hg).1;omega)).setCell (by simp) _
  ·have h':(128:Int)≤u:=by omega
   obtain ⟨lo,hlo⟩:∃ lo:Int,lo=((u % 128+128:Nat):Int):=⟨_,rfl⟩
   have hu8:bits .or .u8 ((u:Int) % 256) 128=lo:=by rw[hlo,←low_or u,IntKind.wrap_u8']
   have HLo:=ħ hlo;clear hlo
   go_wp2_with (at_builtin;refine wpList_append_any _ rfl _ _ _ rfl (p+1) 5 _ 1 1 Tryz.underlying46 info5 rfl (by omega) (.slice A o.length c) o.length (bys o) rfl (hown.alloc _) _ (some ⟨wr.heap.size,0,none⟩) 1 1 [.int .u8 lo] rfl (Reads.newS _ [.int .u8 lo] 5 (0,0) 1 1 rfl _ rfl) (by simp[Value.oneCell']) (by simp only[maxLen];omega) (by omega) (by simp;omega) ?_;intro A4 c4 w4 hown4 hgr4 hat4;have hr4:=hr.wr hown hgr4;have hk4:=(hk.alloc _).grown hgr4 (by intro e;have:=(hown.lt p e.symm).1;omega);obtain ⟨r0,r1,r2⟩:=hk4.facts)
   have hsh:(u:Int) / 128=((u / 128:Nat):Int):=by omega
   refine ⟨⟨u / 128,o ++ [lo],congrArg _ hsh,by omega,?_,?_,?_,hr4.far_ _⟩,by simp[intOf];omega⟩
   ·refine ⟨A4,c4,?_,?_⟩
    ·have:=hk4.set_ 0 (.slice A4 (o.length+1) c4)
     simpa using this
    ·have:=own_far hown4 (p:=⟨p,0,none⟩) (by simp) (.slice A4 (o.length+1) c4)
     simpa using this
   ·rw[←HO.out,encU_ge h,HLo.out,List.append_assoc];rfl
   ·exact ((hb.alloc (Nat.le_of_lt (Nat.lt_of_lt_of_le q0 (Nat.le_refl _))) _).grown hgr4 (by simp;omega) (fun g hg=>by have:=(hown.lt g hg).1;omega)).setCell (by simp) _
theorem wb_b (p:Nat)(B:Nat→Prop)(A0:Option Addr)(c0:Nat)(b out:List Int)(w:World)(hw:WrP w p out)(rs:List (Nat × TypeId × Array Value))(hr:KL w p rs)(h:Reads w B 1 A0 b.length (bys b))(hB:∀ k,B k→k<p)(hl:out.length≤900000000)(hb:b.length≤1000000) :
 Calls Tryz.prog 127 #[.pointer (some ⟨p,0,none⟩),.slice A0 b.length c0] w (fun e w'=>e=.returned (.tuple #[])∧WrP w' p (out ++ Raft.encB b)∧Below p w w'∧KL w' p rs):=by
 have HI:=ħ (int_b p (b.length:Int) out w hw rs hr (by omega) (by omega) (by omega))
 have hlen:=encI_len (n:=(b.length:Int)) (by omega) (by omega)
 have hpl:p<w.heap.size:=by obtain ⟨A,c,hk,_⟩:=hw;exact hk.lt
 obtain ⟨o,ho⟩:∃ o,o=out ++ Wire.za (b.length:Int):=⟨_,rfl⟩
 have hol:o.length≤900000010:=by rw[ho,List.length_append];omega
 have HO:=ħ (show out ++ Raft.encB b=o ++ b by rw[ho];unfold Raft.encB;rw[List.append_assoc])
 rw[←ho] at HI
 clear ho hlen hw
 go_enter Tryz.func127,Tryz.ntmps127
 go_wp2_with fail
 refine HI.out.mono ?_
 rintro e w2 ⟨rfl,⟨A,c,hk,hown⟩,hb2,hr2⟩
 have h2:=h.below hb2 hB
 obtain ⟨q0,q1,q2⟩:=hk.facts
 go_wp2_with (first
  | (at_builtin;refine wpList_append_any _ rfl _ _ _ rfl (p+1) 5 _ 1 1 Tryz.underlying46 info5 rfl (by omega) (.slice A o.length c) o.length (bys o) rfl hown _ A0 b.length c0 (bys b) rfl h2 (bys_one b) (by simp only[maxLen];omega) (by omega) (by omega) ?_;intro A4 c4 w4 hown4 hgr4 hat4;have hr4:=hr2.wr2 hown hgr4;have hk4:=hk.grown hgr4 (by intro e;have:=(hown.lt p e.symm).1;omega);obtain ⟨x0,x1,x2⟩:=hk4.facts))
 refine bodyPost_end (v:=.tuple #[]) (by simp[results,Tryz.results127,go_sem]) rfl ⟨rfl,?_,?_,hr4.far_ _⟩
 ·rw[HO.out]
  have e1:(o ++ b).length=o.length+b.length:=List.length_append
  have o4:w4.ownsRow (p+1) 5 1 (.slice A4 (o ++ b).length c4) (o ++ b).length (bys (o ++ b)):=by rw[e1];simpa [bys] using hown4
  refine ⟨A4,c4,?_,?_⟩
  ·have:=hk4.set_ 0 (.slice A4 (o ++ b).length c4)
   rw[e1] at this⊢
   simpa using this
  ·rw[e1] at o4⊢
   exact own_far o4 (p:=⟨p,0,none⟩) (by simp) _
 ·exact (hb2.grown hgr4 (by omega) (fun g hg=>by have:=(hown.lt g hg).1;omega)).setCell (by simp) _
theorem writeEntry_any (p:Nat)(B:Nat→Prop)(t k:Int)(A:Option Addr)(c:Nat)(b out:List Int)(w:World)(hw:WrP w p out)(h:Reads w B 1 A b.length (bys b))(hB:∀ j,B j→j<p)(hl:out.length≤800000000)(hb:b.length≤1000000)
 (ht:-9223372036854775808≤t∧t<9223372036854775808) (hk:-9223372036854775808≤k∧k<9223372036854775808) :
 Calls Tryz.prog 135 #[.pointer (some ⟨p,0,none⟩),evV t k A b.length c] w (fun e w'=>e=.returned (.tuple #[])∧WrP w' p (out ++ encE ⟨t,k,b⟩)∧Below p w w'):=by
 have l1:=encI_len ht.1 ht.2
 have l2:=encI_len hk.1 hk.2
 have HI:=ħ fun W o n (x:WrP W p o) (hr:KL W p [(w.heap.size,58,evC t k A b.length c)]) (h0:-9223372036854775808≤n∧n<9223372036854775808) (h1:o.length≤1000000000)=>int_b p n o W x _ hr h0.1 h0.2 h1
 have HB:=ħ fun W o (x:WrP W p o) (hr:KL W p [(w.heap.size,58,evC t k A b.length c)]) (y:Reads W B 1 A b.length (bys b)) (h1:o.length≤900000000)=>wb_b p B A c b o W x _ hr y hB h1 hb
 have hpl:p<w.heap.size:=by obtain ⟨A,c,hk,_⟩:=hw;exact hk.lt
 have w1:=hw.alloc (.cells (evC t k A b.length c) 58)
 have r1:=h.alloc (.cells (evC t k A b.length c) 58)
 have k1:KL (w.alloc (.cells (evC t k A b.length c) 58)) p [(w.heap.size,58,evC t k A b.length c)]:=⟨fun x hx=>by rw[List.mem_singleton] at hx;subst hx;exact ⟨Blk.new w 58 _,by show (58:TypeId)≠5;decide,by show w.heap.size≠p;omega⟩⟩
 have b1:Below p w (w.alloc (.cells (evC t k A b.length c) 58)):=(Below.refl _ _).alloc (by omega) _
 have HE:=ħ (show out ++ encE ⟨t,k,b⟩=out ++ Wire.za t ++ Wire.za k ++ Raft.encB b by unfold encE;simp[List.append_assoc])
 have HT:=ħ ht
 have HK:=ħ hk
 have HS:=ħ hB
 clear hw h ht hk hB
 have G:=ħ (fun (W:World) (h:KL W p [(w.heap.size,58,evC t k A b.length c)])=>(show Blk W w.heap.size 58 (evC t k A b.length c) from (h.al (w.heap.size,58,evC t k A b.length c) (by simp)).1))
 go_enter Tryz.func135,Tryz.ntmps135
 go_wp2_with fail
 generalize w.alloc (.cells (evC t k A b.length c) 58)=W1 at *
 obtain ⟨q0,q1,q2⟩:=(G.out _ k1).facts
 go_wp2_with fail
 refine (HI.out W1 out t w1 k1 HT.out (by omega)).mono ?_
 rintro e w2 ⟨rfl,hw2,hb2,k2⟩
 have r2:=r1.below hb2 HS.out
 clear q0 q1 q2
 obtain ⟨q0,q1,q2⟩:=(G.out _ k2).facts
 go_wp2_with fail
 refine (HI.out w2 _ k hw2 k2 HK.out (by rw[List.length_append];omega)).mono ?_
 rintro e w3 ⟨rfl,hw3,hb3,k3⟩
 have r3:=r2.below hb3 HS.out
 clear q0 q1 q2
 obtain ⟨q0,q1,q2⟩:=(G.out _ k3).facts
 go_wp2_with fail
 refine (HB.out w3 _ hw3 k3 r3 (by rw[List.length_append,List.length_append];omega)).mono ?_
 rintro e w4 ⟨rfl,hw4,hb4,k4⟩
 go_wp2_with fail
 refine bodyPost_end (v:=.tuple #[]) (by simp[results,Tryz.results135,go_sem]) rfl ⟨rfl,by rw[HE.out];exact hw4,((b1.trans hb2).trans hb3).trans hb4⟩
end Go.Proofs.YtdfobfjpkjddpaaGreat

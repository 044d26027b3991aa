import Derived.Test.YtdfobfjpkjddpaaGreatUG12
set_option linter.unusedVariables false
set_option linter.unusedSimpArgs false
set_option maxRecDepth 100000
set_option maxHeartbeats 2000000
namespace Go.Raft
open Go.Quo Go.Wire Go.Proofs.YtdfobfjpkjddpaaGreat
theorem lAll_cut (es L:List Ent)(n:Nat)(hn:n≤L.length)(h:∀ e∈es,EW e)(hs:Srt (L.take n ++ es))(hl:n+es.length≤1000000)(hne:0<es.length):lAll (recsOf (n+1) es) L=some (L.take n ++ es):=by
 have hlt:(L.take n).length=n:=by simp;omega
 have key:=lAll_recs es (L.take n) h hs (by omega)
 rw[hlt] at key
 rw[←key]
 rcases es with _ | ⟨e,r⟩
 ·simp at hne
 have he:=h e (by simp)
 simp only[List.length_cons] at hl
 have hd:decR (za ((n+1:Nat):Int) ++ encE e)=(((n+1:Nat):Int),e,true):=decR_enc (by omega) (by omega) he.val
 have hta:termAt L (((n+1:Nat):Int) - 1)=termAt (L.take n) (((n+1:Nat):Int) - 1):=by
  rw[show ((n+1:Nat):Int) - 1=(n:Int) by omega,termAt_nat,termAt_nat]
  by_cases h0:n=0
  ·rw[if_pos h0,if_pos h0]
  ·rw[if_neg h0,if_neg h0,List.getElem?_take_of_lt (by omega)]
 have hok:lOk ((n+1:Nat):Int) e L=lOk ((n+1:Nat):Int) e (L.take n):=by
  unfold lOk
  rw[hta,hlt]
  have:decide (((n+1:Nat):Int)≤(L.length:Int)+1)=decide (((n+1:Nat):Int)≤(n:Int)+1):=by
   rw[decide_eq_true (by omega),decide_eq_true (by omega)]
  rw[this]
 show (lStep (69,za ((n+1:Nat):Int) ++ encE e) L).bind (lAll (recsOf (n+1+1) r))=(lStep (69,za ((n+1:Nat):Int) ++ encE e) (L.take n)).bind (lAll (recsOf (n+1+1) r))
 congr 1
 unfold lStep
 rw[if_pos rfl,if_pos rfl]
 simp only
 rw[hd]
 simp only
 rw[hok,show (((n+1:Nat):Int) - 1).toNat=n by omega,List.take_take,Nat.min_self]
def recOk (x:Int × List Int):Prop:=Bytes x.2∧x.2.length≤300∧0≤x.1∧x.1<256
structure Wf (k:Nat) (s:Nd):Prop where
 id:0≤s.id∧s.id<9
 wb:1≤s.wait∧s.wait≤MT∧1≤s.beat∧s.beat≤MT
 pm:permB s.c0.o s.c0.n=true
 t0:0≤s.term
 tk:s.term≤k
 vo:-1≤s.voted∧s.voted<9
 ew:∀ e∈s.log,EW e∧e.term≤s.term
 so:Srt s.log
 ln:s.log.length≤20 * k
 ro:1≤s.role∧s.role≤3
 ld:-1≤s.ld∧s.ld<9
 cm:0≤s.commit∧s.commit≤s.log.length
 ti:(0≤s.since∧s.since≤MT)∧(0≤s.hb∧s.hb≤MT)∧(0≤s.latest∧s.latest≤MT)
 l9:s.vs.length=9∧s.nx.length=9∧s.mt.length=9
 nm:∀ j,j<9→(0≤gd s.nx j∧gd s.nx j≤20 * k+1)∧(0≤gd s.mt j∧gd s.mt j≤20 * k)
 lr:s.role=3→∀ j,j<9→(1≤gd s.nx j∧gd s.nx j≤s.log.length+1)∧gd s.mt j≤s.log.length
 rk:∀ x∈s.recs,recOk x
 rn:s.recs.length≤20 * k
 rv:rAll s.recs (0,-1)=some (s.term,s.voted)
 rl:lAll s.recs []=some s.log
structure MW (k:Nat) (m:Msg):Prop where
 t:m.term≤k
 e:∀ x∈m.es,EW x
section
variable {k n:Nat} {s s':Nd}
theorem Wf.keep (h:Wf k s)(e1:s'.id=s.id∧s'.wait=s.wait∧s'.beat=s.beat∧s'.c0=s.c0)(e2:s'.term=s.term∧s'.voted=s.voted∧s'.log=s.log∧s'.recs=s.recs)(ro:1≤s'.role∧s'.role≤3)(ld:-1≤s'.ld∧s'.ld<9)(cm:0≤s'.commit∧s'.commit≤s.log.length)(ti:(0≤s'.since∧s'.since≤MT)∧(0≤s'.hb∧s'.hb≤MT)∧(0≤s'.latest∧s'.latest≤MT))(l9:s'.vs.length=9∧s'.nx.length=9∧s'.mt.length=9)
 (nm:∀ j,j<9→(0≤gd s'.nx j∧gd s'.nx j≤20 * k+1)∧(0≤gd s'.mt j∧gd s'.mt j≤20 * k)) (lr:s'.role=3→∀ j,j<9→(1≤gd s'.nx j∧gd s'.nx j≤s.log.length+1)∧gd s'.mt j≤s.log.length):Wf k s':=by
 obtain ⟨a1,a2,a3,a4⟩:=e1
 obtain ⟨b1,b2,b3,b4⟩:=e2
 exact ⟨by rw[a1];exact h.id,by rw[a2,a3];exact h.wb,by rw[a4];exact h.pm,by rw[b1];exact h.t0,by rw[b1];exact h.tk,by rw[b2];exact h.vo,by rw[b1,b3];exact h.ew,by rw[b3];exact h.so,by rw[b3];exact h.ln,ro,ld,by rw[b3];exact cm,ti,l9,nm,by rw[b3];exact lr,by rw[b4];exact h.rk,by rw[b4];exact h.rn,by rw[b1,b2,b4];exact h.rv,by rw[b3,b4];exact h.rl⟩
theorem Wf.more (h:Wf k s)(hk:k≤n):Wf n s:=⟨h.id,h.wb,h.pm,h.t0,by have:=h.tk;omega,h.vo,h.ew,h.so,by have:=h.ln;omega,h.ro,h.ld,h.cm,h.ti,h.l9,fun j hj=>by have:=h.nm j hj;omega,h.lr,h.rk,by have:=h.rn;omega,h.rv,h.rl⟩
theorem EW.rec {n:Nat}{e:Ent}(h:EW e)(hn:n≤1000000):recOk (69,za n ++ encE e):=by
 obtain ⟨a,b,c,d,g,f⟩:=h
 unfold MT at b
 have l1:=encI_len (n:=(n:Int)) (by omega) (by omega)
 have l2:=encI_len (n:=e.term) (by omega) (by omega)
 have l3:=encI_len (n:=e.kind) (by omega) (by omega)
 have l4:=encI_len (n:=(e.body.length:Int)) (by omega) (by omega)
 refine ⟨?_,?_,show (0:Int)≤69 by decide,show (69:Int)<256 by decide⟩
 ·intro x hx
  simp only[encE,encB,List.mem_append] at hx
  rcases hx with hx | (hx | hx) | hx | hx
  ·exact encU_bytes' _ x hx
  ·exact encU_bytes' _ x hx
  ·exact encU_bytes' _ x hx
  ·exact encU_bytes' _ x hx
  ·exact f x hx
 ·simp only[encE,encB,List.length_append];omega
theorem recs_ok:∀ (es:List Ent) (n:Nat),(∀ e∈es,EW e)→n+es.length≤1000000→∀ x∈recsOf n es,recOk x
 | [],n,_,_,x,hx=>by simp[recsOf] at hx
 | e :: r,n,h,hl,x,hx=>by
  simp only[List.length_cons] at hl
  unfold recsOf at hx
  rcases List.mem_cons.1 hx with rfl | hx
  ·exact (h e (by simp)).rec (by omega)
  ·exact recs_ok r (n+1) (fun y hy=>h y (by simp[hy])) (by omega) x hx
theorem recs_len:∀ (es:List Ent) (n:Nat),(recsOf n es).length=es.length
 | [],n=>rfl
 | e :: r,n=>by unfold recsOf;rw[List.length_cons,recs_len r,List.length_cons]
theorem rAll_recs:∀ (es:List Ent) (n:Nat) (s:Int × Int),rAll (recsOf n es) s=some s
 | [],n,s=>rfl
 | e :: r,n,s=>by
  show (rStep (69,_) s).bind (rAll (recsOf (n+1) r))=some s
  have:rStep (69,za n ++ encE e) s=some s:=by unfold rStep;rw[if_neg (show ¬ (69:Int)=84 by decide),if_neg (show ¬ (69:Int)=86 by decide)]
  rw[this]
  exact rAll_recs r (n+1) s
theorem rAll_append:∀ (l r:List (Int × List Int)) (s:Int × Int),rAll (l ++ r) s=(rAll l s).bind (rAll r)
 | [],r,s=>rfl
 | x :: l,r,s=>by
  show (rStep x s).bind (rAll (l ++ r))=((rStep x s).bind (rAll l)).bind (rAll r)
  cases rStep x s with
  | none=>rfl
  | some q=>exact rAll_append l r q
theorem validEs_spec {top:Int}:∀ (es:List Ent) (last:Int),Nd.validEs top last es=true→(∀ e∈es,last≤e.term∧e.term≤top∧Nd.validE e=true)∧Srt es
 | [],last,_=>⟨fun e he=>by simp at he,fun i j a b _ ha _=>(nil_at ha).elim⟩
 | e :: r,last,h=>by
  unfold Nd.validEs at h
  simp only[Bool.and_eq_true,decide_eq_true_eq] at h
  obtain ⟨⟨⟨h1,h2⟩,h3⟩,h4⟩:=h
  obtain ⟨i1,i2⟩:=validEs_spec r e.term h4
  refine ⟨fun x hx=>?_,fun i j a b hij ha hb=>?_⟩
  ·rcases List.mem_cons.1 hx with rfl | hx
   ·exact ⟨h2,h3,h1⟩
   ·have:=i1 x hx;exact ⟨by omega,this.2.1,this.2.2⟩
  ·rcases j with _ | j
   ·have:i=0:=by omega
    subst this
    rw[ha] at hb;cases hb;exact Int.le_refl _
   ·rcases i with _ | i
    ·simp at ha hb
     subst ha
     exact (i1 b (List.mem_of_getElem? hb)).1
    ·simp at ha hb
     exact i2 i j a b (by omega) ha hb
theorem srt_app {L M:List Ent}(h1:Srt L)(h2:Srt M)(h:∀ a∈L,∀ b∈M,a.term≤b.term):Srt (L ++ M):=by
 intro i j a b hij ha hb
 rcases Nat.lt_or_ge i L.length with h3 | h3
 ·rw[List.getElem?_append_left h3] at ha
  rcases Nat.lt_or_ge j L.length with h4 | h4
  ·rw[List.getElem?_append_left h4] at hb;exact h1 i j a b hij ha hb
  ·rw[List.getElem?_append_right h4] at hb;exact h a (List.mem_of_getElem? ha) b (List.mem_of_getElem? hb)
 ·rw[List.getElem?_append_right h3] at ha
  rw[List.getElem?_append_right (by omega)] at hb
  exact h2 _ _ a b (by omega) ha hb
theorem srt_take {L:List Ent}(h:Srt L)(n:Nat):Srt (L.take n):=fun i j a b hij ha hb=>h i j a b hij (take_len ha).2 (take_len hb).2
theorem srt_drop {L:List Ent}(h:Srt L)(n:Nat):Srt (L.drop n):=fun i j a b hij ha hb=>by
 rw[List.getElem?_drop] at ha hb
 exact h (n+i) (n+j) a b (by omega) ha hb
theorem Wf.write (h:Wf k s){p:Nat}{es:List Ent}(hk:k≤40000)(hp:p≤s.log.length)(he:∀ e∈es,EW e∧e.term≤s.term)(hs:Srt es)(hlast:∀ e,0<p→s.log[p - 1]?=some e→∀ x∈es,e.term≤x.term)(hn:es.length≤16)(hcm:s.commit≤(s.write p es).log.length)(hr:s.role≠3∨s.log.length≤(s.write p es).log.length):Wf (k+1) (s.write p es):=by
 have hle:=pres_le s.log es p
 have hlog:=write_log s p es
 unfold Nd.write at hlog hcm hr⊢
 split
 ·exact h.more (by omega)
 ·rename_i hne
  rw[if_neg hne] at hcm hr
  simp only at hcm hr
  generalize hq:pres s.log p es=q at *
  have hqp:p+q≤s.log.length:=by
   rcases Nat.eq_zero_or_pos q with h0 | h0
   ·omega
   ·have:=pres_at s.log es p (q - 1) (by omega)
    rw[List.getElem?_eq_getElem (by omega:q - 1<es.length)] at this
    have:=(List.getElem?_eq_some_iff.1 this).1
    omega
  have hlen:(s.log.take (p+q) ++ es.drop q).length=p+es.length:=by simp;omega
  have hmem:∀ x∈s.log.take (p+q) ++ es.drop q,EW x∧x.term≤s.term:=by
   intro x hx
   rcases List.mem_append.1 hx with hx | hx
   ·exact h.ew x (List.mem_of_mem_take hx)
   ·exact he x (List.mem_of_mem_drop hx)
  have hsrt:Srt (s.log.take (p+q) ++ es.drop q):=by
   refine srt_app (srt_take h.so _) (srt_drop hs _) (fun a ha b hb=>?_)
   obtain ⟨i,hi⟩:=List.mem_iff_getElem?.1 ha
   obtain ⟨j,hj⟩:=List.mem_iff_getElem?.1 hb
   have hi':=take_len hi
   rw[List.getElem?_drop] at hj
   rcases Nat.eq_zero_or_pos q with h0 | h0
   ·have hp0:0<p:=by omega
    obtain ⟨e,hee⟩:=at_lt (X:=s.log) (k:=p - 1) (by omega)
    have h1:=h.so i (p - 1) a e (by omega) hi'.2 hee
    have h2:=hlast e hp0 hee b (List.mem_of_getElem? hj)
    omega
   ·have h1:=pres_at s.log es p (q - 1) (by omega)
    obtain ⟨e,hee⟩:=at_lt (X:=es) (k:=q - 1) (by omega)
    rw[hee] at h1
    have h2:=h.so i (p+(q - 1)) a e (by omega) hi'.2 h1
    have h3:=hs (q - 1) (q+j) e b (by omega) hee hj
    omega
  have hln:=h.ln
  have hrn:=h.rn
  refine ⟨h.id,h.wb,h.pm,h.t0,by have:=h.tk;show s.term≤_;omega,h.vo,hmem,hsrt,by show (s.log.take (p+q) ++ es.drop q).length≤_;rw[hlen];omega,h.ro,h.ld,⟨h.cm.1,hcm⟩,h.ti,h.l9,fun j hj=>by have:=h.nm j hj;show (0≤gd s.nx j∧gd s.nx j≤_)∧(0≤gd s.mt j∧gd s.mt j≤_);omega,fun hr3 j hj=>?_,?_,?_,?_,?_⟩
  ·have h1:=h.lr hr3 j hj
   have h2:s.log.length≤(s.log.take (p+q) ++ es.drop q).length:=hr.resolve_left (fun hh=>hh hr3)
   show (1≤gd s.nx j∧gd s.nx j≤((s.log.take (p+q) ++ es.drop q).length:Int)+1)∧gd s.mt j≤((s.log.take (p+q) ++ es.drop q).length:Int)
   omega
  ·intro x hx
   have hx':x∈s.recs ++ recsOf (p+1+q) (es.drop q):=hx
   rcases List.mem_append.1 hx' with hx' | hx'
   ·exact h.rk x hx'
   ·exact recs_ok _ _ (fun e hh=>(he e (List.mem_of_mem_drop hh)).1) (by simp;omega) x hx'
  ·show (s.recs ++ recsOf (p+1+q) (es.drop q)).length≤_
   rw[List.length_append,recs_len]
   simp;omega
  ·show rAll (s.recs ++ recsOf (p+1+q) (es.drop q)) (0,-1)=some (s.term,s.voted)
   rw[rAll_append,h.rv]
   exact rAll_recs _ _ _
  ·show lAll (s.recs ++ recsOf (p+1+q) (es.drop q)) []=some (s.log.take (p+q) ++ es.drop q)
   rw[lAll_append,h.rl]
   show lAll (recsOf (p+1+q) (es.drop q)) s.log=_
   rw[show p+1+q=(p+q)+1 by omega]
   exact lAll_cut _ _ _ hqp (fun e hh=>(he e (List.mem_of_mem_drop hh)).1) hsrt (by simp;omega) (by simp;omega)
end
end Go.Raft
namespace Go.Proofs.YtdfobfjpkjddpaaGreat
open Go.RowKit Go.Own Go.Quo Go.Wire Go.Raft
theorem encodeE_no (t k:Int)(A:Option Addr)(c:Nat)(b:List Int)(w:World)(hq:Nd.validE ⟨t,k,b⟩=false) :
 Calls Tryz.prog 97 #[evV t k A b.length c] w fun e w'=>e=.returned (.slice none 0 0)∧Below w.heap.size w w':=by
 have HV:=ħ fun W=>validE_any t k A c b W false hq
 have g1:Blk (w.alloc (.cells (evC t k A b.length c) 58)) w.heap.size 58 (evC t k A b.length c):=Blk.new w 58 _
 have b1:Below w.heap.size w (w.alloc (.cells (evC t k A b.length c) 58)):=(Below.refl _ _).alloc (Nat.le_refl _) _
 clear hq
 go_enter Tryz.func97,Tryz.ntmps97
 go_wp2_with fail
 generalize w.alloc (.cells (evC t k A b.length c) 58)=W1 at *
 obtain ⟨q0,q1,q2⟩:=g1.facts
 go_wp2_with fail
 refine (HV.out W1).mono ?_
 rintro e w2 ⟨rfl,hb2⟩
 go_wp2
 go_ret
 exact ⟨rfl,b1.trans (hb2.mono b1.size)⟩
theorem encodeE_yes (B:Nat→Prop)(t k:Int)(A:Option Addr)(c:Nat)(b:List Int)(w:World)(hq:Nd.validE ⟨t,k,b⟩=true)(h:Reads w B 1 A b.length (bys b)) :
 Calls Tryz.prog 97 #[evV t k A b.length c] w fun e w'=>(∃ a n c',e=.returned (.slice (some a) n c'))∧Below w.heap.size w w':=by
 have HV:=ħ fun W=>validE_any t k A c b W true hq
 have hr:(1≤t∧t≤1099511627776)∧(1≤k∧k≤3)∧b.length≤8192:=by
  unfold Nd.validE MT at hq
  simp only[Bool.and_eq_true,decide_eq_true_eq] at hq
  omega
 have g1:Blk (w.alloc (.cells (evC t k A b.length c) 58)) w.heap.size 58 (evC t k A b.length c):=Blk.new w 58 _
 have r1:=(h.old (by omega)).alloc (.cells (evC t k A b.length c) 58)
 have b1:Below w.heap.size w (w.alloc (.cells (evC t k A b.length c) 58)):=(Below.refl _ _).alloc (Nat.le_refl _) _
 have l1:=encI_len (n:=t) (by omega) (by omega)
 have l2:=encI_len (n:=k) (by omega) (by omega)
 have l3:=encI_len (n:=(b.length:Int)) (by omega) (by omega)
 have lne:0<(Wire.za t).length:=by
  unfold Wire.za
  rw[encU]
  split <;> simp
 have hs1:w.heap.size<(w.alloc (.cells (evC t k A b.length c) 58)).heap.size:=by simp
 have HT:=ħ (show -9223372036854775808≤t∧t<9223372036854775808 by omega)
 have HK:=ħ (show -9223372036854775808≤k∧k<9223372036854775808 by omega)
 have HBl:=ħ (show b.length≤1000000 by omega)
 have hEl:(Raft.encB b).length≤100000:=by unfold Raft.encB;rw[List.length_append];omega
 have HEl:=ħ hEl
 clear hq h hr l3 hEl
 go_enter Tryz.func97,Tryz.ntmps97
 go_wp2_with fail
 generalize w.alloc (.cells (evC t k A b.length c) 58)=W1 at *
 obtain ⟨q0,q1,q2⟩:=g1.facts
 go_wp2_with fail
 refine (HV.out W1).mono ?_
 rintro e w2 ⟨rfl,hb2⟩
 have g2:=g1.below hb2 g1.lt
 have r2:=r1.below hb2 (fun j hj=>by omega)
 have b2:=b1.trans (hb2.mono b1.size)
 have hs2:=hb2.size
 clear q0 q1 q2
 obtain ⟨q0,q1,q2⟩:=g2.facts
 go_wp2_with fail
 have wp3:=WrP.new w2
 have g3:=g2.alloc (.cells #[.slice none 0 0] 160)
 have r3:=r2.alloc (.cells #[.slice none 0 0] 160)
 have b3:=b2.alloc b2.size (.cells #[.slice none 0 0] 160)
 have hs3:w2.heap.size<(w2.alloc (.cells #[.slice none 0 0] 160)).heap.size:=by simp
 obtain ⟨p,hp⟩:∃ p,p=w2.heap.size:=⟨_,rfl⟩
 rw[←hp] at wp3⊢
 have hpw:w.heap.size<p:=by omega
 generalize w2.alloc (.cells #[.slice none 0 0] 160)=W3 at *
 clear hp q0 q1 q2 g2 r2 b2 g1 r1 b1
 obtain ⟨q0,q1,q2⟩:=g3.facts
 go_wp2_with fail
 refine (int_any p t [] W3 wp3 HT.out.1 HT.out.2 (by simp)).mono ?_
 rintro e w4 ⟨rfl,wp4,hb4⟩
 have g4:=g3.below hb4 hpw
 have r4:=r3.below hb4 (fun j hj=>by omega)
 have b4:=b3.trans (hb4.mono (by omega))
 clear q0 q1 q2
 obtain ⟨q0,q1,q2⟩:=g4.facts
 go_wp2_with fail
 refine (int_any p k _ w4 wp4 HK.out.1 HK.out.2 (by rw[List.nil_append];omega)).mono ?_
 rintro e w5 ⟨rfl,wp5,hb5⟩
 have g5:=g4.below hb5 hpw
 have r5:=r4.below hb5 (fun j hj=>by omega)
 have b5:=b4.trans (hb5.mono (by omega))
 clear q0 q1 q2
 obtain ⟨q0,q1,q2⟩:=g5.facts
 go_wp2_with fail
 refine (wb_any p _ A c b _ w5 wp5 r5 (fun j hj=>by omega) (by rw[List.nil_append,List.length_append];omega) HBl.out).mono ?_
 rintro e w6 ⟨rfl,wp6,hb6⟩
 have b6:=b5.trans (hb6.mono (by omega))
 go_wp2_with fail
 refine (encoded_cap p _ w6 wp6 (by have:=HEl.out;rw[List.nil_append,List.length_append,List.length_append];omega)).mono ?_
 rintro e w7 ⟨A7,c7,rfl,r7,hb7,hc7⟩
 have b7:=b6.trans (hb7.mono b6.size)
 obtain ⟨a,rfl,_⟩:=r7.2 (by rw[List.nil_append,List.length_append,List.length_append];omega)
 go_wp2
 go_ret
 exact ⟨⟨a,_,c7,rfl⟩,b7⟩
theorem readEntry_any (p:Nat)(B:Nat→Prop)(s:Sd)(w:World)(h:RdP w p B s.2 s.1)(hp:¬ B p)(hBw:∀ k,B k→k<w.heap.size)(hB:Bytes s.2)(hl:s.2.length≤1000000) :
 Calls Tryz.prog 96 #[.pointer (some ⟨p,0,none⟩)] w fun e w'=>∃ A c,e=.returned (evV (entS s).1.term (entS s).1.kind A (entS s).1.body.length c)∧Reads w' (w.heap.size≤·) 1 A (entS s).1.body.length (bys (entS s).1.body)∧RdP w' p B (entS s).2.2 (entS s).2.1∧Fr (·=p) w w':=by
 have HE:=ħ (show entS s=(⟨(sI s).1,(sI (sI s).2).1,(sS (sI (sI s).2).2).1⟩,(sS (sI (sI s).2).2).2) from rfl)
 have hB1:=sI_bytes hB
 have hl1:=sI_len s
 have hB2:=sI_bytes hB1
 have hl2:=sI_len (sI s).2
 have hpl:p<w.heap.size:=by obtain ⟨A1,c1,hk1,_⟩:=h;exact hk1.lt
 have h0:=h.alloc (.cells #[.int .i64 0,.int .i64 0,.slice none 0 0] 58)
 have g0:Blk (w.alloc (.cells #[.int .i64 0,.int .i64 0,.slice none 0 0] 58)) w.heap.size 58 #[.int .i64 0,.int .i64 0,.slice none 0 0]:=Blk.new w 58 _
 have f0:Fr (·=p) w (w.alloc (.cells #[.int .i64 0,.int .i64 0,.slice none 0 0] 58)):=(Fr.refl _ _).alloc _
 have hs0:w.heap.size+1≤(w.alloc (.cells #[.int .i64 0,.int .i64 0,.slice none 0 0] 58)).heap.size:=by simp
 have H1:=ħ (rd_int p B s _ h0 hp hB)
 have H2:=ħ fun W x=>rd_int p B (sI s).2 W x hp hB1
 have H3:=ħ fun W x (y:w.heap.size≤W.heap.size)=>rd_bytes p B (sI (sI s).2).2 W x hp (fun k hk=>Nat.lt_of_lt_of_le (hBw k hk) y) hB2 (by omega)
 clear h hB hB1 hB2 hl hl1 hl2 h0
 generalize sI s=a1 at *
 obtain ⟨t,s1⟩:=a1
 simp only at H2 H3 HE
 generalize sI s1=a2 at *
 obtain ⟨k,s2⟩:=a2
 simp only at H3 HE
 generalize sS s2=a3 at *
 obtain ⟨b,s3⟩:=a3
 simp only at H1 H2 H3 HE
 rw[HE.out]
 clear HE
 go_enter Tryz.func96,Tryz.ntmps96
 go_wp2_with fail
 generalize w.alloc (.cells #[.int .i64 0,.int .i64 0,.slice none 0 0] 58)=W1 at *
 refine H1.out.mono ?_
 rintro e w2 ⟨rfl,h2,f2⟩
 have hs2:=f2.size
 go_wp2_with fail
 refine (H2.out w2 h2).mono ?_
 rintro e w3 ⟨rfl,h3,f3⟩
 have hs3:=f3.size
 go_wp2_with fail
 refine (H3.out w3 h3 (by omega)).mono ?_
 rintro e w4 ⟨A4,c4,rfl,r4,h4,f4⟩
 have hs4:=f4.size
 have g4:=((g0.fr f2 (by omega)).fr f3 (by omega)).fr f4 (by omega)
 have ff:=((f0.trans f2).trans f3).trans f4
 obtain ⟨q0,q1,q2⟩:=g4.facts
 go_wp2_with fail
 refine bodyPost_ret (v:=evV t k A4 b.length c4) (by simp[results,Tryz.results96,go_sem,q1]) rfl ⟨A4,c4,rfl,?_,?_,?_⟩
 ·exact (((r4.setCell (by simp;omega) _).setCell (by simp;omega) _).setCell (by simp;omega) _).more (fun g hg=>by omega)
 ·have hS:∀ k,B k→¬ k=w.heap.size:=fun k hk=>by have:=hBw k hk;omega
  have fS:Fr (fun k=>k=w.heap.size) w4 (((w4.setCell ⟨w.heap.size,0,none⟩ (.int .i64 t)).setCell ⟨w.heap.size,1,none⟩ (.int .i64 k)).setCell ⟨w.heap.size,2,none⟩ (.slice A4 b.length c4)):=(((Fr.refl (fun k=>k=w.heap.size) w4).setCell (p:=⟨w.heap.size,0,none⟩) (.inl rfl) _).setCell (p:=⟨w.heap.size,1,none⟩) (.inl rfl) _).setCell (p:=⟨w.heap.size,2,none⟩) (.inl rfl) _
  exact h4.fr fS (by omega) hS
 ·exact ((ff.setCell (.inr (Nat.le_refl _)) _).setCell (.inr (Nat.le_refl _)) _).setCell (.inr (Nat.le_refl _)) _
theorem nil46 (a:Addr)(n c:Nat)(W:World):(binOp .eql 46 (.slice (some a) n c) (.slice none 0 0)).run Tryz.prog W=.ok (.bool false) W:=by rfl
theorem nil46n (W:World):(binOp .eql 46 (.slice none 0 0) (.slice none 0 0)).run Tryz.prog W=.ok (.bool true) W:=by rfl
def DrPost (r:Int × Ent × Bool)(w:World)(e:Ending)(w':World):Prop:=
 ∃ A c,e=.returned (.tuple #[.int .i64 r.1,evV r.2.1.term r.2.1.kind A r.2.1.body.length c,.bool r.2.2])∧Reads w' (w.heap.size≤·) 1 A r.2.1.body.length (bys r.2.1.body)∧Below w.heap.size w w'
theorem decR_any (B:Nat→Prop)(A:Option Addr)(c:Nat)(b:List Int)(w:World)(h:Reads w B 1 A b.length (bys b))(hB:Bytes b)(hl:b.length≤100000) :
 Calls Tryz.prog 64 #[.slice A b.length c] w (DrPost (decR b) w):=by
 have HD:=ħ (show decR b=if endS (entS (sI (0,b)).2).2=0∧Nd.validE (entS (sI (0,b)).2).1=true then ((sI (0,b)).1,(entS (sI (0,b)).2).1,true) else (0,⟨0,0,[]⟩,false) from rfl)
 have h0:=h.alloc (.cells #[.int .i64 0,.int .i64 0,.slice none 0 0] 58)
 have g0:Blk (w.alloc (.cells #[.int .i64 0,.int .i64 0,.slice none 0 0] 58)) w.heap.size 58 #[.int .i64 0,.int .i64 0,.slice none 0 0]:=Blk.new w 58 _
 have b0:Below w.heap.size w (w.alloc (.cells #[.int .i64 0,.int .i64 0,.slice none 0 0] 58)):=(Below.refl _ _).alloc (Nat.le_refl _) _
 have hs0:w.heap.size+1≤(w.alloc (.cells #[.int .i64 0,.int .i64 0,.slice none 0 0] 58)).heap.size:=by simp
 have HN:=ħ (newReader_any B A c b _ h0 (by omega))
 have hB1:=sI_bytes (s:=(0,b)) hB
 have hl1:=sI_len (0,b)
 simp only at hl1
 have H1:=ħ fun p B' W x y=>rd_int p B' (0,b) W x y hB
 have H2:=ħ fun p B' W x y z=>readEntry_any p B' (sI (0,b)).2 W x y z hB1 (by omega)
 have H3:=ħ fun p B' W x=>rd_fin p B' (entS (sI (0,b)).2).2 W x
 clear h h0 hB hB1 hl1
 generalize decR b=R at *
 generalize sI (0,b)=a1 at *
 obtain ⟨ix,s1⟩:=a1
 simp only at H1 H2 H3 HD
 generalize entS s1=a2 at *
 obtain ⟨⟨t,k,bd⟩,s2⟩:=a2
 simp only at H2 H3 HD
 generalize endS s2=fe at *
 go_enter Tryz.func64,Tryz.ntmps64
 go_wp2_with fail
 generalize w.alloc (.cells #[.int .i64 0,.int .i64 0,.slice none 0 0] 58)=W1 at *
 refine HN.out.mono ?_
 rintro e w2 ⟨rfl,h2,b2⟩
 have hs2:=b2.size
 have g2:=g0.below b2 g0.lt
 have bb2:=b0.trans (b2.mono b0.size)
 have hpl:W1.heap.size+1<w2.heap.size:=by obtain ⟨A1,c1,hk1,_⟩:=h2;exact hk1.lt
 go_wp2_with fail
 refine (H1.out _ _ w2 h2 (by omega)).mono ?_
 rintro e w3 ⟨rfl,h3,f3⟩
 have hs3:=f3.size
 have g3:=g2.fr f3 (by omega)
 have b3:=bb2.trans (f3.below (B:=w.heap.size) (by omega) (fun k hk=>by omega))
 go_wp2_with fail
 refine (H2.out _ _ w3 h3 (by omega) (fun k hk=>by omega)).mono ?_
 rintro e w4 ⟨A4,c4,rfl,r4,h4,f4⟩
 have hs4:=f4.size
 have g4:=g3.fr f4 (by omega)
 have b4:=b3.trans (f4.below (B:=w.heap.size) (by omega) (fun k hk=>by omega))
 go_wp2_with fail
 have g5:=g4.alloc (.cells (evC t k A4 bd.length c4) 58)
 have e5:Blk (w4.alloc (.cells (evC t k A4 bd.length c4) 58)) w4.heap.size 58 (evC t k A4 bd.length c4):=Blk.new w4 58 _
 have r5:=(r4.old (by omega)).alloc (.cells (evC t k A4 bd.length c4) 58)
 have h5:=h4.alloc (.cells (evC t k A4 bd.length c4) 58)
 have b5:=b4.alloc b4.size (.cells (evC t k A4 bd.length c4) 58)
 have hs5:w4.heap.size<(w4.alloc (.cells (evC t k A4 bd.length c4) 58)).heap.size:=by simp
 generalize w4.alloc (.cells (evC t k A4 bd.length c4) 58)=W5 at *
 have HF:=ħ (H3.out _ _ W5 h5)
 obtain ⟨q0,q1,q2⟩:=e5.facts
 by_cases h1:fe=0
 ·subst h1
  cases hv:Nd.validE ⟨t,k,bd⟩ with
  | false=>
   have HR:=ħ (show R=(0,⟨0,0,[]⟩,false) by rw[HD.out];simp[hv])
   have HE:=ħ (encodeE_no t k A4 c4 bd W5 hv)
   clear hv
   have hnil:=nil46n
   go_wp2_with (first
    | (go_at_call 93;((with_reducible refine HF.out.mono ?_);rintro e w6 ⟨rfl,rfl⟩))
    | (go_at_call 97;((with_reducible refine HE.out.mono ?_);rintro e w7 ⟨rfl,b7⟩;have g7:=g5.below b7 g5.lt;obtain ⟨z0,z1,z2⟩:=g7.facts)))
   obtain rfl:=HR.out
   refine bodyPost_ret (v:=.tuple #[.int .i64 0,evV 0 0 none 0 0,.bool false]) (by simp[results,Tryz.results64,go_sem,z1]) rfl ⟨none,0,rfl,Reads.none_,?_⟩
   exact (((b5.trans (b7.mono b5.size)).setCell (by simp) _).setCell (by simp) _).setCell (by simp) _
  | true=>
   have HR:=ħ (show R=(ix,⟨t,k,bd⟩,true) by rw[HD.out];simp[hv])
   have HE:=ħ (encodeE_yes _ t k A4 c4 bd W5 hv r5)
   clear hv
   have hnil:=nil46
   go_wp2_with (first
    | (go_at_call 93;((with_reducible refine HF.out.mono ?_);rintro e w6 ⟨rfl,rfl⟩))
    | (go_at_call 97;((with_reducible refine HE.out.mono ?_);rintro e w7 ⟨⟨a7,n7,c7,rfl⟩,b7⟩;have g7:=g5.below b7 g5.lt;have e7:=e5.below b7 e5.lt;have r7:=r5.below b7 (fun j hj=>by omega);obtain ⟨z0,z1,z2⟩:=g7.facts;obtain ⟨y0,y1,y2⟩:=e7.facts)))
   have b8:=b5.trans (b7.mono b5.size)
   have hb7s:=b7.size
   go_region_law (fail)
   all_goals
    go_wp2_with fail
    obtain rfl:=HR.out
    refine bodyPost_ret (v:=.tuple #[.int .i64 ix,evV t k A4 bd.length c4,.bool true]) (by simp[results,Tryz.results64,go_sem,z1]) rfl ⟨A4,c4,rfl,?_,?_⟩
    ·exact ((((r7.setCell (p:=⟨w.heap.size,0,none⟩) (fun e=>by have e2:=e.1;simp at e2;omega) _).setCell (p:=⟨w.heap.size,1,none⟩) (fun e=>by have e2:=e.1;simp at e2;omega) _).setCell (p:=⟨w.heap.size,2,none⟩) (fun e=>by have e2:=e.1;simp at e2;omega) _).drew).more (fun j hj=>by omega)
    ·exact (((b8.setCell (by simp) _).setCell (by simp) _).setCell (by simp) _).drew
 ·have HR:=ħ (show R=(0,⟨0,0,[]⟩,false) by rw[HD.out];simp[h1])
  obtain ⟨z0,z1,z2⟩:=g5.facts
  go_wp2_with (first
   | (go_at_call 93;((with_reducible refine HF.out.mono ?_);rintro e w6 ⟨rfl,rfl⟩)))
  obtain rfl:=HR.out
  refine bodyPost_ret (v:=.tuple #[.int .i64 0,evV 0 0 none 0 0,.bool false]) (by simp[results,Tryz.results64,go_sem,z1]) rfl ⟨none,0,rfl,Reads.none_,?_⟩
  exact ((b5.setCell (by simp) _).setCell (by simp) _).setCell (by simp) _
theorem bytesIn_of {w:World}{B:Nat→Prop}{A:Option Addr}{b:List Int}(h:Reads w B 1 A b.length (bys b)):Lib.BytesIn w A b.length b:=by
 intro hn
 obtain ⟨g,o,rfl⟩:=h.plain (by omega) hn
 refine ⟨g,o,rfl,fun i hi=>?_⟩
 have:=h.cell2 i (by omega) (by omega)
 have e:bk (some ⟨g,o,none⟩)=g:=rfl
 have e2:ofs (some ⟨g,o,none⟩)=o:=rfl
 rw[e,e2] at this
 rw[this]
 simp[hi,List.getD]
theorem bytes_inj {x y:List Int}(hx:Bytes x)(hy:Bytes y):(Lib.bytesOf x == Lib.bytesOf y)=decide (x=y):=by
 rw[Bool.eq_iff_iff]
 simp only[beq_iff_eq,decide_eq_true_eq]
 constructor
 ·intro h
  induction x generalizing y with
  | nil=>cases y with | nil=>rfl | cons b r=>simp[Lib.bytesOf] at h
  | cons a r ih=>
   cases y with
   | nil=>simp[Lib.bytesOf] at h
   | cons b s=>
    simp only[Lib.bytesOf,List.map_cons,List.cons.injEq] at h
    have ha:=hx a (by simp)
    have hb:=hy b (by simp)
    have h1:a.toNat=b.toNat:=by
     have:=congrArg UInt8.toNat h.1
     simp only[UInt8.toNat_ofNat'] at this
     rwa [Nat.mod_eq_of_lt (by omega),Nat.mod_eq_of_lt (by omega)] at this
    have h2:=ih (y:=s) (fun z hz=>hx z (by simp[hz])) (fun z hz=>hy z (by simp[hz])) h.2
    rw[h2,show a=b by omega]
 ·rintro rfl;rfl
theorem ent_eq (t k:Int)(b:List Int)(t' k':Int)(b':List Int):decide ((⟨t,k,b⟩:Ent)=⟨t',k',b'⟩)=(decide (t=t') && (decide (k=k') && decide (b=b'))):=by
 rw[Bool.eq_iff_iff];simp
theorem equalE_any (B B':Nat→Prop)(t k:Int)(A:Option Addr)(c:Nat)(b:List Int)(t' k':Int)(A':Option Addr)(c':Nat)(b':List Int)(w:World)(h:Reads w B 1 A b.length (bys b))(h':Reads w B' 1 A' b'.length (bys b'))(hB:Bytes b)(hB':Bytes b')(q:Bool)(hq:decide ((⟨t,k,b⟩:Ent)=⟨t',k',b'⟩)=q) :
 Calls Tryz.prog 156 #[evV t k A b.length c,evV t' k' A' b'.length c'] w fun e w'=>e=.returned (.bool q)∧Below w.heap.size w w':=by
 subst hq
 rw[ent_eq]
 have b1:Below w.heap.size w ((w.alloc (.cells (evC t k A b.length c) 58)).alloc (.cells (evC t' k' A' b'.length c') 58)):=((Below.refl _ _).alloc (Nat.le_refl _) _).alloc (by simp) _
 have HE:=ħ fun W (x:Reads W B 1 A b.length (bys b)) (y:Reads W B' 1 A' b'.length (bys b'))=>(bytes_inj hB hB') ▸ Tryz.bytes_Equal_all A A' b.length c b'.length c' b b' W rfl rfl (bytesIn_of x) (bytesIn_of y)
 have r1:=(h.alloc (.cells (evC t k A b.length c) 58)).alloc (.cells (evC t' k' A' b'.length c') 58)
 have r2:=(h'.alloc (.cells (evC t k A b.length c) 58)).alloc (.cells (evC t' k' A' b'.length c') 58)
 clear h h' hB hB'
 by_cases h1:t=t'
 ·subst h1
  by_cases h2:k=k'
  ·subst h2
   go_enter Tryz.func156,Tryz.ntmps156
   go_wp2_with (go_at_call 153;((with_reducible refine (HE.out _ r1 r2).mono ?_);rintro e w2 ⟨rfl,rfl⟩))
   go_ret
   exact ⟨by simp,b1⟩
  ·go_enter Tryz.func156,Tryz.ntmps156
   go_wp2
   go_ret
   exact ⟨by simp[h2],b1⟩
 ·go_enter Tryz.func156,Tryz.ntmps156
  go_wp2
  go_ret
  exact ⟨by simp[h1],b1⟩
def Sm (L:List Ent):Prop:=∀ e∈L,e.body.length≤1000000∧Bytes e.body
theorem get_yes (w:World)(Z:Nat→Prop)(g:Nat)(L:List Ent)(k:Nat)(x:Ent)(h:LS w Z g L)(hl:L.length≤1000000)(hk:L[k]?=some x)(hs:Sm L) :
 Calls Tryz.prog 43 #[.pointer (some ⟨g,0,none⟩),.int .i64 ((k:Int)+1)] w fun e w'=>∃ A c,e=.returned (.tuple #[evV x.term x.kind A x.body.length c,.bool true])∧Reads w' (w.heap.size≤·) 1 A x.body.length (bys x.body)∧Below w.heap.size w w':=by
 obtain ⟨A,c,es,h,rfl⟩:=h
 obtain ⟨y,hy,rfl⟩:∃ y,es[k]?=some y∧y.e=x:=by
  rw[List.getElem?_map] at hk
  obtain ⟨y,h1,h2⟩:=Option.map_eq_some_iff.1 hk
  exact ⟨y,h1,h2⟩
 obtain ⟨t,kd,A0,c0,b⟩:=y
 have hkl:=(List.getElem?_eq_some_iff.1 hy).1
 have hb:=hs ⟨t,kd,b⟩ (List.mem_of_getElem? hk)
 rw[List.length_map] at hl
 have hc:=(show ES w Z A es from h.seen).at_ hy
 have rb:=h.seen.2 _ (List.mem_of_getElem? hy)
 have hp:=(h.seen.1).plain (by omega)
 have hix:=fun W=>ixE hp c k hkl W
 have hbl:=((h.seen.1).bk_lt (by omega) (by omega))
 have rb1:=rb.alloc (.cells #[.int .i64 0,.int .i64 0,.slice none 0 0] 58)
 have g0:Blk (w.alloc (.cells #[.int .i64 0,.int .i64 0,.slice none 0 0] 58)) w.heap.size 58 #[.int .i64 0,.int .i64 0,.slice none 0 0]:=Blk.new w 58 _
 have b0:Below w.heap.size w (w.alloc (.cells #[.int .i64 0,.int .i64 0,.slice none 0 0] 58)):=(Below.refl _ _).alloc (Nat.le_refl _) _
 have hm:=h.b.alloc (.cells #[.int .i64 0,.int .i64 0,.slice none 0 0] 58)
 have hes:=((show ES w Z A es from h.seen).old).below b0 (fun j hj=>hj.2)
 have hc1:=hes.at_ hy
 obtain ⟨hc10,hc11,hc12⟩:=hc1
 obtain ⟨q0,q1,q2⟩:=hm.facts
 have HCl:=ħ (cloneE_any Z t kd A0 c0 b _ rb1 (by simpa using hb.1))
 clear h hs hk hc rb hb hm hes rb1 hy
 simp only at hc10 hc11 hc12
 generalize es.length=N at *
 have hw:IntKind.i64.wrap ((k:Int)+1 - 1)=(k:Int):=by rw[IntWalk.i64_in _ (by omega)];omega
 have hw2:IntKind.i64.wrap (k:Int)=(k:Int):=IntWalk.i64_in _ (by omega)
 have hz2:¬ ((k:Int)+1<1):=by omega
 have hz3:¬ ((N:Int)<(k:Int)+1):=by omega
 have hs0:w.heap.size+1≤(w.alloc (.cells #[.int .i64 0,.int .i64 0,.slice none 0 0] 58)).heap.size:=by simp
 go_enter Tryz.func43,Tryz.ntmps43
 go_wp2_with fail
 generalize w.alloc (.cells #[.int .i64 0,.int .i64 0,.slice none 0 0] 58)=W1 at *
 go_wp2_with fail
 refine HCl.out.mono ?_
 rintro e w2 ⟨A2,c2,rfl,r2,hb2⟩
 have g2:=g0.below hb2 g0.lt
 obtain ⟨z0,z1,z2⟩:=g2.facts
 go_wp2_with fail
 refine bodyPost_ret (v:=.tuple #[evV t kd A2 b.length c2,.bool true]) (by simp[results,Tryz.results43,go_sem,z1]) rfl ⟨A2,c2,rfl,?_,?_⟩
 ·exact (((r2.setCell (by simp;omega) _).setCell (by simp;omega) _).setCell (by simp;omega) _).more (fun j hj=>by omega)
 ·exact (((b0.trans (hb2.mono b0.size)).setCell (by simp) _).setCell (by simp) _).setCell (by simp) _
theorem get_no (w:World)(Z:Nat→Prop)(g:Nat)(L:List Ent)(n:Int)(h:LS w Z g L)(hn:n<1∨(L.length:Int)<n) :
 Calls Tryz.prog 43 #[.pointer (some ⟨g,0,none⟩),.int .i64 n] w fun e w'=>e=.returned (.tuple #[evV 0 0 none 0 0,.bool false])∧Below w.heap.size w w':=by
 obtain ⟨A,c,es,h,rfl⟩:=h
 rw[List.length_map] at hn
 have g0:Blk (w.alloc (.cells #[.int .i64 0,.int .i64 0,.slice none 0 0] 58)) w.heap.size 58 #[.int .i64 0,.int .i64 0,.slice none 0 0]:=Blk.new w 58 _
 have b0:Below w.heap.size w (w.alloc (.cells #[.int .i64 0,.int .i64 0,.slice none 0 0] 58)):=(Below.refl _ _).alloc (Nat.le_refl _) _
 have hm:=h.b.alloc (.cells #[.int .i64 0,.int .i64 0,.slice none 0 0] 58)
 obtain ⟨q0,q1,q2⟩:=hm.facts
 obtain ⟨z0,z1,z2⟩:=g0.facts
 clear h hm
 generalize es.length=N at *
 by_cases h1:n<1
 ·clear hn
  go_enter Tryz.func43,Tryz.ntmps43
  go_wp2_with fail
  generalize w.alloc (.cells #[.int .i64 0,.int .i64 0,.slice none 0 0] 58)=W1 at *
  go_wp2_with fail
  refine bodyPost_ret (v:=.tuple #[evV 0 0 none 0 0,.bool false]) (by simp[results,Tryz.results43,go_sem,z1]) rfl ⟨rfl,b0⟩
 ·have h2:(N:Int)<n:=by omega
  clear hn
  go_enter Tryz.func43,Tryz.ntmps43
  go_wp2_with fail
  generalize w.alloc (.cells #[.int .i64 0,.int .i64 0,.slice none 0 0] 58)=W1 at *
  go_wp2_with fail
  refine bodyPost_ret (v:=.tuple #[evV 0 0 none 0 0,.bool false]) (by simp[results,Tryz.results43,go_sem,z1]) rfl ⟨rfl,b0⟩
theorem utd_any (w:World)(Z:Nat→Prop)(g:Nat)(L:List Ent)(n t:Int)(h:LS w Z g L)(hl:L.length≤1000000)(q:Bool)(hq:(decide (lastT L<t) || (decide (t=lastT L) && decide ((L.length:Int)≤n)))=q) :
 Calls Tryz.prog 132 #[.pointer (some ⟨g,0,none⟩),.int .i64 n,.int .i64 t] w fun e w'=>e=.returned (.bool q)∧Below w.heap.size w w':=by
 have HL:=ħ (last_any w Z g L h hl)
 subst hq
 clear h
 generalize lastT L=T at *
 generalize L.length=N at *
 by_cases h1:T<t
 ·go_enter Tryz.func132,Tryz.ntmps132
  go_wp2_with (go_at_call 42;((with_reducible refine HL.out.mono ?_);rintro e w2 ⟨rfl,b2⟩))
  go_ret
  exact ⟨by simp[h1],b2⟩
 ·by_cases h2:t=T
  ·subst h2
   go_enter Tryz.func132,Tryz.ntmps132
   go_wp2_with (go_at_call 42;((with_reducible refine HL.out.mono ?_);rintro e w2 ⟨rfl,b2⟩))
   go_ret
   exact ⟨by simp,b2⟩
  ·go_enter Tryz.func132,Tryz.ntmps132
   go_wp2_with (go_at_call 42;((with_reducible refine HL.out.mono ?_);rintro e w2 ⟨rfl,b2⟩))
   go_ret
   exact ⟨by simp[h1,h2],b2⟩
end Go.Proofs.YtdfobfjpkjddpaaGreat

import Derived.Test.YtdfobfjpkjddpaaGreatUG5
import Derived.Test.YtdfobfjpkjddpaaGreatUG1
import Derived.Test.YtdfobfjpkjddpaaGreatUG4
set_option linter.unusedVariables false
set_option linter.unusedSimpArgs false
set_option maxRecDepth 10000
set_option maxHeartbeats 1000000
namespace Go.Raft
open Go.Quo Go.Wire
section
variable {c0:Mb} {G G':Gh} {s s':Nd} {ms:List Msg} {i:Int}
theorem enter_ok (h:Good c0 G s){t:Int}(ht:s.term<t):Nx c0 G s.id (s.enter t) []:=by
 refine Nx.still h (NInv.enter h.g h.n ht _ rfl rfl rfl rfl rfl rfl) ?_ rfl rfl (fun m hm=>by simp at hm)
 exact ⟨h.w.id,h.w.com,h.w.vs,h.w.mt,h.w.nx,fun hh=>absurd (show (1:Int)=3 from hh) (by decide),by have:=h.w.term;show 0≤t;omega⟩
theorem quietM {k to p pt c:Int}{es:List Ent}{sn:Nd}(hk:k=2∨k=4):MInv G (sn.msg k to p pt c false es):=
 ⟨fun hh=>by have hh2:k=1:=hh;omega,fun _ hg=>absurd (show false=true from hg) (by decide),fun hh=>by have hh2:k=3:=hh;omega,fun _ hg=>absurd (show false=true from hg) (by decide)⟩
theorem requested_ok (h:Good c0 G s){m:Msg}(hm:MInv G m)(hk:m.kind=1)(ht:m.term=s.term)(h0:0≤m.frm)(t:Int):Nx c0 G s.id (s.requested m t).1 (s.requested m t).2:=by
 obtain ⟨X,x1,x2,x3⟩:=hm.m1 hk
 unfold Nd.requested
 split
 ·rename_i hc
  obtain ⟨hv,hu⟩:=hc
  have hutd:utd X s.log:=by
   unfold Nd.utdB at hu
   simp only[Bool.or_eq_true,Bool.and_eq_true,decide_eq_true_eq] at hu
   rw[x2,x3] at hu
   unfold utd
   rcases hu with a | ⟨a,b⟩
   ·exact .inl a
   ·exact .inr ⟨a.symm,by omega⟩
  by_cases hvo:0≤s.voted
  ·have hvf:s.voted=m.frm:=by omega
   have hvt:G.vt s.id s.term=some m.frm:=(h.n.n1 m.frm).2 ⟨hvf,h0⟩
   have e:s.grant0 m t = { s with since:=t }:=by unfold Nd.grant0;rw[if_pos hvo]
   simp only
   rw[e]
   refine Nx.still h h.n ⟨h.w.id,h.w.com,h.w.vs,h.w.mt,h.w.nx,h.w.ran,h.w.term⟩ rfl rfl (fun x hx=>?_)
   rw[List.mem_singleton] at hx
   subst hx
   exact ⟨fun hh=>absurd (show (2:Int)=1 from hh) (by decide),fun _ _=>hvt,fun hh=>absurd (show (2:Int)=3 from hh) (by decide),fun hh=>absurd (show (2:Int)=4 from hh) (by decide)⟩
  ·have hnone:G.vt s.id s.term=none:=by
    cases hh:G.vt s.id s.term with
    | none=>rfl
    | some j=>
     have h1:=(h.n.n1 j).1 hh
     have h2:s.voted=j:=h1.1
     omega
   have e:s.grant0 m t = { s with recs:=s.recs ++ [(86,za s.term ++ za m.frm)],voted:=m.frm,since:=t }:=by unfold Nd.grant0;rw[if_neg hvo]
   simp only
   rw[e]
   have hcl:G.cl m.frm s.term=some X:=by rw[←ht];exact x1
   have g1:=h.g.vote (i:=s.id) hnone hcl hutd
   have g2:=NInv.vote h.g h.n h0 hnone (view { s with recs:=s.recs ++ [(86,za s.term ++ za m.frm)],voted:=m.frm,since:=t }) rfl rfl rfl rfl rfl rfl rfl rfl
   refine Nx.mk' h g1 g2 (vote_fm hnone) vote_vl ⟨h.w.id,h.w.com,h.w.vs,h.w.mt,h.w.nx,h.w.ran,h.w.term⟩ rfl rfl (fun x hx=>?_)
   rw[List.mem_singleton] at hx
   subst hx
   exact ⟨fun hh=>absurd (show (2:Int)=1 from hh) (by decide),fun _ _=>up2_at _ _ _ _,fun hh=>absurd (show (2:Int)=3 from hh) (by decide),fun hh=>absurd (show (2:Int)=4 from hh) (by decide)⟩
 ·refine Nx.still h h.n h.w rfl rfl (fun x hx=>?_)
  rw[List.mem_singleton] at hx
  subst hx
  exact quietM (.inl rfl)
theorem pres_le (L:List Ent):∀ (es:List Ent) (p:Nat),pres L p es≤es.length
 | [],p=>Nat.le_refl _
 | e :: r,p=>by
  unfold pres
  split
  ·have:=pres_le L r (p+1);simp;omega
  ·simp
theorem pres_at (L:List Ent):∀ (es:List Ent) (p k:Nat),k<pres L p es→L[p+k]?=es[k]?
 | [],p,k,h=>by simp[pres] at h
 | e :: r,p,k,h=>by
  unfold pres at h
  split at h
  ·rename_i he
   rcases k with _ | k
   ·simpa using he
   ·have:=pres_at L r (p+1) k (by omega)
    rw[show p+(k+1)=p+1+k by omega,this];simp
  ·omega
theorem pres_stop (L:List Ent):∀ (es:List Ent) (p:Nat),pres L p es<es.length→L[p+pres L p es]?≠es[pres L p es]?
 | [],p,h=>by simp[pres] at h
 | e :: r,p,h=>by
  unfold pres at h⊢
  split
  ·rename_i he
   rw[if_pos he] at h
   have:=pres_stop L r (p+1) (by simp at h;omega)
   rw[show p+(pres L (p+1) r+1)=p+1+pres L (p+1) r by omega]
   simpa using this
  ·rename_i he;simpa using he
theorem write_log (s:Nd)(p:Nat)(es:List Ent):(s.write p es).log=if pres s.log p es=es.length then s.log else s.log.take (p+pres s.log p es) ++ es.drop (pres s.log p es):=by
 unfold Nd.write
 split <;> rfl
theorem write_cut {Y:List Ent}{p:Nat}{es:List Ent}(hp:p≤s.log.length)(ha:Ag s.log Y p)(he:∀ (k:Nat) (e:Ent),es[k]?=some e→Y[p+k]?=some e) :
 CutTo s.log (s.write p es).log Y (p+es.length)∧Ag (s.write p es).log Y (p+es.length)∧p+es.length≤(s.write p es).log.length∧((s.write p es).log=s.log∨(pres s.log p es<es.length∧Ag s.log (s.write p es).log (p+pres s.log p es)∧s.log[p+pres s.log p es]?≠es[pres s.log p es]?)):=by
 rw[write_log]
 have hle:=pres_le s.log es p
 have hat:=pres_at s.log es p
 have hst:=pres_stop s.log es p
 generalize pres s.log p es=k at *
 have hkl:k=0∨p+k≤s.log.length:=by
  rcases Nat.eq_zero_or_pos k with h0 | h0
  ·exact .inl h0
  ·right
   have:=hat (k - 1) (by omega)
   rw[List.getElem?_eq_getElem (by omega:k - 1<es.length)] at this
   have:=(List.getElem?_eq_some_iff.1 this).1
   omega
 have hagk:Ag s.log Y (p+k):=by
  intro x hx
  rcases Nat.lt_or_ge x p with h1 | h1
  ·exact ha x h1
  ·have h2:=hat (x - p) (by omega)
   rw[show p+(x - p)=x by omega] at h2
   have h3:=he (x - p) (es[x - p]'(by omega)) (List.getElem?_eq_getElem (by omega))
   rw[show p+(x - p)=x by omega] at h3
   rw[h2,h3]
   exact List.getElem?_eq_getElem (by omega)
 split
 ·rename_i hk
  subst hk
  exact ⟨.inl rfl,hagk,by omega,.inl rfl⟩
 ·rename_i hk
  have hlt:k<es.length:=by omega
  have htl:(s.log.take (p+k)).length=p+k:=by simp;omega
  have hL:(s.log.take (p+k) ++ es.drop k).length=p+es.length:=by rw[List.length_append,htl,List.length_drop];omega
  have hag1:Ag s.log (s.log.take (p+k) ++ es.drop k) (p+k):=by
   have:=Ag.app (s.log.take (p+k)) (es.drop k)
   rw[htl] at this
   exact ((Ag.take_self s.log (p+k)).symm).trans this
  have hag:Ag (s.log.take (p+k) ++ es.drop k) Y (p+es.length):=by
   intro x hx
   rcases Nat.lt_or_ge x (p+k) with h1 | h1
   ·rw[←hag1 x h1,hagk x h1]
   ·rw[List.getElem?_append_right (by omega),htl,List.getElem?_drop]
    have h3:=he (k+(x - (p+k))) (es[k+(x - (p+k))]'(by omega)) (List.getElem?_eq_getElem (by omega))
    rw[List.getElem?_eq_getElem (by omega:k+(x - (p+k))<es.length),←h3]
    congr 1;omega
  have hne:=hst hlt
  have h3:=he k (es[k]'hlt) (List.getElem?_eq_getElem hlt)
  refine ⟨.inr ⟨p+k,by omega,hag1,hL,hag,by omega,?_⟩,hag,by omega,.inr ⟨hlt,hag1,hne⟩⟩
  rw[h3,←List.getElem?_eq_getElem hlt]
  exact hne
theorem write_same (s:Nd)(p:Nat)(es:List Ent):(s.write p es).term=s.term∧(s.write p es).id=s.id∧(s.write p es).voted=s.voted∧(s.write p es).c0=s.c0∧(s.write p es).vs=s.vs∧(s.write p es).mt=s.mt∧(s.write p es).nx=s.nx∧(s.write p es).commit=s.commit:=by
 unfold Nd.write
 split <;> exact ⟨rfl,rfl,rfl,rfl,rfl,rfl,rfl,rfl⟩
theorem receive_ok (h:Good c0 G s){m:Msg}(hm:MInv G m)(hk:m.kind=3)(ht:m.term=s.term)(hne:m.frm≠s.id)(h0:0≤m.frm)(t:Int):Nx c0 G s.id (s.receive m t).1 (s.receive m t).2:=by
 obtain ⟨hel,p,c,hp,hc,a1,a2,a3,a4,a5⟩:=hm.m3 hk
 rw[ht] at hel a1 a2 a3 a4 a5
 unfold Nd.receive
 split
 ·rename_i hmt
  unfold Nd.matchesB at hmt
  rw[Bool.and_eq_true,decide_eq_true_eq,hp,termAt_nat] at hmt
  obtain ⟨hm1,hm2⟩:=hmt
  have hpl:p≤s.log.length∧Ag s.log (G.tl s.term) p:=by
   rcases Nat.eq_zero_or_pos p with h1 | h1
   ·subst h1;exact ⟨Nat.zero_le _,fun k hk=>absurd hk (by omega)⟩
   ·rw[if_neg (by omega)] at hm1
    obtain ⟨e,e1,e2⟩:=Option.map_eq_some_iff.1 hm1
    have hl:=lt_len e1
    obtain ⟨e',e3⟩:=at_lt (X:=G.tl s.term) (k:=p - 1) (by omega)
    have e4:=a2 e' h1 e3
    have w1:=(h.n.n3.1 _ e e1).2
    have w2:=(h.g.g3 s.term _ e' e3).2
    rw[e4,←e2,show p - 1+1=p by omega] at w2
    rw[show p - 1+1=p by omega] at w1
    exact ⟨by omega,w1.trans w2.symm⟩
  obtain ⟨w1,w2,w3,w4⟩:=write_cut (s:=s) (es:=m.es) hpl.1 hpl.2 a3
  obtain ⟨b1,b2,b3,b4,b5,b6,b7,b8⟩:=write_same s p m.es
  have hlast:p+m.es.length≤(G.tl s.term).length:=by
   rcases Nat.eq_zero_or_pos m.es.length with h1 | h1
   ·omega
   ·have:=lt_len (a3 (m.es.length - 1) (m.es[m.es.length - 1]'(by omega)) (List.getElem?_eq_getElem (by omega)))
    omega
  have hcom:=h.w.com
  have hcl:s.commit.toNat≤s.log.length:=h.n.n7.1
  have hold:s.commit.toNat≤(s.write p m.es).log.length∧Ag s.log (s.write p m.es).log s.commit.toNat:=by
   rcases w4 with e | ⟨f1,f2,f3⟩
   ·rw[e];exact ⟨hcl,Ag.refl _ _⟩
   ·have hcq:s.commit.toNat≤p+pres s.log p m.es:=by
     rcases Nat.lt_or_ge (p+pres s.log p m.es) s.commit.toNat with h1 | h1
     ·exfalso
      rw[List.all_eq_true] at hm2
      have:=hm2 (pres s.log p m.es) (List.mem_range.2 f1)
      simp only[Bool.or_eq_true,decide_eq_true_eq,Int.toNat_natCast] at this
      rcases this with h2 | h2
      ·omega
      ·exact f3 h2
     ·exact h1
    have f4:=f2.mono hcq
    exact ⟨f4.len hcl,f4⟩
  have htn:m.prev.toNat=p:=by omega
  simp only
  rw[htn]
  have hv5:(max s.commit (min m.commit (m.prev+m.es.length))).toNat=max s.commit.toNat (min c (p+m.es.length)):=by omega
  obtain ⟨g1,g2,g3,g4,g5⟩:=NInv.accept h.g h.n hel hne (last:=p+m.es.length) hlast (view { (s.write p m.es) with role:=1,ld:=m.frm,since:=t,commit:=max s.commit (min m.commit (m.prev+m.es.length)) }) w1 w2 b1 b3 rfl rfl
   (by
    show (max s.commit (min m.commit (m.prev+m.es.length))).toNat≤(s.write p m.es).log.length
    rw[hv5]
    omega)
   (by
    show 0<(max s.commit (min m.commit (m.prev+m.es.length))).toNat→_
    intro hpos
    show ∃ d:Cmt,d∈G.cm∧d.t≤s.term∧(max s.commit (min m.commit (m.prev+m.es.length))).toNat≤d.n∧Ag (s.write p m.es).log (G.tl d.t) (max s.commit (min m.commit (m.prev+m.es.length))).toNat
    rw[hv5] at hpos⊢
    rcases Nat.le_total s.commit.toNat (min c (p+m.es.length)) with h1 | h1
    ·rw[Nat.max_eq_right h1] at hpos⊢
     obtain ⟨d,d1,d2,d3,d4⟩:=a5 (by omega)
     exact ⟨d,d1,d2,by omega,(w2.mono (by omega)).trans (d4.mono (by omega))⟩
    ·rw[Nat.max_eq_left h1] at hpos⊢
     obtain ⟨d,d1,d2,d3,d4⟩:=h.n.n7.2 hpos
     exact ⟨d,d1,d2,d3,hold.2.symm.trans d4⟩)
  refine Nx.mk' h g1 g2 g3 g4 ⟨?_,?_,?_,?_,?_,fun hh=>absurd (show (1:Int)=3 from hh) (by decide),?_⟩ b4 b2 (fun x hx=>?_)
  ·show 0≤(s.write p m.es).id∧(s.write p m.es).id<9;rw[b2];exact h.w.id
  ·show 0≤max s.commit _;omega
  ·show (s.write p m.es).vs.length=9;rw[b5];exact h.w.vs
  ·show (s.write p m.es).mt.length=9;rw[b6];exact h.w.mt
  ·show (s.write p m.es).nx.length=9;rw[b7];exact h.w.nx
  ·show 0≤(s.write p m.es).term;rw[b1];exact h.w.term
  ·rw[List.mem_singleton] at hx
   subst hx
   refine ⟨fun hh=>absurd (show (4:Int)=1 from hh) (by decide),fun hh=>absurd (show (4:Int)=2 from hh) (by decide),fun hh=>absurd (show (4:Int)=3 from hh) (by decide),fun _ _=>?_⟩
   show (m.prev+m.es.length).toNat≤_
   rw[show (m.prev+m.es.length).toNat=p+m.es.length by omega]
   exact g5
 ·refine Nx.still h (NInv.quiet h.n _ rfl rfl rfl rfl (.inl rfl) (fun _=>hel)) ?_ rfl rfl (fun x hx=>?_)
  ·exact ⟨h.w.id,h.w.com,h.w.vs,h.w.mt,h.w.nx,fun hh=>absurd (show (1:Int)=3 from hh) (by decide),h.w.term⟩
  ·rw[List.mem_singleton] at hx
   subst hx
   exact quietM (.inr rfl)
theorem gd_set' {l:List Int}{k j:Nat}{v:Int}(hk:k<l.length):gd (l.set k v) j=if j=k then v else gd l j:=by
 unfold gd
 rw[List.getD_eq_getElem?_getD,List.getD_eq_getElem?_getD,List.getElem?_set]
 by_cases h:k=j
 ·subst h;simp[hk]
 ·rw[if_neg h,if_neg (fun hh=>h hh.symm)]
theorem back_ok (h:Good c0 G s)(hr:s.role=3){m:Msg}(h0:0≤m.frm)(h9:m.frm<9):Good c0 G (s.back m):=by
 refine h.same rfl rfl rfl ⟨h.w.id,h.w.com,h.w.vs,h.w.mt,by simp[Nd.back,h.w.nx],fun _=>?_,h.w.term⟩
 intro k hk
 obtain ⟨⟨a,b⟩,c⟩:=h.w.ran hr k hk
 show (1≤gd (s.nx.set _ _) k∧gd (s.nx.set _ _) k≤s.log.length+1)∧0≤gd s.mt k
 rw[gd_set' (by rw[h.w.nx];omega)]
 by_cases hkm:k=m.frm.toNat
 ·rw[if_pos hkm]
  subst hkm
  exact ⟨by omega,c⟩
 ·rw[if_neg hkm];exact ⟨⟨a,b⟩,c⟩
theorem seen_ok (h:Good c0 G s)(hr:s.role=3){m:Msg}(hm:MInv G m)(hk:m.kind=4)(hg:m.granted=true)(ht:m.term=s.term)(h0:0≤m.frm)(h9:m.frm<9)(hp0:0≤m.prev)(hp:m.prev≤s.log.length):Good c0 G (s.seen m):=by
 have hak:=hm.m4 hk hg
 rw[ht] at hak
 obtain ⟨n5a,n5b,n5c⟩:=h.n.n5 hr
 have hL:s.log=G.tl s.term:=(h.n.n6 n5a).1
 have hmt:=h.w.mt
 have hnx:=h.w.nx
 have hmf:=n5c m.frm
 have emf:(view s).mt m.frm=(gd s.mt m.frm.toNat).toNat:=by show (if 0≤m.frm then (gd s.mt m.frm.toNat).toNat else 0)=_;rw[if_pos h0]
 have hfl:G.ak m.frm s.term≤s.log.length:=by rw[hL];exact h.g.g11 _ _
 have hvT:(view s).T=s.term:=rfl
 rw[hvT,emf] at hmf
 refine ⟨h.g,?_,⟨h.w.id,h.w.com,h.w.vs,by simp[Nd.seen,hmt],by simp[Nd.seen,hnx],fun _=>?_,h.w.term⟩,h.a,h.c,h.p⟩
 ·have:=NInv.matched h.n (fun u=>if 0≤u then (gd (s.mt.set m.frm.toNat (max (gd s.mt m.frm.toNat) m.prev)) u.toNat).toNat else 0) (fun u=>by
   by_cases hu:0≤u
   ·rw[if_pos hu,gd_set' (by omega)]
    by_cases hum:u.toNat=m.frm.toNat
    ·rw[if_pos hum]
     have:u=m.frm:=by omega
     subst this
     rw[hvT]
     omega
    ·rw[if_neg hum]
     have:=n5c u
     have e2:(view s).mt u=(gd s.mt u.toNat).toNat:=by show (if 0≤u then (gd s.mt u.toNat).toNat else 0)=_;rw[if_pos hu]
     rw[e2] at this;exact this
   ·rw[if_neg hu];exact Nat.zero_le _)
  exact this
 ·intro k hk
  obtain ⟨⟨a,b⟩,c⟩:=h.w.ran hr k hk
  show (1≤gd (s.nx.set _ _) k∧gd (s.nx.set _ _) k≤s.log.length+1)∧0≤gd (s.mt.set _ _) k
  rw[gd_set' (by omega),gd_set' (by omega)]
  by_cases hkm:k=m.frm.toNat
  ·rw[if_pos hkm,if_pos hkm]
   subst hkm
   omega
  ·rw[if_neg hkm,if_neg hkm];exact ⟨⟨a,b⟩,c⟩
theorem replied_ok (h:Good c0 G s)(hr:s.role=3){m:Msg}(hm:MInv G m)(hk:m.kind=4)(ht:m.term=s.term)(h0:0≤m.frm)(h9:m.frm<9)(hp0:0≤m.prev):Nx c0 G s.id (s.replied m).1 (s.replied m).2:=by
 have hel:=h.el hr
 unfold Nd.replied
 split
 ·have hb:=back_ok h hr h0 h9
  refine Nx.still h hb.n hb.w rfl rfl (fun x hx=>?_)
  rw[List.mem_singleton] at hx
  subst hx
  exact app_ok hb hel (hb.w.ran hr) h0 h9
 ·rename_i hg
  have hg':m.granted=true:=by simpa using hg
  split
  ·exact Nx.still h h.n h.w rfl rfl (fun x hx=>by simp at hx)
  ·rename_i hl
   have hs:=seen_ok h hr hm hk hg' ht h0 h9 hp0 (by omega)
   have ha:Nx c0 G s.id (s.seen m).adv []:=adv_ok hs hr (perm_parts (mb_perm hs)).1
   have hx:NxR (s.seen m).adv:=(hs.w.ran hr).adv
   have he:∀ G1,Fm s.id G G1→G1.el (s.seen m).adv.term=some s.id:=fun G1 f=>by rw[(adv_same _).1];exact f.f1 _ _ hel
   obtain ⟨G1,g1,f,hv,hi,_⟩:=ha.ex
   split
   ·exact ha
   ·split
    ·exact sent_ok h ha he hx (fun x=>Iff.rfl)
    ·split
     ·refine ⟨G1,g1,f,hv,hi,fun x hx1=>?_⟩
      rw[List.mem_singleton] at hx1
      subst hx1
      exact app_ok g1 (by rw[hi];exact he G1 f) hx h0 h9
     ·exact ha
theorem validM_r {m:Msg}(h:¬ Nd.validM m=false):1≤m.kind∧m.kind≤4∧m.frm≠m.to∧0≤m.frm∧m.frm<9∧0≤m.to∧m.to<9∧0≤m.prev∧1≤m.term:=by
 have h':Nd.validM m=true:=by simpa using h
 unfold Nd.validM Nd.inR at h'
 simp only[Bool.and_eq_true,decide_eq_true_eq,Bool.not_eq_true',decide_eq_false_iff_not] at h'
 obtain ⟨⟨⟨⟨⟨⟨⟨⟨⟨⟨⟨⟨⟨a,b⟩,c⟩,d⟩,e⟩,f⟩,g⟩,⟨h1,h2⟩⟩,⟨i1,i2⟩⟩,j⟩,k⟩,l⟩,mm⟩,n⟩:=h'
 exact ⟨a,b,c,d,e,f,g,i1,h1⟩
theorem step2_ok (h:Good c0 G s){m:Msg}(hm:MInv G m)(hvm:¬ Nd.validM m=false)(hto:m.to=s.id)(ht:m.term=s.term)(t:Int):Nx c0 G s.id (s.step2 m t).1 (s.step2 m t).2:=by
 obtain ⟨v1,v2,v3,v4,v5,v6,v7,v8,v9⟩:=validM_r hvm
 have hstill:Nx c0 G s.id s []:=Nx.still h h.n h.w rfl rfl (fun x hx=>by simp at hx)
 unfold Nd.step2
 split
 ·rename_i hk;exact requested_ok h hm hk ht v4 t
 ·split
  ·rename_i hk
   split
   ·rename_i hc
    obtain ⟨hg,hr⟩:=hc
    have hvt:=hm.m2 hk hg
    rw[ht,hto] at hvt
    have gv:Good c0 G (s.gotVote m):=by
     refine ⟨h.g,?_,⟨h.w.id,h.w.com,by simp[Nd.gotVote,h.w.vs],h.w.mt,h.w.nx,h.w.ran,h.w.term⟩,h.a,h.c,h.p⟩
     exact NInv.voted h.n hvt (fun u=>hasB (Nd.voters (s.vs.set m.frm.toNat true)) u) (voters_set v4)
    split
    ·rename_i hq
     exact lead_ok gv hr (by show 0<s.term;omega) hq t
    ·exact Nx.still h gv.n gv.w rfl rfl (fun x hx=>by simp at hx)
   ·exact hstill
  ·split
   ·rename_i hk
    split
    ·exact receive_ok h hm hk ht (by rw[←hto];exact v3) v4 t
    ·exact hstill
   ·rename_i k1 k2 k3
    split
    ·rename_i hc
     exact replied_ok h hc.1 hm (by omega) ht v4 v5 v8
    ·exact hstill
theorem later_ok (h:Good c0 G s)(m:Msg):Nx c0 G s.id (s.later m) []:=by
 unfold Nd.later
 split
 ·rename_i hlt;exact enter_ok h hlt
 ·exact Nx.still h h.n h.w rfl rfl (fun x hx=>by simp at hx)
theorem step1_ok (h:Good c0 G s){m:Msg}(hm:MInv G m)(t:Int):Nx c0 G s.id (s.step1 m t).1 (s.step1 m t).2:=by
 have hstill:Nx c0 G s.id s []:=Nx.still h h.n h.w rfl rfl (fun x hx=>by simp at hx)
 unfold Nd.step1
 split
 ·exact hstill
 ·rename_i hv
  split
  ·exact hstill
  ·split
   ·obtain ⟨G1,g1,f,hvl,hi,_⟩:=(later_ok h m).ex
    refine ⟨G1,g1,f,hvl,hi,fun x hx=>?_⟩
    unfold Nd.refuse at hx
    split at hx
    ·rw[List.mem_singleton] at hx;subst hx;exact quietM (.inl rfl)
    ·split at hx
     ·rw[List.mem_singleton] at hx;subst hx;exact quietM (.inr rfl)
     ·simp at hx
   ·rename_i hnl
    have hv1:¬ Nd.validM m=false:=fun hh=>hv (.inl hh)
    have hto:m.to=s.id:=by
     by_cases hx:m.to=s.id
     ·exact hx
     ·exact absurd (.inr hx) hv
    refine (later_ok h m).go (fun G1 g1 f=>?_)
    have hid:(s.later m).id=s.id:=by unfold Nd.later;split <;> rfl
    have hte:m.term=(s.later m).term:=by
     unfold Nd.later at hnl⊢
     split
     ·rfl
     ·rename_i hlt;rw[if_neg hlt] at hnl;omega
    have:=step2_ok g1 (hm.fm f) hv1 (by rw[hid];exact hto) hte t
    rw[hid] at this
    exact this
theorem step_ok (h:Good c0 G s){m:Msg}(hm:MInv G m)(now:Int):Nx c0 G s.id (s.step m now).1 (s.step m now).2:=step1_ok (clock_ok h now) hm (s.tickT now)
end
structure CInv (c0:Mb) (G:Gh) (c:Cl):Prop where
 g:GInv cfE c0 G
 n:∀ (i:Nat) (s:Nd),c.nd[i]?=some s→NInv G s.id (view s)∧SW s∧s.c0=c0∧s.id=i
 m:∀ m∈c.ms,MInv G m
 a:All12 G
 p:permB c0.o c0.n=true
structure Gro (G G':Gh):Prop where
 el:∀ t x:Int,G.el t=some x→G'.el t=some x
 tl:∀ t:Int,(G.tl t).length≤(G'.tl t).length∧Ag (G.tl t) (G'.tl t) (G.tl t).length
 cm:∀ d:Cmt,d∈G.cm→d∈G'.cm
theorem Gro.refl (G:Gh):Gro G G:=⟨fun _ _ h=>h,fun _=>⟨Nat.le_refl _,Ag.refl _ _⟩,fun _ h=>h⟩
section
variable {c0:Mb} {G G':Gh} {c:Cl}
theorem CInv.good (h:CInv c0 G c){i:Nat}{s:Nd}(hs:c.nd[i]?=some s):Good c0 G s:=⟨h.g,(h.n i s hs).1,(h.n i s hs).2.1,h.a,(h.n i s hs).2.2.1,h.p⟩
theorem CInv.sub (h:CInv c0 G c){l:List Msg}(hl:∀ m∈l,m∈c.ms)(now:Int):CInv c0 G ⟨c.nd,l,now⟩:=⟨h.g,h.n,fun m hm=>h.m m (hl m hm),h.a,h.p⟩
theorem CInv.upd (h:CInv c0 G c){i:Nat}{s s':Nd}{ms:List Msg}(hs:c.nd[i]?=some s)(hx:Nx c0 G s.id s' ms){l:List Msg}(hl:∀ m∈l,m∈c.ms∨m∈ms)(now:Int):∃ G',CInv c0 G' ⟨c.nd.set i s',l,now⟩∧Gro G G':=by
 obtain ⟨G',g1,f,hv,hi,hm⟩:=hx.ex
 have hsi:=(h.n i s hs).2.2.2
 refine ⟨G',⟨g1.g,fun j y hy=>?_,fun m hmm=>?_,g1.a,h.p⟩,⟨f.f1,f.f4,f.fA⟩⟩
 ·have hy':(c.nd.set i s')[j]?=some y:=hy
  rw[List.getElem?_set] at hy'
  by_cases hij:i=j
  ·subst hij
   rw[if_pos rfl] at hy'
   split at hy'
   ·injection hy' with hy'
    subst hy'
    exact ⟨g1.n,g1.w,g1.c,by rw[hi];exact hsi⟩
   ·cases hy'
  ·rw[if_neg hij] at hy'
   obtain ⟨a1,a2,a3,a4⟩:=h.n j y hy'
   refine ⟨NInv.fm h.g a1 f hv (by rw[a4,hsi];omega),a2,a3,a4⟩
 ·rcases hl m hmm with h1 | h1
  ·exact (h.m m h1).fm f
  ·exact hm m h1
theorem last_mem {l:List Msg}:∀ m∈Cl.last200 l,m∈l:=fun m hm=>List.mem_of_mem_drop hm
theorem CInv.put (h:CInv c0 G c){i:Nat}{s:Nd}{r:Nd × List Msg}(hs:c.nd[i]?=some s)(hx:Nx c0 G s.id r.1 r.2):∃ G',CInv c0 G' (c.put i r)∧Gro G G':=
 h.upd hs hx (fun m hm=>by have:=last_mem m hm;rwa [List.mem_append] at this) c.now
theorem CInv.come (h:CInv c0 G c)(i:Nat):∃ G',CInv c0 G' (c.come i)∧Gro G G':=by
 have hcut:CInv c0 G (c.cut i):=h.sub (l:=c.ms.eraseIdx i) (fun m hm=>List.mem_of_mem_eraseIdx hm) c.now
 unfold Cl.come
 split
 ·exact ⟨G,h,Gro.refl G⟩
 ·rename_i m hm
  split
  ·exact ⟨G,hcut,Gro.refl G⟩
  ·split
   ·exact ⟨G,hcut,Gro.refl G⟩
   ·rename_i s hs
    exact hcut.put (c:=c.cut i) hs (step_ok (hcut.good (c:=c.cut i) hs) (h.m m (List.mem_of_getElem? hm)) c.now)
theorem CInv.step (h:CInv c0 G c)(kind who N:Nat)(body:List Int):∃ G',CInv c0 G' (c.step kind who N body)∧Gro G G':=by
 unfold Cl.step
 split
 ·exact ⟨G,h,Gro.refl G⟩
 ·rename_i s hs
  have hg:=h.good hs
  split
  ·have h':CInv c0 G { c with now:=c.now+(N % 8:Nat) }:=h.sub (fun m hm=>hm) _
   exact h'.put (c:={ c with now:=c.now+(N % 8:Nat) }) hs (tick_ok hg _)
  ·exact ⟨G,h.sub (l:=c.ms.eraseIdx (N % c.ms.length)) (fun m hm=>List.mem_of_mem_eraseIdx hm) c.now,Gro.refl G⟩
  ·split
   ·exact ⟨G,h,Gro.refl G⟩
   ·rename_i m hm
    refine ⟨G,h.sub (l:=Cl.last200 (c.ms ++ [m])) (fun x hx=>?_) c.now,Gro.refl G⟩
    have:=last_mem x hx
    rw[List.mem_append,List.mem_singleton] at this
    rcases this with h1 | rfl
    ·exact h1
    ·exact List.mem_of_getElem? hm
  ·exact h.put hs (propose_ok hg body)
  ·exact h.put hs (change_ok hg _)
  ·exact h.upd hs (again_ok hg c.now) (fun m hm=>.inl hm) c.now
  ·exact h.come _
theorem CInv.leader (h:CInv c0 G c){i:Nat}{s:Nd}(hs:c.nd[i]?=some s)(hl:0≤s.ld):G.el s.term=some s.ld:=(h.n i s hs).1.n8 hl
theorem CInv.lead_self (h:CInv c0 G c){i:Nat}{s:Nd}(hs:c.nd[i]?=some s)(hr:s.role=3):s.ld=i:=by
 obtain ⟨a,_,_,d⟩:=h.n i s hs
 have:s.ld=s.id:=(a.n5 hr).2.1
 rw[this,d]
structure Agr (G:Gh) (A:List Ent):Prop where
 a:A=[]∨∃ d:Cmt,d∈G.cm∧A.length≤d.n∧Ag A (G.tl d.t) A.length
theorem Agr.gro {A:List Ent}(hG:GInv cfE c0 G)(h:Agr G A)(k:Gro G G'):Agr G' A:=by
 rcases h.a with e | ⟨d,d1,d2,d3⟩
 ·exact ⟨.inl e⟩
 ·obtain ⟨_,_,x3,x4,_⟩:=hG.g5 d d1
  exact ⟨.inr ⟨d,k.cm d d1,d2,d3.trans ((k.tl d.t).2.mono (by omega))⟩⟩
theorem CInv.com (h:CInv c0 G c){i:Nat}{s:Nd}(hs:c.nd[i]?=some s){A:List Ent}(hA:Agr G A):0≤s.commit∧s.commit.toNat≤s.log.length∧Ag s.log A (min s.commit.toNat A.length)∧(s.commit.toNat≤A.length∨Agr G (s.log.take s.commit.toNat)):=by
 obtain ⟨a,b,_,_⟩:=h.n i s hs
 obtain ⟨n1,n2⟩:=a.n7
 have n1':s.commit.toNat≤s.log.length:=n1
 refine ⟨b.com,n1',?_,?_⟩
 ·rcases Nat.eq_zero_or_pos s.commit.toNat with h0 | h0
  ·rw[h0];intro k hk;simp at hk
  ·rcases hA.a with e | ⟨d,d1,d2,d3⟩
   ·subst e;intro k hk;simp at hk
   ·obtain ⟨x,x1,x2,x3,x4⟩:=n2 h0
    have x3':s.commit.toNat≤x.n:=x3
    have x4':Ag s.log (G.tl x.t) s.commit.toNat:=x4
    exact (x4'.mono (by omega)).trans ((h.g.agree x1 d1 (by omega) (by omega)).trans (d3.symm.mono (by omega)))
 ·rcases Nat.eq_zero_or_pos s.commit.toNat with h0 | h0
  ·left;omega
  ·right
   obtain ⟨x,x1,x2,x3,x4⟩:=n2 h0
   have x3':s.commit.toNat≤x.n:=x3
   have x4':Ag s.log (G.tl x.t) s.commit.toNat:=x4
   have hl:(s.log.take s.commit.toNat).length=s.commit.toNat:=by simp;omega
   exact ⟨.inr ⟨x,x1,by rw[hl];exact x3',by rw[hl];exact (Ag.take_self _ _).trans x4'⟩⟩
def g0:Gh:=⟨fun _=>none,fun _=>[],fun _=>[],fun _ _=>false,fun _ _=>none,fun _ _=>[],fun _ _=>none,fun _ _=>0,[]⟩
theorem nil_at {k:Nat}{e:Ent}(h:([]:List Ent)[k]?=some e):False:=by simp at h
theorem CInv.new {nd:List Nd}(hp:permB c0.o c0.n=true)(hn:∀ (i:Nat) (s:Nd),nd[i]?=some s→0≤s.id∧s.id<9∧s.id=i∧s.c0=c0∧s.term=0∧s.voted = -1∧s.role=1∧s.log=[]∧s.commit=0∧s.ld = -1∧s.vs.length=9∧s.mt.length=9∧s.nx.length=9)(now:Int):CInv c0 g0 ⟨nd,[],now⟩ where
 g:={
  g1:=fun _ _=>⟨rfl,rfl⟩
  g0:=fun _ _ h=>by cases h
  g2:=fun _ _ h=>by cases h
  g3:=fun _ k e h=>(nil_at h).elim
  g4:=fun _ _ h=>by cases h
  g5:=fun c hc=>by cases hc
  g6:=fun i c hc=>by simp[g0] at hc
  g7:=fun t k1 k2 _ h=>by
   have h1:k1<([]:List Ent).length:=isC.lt h
   simp at h1
  g8:=fun _ k e c h=>(nil_at h).elim
  g9:=fun c hc=>by cases hc
  g10:=fun _ _ _ h=>by cases h
  g11:=fun _ _=>Nat.le_refl _ }
 n i s hs:=by
  obtain ⟨h1,h2,h3,h4,h5,h6,h7,h8,h9,h10,h11,h12,h13⟩:=hn i s hs
  refine ⟨?_,⟨⟨h1,h2⟩,by omega,h11,h12,h13,fun h=>by omega,by omega⟩,h4,h3⟩
  exact {
   n1:=by
    intro j
    constructor
    ·intro h;cases h
    ·rintro ⟨a,b⟩
     have e:s.voted=j:=a
     omega
   n2:=fun t _=>⟨rfl,rfl,(fun h=>by cases h),rfl⟩
   n3:=by
    show WL g0 s.log∧∀ (k:Nat) (e:Ent),s.log[k]?=some e→e.term≤s.term
    rw[h8]
    exact ⟨fun k e h=>(nil_at h).elim,fun k e h=>(nil_at h).elim⟩
   n4:=fun h=>by
    have e:s.role=2:=h
    omega
   n5:=fun h=>by
    have e:s.role=3:=h
    omega
   n6:=fun h=>by cases h
   n7:=by
    show s.commit.toNat≤s.log.length∧(0<s.commit.toNat→_)
    rw[h9]
    exact ⟨Nat.zero_le _,fun h=>absurd h (by decide)⟩
   n8:=fun h=>by
    have e:0≤s.ld:=h
    omega
   n9:=by
    intro t a ha _ _ k hk
    have:a≤0:=ha
    omega
   nA:=fun _ _ h=>by cases h }
 m m hm:=by cases hm
 a u t x hx:=by cases hx
 p:=hp
theorem put_get (c:Cl)(i:Nat)(r:Nd × List Msg)(j:Nat){s:Nd}(hs:c.nd[i]?=some s):(c.put i r).nd[j]?=if j=i then some r.1 else c.nd[j]?:=by
 show (c.nd.set i r.1)[j]?=_
 rw[List.getElem?_set]
 by_cases h:i=j
 ·subst h
  rw[if_pos rfl,if_pos (List.getElem?_eq_some_iff.1 hs).1,if_pos rfl]
 ·rw[if_neg h,if_neg (fun e=>h e.symm)]
end
def Mon (s s':Nd):Prop:=s.term≤s'.term∧s.commit≤s'.commit
section
variable {s s' s2:Nd}
theorem Mon.refl (s:Nd):Mon s s:=⟨Int.le_refl _,Int.le_refl _⟩
theorem Mon.trans (h:Mon s s')(k:Mon s' s2):Mon s s2:=⟨Int.le_trans h.1 k.1,Int.le_trans h.2 k.2⟩
theorem Mon.add (s:Nd)(k:Int)(b:List Int):Mon s (s.add k b):=by rw[add_eq];exact Mon.refl _
theorem Mon.adv (s:Nd):Mon s s.adv:=by
 obtain ⟨a,b,c,d,e,f,g⟩:=adv_same s
 exact ⟨by rw[a];exact Int.le_refl _,g⟩
theorem Mon.prop (s:Nd)(k:Int)(b:List Int):Mon s (s.prop k b).1:=(Mon.add s k b).trans (Mon.adv _)
theorem Mon.lead (s:Nd)(t:Int):Mon s (s.lead t).1:=Mon.prop (s.lead0) 1 []
theorem Mon.start (s:Nd)(t:Int):Mon s (s.start t).1:=by
 unfold Nd.start
 have h0:Mon s (s.start0 t):=⟨by show s.term≤s.term+1;omega,Int.le_refl _⟩
 split
 ·exact Mon.refl _
 ·split
  ·exact h0.trans (Mon.lead _ _)
  ·exact h0
theorem Mon.tick (s:Nd)(now:Int):Mon s (s.tick now).1:=by
 unfold Nd.tick Nd.tick1
 split
 ·split <;> exact Mon.refl _
 ·split
  ·exact Mon.start (s.clock now) _
  ·exact Mon.refl _
theorem Mon.propose (s:Nd)(b:List Int):Mon s (s.propose b).1:=by
 unfold Nd.propose
 split
 ·exact Mon.refl _
 ·exact Mon.prop _ _ _
theorem Mon.change (s:Nd)(l:List Int):Mon s (s.change l).1:=by
 unfold Nd.change
 split
 ·exact Mon.refl _
 ·split
  ·exact Mon.refl _
  ·split
   ·exact Mon.prop _ _ _
   ·exact Mon.refl _
theorem Mon.replied (s:Nd)(m:Msg):Mon s (s.replied m).1:=by
 have h:Mon s (s.seen m).adv:=Mon.adv (s.seen m)
 unfold Nd.replied
 split
 ·exact Mon.refl _
 ·split
  ·exact Mon.refl _
  ·split
   ·exact h
   ·split
    ·exact h
    ·split <;> exact h
theorem Mon.receive (s:Nd)(m:Msg)(t:Int):Mon s (s.receive m t).1:=by
 unfold Nd.receive
 split
 ·exact ⟨by show s.term≤(s.write m.prev.toNat m.es).term;rw[(write_same _ _ _).1];exact Int.le_refl _,by show s.commit≤max s.commit _;omega⟩
 ·exact Mon.refl _
theorem Mon.requested (s:Nd)(m:Msg)(t:Int):Mon s (s.requested m t).1:=by
 unfold Nd.requested Nd.grant0
 split
 ·show Mon s { (if 0≤s.voted then s else _) with since:=t }
  split <;> exact Mon.refl _
 ·exact Mon.refl _
theorem Mon.step2 (s:Nd)(m:Msg)(t:Int):Mon s (s.step2 m t).1:=by
 unfold Nd.step2
 split
 ·exact Mon.requested _ _ _
 ·split
  ·split
   ·split
    ·exact Mon.lead (s.gotVote m) t
    ·exact Mon.refl _
   ·exact Mon.refl _
  ·split
   ·split
    ·exact Mon.receive _ _ _
    ·exact Mon.refl _
   ·split
    ·exact Mon.replied _ _
    ·exact Mon.refl _
theorem Mon.later (s:Nd)(m:Msg):Mon s (s.later m):=by
 unfold Nd.later
 split
 ·rename_i h;exact ⟨by show s.term≤m.term;omega,Int.le_refl _⟩
 ·exact Mon.refl _
theorem Mon.step (s:Nd)(m:Msg)(now:Int):Mon s (s.step m now).1:=by
 unfold Nd.step Nd.step1
 split
 ·exact Mon.refl _
 ·split
  ·exact Mon.refl _
  ·split
   ·exact Mon.later (s.clock now) m
   ·exact (Mon.later (s.clock now) m).trans (Mon.step2 _ _ _)
end
theorem send_nd (c:Cl)(l:List Msg):(c.send l).nd=c.nd:=by unfold Cl.send;rfl
theorem Cl.mon_put {c:Cl}{i:Nat}{s:Nd}{r:Nd × List Msg}(hs:c.nd[i]?=some s)(h:Mon s r.1):∀ (j:Nat) (x:Nd),c.nd[j]?=some x→∃ y,(c.put i r).nd[j]?=some y∧Mon x y:=by
 intro j x hx
 rw[put_get c i r j hs]
 by_cases hj:j=i
 ·subst hj
  rw[hs] at hx
  cases hx
  exact ⟨r.1,by rw[if_pos rfl],h⟩
 ·exact ⟨x,by rw[if_neg hj];exact hx,Mon.refl x⟩
theorem Cl.mon_come (c:Cl)(i:Nat):∀ (j:Nat) (x:Nd),c.nd[j]?=some x→∃ y,(c.come i).nd[j]?=some y∧Mon x y:=by
 intro j x hx
 unfold Cl.come
 split
 ·exact ⟨x,hx,Mon.refl x⟩
 ·rename_i m hm
  split
  ·exact ⟨x,hx,Mon.refl x⟩
  ·split
   ·exact ⟨x,hx,Mon.refl x⟩
   ·rename_i s hs
    exact Cl.mon_put (c:=c.cut i) hs (Mon.step s m c.now) j x hx
theorem Cl.mon_step (c:Cl)(kind who N:Nat)(body:List Int)(j:Nat)(x:Nd)(hx:c.nd[j]?=some x):∃ y,(c.step kind who N body).nd[j]?=some y∧x.term≤y.term∧(x.commit≤y.commit∨(kind % 8=6∧j=who % c.nd.length)):=by
 suffices (∃ y,(c.step kind who N body).nd[j]?=some y∧Mon x y)∨(kind % 8=6∧j=who % c.nd.length∧∃ y,(c.step kind who N body).nd[j]?=some y∧x.term≤y.term) by
  rcases this with ⟨y,h1,h2,h3⟩ | ⟨h1,h2,y,h3,h4⟩
  ·exact ⟨y,h1,h2,.inl h3⟩
  ·exact ⟨y,h3,h4,.inr ⟨h1,h2⟩⟩
 unfold Cl.step
 split
 ·exact .inl ⟨x,hx,Mon.refl x⟩
 ·rename_i s hs
  split
  ·exact .inl (Cl.mon_put (c:={ c with now:=c.now+(N % 8:Nat) }) (r:=s.tick (c.now+(N % 8:Nat))) hs (Mon.tick s _) j x hx)
  ·exact .inl ⟨x,hx,Mon.refl x⟩
  ·split
   ·exact .inl ⟨x,hx,Mon.refl x⟩
   ·exact .inl ⟨x,by rw[send_nd];exact hx,Mon.refl x⟩
  ·exact .inl (Cl.mon_put (r:=s.propose body) hs (Mon.propose s _) j x hx)
  ·exact .inl (Cl.mon_put (r:=s.change (Cl.bits c.nd.length N)) hs (Mon.change s _) j x hx)
  ·rename_i h6
   by_cases hj:j=who % c.nd.length
   ·right
    refine ⟨h6,hj,s.again c.now,?_,?_⟩
    ·show (c.nd.set _ _)[j]?=_
     rw[hj,List.getElem?_set_self (List.getElem?_eq_some_iff.1 hs).1]
    ·rw[←hj] at hs
     rw[hs] at hx;cases hx
     exact Int.le_refl _
   ·left
    refine ⟨x,?_,Mon.refl x⟩
    show (c.nd.set _ _)[j]?=_
    rw[List.getElem?_set_ne (fun e=>hj e.symm)]
    exact hx
  ·exact .inl (Cl.mon_come c _ j x hx)
theorem Cl.step_again (c:Cl){kind who N:Nat}(body:List Int)(h6:kind % 8=6){s:Nd}(hs:c.nd[who % c.nd.length]?=some s):(c.step kind who N body).nd[who % c.nd.length]?=some (s.again c.now):=by
 unfold Cl.step
 rw[hs]
 simp only[h6]
 rw[List.getElem?_set_self (List.getElem?_eq_some_iff.1 hs).1]
end Go.Raft
namespace Go.Proofs.YtdfobfjpkjddpaaGreat
open Go.RowKit Go.Own Go.Quo Go.Wire
theorem encoded_any (p:Nat)(out:List Int)(w:World)(hw:WrP w p out)(hl:out.length≤1000000000) :
 Calls Tryz.prog 107 #[.pointer (some ⟨p,0,none⟩)] w (fun e w'=>∃ A c,e=.returned (.slice A out.length c)∧Reads w' (w.heap.size≤·) 1 A out.length (bys out)∧Below w.heap.size w w'):=by
 obtain ⟨A,c,hk,hown⟩:=hw
 have hr:=Reads.of_own hown
 have hmk:=run_make1 (P:=Tryz.prog) 46 5 (.int .u8 0) 1 Tryz.underlying46 info5 rfl out.length (by omega) (by omega)
 have hcp1:=run_copy_new (P:=Tryz.prog) 46 46 3 5 Tryz.underlying46 size5 (c:=c) (d:=out.length) 5 (zrow (.int .u8 0) out.length) hr (bys_one out) (size_zrow _ _) w.heap.size rfl
 obtain ⟨q0,q1,q2⟩:=hk.facts
 clear hown hr
 go_enter Tryz.func107,Tryz.ntmps107
 go_wp2
 go_ret
 refine ⟨_,_,rfl,?_,(Below.refl _ _).alloc (Nat.le_refl _) _⟩
 have:=Reads.new w (bys out) 5 (0,0)
 simp only[List.length_map] at this
 exact this.more (fun k hk=>by omega)
theorem flat_take (l:List Int)(k:Nat)(hk:k<l.length):(l.take (k+1)).flatMap za=(l.take k).flatMap za ++ za (gd l k):=by
 rw[List.take_succ_eq_append_getElem hk,gd_get hk,List.flatMap_append,List.flatMap_cons,List.flatMap_nil,List.append_nil]
theorem flat_len (l:List Int)(h:∀ x∈l,-9223372036854775808≤x∧x<9223372036854775808):(l.flatMap za).length≤10 * l.length:=by
 induction l with
 | nil=>simp
 | cons a r ih=>
  have h1:=encI_len (h a (by simp)).1 (h a (by simp)).2
  have h2:=ih (fun x hx=>h x (by simp[hx]))
  simp only[List.flatMap_cons,List.length_append,List.length_cons];omega
theorem wints_any (p:Nat)(A:Option Addr)(c:Nat)(l out:List Int)(w:World)(hw:WrP w p out)(hr:RI w (· < p) A l)(hx:∀ x∈l,-9223372036854775808≤x∧x<9223372036854775808)(hm:l.length≤1000)(hl:out.length≤900000000) :
 Calls Tryz.prog 106 #[.pointer (some ⟨p,0,none⟩),.slice A l.length c] w (fun e w'=>e=.returned (.tuple #[])∧WrP w' p (out ++ encIs l)∧Below p w w'):=by
 have pA:=hr.plain (by omega)
 have HL:=ħ (int_any p (l.length:Int) out w hw (by omega) (by omega) (by omega))
 have HX:=ħ hx
 clear hx
 have hle:(za (l.length:Int)).length≤10:=encI_len (by omega) (by omega)
 have HE:=ħ (show encIs l=za (l.length:Int) ++ l.flatMap za from rfl)
 generalize za (l.length:Int)=el at *
 go_enter Tryz.func106,Tryz.ntmps106
 go_wp2_with (go_at_call 117;((with_reducible refine HL.out.mono ?_);rintro e w1 ⟨rfl,hw1,hb1⟩))
 go_loopw [12] (fun vi wr=>∃ k:Nat,k≤l.length∧vi=.int .i64 k∧WrP wr p (out ++ el ++ (l.take k).flatMap za)∧Below p w wr) (fun i _=>l.length - (intOf i).toNat)
 case atStart=>exact ⟨0,Nat.zero_le _,rfl,by simpa using hw1,hb1⟩
 case round=>
  obtain ⟨k,hk,rfl,hwr,hb⟩:=hrel
  have hrr:=hr.below hb (fun _ h=>h)
  by_cases hlt:k<l.length
  ·have hlt':(k:Int)<l.length:=by omega
   have hix:=fun W=>ix22 pA c k hlt W
   have hcell:=RI.at_ hrr hlt
   have hg:=HX.out (gd l k) (by rw[gd_get hlt];exact List.getElem_mem hlt)
   have hfl:((l.take k).flatMap za).length≤10 * l.length:=by
    have:=flat_len (l.take k) (fun x hx=>HX.out x (List.mem_of_mem_take hx))
    have h2:(l.take k).length≤l.length:=by simp;omega
    omega
   have HI:=ħ (int_any p (gd l k) _ wr hwr hg.1 hg.2 (by simp only[List.length_append];omega))
   rw[List.append_assoc,←flat_take l k hlt] at HI
   go_wp2_with (go_at_call 117;((with_reducible refine HI.out.mono ?_);rintro e w2 ⟨rfl,hw2,hb2⟩))
   exact ⟨⟨k+1,by omega,by go_num,by simpa using hw2,hb.trans hb2⟩,by simp[intOf];omega⟩
  ·have hge:¬ ((k:Int)<l.length):=by omega
   have HK:Hid (l.take k=l):=List.take_of_length_le (by omega)
   go_wp2_with fail
   refine bodyPost_end (v:=.tuple #[]) (by simp[results,Tryz.results106,go_sem]) rfl ⟨rfl,?_,hb⟩
   rw[HK.out] at hwr
   rw[HE.out]
   simpa using hwr
end Go.Proofs.YtdfobfjpkjddpaaGreat

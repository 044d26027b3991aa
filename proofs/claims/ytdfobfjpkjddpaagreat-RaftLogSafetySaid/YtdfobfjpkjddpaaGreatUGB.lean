import Derived.Test.YtdfobfjpkjddpaaGreatUGA
set_option linter.unusedVariables false
set_option linter.unusedSimpArgs false
namespace Go.Raft
def up {α:Type}(f:Int→α)(t:Int)(v:α):Int→α:=fun s=>if s=t then v else f s
def up2 {α:Type}(f:Int→Int→α)(u t:Int)(v:α):Int→Int→α:=fun x s=>if x=u∧s=t then v else f x s
theorem up_at {α:Type}(f:Int→α)(t:Int)(v:α):up f t v t=v:=by simp[up]
theorem up_ne {α:Type}(f:Int→α){t s:Int}(v:α)(h:s≠t):up f t v s=f s:=by simp[up,h]
theorem up2_at {α:Type}(f:Int→Int→α)(u t:Int)(v:α):up2 f u t v u t=v:=by simp[up2]
theorem up2_ne {α:Type}(f:Int→Int→α){u t x s:Int}(v:α)(h:¬ (x=u∧s=t)):up2 f u t v x s=f x s:=by simp[up2,h]
section
variable {cf:Ent→Option Mb} {c0:Mb} {i:Int} {G:Gh} {s:NV}
theorem NInv.enter (hG:GInv cf c0 G)(h:NInv G i s){T':Int}(hT:s.T<T')(s':NV)(e1:s'.T=T')(e2:s'.voted = -1)(e3:s'.role=1)(e4:s'.L=s.L)(e5:s'.c=s.c)(e6:s'.ld = -1):NInv G i s' where
 n1:=by
  intro j
  rw[e1,e2,(h.n2 T' hT).1]
  constructor
  ·intro hh;cases hh
  ·rintro ⟨a,b⟩;omega
 n2 t ht:=h.n2 t (by omega)
 n3:=by rw[e4];exact ⟨h.n3.1,fun k e hk=>by have:=h.n3.2 k e hk;omega⟩
 n4 hr:=by rw[e3] at hr;exact absurd hr (by decide)
 n5 hr:=by rw[e3] at hr;exact absurd hr (by decide)
 n6 he:=by rw[e1] at he;exact absurd he (h.n2 T' hT).2.2.1
 n7:=by
  rw[e4,e5,e1]
  refine ⟨h.n7.1,fun hc=>?_⟩
  obtain ⟨d,d1,d2,d3,d4⟩:=h.n7.2 hc
  exact ⟨d,d1,by omega,d3,d4⟩
 n8 hl:=by omega
 n9:=by
  intro t a ha ht hp
  rw[e4]
  rw[e1] at ht hp
  rcases Int.lt_or_le s.T t with hlt | hle
  ·have:=(h.n2 t hlt).2.1
   rw[this] at ha
   intro k hk;omega
  ·exact h.n9 t a ha hle (fun x h1 h2 h3=>hp x h1 (by omega) h3)
 nA:=h.nA
def Gh.vote (G:Gh)(u t j:Int)(X:List Ent):Gh:={ G with vt:=up2 G.vt u t (some j),vl:=up2 G.vl u t X }
theorem vote_fm {T j:Int}{X:List Ent}(hn:G.vt i T=none):Fm i G (G.vote i T j X) where
 f1 _ _ h:=h
 f2 _ _ h _:=h
 f3 _ _ _:=rfl
 f4 _:=⟨Nat.le_refl _,Ag.refl _ _⟩
 f5 _ _ _ _:=rfl
 f6 u t x hx:=by
  have:¬ (u=i∧t=T):=by rintro ⟨rfl,rfl⟩;rw[hn] at hx;cases hx
  exact ⟨by simp only[Gh.vote];rw[up2_ne _ _ this];exact hx,by simp only[Gh.vote];rw[up2_ne _ _ this]⟩
 f7 u t hu:=by simp only[Gh.vote];rw[up2_ne _ _ (fun h=>hu h.1)]
 f8 _ _:=Nat.le_refl _
 f8' _ _ _:=rfl
 f9 _ _ _ h:=h
 f9' _ _ _:=rfl
 fA _ h:=h
theorem vote_vl {T j:Int}{X:List Ent}:∀ u t:Int,u≠i→(G.vote i T j X).vl u t=G.vl u t:=fun u t hu=>by simp only[Gh.vote];rw[up2_ne _ _ (fun h=>hu h.1)]
theorem GInv.vote (hG:GInv cf c0 G){T j:Int}{X Y:List Ent}(hn:G.vt i T=none)(hY:G.cl j T=some Y)(hu:utd Y X):GInv cf c0 (G.vote i T j X) where
 g1:=hG.g1
 g0:=hG.g0
 g2:=hG.g2
 g3:=hG.g3
 g4 t x hx:=by
  obtain ⟨a,b⟩:=hG.g4 t x hx
  refine ⟨a,fun u hu=>?_⟩
  obtain ⟨b1,b2,b3,b4⟩:=b u hu
  have f:=(vote_fm (i:=i) (G:=G) (j:=j) (X:=X) hn).f6 u t x b1
  exact ⟨f.1,by rw[f.2];exact b2,by rw[f.2];exact b3,by rw[f.2];exact b4⟩
 g5:=hG.g5
 g6:=hG.g6
 g7:=hG.g7
 g8:=hG.g8
 g9:=hG.g9
 g10 u t x hx:=by
  by_cases h:u=i∧t=T
  ·obtain ⟨rfl,rfl⟩:=h
   simp only[Gh.vote,up2_at] at hx⊢
   cases hx
   exact ⟨Y,hY,hu⟩
  ·simp only[Gh.vote] at hx⊢
   rw[up2_ne _ _ h] at hx⊢
   exact hG.g10 u t x hx
 g11:=hG.g11
theorem NInv.vote (hG:GInv cf c0 G)(h:NInv G i s){j:Int}(hj:0≤j)(hn:G.vt i s.T=none)(s':NV)(e1:s'.T=s.T)(e2:s'.voted=j)(e3:s'.role=s.role)(e4:s'.L=s.L)(e5:s'.c=s.c)(e6:s'.ld=s.ld)(e7:s'.vs=s.vs)(e8:s'.mt=s.mt):NInv (G.vote i s.T j s.L) i s' where
 n1:=by
  intro x
  rw[e1,e2]
  simp only[Gh.vote,up2_at]
  constructor
  ·intro hh;cases hh;exact ⟨rfl,hj⟩
  ·rintro ⟨rfl,_⟩;rfl
 n2 t ht:=by
  rw[e1] at ht
  obtain ⟨a,b⟩:=h.n2 t ht
  exact ⟨by simp only[Gh.vote];rw[up2_ne _ _ (fun hh=>by omega)];exact a,b⟩
 n3:=by rw[e1,e4];exact h.n3
 n4 hr:=by
  rw[e3] at hr
  obtain ⟨a,b,c,d⟩:=h.n4 hr
  rw[e1,e4,e7]
  exact ⟨fun u hu=>((vote_fm (i:=i) (G:=G) (j:=j) (X:=s.L) hn).f6 _ _ _ (a u hu)).1,b,c,d⟩
 n5 hr:=by rw[e3] at hr;rw[e1,e6,e8];exact h.n5 hr
 n6 he:=by rw[e1] at he;rw[e4,e1];exact h.n6 he
 n7:=by rw[e4,e5,e1];exact h.n7
 n8 hl:=by rw[e6] at hl;rw[e1,e6];exact h.n8 hl
 n9:=by rw[e1,e4];exact h.n9
 nA t' x hx:=by
  by_cases ht:t'=s.T
  ·subst ht
   simp only[Gh.vote,up2_at]
   exact ⟨h.n3.1,fun t a ha ht hp=>h.n9 t a ha (by omega) hp⟩
  ·simp only[Gh.vote] at hx⊢
   rw[up2_ne _ _ (fun hh=>ht hh.2)] at hx⊢
   exact h.nA t' x hx
def Gh.cand (G:Gh)(u t:Int)(X:List Ent):Gh:={ G with cl:=up2 G.cl u t (some X) }
theorem cand_fm {T:Int}{X:List Ent}(hn:G.cl i T=none):Fm i G (G.cand i T X) where
 f1 _ _ h:=h
 f2 _ _ h _:=h
 f3 _ _ _:=rfl
 f4 _:=⟨Nat.le_refl _,Ag.refl _ _⟩
 f5 _ _ _ _:=rfl
 f6 _ _ _ h:=⟨h,rfl⟩
 f7 _ _ _:=rfl
 f8 _ _:=Nat.le_refl _
 f8' _ _ _:=rfl
 f9 u t Y hY:=by
  have:¬ (u=i∧t=T):=by rintro ⟨rfl,rfl⟩;rw[hn] at hY;cases hY
  simp only[Gh.cand];rw[up2_ne _ _ this];exact hY
 f9' u t hu:=by simp only[Gh.cand];rw[up2_ne _ _ (fun h=>hu h.1)]
 fA _ h:=h
theorem GInv.cand (hG:GInv cf c0 G){T:Int}{X:List Ent}(hn:G.cl i T=none):GInv cf c0 (G.cand i T X) where
 g1:=hG.g1
 g0:=hG.g0
 g2:=hG.g2
 g3:=hG.g3
 g4:=hG.g4
 g5:=hG.g5
 g6:=hG.g6
 g7:=hG.g7
 g8:=hG.g8
 g9:=hG.g9
 g10 u t j hj:=by
  obtain ⟨Y,h1,h2⟩:=hG.g10 u t j hj
  exact ⟨Y,(cand_fm hn).f9 _ _ _ h1,h2⟩
 g11:=hG.g11
theorem NInv.start (hG:GInv cf c0 G)(h:NInv G i s)(hi:0≤i){T':Int}(hT:s.T<T')(s':NV)(e1:s'.T=T')(e2:s'.voted=i)(e3:s'.role=2)(e4:s'.L=s.L)(e5:s'.c=s.c)(e6:s'.ld = -1)(e7:s'.vs=fun u=>decide (u=i)) :
 let G':=(G.cand i T' s.L).vote i T' i s.L
 GInv cf c0 G'∧NInv G' i s'∧Fm i G G'∧∀ u t:Int,u≠i→G'.vl u t=G.vl u t:=by
 intro G'
 obtain ⟨a1,a2,a3,a4⟩:=h.n2 T' hT
 have hc:=hG.cand (i:=i) (T:=T') (X:=s.L) a4
 have hcl:(G.cand i T' s.L).cl i T'=some s.L:=by simp[Gh.cand,up2_at]
 have hG':GInv cf c0 G':=hc.vote a1 hcl (.inr ⟨rfl,Nat.le_refl _⟩)
 have f:Fm i G G':=(cand_fm a4).trans (vote_fm a1)
 have hvl:∀ u t:Int,u≠i→G'.vl u t=G.vl u t:=vote_vl (G:=G.cand i T' s.L)
 have h1:NInv G i { s with T:=T',voted:=-1,role:=1,ld:=-1 }:=h.enter hG hT _ rfl rfl rfl rfl rfl rfl
 have h2:NInv (G.cand i T' s.L) i { s with T:=T',voted:=-1,role:=1,ld:=-1 }:=
  ⟨h1.n1,fun t ht=>⟨(h1.n2 t ht).1,(h1.n2 t ht).2.1,(h1.n2 t ht).2.2.1,by simp only[Gh.cand];rw[up2_ne _ _ (fun hh=>by have:T'<t:=ht;omega)];exact (h1.n2 t ht).2.2.2⟩,h1.n3,fun hr=>absurd (show (1:Int)=2 from hr) (by decide),fun hr=>absurd (show (1:Int)=3 from hr) (by decide),h1.n6,h1.n7,h1.n8,h1.n9,h1.nA⟩
 have h3:NInv G' i { s with T:=T',voted:=i,role:=1,ld:=-1 }:=h2.vote hc hi a1 _ rfl rfl rfl rfl rfl rfl rfl rfl
 refine ⟨hG',?_,f,hvl⟩
 have k1:=h3.n1;have k2:=h3.n2;have k3:=h3.n3;have k6:=h3.n6;have k7:=h3.n7;have k9:=h3.n9;have kA:=h3.nA
 simp only at k1 k2 k3 k6 k7 k9 kA
 exact ⟨by rw[e1,e2];exact k1,by rw[e1];exact k2,by rw[e1,e4];exact k3,fun _=>by
  rw[e1,e4,e7]
  refine ⟨fun u hu=>?_,by simp[G',Gh.vote,hcl],a3,fun k e hk=>by have:=h.n3.2 k e hk;omega⟩
  simp only[decide_eq_true_eq] at hu
  subst hu
  exact (k1 u).2 ⟨rfl,hi⟩,fun hr=>by rw[e3] at hr;exact absurd hr (by decide),by rw[e1,e4];exact k6,by rw[e1,e4,e5];exact k7,fun hl=>by omega,by rw[e1,e4];exact k9,kA⟩
def Gh.ack (G:Gh)(u t:Int)(a:Nat):Gh:={ G with ak:=up2 G.ak u t a }
theorem ack_fm {T:Int}{a:Nat}(ha:G.ak i T≤a):Fm i G (G.ack i T a) where
 f1 _ _ h:=h
 f2 _ _ h _:=h
 f3 _ _ _:=rfl
 f4 _:=⟨Nat.le_refl _,Ag.refl _ _⟩
 f5 _ _ _ _:=rfl
 f6 _ _ _ h:=⟨h,rfl⟩
 f7 _ _ _:=rfl
 f8 u t:=by
  by_cases h:u=i∧t=T
  ·obtain ⟨rfl,rfl⟩:=h;simp only[Gh.ack,up2_at];exact ha
  ·simp only[Gh.ack];rw[up2_ne _ _ h];exact Nat.le_refl _
 f8' u t hu:=by simp only[Gh.ack];rw[up2_ne _ _ (fun h=>hu h.1)]
 f9 _ _ _ h:=h
 f9' _ _ _:=rfl
 fA _ h:=h
theorem ack_ne {T t:Int}{a:Nat}(h:t≠T)(u:Int):(G.ack i T a).ak u t=G.ak u t:=by simp only[Gh.ack];rw[up2_ne _ _ (fun hh=>h hh.2)]
theorem GInv.ack (hG:GInv cf c0 G){T:Int}{a:Nat}(ha:G.ak i T≤a)(hl:a≤(G.tl T).length)(hv:∀ t:Int,T<t→G.vt i t=none):GInv cf c0 (G.ack i T a) where
 g1:=hG.g1
 g0:=hG.g0
 g2:=hG.g2
 g3:=hG.g3
 g4 t x hx:=by
  obtain ⟨b1,b2⟩:=hG.g4 t x hx
  refine ⟨b1,fun u hu=>?_⟩
  obtain ⟨c1,c2,c3,c4⟩:=b2 u hu
  refine ⟨c1,c2,c3,c4.fm hG.g11 (ack_fm ha) (fun t0 ht0=>?_)⟩
  by_cases h:u=i∧t0=T
  ·obtain ⟨rfl,rfl⟩:=h
   have:=hv t ht0
   rw[this] at c1;cases c1
  ·simp only[Gh.ack];rw[up2_ne _ _ h]
 g5 c hc:=by
  obtain ⟨a1,a2,a3,a4,a5,a6⟩:=hG.g5 c hc
  exact ⟨a1,a2,a3,a4,a5,fun u hu=>Nat.le_trans (a6 u hu) ((ack_fm ha).f8 u c.t)⟩
 g6:=hG.g6
 g7:=hG.g7
 g8:=hG.g8
 g9:=hG.g9
 g10:=hG.g10
 g11 u t:=by
  by_cases h:u=i∧t=T
  ·obtain ⟨rfl,rfl⟩:=h;simp only[Gh.ack,up2_at];exact hl
  ·simp only[Gh.ack];rw[up2_ne _ _ h];exact hG.g11 u t
end
section
variable {cf:Ent→Option Mb} {c0:Mb} {i:Int} {G:Gh} {s:NV}
def CutTo (L L':List Ent)(Y:List Ent)(n:Nat):Prop:=L'=L∨∃ q,q<n∧Ag L L' q∧L'.length=n∧Ag L' Y n∧q≤L.length∧L[q]?≠Y[q]?
theorem CutTo.keep {L L' Y Z:List Ent}{n a:Nat}(h:CutTo L L' Y n)(h1:Ag Z L a)(h2:Ag Z Y a):Ag Z L' a:=by
 rcases h with rfl | ⟨q,hq,h3,h4,h5,h6,h7⟩
 ·exact h1
 ·rcases Nat.lt_or_ge q a with hlt | hge
  ·exact absurd ((h1 q hlt).symm.trans (h2 q hlt)) h7
  ·exact h1.trans (h3.mono hge)
theorem NInv.accept (hG:GInv cf c0 G)(h:NInv G i s){j:Int}(hj:G.el s.T=some j)(hji:j≠i){last:Nat}(hl:last≤(G.tl s.T).length)(s':NV)(hcut:CutTo s.L s'.L (G.tl s.T) last)(hag:Ag s'.L (G.tl s.T) last)
 (e1:s'.T=s.T) (e2:s'.voted=s.voted) (e3:s'.role=1) (e6:s'.ld=j) (e5:s'.c≤s'.L.length) (e5':0<s'.c→∃ d:Cmt,d∈G.cm∧d.t≤s.T∧s'.c≤d.n∧Ag s'.L (G.tl d.t) s'.c) :
 let G':=G.ack i s.T (max (G.ak i s.T) last)
 GInv cf c0 G'∧NInv G' i s'∧Fm i G G'∧(∀ u t:Int,u≠i→G'.vl u t=G.vl u t)∧last≤G'.ak i s.T:=by
 intro G'
 have hle:G.ak i s.T≤max (G.ak i s.T) last:=Nat.le_max_left _ _
 have f:Fm i G G':=ack_fm hle
 have hG':GInv cf c0 G':=hG.ack hle (Nat.max_le.2 ⟨hG.g11 _ _,hl⟩) (fun t ht=>(h.n2 t ht).1)
 have n9:∀ (t:Int) (a:Nat),a≤G'.ak i t→t≤s.T→(∀ s':Int,t<s'→s'≤s.T→(∃ j,G.el s'=some j)→Ag (G.tl t) (G.eb s') a)→Ag (G.tl t) s'.L a:=by
  intro t a ha ht hp
  by_cases hte:t=s.T
  ·subst hte
   have ha':a≤max (G.ak i s.T) last:=by simpa only [G',Gh.ack,up2_at] using ha
   by_cases h1:a≤last
   ·exact (hag.mono h1).symm
   ·have:=h.n9 s.T a (by omega) (Int.le_refl _) (fun x h1 h2=>by omega)
    exact hcut.keep this (Ag.refl _ _)
  ·rw[ack_ne hte] at ha
   have h1:=h.n9 t a ha ht hp
   have h2:=hp s.T (by omega) (Int.le_refl _) ⟨j,hj⟩
   have h3:=(hG.g2 s.T j hj).2.1
   have h4:=h2.len (Nat.le_trans ha (hG.g11 i t))
   exact hcut.keep h1 (h2.trans (h3.mono h4))
 refine ⟨hG',?_,f,fun _ _ _=>rfl,by simp only[G',Gh.ack,up2_at];omega⟩
 exact {
  n1:=by rw[e1,e2];exact h.n1
  n2:=by
   intro t ht
   rw[e1] at ht
   obtain ⟨a,b,c,d⟩:=h.n2 t ht
   exact ⟨a,by rw[ack_ne (by omega)];exact b,c,d⟩
  n3:=by
   rcases hcut with hL | ⟨q,hq,h3,h4,h5,h6,h7⟩
   ·rw[hL,e1];exact h.n3
   ·rw[e1]
    refine ⟨fun k e hk=>?_,fun k e hk=>?_⟩
    ·have hkl:=lt_len hk
     have hk':(G.tl s.T)[k]?=some e:=by rw[←h5 k (by omega)];exact hk
     obtain ⟨a,b⟩:=hG.g3 s.T k e hk'
     exact ⟨a,(h5.mono (by omega)).trans b⟩
    ·have hkl:=lt_len hk
     exact hG.le (t:=s.T) (k:=k) (by rw[←h5 k (by omega)];exact hk)
  n4:=fun hr=>by rw[e3] at hr;exact absurd hr (by decide)
  n5:=fun hr=>by rw[e3] at hr;exact absurd hr (by decide)
  n6:=fun he=>by
   rw[e1] at he
   rw[show G'.el s.T=G.el s.T from rfl,hj] at he
   cases he
   exact absurd rfl hji
  n7:=by rw[e1];exact ⟨e5,e5'⟩
  n8:=fun _=>by rw[e1,e6];exact hj
  n9:=by rw[e1];exact n9
  nA:=by
   intro t' x hx
   obtain ⟨a,b⟩:=h.nA t' x hx
   refine ⟨a,fun t n hn ht hp=>?_⟩
   by_cases hte:t=s.T
   ·subst hte
    have:=(h.n2 t' ht).1
    rw[show G'.vt i t'=G.vt i t' from rfl,this] at hx;cases hx
   ·rw[ack_ne hte] at hn
    exact b t n hn ht hp }
def Gh.elect (G:Gh)(i t:Int)(X:List Ent)(q:Int→Bool):Gh:={ G with el:=up G.el t (some i),eb:=up G.eb t X,tl:=up G.tl t X,eq:=up G.eq t q,ak:=up2 G.ak i t X.length }
def KeepsLe (G:Gh)(u t':Int)(X:List Ent):Prop:=∀ (t:Int) (a:Nat),a≤G.ak u t→t<t'→(∀ s':Int,t<s'→s'≤t'→(∃ j,G.el s'=some j)→Ag (G.tl t) (G.eb s') a)→Ag (G.tl t) X a
theorem GInv.has (hG:GInv cf c0 G){t':Int}{X:List Ent}{qx:Int→Bool}{vl:Int→List Ent}(hX:WL G X)(hXt:∀ (k:Nat) (e:Ent),X[k]?=some e→e.term<t')(hqx:rch (conf cf c0 X) qx)(hv:∀ u:Int,qx u=true→utd X (vl u)∧WL G (vl u)∧KeepsLe G u t' (vl u)) :
 ∀ (j:Nat) (c:Cmt),G.cm[j]?=some c→c.t<t'→Ag (G.tl c.t) X c.n:=by
 intro j
 induction j using Nat.strongRecOn with
 | _ j ih=>
  intro c hc ht
  have hm:=List.mem_of_getElem? hc
  obtain ⟨⟨i,a1⟩,a2,a3,a4,a5,a6⟩:=hG.g5 c hm
  refine hG.core a1 a2 a3 a4 a5 a6 ?_ ht ?_ hX hXt hqx (fun u hu=>⟨(hv u hu).1,(hv u hu).2.1,fun hn=>(hv u hu).2.2 c.t c.n hn ht (fun x h1 h2 ⟨y,hy⟩=>hG.g9 c hm x y h1 hy)⟩)
  ·intro k1 k2 hk hk2 c1 c2
   obtain ⟨j',d,d1,d2,d3,d4,d5⟩:=hG.g6 j c hc k1 k2 hk hk2 c1 c2
   have:=ih j' d1 d d2 (by omega)
   exact d5.trans (this.mono (by omega))
  ·intro x h1 h2 ⟨y,hy⟩
   exact hG.g9 c hm x y h1 hy
theorem GInv.one (hG:GInv cf c0 G){t' j:Int}{X:List Ent}{qx:Int→Bool}(hX:WL G X)(hXt:∀ (k:Nat) (e:Ent),X[k]?=some e→e.term<t')(hqx:rch (conf cf c0 X) qx)(hj:G.el t'=some j)
 (hhas:∀ (k:Nat) (c:Cmt),G.cm[k]?=some c→c.t<t'→Ag (G.tl c.t) X c.n):∃ u,qx u=true∧G.vt u t'=some j:=by
 obtain ⟨b1,b2⟩:=hG.g4 t' j hj
 obtain ⟨l1,l2,l3,l4⟩:=hG.g2 t' j hj
 have WZ:WL G (G.eb t'):=by
  intro k e hk
  have hkl:=lt_len hk
  obtain ⟨a,b⟩:=hG.g3 t' k e (by rw[←l2 k hkl];exact hk)
  exact ⟨a,(l2.mono (by omega)).trans b⟩
 have lt:∀ {Y:List Ent},(∀ (k:Nat) (e:Ent),Y[k]?=some e→e.term<t')→0<Y.length→lastT Y<t':=by
  intro Y hY hl
  obtain ⟨e,e1,e2⟩:=nz_of hl
  rw[e2];exact hY _ e e1
 have m1:∀ k1 k2:Nat,k1<k2→isC cf X k1→isC cf X k2→Ag X (G.eb t') (k1+1):=by
  intro k1 k2 hk c1 c2
  obtain ⟨d,d1,d2,d3,d4⟩:=hG.chain hX hk c1 c2
  have:=lt hXt (by have:=c1.lt;omega)
  exact d4.trans ((hG.g9 d d1 t' j (by omega) hj).mono (by omega))
 have m2:∀ k1 k2:Nat,k1<k2→isC cf (G.eb t') k1→isC cf (G.eb t') k2→Ag (G.eb t') X (k1+1):=by
  intro k1 k2 hk c1 c2
  obtain ⟨d,d1,d2,d3,d4⟩:=hG.chain WZ hk c1 c2
  have:=lt l3 (by have:=c1.lt;omega)
  obtain ⟨x,hx⟩:=List.mem_iff_getElem?.1 d1
  exact d4.trans ((hhas x d hx (by omega)).mono (by omega))
 obtain ⟨u,u1,u2⟩:=adjacent m1 m2 (hG.trans hX) (hG.trans WZ) hqx b1
 exact ⟨u,u1,(b2 u u2).1⟩
theorem NInv.wins (hG:GInv cf c0 G)(h:NInv G i s)(hr:s.role=2)(hq:rch (conf cf c0 s.L) s.vs)(hvs:∀ u x:Int,G.vt u s.T=some x→WL G (G.vl u s.T)∧KeepsLe G u s.T (G.vl u s.T)) :
 G.el s.T=none∧(∀ u:Int,s.vs u=true→G.vt u s.T=some i∧utd s.L (G.vl u s.T)∧WL G (G.vl u s.T)∧Keeps G u s.T (G.vl u s.T))∧∀ c:Cmt,c∈G.cm→c.t<s.T→Ag (G.tl c.t) s.L c.n:=by
 obtain ⟨r1,r2,r3,r4⟩:=h.n4 hr
 have up:∀ u:Int,s.vs u=true→utd s.L (G.vl u s.T):=by
  intro u hu
  obtain ⟨Y,y1,y2⟩:=hG.g10 u s.T i (r1 u hu)
  rw[r2] at y1;cases y1
  exact y2
 have hhas:=hG.has h.n3.1 r4 hq (vl:=fun u=>G.vl u s.T) (fun u hu=>⟨up u hu,hvs u i (r1 u hu)⟩)
 have hnone:G.el s.T=none:=by
  cases hj:G.el s.T with
  | none=>rfl
  | some j=>
   obtain ⟨u,u1,u2⟩:=hG.one h.n3.1 r4 hq hj hhas
   rw[r1 u u1] at u2
   cases u2
   exact absurd hj r3
 refine ⟨hnone,fun u hu=>⟨r1 u hu,up u hu,(hvs u i (r1 u hu)).1,?_⟩,fun c hc ht=>?_⟩
 ·intro t a ha ht hp
  refine (hvs u i (r1 u hu)).2 t a ha ht (fun x h1 h2 h3=>?_)
  rcases Int.lt_or_eq_of_le h2 with h4 | h4
  ·exact hp x h1 h4 h3
  ·subst h4
   obtain ⟨j,hj⟩:=h3
   rw[hnone] at hj;cases hj
 ·obtain ⟨k,hk⟩:=List.mem_iff_getElem?.1 hc
  exact hhas k c hk ht
theorem elect_fm {T:Int}{X:List Ent}{q:Int→Bool}(hn:G.el T=none)(htl:G.tl T=[])(hak:G.ak i T≤X.length):Fm i G (G.elect i T X q) where
 f1 t x hx:=by
  have:t≠T:=by rintro rfl;rw[hn] at hx;cases hx
  simp only[Gh.elect];rw[up_ne _ _ this];exact hx
 f2 t x hx hxi:=by
  by_cases h:t=T
  ·subst h;simp only[Gh.elect,up_at] at hx;cases hx;exact absurd rfl hxi
  ·simp only[Gh.elect] at hx;rwa [up_ne _ _ h] at hx
 f3 t x hx:=by
  have:t≠T:=by rintro rfl;rw[hn] at hx;cases hx
  simp only[Gh.elect];rw[up_ne _ _ this]
 f4 t:=by
  by_cases h:t=T
  ·subst h;rw[htl];exact ⟨Nat.zero_le _,fun k hk=>absurd hk (by simp)⟩
  ·simp only[Gh.elect];rw[up_ne _ _ h];exact ⟨Nat.le_refl _,Ag.refl _ _⟩
 f5 t x hx _:=by
  have:t≠T:=by rintro rfl;rw[hn] at hx;cases hx
  simp only[Gh.elect];rw[up_ne _ _ this]
 f6 _ _ _ h:=⟨h,rfl⟩
 f7 _ _ _:=rfl
 f8 u t:=by
  by_cases h:u=i∧t=T
  ·obtain ⟨rfl,rfl⟩:=h;simp only[Gh.elect,up2_at];exact hak
  ·simp only[Gh.elect];rw[up2_ne _ _ h];exact Nat.le_refl _
 f8' u t hu:=by simp only[Gh.elect];rw[up2_ne _ _ (fun h=>hu h.1)]
 f9 _ _ _ h:=h
 f9' _ _ _:=rfl
 fA _ h:=h
theorem NInv.lead (hG:GInv cf c0 G)(h:NInv G i s)(hr:s.role=2)(hT:0<s.T)(hq:rch (conf cf c0 s.L) s.vs)(hvs:∀ u x:Int,G.vt u s.T=some x→WL G (G.vl u s.T)∧KeepsLe G u s.T (G.vl u s.T))
 (s':NV) (e1:s'.T=s.T) (e2:s'.voted=s.voted) (e3:s'.role=3) (e4:s'.L=s.L) (e5:s'.c=s.c) (e6:s'.ld=i) (e8:∀ u,s'.mt u=0) :
 let G':=G.elect i s.T s.L s.vs
 GInv cf c0 G'∧NInv G' i s'∧Fm i G G'∧∀ u t:Int,u≠i→G'.vl u t=G.vl u t:=by
 intro G'
 obtain ⟨hnone,hvot,hhas⟩:=h.wins hG hr hq hvs
 obtain ⟨r1,r2,r3,r4⟩:=h.n4 hr
 obtain ⟨htl,heb⟩:=hG.g1 _ hnone
 have hak0:∀ u:Int,G.ak u s.T=0:=fun u=>by have:=hG.g11 u s.T;rw[htl] at this;simpa using this
 have f:Fm i G G':=elect_fm hnone htl (by rw[hak0];exact Nat.zero_le _)
 have tlT:G'.tl s.T=s.L:=up_at _ _ _
 have ebT:G'.eb s.T=s.L:=up_at _ _ _
 have elT:G'.el s.T=some i:=up_at _ _ _
 have tlN:∀ t:Int,t≠s.T→G'.tl t=G.tl t:=fun t ht=>up_ne _ _ ht
 have ebN:∀ t:Int,t≠s.T→G'.eb t=G.eb t:=fun t ht=>up_ne _ _ ht
 have elN:∀ t:Int,t≠s.T→G'.el t=G.el t:=fun t ht=>up_ne _ _ ht
 have akN:∀ u t:Int,t≠s.T→G'.ak u t=G.ak u t:=fun u t ht=>up2_ne _ _ (fun hh=>ht hh.2)
 have cmT:∀ c:Cmt,c∈G.cm→c.t≠s.T:=by
  intro c hc e
  obtain ⟨⟨j,a1⟩,_⟩:=hG.g5 c hc
  rw[e,hnone] at a1;cases a1
 have akle:∀ u t:Int,G'.ak u t≤(G'.tl t).length:=by
  intro u t
  by_cases ht:t=s.T
  ·subst ht
   rw[tlT]
   by_cases hu:u=i
   ·subst hu;simp[G',Gh.elect,up2_at]
   ·rw[f.f8' u _ hu,hak0];exact Nat.zero_le _
  ·rw[tlN t ht,akN u t ht];exact hG.g11 u t
 have g4':∀ t x:Int,G'.el t=some x→rch (conf cf c0 (G'.eb t)) (G'.eq t)∧∀ u,G'.eq t u=true→G'.vt u t=some x∧utd (G'.eb t) (G'.vl u t)∧WL G' (G'.vl u t)∧Keeps G' u t (G'.vl u t):=by
  intro t x hx
  by_cases ht:t=s.T
  ·subst ht
   rw[elT] at hx;cases hx
   rw[ebT,show G'.eq s.T=s.vs from up_at _ _ _]
   refine ⟨hq,fun u hu=>?_⟩
   obtain ⟨v1,v2,v3,v4⟩:=hvot u hu
   exact ⟨v1,v2,v3.fm f,v4.fm hG.g11 f (fun t0 h0=>akN u t0 (by omega))⟩
  ·rw[elN t ht] at hx
   obtain ⟨b1,b2⟩:=hG.g4 t x hx
   rw[ebN t ht,show G'.eq t=G.eq t from up_ne _ _ ht]
   refine ⟨b1,fun u hu=>?_⟩
   obtain ⟨v1,v2,v3,v4⟩:=b2 u hu
   refine ⟨v1,v2,v3.fm f,v4.fm hG.g11 f (fun t0 h0=>?_)⟩
   by_cases h0':t0=s.T
   ·subst h0'
    by_cases hu':u=i
    ·subst hu'
     have:=(h.n2 t (by omega)).1
     rw[this] at v1;cases v1
    ·exact f.f8' u _ hu'
   ·exact akN u t0 h0'
 have hlastT:0<s.L.length→∃ j,G.el (lastT s.L)=some j∧lastT s.L≠s.T∧Ag s.L (G.tl (lastT s.L)) s.L.length∧lastT s.L<s.T:=by
  intro hl
  obtain ⟨j,h1,h2,h3,h4,h5⟩:=hG.base h.n3.1 hl
  obtain ⟨e,x1,x2⟩:=nz_of hl
  have:=r4 _ e x1
  exact ⟨j,h1,by omega,h2,by omega⟩
 have hG':GInv cf c0 G':={
  g1:=by
   intro t ht
   by_cases h0:t=s.T
   ·subst h0;rw[elT] at ht;cases ht
   ·rw[elN t h0] at ht;rw[tlN t h0,ebN t h0];exact hG.g1 t ht
  g0:=by
   intro t x hx
   by_cases h0:t=s.T
   ·subst h0;exact hT
   ·rw[elN t h0] at hx;exact hG.g0 t x hx
  g2:=by
   intro t x hx
   by_cases h0:t=s.T
   ·subst h0
    rw[tlT,ebT]
    exact ⟨Nat.le_refl _,Ag.refl _ _,r4,fun k e hk he=>absurd (lt_len he) (by omega)⟩
   ·rw[elN t h0] at hx;rw[tlN t h0,ebN t h0];exact hG.g2 t x hx
  g3:=by
   intro t
   by_cases h0:t=s.T
   ·subst h0;rw[tlT];exact h.n3.1.fm f
   ·rw[tlN t h0];exact (hG.g3 t).fm f
  g4:=g4'
  g5:=by
   intro c hc
   obtain ⟨⟨j,a1⟩,a2,a3,a4,a5,a6⟩:=hG.g5 c hc
   have hn:=cmT c hc
   rw[elN _ hn,ebN _ hn,tlN _ hn]
   exact ⟨⟨j,a1⟩,a2,a3,a4,a5,fun u hu=>by rw[akN u _ hn];exact a6 u hu⟩
  g6:=by
   intro x c hc k1 k2 hk hk2 c1 c2
   have hn:=cmT c (List.mem_of_getElem? hc)
   rw[tlN _ hn] at c1 c2⊢
   obtain ⟨j,d,d1,d2,d3,d4,d5⟩:=hG.g6 x c hc k1 k2 hk hk2 c1 c2
   exact ⟨j,d,d1,d2,d3,d4,by rw[tlN _ (cmT d (List.mem_of_getElem? d2))];exact d5⟩
  g7:=by
   intro t k1 k2 hk c1 c2
   by_cases h0:t=s.T
   ·subst h0
    rw[tlT] at c1 c2⊢
    obtain ⟨j,l1,l2,l3,l4⟩:=hlastT (by have:=c1.lt;omega)
    obtain ⟨d,d1,d2,d3,d4⟩:=hG.chain h.n3.1 hk c1 c2
    exact ⟨d,d1,by omega,d3,by rw[tlN _ (cmT d d1)];exact d4⟩
   ·rw[tlN t h0] at c1 c2⊢
    obtain ⟨d,d1,d2,d3,d4⟩:=hG.g7 t k1 k2 hk c1 c2
    exact ⟨d,d1,d2,d3,by rw[tlN _ (cmT d d1)];exact d4⟩
  g8:=by
   intro t k e c hk hc
   by_cases h0:t=s.T
   ·subst h0;rw[tlT] at hk⊢;exact hG.trans h.n3.1 k e c hk hc
   ·rw[tlN t h0] at hk⊢;exact hG.g8 t k e c hk hc
  g9:=by
   intro c hc t' x ht hx
   rw[tlN _ (cmT c hc)]
   by_cases h0:t'=s.T
   ·subst h0;rw[ebT];exact hhas c hc ht
   ·rw[ebN _ h0];rw[elN _ h0] at hx;exact hG.g9 c hc t' x ht hx
  g10:=hG.g10
  g11:=akle }
 refine ⟨hG',?_,f,fun _ _ _=>rfl⟩
 exact {
  n1:=by rw[e1,e2];exact h.n1
  n2:=by
   intro t ht
   rw[e1] at ht
   obtain ⟨a,b,c,d⟩:=h.n2 t ht
   exact ⟨a,by rw[akN i t (by omega)];exact b,by rw[elN t (by omega)];exact c,d⟩
  n3:=by rw[e1,e4];exact ⟨h.n3.1.fm f,h.n3.2⟩
  n4:=fun hh=>by rw[e3] at hh;exact absurd hh (by decide)
  n5:=fun _=>by rw[e1];exact ⟨elT,e6,fun u=>by rw[e8];exact Nat.zero_le _⟩
  n6:=fun _=>by rw[e1,e4,tlT];exact ⟨rfl,by simp[G',Gh.elect,up2_at]⟩
  n7:=by
   rw[e1,e4,e5]
   refine ⟨h.n7.1,fun hc=>?_⟩
   obtain ⟨d,d1,d2,d3,d4⟩:=h.n7.2 hc
   exact ⟨d,d1,d2,d3,by rw[tlN _ (cmT d d1)];exact d4⟩
  n8:=fun _=>by rw[e1,e6];exact elT
  n9:=by
   intro t a ha ht hp
   rw[e1] at ht hp
   rw[e4]
   by_cases h0:t=s.T
   ·subst h0;rw[tlT];exact Ag.refl _ _
   ·rw[akN i t h0] at ha
    rw[tlN t h0] at hp⊢
    refine h.n9 t a ha ht (fun x h1 h2 ⟨y,hy⟩=>?_)
    have hx:x≠s.T:=by rintro rfl;rw[hnone] at hy;cases hy
    have:=hp x h1 h2 ⟨y,by rw[elN x hx];exact hy⟩
    rwa [ebN x hx] at this
  nA:=by
   intro t' x hx
   obtain ⟨a,b⟩:=h.nA t' x hx
   refine ⟨a.fm f,fun t n hn ht hp=>?_⟩
   by_cases h0:t=s.T
   ·subst h0
    have:=(h.n2 t' ht).1
    rw[show G'.vt i t'=G.vt i t' from rfl,this] at hx;cases hx
   ·rw[akN i t h0] at hn
    rw[tlN t h0] at hp⊢
    refine b t n hn ht (fun x h1 h2 ⟨y,hy⟩=>?_)
    have hx:x≠s.T:=by rintro rfl;rw[hnone] at hy;cases hy
    have:=hp x h1 h2 ⟨y,by rw[elN x hx];exact hy⟩
    rwa [ebN x hx] at this }
end
section
variable {cf:Ent→Option Mb} {c0:Mb} {i:Int} {G:Gh} {s:NV}
def Gh.grow (G:Gh)(i t:Int)(e:Ent):Gh:={ G with tl:=up G.tl t (G.tl t ++ [e]),ak:=up2 G.ak i t ((G.tl t).length+1) }
theorem snoc_at {X:List Ent}{e d:Ent}{k:Nat}(h:(X ++ [e])[k]?=some d):(k<X.length∧X[k]?=some d)∨(k=X.length∧d=e):=by
 rcases Nat.lt_or_ge k X.length with hl | hl
 ·rw[List.getElem?_append_left hl] at h;exact .inl ⟨hl,h⟩
 ·have:=lt_len h
  simp at this
  have hk:k=X.length:=by omega
  subst hk
  simp at h
  exact .inr ⟨rfl,h.symm⟩
theorem isC.snoc {X:List Ent}{e:Ent}{k:Nat}(h:isC cf (X ++ [e]) k):isC cf X k∨(k=X.length∧∃ c,cf e=some c):=by
 obtain ⟨d,c,h1,h2⟩:=h
 rcases snoc_at h1 with ⟨_,h3⟩ | ⟨h3,rfl⟩
 ·exact .inl ⟨d,c,h3,h2⟩
 ·exact .inr ⟨h3,c,h2⟩
theorem NInv.grow (hG:GInv cf c0 G)(h:NInv G i s)(hr:s.role=3){e:Ent}(he:e.term=s.T)(hc:∀ c,cf e=some c→stepC (conf cf c0 s.L) c∧∀ k,isC cf s.L k→k<s.c)
 (s':NV) (e1:s'.T=s.T) (e2:s'.voted=s.voted) (e3:s'.role=3) (e4:s'.L=s.L ++ [e]) (e5:s'.c=s.c) (e6:s'.ld=s.ld) (e8:s'.mt=s.mt) :
 let G':=G.grow i s.T e
 GInv cf c0 G'∧NInv G' i s'∧Fm i G G'∧∀ u t:Int,u≠i→G'.vl u t=G.vl u t:=by
 intro G'
 obtain ⟨hel,hld,hmt⟩:=h.n5 hr
 obtain ⟨hL,hLa⟩:=h.n6 hel
 have tlT:G'.tl s.T=s.L ++ [e]:=by rw[hL];exact up_at _ _ _
 have tlN:∀ t:Int,t≠s.T→G'.tl t=G.tl t:=fun t ht=>up_ne _ _ ht
 have akN:∀ u t:Int,t≠s.T→G'.ak u t=G.ak u t:=fun u t ht=>up2_ne _ _ (fun hh=>ht hh.2)
 have akT:G'.ak i s.T=s.L.length+1:=by rw[hL];exact up2_at _ _ _ _
 have f:Fm i G G':={
  f1:=fun _ _ h=>h
  f2:=fun _ _ h _=>h
  f3:=fun _ _ _=>rfl
  f4:=by
   intro t
   by_cases h0:t=s.T
   ·subst h0;rw[tlT,←hL];exact ⟨by simp,Ag.app _ _⟩
   ·rw[tlN t h0];exact ⟨Nat.le_refl _,Ag.refl _ _⟩
  f5:=fun t x hx hxi=>tlN t (by rintro rfl;rw[hel] at hx;cases hx;exact hxi rfl)
  f6:=fun _ _ _ h=>⟨h,rfl⟩
  f7:=fun _ _ _=>rfl
  f8:=by
   intro u t
   by_cases h0:u=i∧t=s.T
   ·obtain ⟨rfl,rfl⟩:=h0
    rw[akT]
    have:=hG.g11 u s.T;rw[←hL] at this;omega
   ·rw[show G'.ak u t=G.ak u t from up2_ne _ _ h0];exact Nat.le_refl _
  f8':=fun u t hu=>up2_ne _ _ (fun hh=>hu hh.1)
  f9:=fun _ _ _ h=>h
  f9':=fun _ _ _=>rfl
  fA:=fun _ h=>h }
 have tlAt:∀ (t:Int) (k:Nat) (d:Ent),(G'.tl t)[k]?=some d→(G.tl t)[k]?=some d∨(t=s.T∧k=s.L.length∧d=e):=by
  intro t k d hd
  by_cases h0:t=s.T
  ·subst h0
   rw[tlT] at hd
   rcases snoc_at hd with ⟨_,h1⟩ | ⟨h1,h2⟩
   ·exact .inl (by rw[←hL];exact h1)
   ·exact .inr ⟨rfl,h1,h2⟩
  ·rw[tlN t h0] at hd;exact .inl hd
 have tlC:∀ (t:Int) (k:Nat),isC cf (G'.tl t) k→isC cf (G.tl t) k∨(t=s.T∧k=s.L.length∧∃ c,cf e=some c):=by
  intro t k ⟨d,c,h1,h2⟩
  rcases tlAt t k d h1 with h3 | ⟨h3,h4,rfl⟩
  ·exact .inl ⟨d,c,h3,h2⟩
  ·exact .inr ⟨h3,h4,c,h2⟩
 have tlAg:∀ (t:Int) (n:Nat),n≤(G.tl t).length→Ag (G'.tl t) (G.tl t) n:=fun t n hn=>(f.tlAg hn).symm
 have cmN:∀ c:Cmt,c∈G.cm→c.n≤(G.tl c.t).length:=fun c hc=>by obtain ⟨_,_,a,b,_⟩:=hG.g5 c hc;omega
 have WT:WL G' (s.L ++ [e]):=by
  intro k d hd
  rcases snoc_at hd with ⟨h1,h2⟩ | ⟨h1,rfl⟩
  ·obtain ⟨a,b⟩:=(h.n3.1.fm f) k d h2
   exact ⟨a,((Ag.app s.L [e]).mono (by omega)).symm.trans b⟩
  ·rw[he,tlT];exact ⟨⟨i,hel⟩,Ag.refl _ _⟩
 have hG':GInv cf c0 G':={
  g1:=by
   intro t ht
   have h0:t≠s.T:=by
    intro hh
    subst hh
    rw[show G'.el s.T=G.el s.T from rfl,hel] at ht;cases ht
   rw[tlN t h0];exact hG.g1 t ht
  g0:=hG.g0
  g2:=by
   intro t x hx
   obtain ⟨a,b,c,d⟩:=hG.g2 t x hx
   refine ⟨Nat.le_trans a (f.f4 t).1,b.trans (f.tlAg a),c,fun k ee hk hh=>?_⟩
   rcases tlAt t k ee hh with h1 | ⟨h1,h2,rfl⟩
   ·exact d k ee hk h1
   ·rw[he,h1]
  g3:=by
   intro t
   by_cases h0:t=s.T
   ·subst h0;rw[tlT];exact WT
   ·rw[tlN t h0];exact (hG.g3 t).fm f
  g4:=by
   intro t x hx
   obtain ⟨b1,b2⟩:=hG.g4 t x hx
   refine ⟨b1,fun u hu=>?_⟩
   obtain ⟨v1,v2,v3,v4⟩:=b2 u hu
   refine ⟨v1,v2,v3.fm f,v4.fm hG.g11 f (fun t0 h0=>?_)⟩
   by_cases h0':t0=s.T
   ·subst h0'
    by_cases hu':u=i
    ·subst hu'
     have:=(h.n2 t (by omega)).1
     rw[this] at v1;cases v1
    ·exact f.f8' u _ hu'
   ·exact akN u t0 h0'
  g5:=by
   intro c hc
   obtain ⟨a1,a2,a3,a4,a5,a6⟩:=hG.g5 c hc
   refine ⟨a1,a2,a3,Nat.le_trans a4 (f.f4 c.t).1,?_,fun u hu=>Nat.le_trans (a6 u hu) (f.f8 u c.t)⟩
   rw[(tlAg c.t c.m a4).take];exact a5
  g6:=by
   intro x c hc k1 k2 hk hk2 c1 c2
   obtain ⟨a1,a2,a3,a4,a5,a6⟩:=hG.g5 c (List.mem_of_getElem? hc)
   have d1:=c1.ag (tlAg c.t c.m a4) (by omega)
   have d2:=c2.ag (tlAg c.t c.m a4) (by omega)
   obtain ⟨j,d,x1,x2,x3,x4,x5⟩:=hG.g6 x c hc k1 k2 hk hk2 d1 d2
   have:=cmN d (List.mem_of_getElem? x2)
   exact ⟨j,d,x1,x2,x3,x4,(tlAg c.t (k1+1) (by omega)).trans (x5.trans (f.tlAg (by omega)))⟩
  g7:=by
   intro t k1 k2 hk c1 c2
   have old1:isC cf (G.tl t) k1:=by
    rcases tlC t k1 c1 with h1 | ⟨h1,h2,_⟩
    ·exact h1
    ·have:=c2.lt
     rw[h1,tlT] at this
     simp at this;omega
   rcases tlC t k2 c2 with h1 | ⟨h1,h2,c,h3⟩
   ·obtain ⟨d,d1,d2,d3,d4⟩:=hG.g7 t k1 k2 hk old1 h1
    have:=cmN d d1
    exact ⟨d,d1,d2,d3,(tlAg t (k1+1) (by have:=old1.lt;omega)).trans (d4.trans (f.tlAg (by omega)))⟩
   ·rw[h1] at old1⊢
    rw[←hL] at old1
    have hk1:=(hc c h3).2 k1 old1
    obtain ⟨d,d1,d2,d3,d4⟩:=h.n7.2 (by omega)
    have:=cmN d d1
    refine ⟨d,d1,d2,by omega,?_⟩
    have x1:Ag (G'.tl s.T) s.L (k1+1):=by rw[tlT];exact ((Ag.app s.L [e]).mono (by have:=old1.lt;omega)).symm
    exact x1.trans ((d4.mono (by omega)).trans (f.tlAg (by omega)))
  g8:=by
   intro t k d c hd hcc
   rcases tlAt t k d hd with h1 | ⟨h1,h2,rfl⟩
   ·have:=lt_len h1
    rw[(tlAg t k (by omega)).take]
    exact hG.g8 t k d c h1 hcc
   ·subst h1;subst h2
    rw[tlT,List.take_left']
    ·exact (hc c hcc).1
    ·rfl
  g9:=by
   intro c hcc t' x ht hx
   exact (tlAg c.t c.n (cmN c hcc)).trans (hG.g9 c hcc t' x ht hx)
  g10:=hG.g10
  g11:=by
   intro u t
   by_cases h0:t=s.T
   ·subst h0
    rw[tlT]
    by_cases hu:u=i
    ·subst hu;rw[akT];simp
    ·rw[f.f8' u _ hu]
     have:=hG.g11 u s.T
     rw[←hL] at this
     simp;omega
   ·rw[tlN t h0,akN u t h0];exact hG.g11 u t }
 refine ⟨hG',?_,f,fun _ _ _=>rfl⟩
 exact {
  n1:=by rw[e1,e2];exact h.n1
  n2:=by
   intro t ht
   rw[e1] at ht
   obtain ⟨a,b,c,d⟩:=h.n2 t ht
   exact ⟨a,by rw[akN i t (by omega)];exact b,c,d⟩
  n3:=by
   rw[e1,e4]
   refine ⟨WT,fun k d hd=>?_⟩
   rcases snoc_at hd with ⟨_,h2⟩ | ⟨_,rfl⟩
   ·exact h.n3.2 k d h2
   ·omega
  n4:=fun hh=>by rw[e3] at hh;exact absurd hh (by decide)
  n5:=fun _=>by rw[e1,e6,e8];exact ⟨hel,hld,fun u=>Nat.le_trans (hmt u) (f.f8 _ _)⟩
  n6:=fun _=>by rw[e1,e4,tlT,akT];exact ⟨rfl,by simp⟩
  n7:=by
   rw[e1,e4,e5]
   refine ⟨by have:=h.n7.1;simp;omega,fun hcc=>?_⟩
   obtain ⟨d,d1,d2,d3,d4⟩:=h.n7.2 hcc
   have:=cmN d d1
   exact ⟨d,d1,d2,d3,((Ag.app s.L [e]).mono h.n7.1).symm.trans (d4.trans (f.tlAg (by omega)))⟩
  n8:=fun hl=>by rw[e6] at hl;rw[e1,e6];exact h.n8 hl
  n9:=by
   intro t a ha ht hp
   rw[e1] at ht hp
   rw[e4]
   by_cases h0:t=s.T
   ·subst h0;rw[tlT];exact Ag.refl _ _
   ·rw[akN i t h0] at ha
    rw[tlN t h0] at hp⊢
    have h1:=h.n9 t a ha ht hp
    exact h1.trans ((Ag.app s.L [e]).mono (h1.len (Nat.le_trans ha (hG.g11 i t))))
  nA:=by
   intro t' x hx
   obtain ⟨a,b⟩:=h.nA t' x hx
   refine ⟨a.fm f,fun t n hn ht hp=>?_⟩
   by_cases h0:t=s.T
   ·subst h0
    have:=(h.n2 t' ht).1
    rw[show G'.vt i t'=G.vt i t' from rfl,this] at hx;cases hx
   ·rw[akN i t h0] at hn
    rw[tlN t h0] at hp⊢
    exact b t n hn ht hp }
def Gh.commit (G:Gh)(c:Cmt):Gh:={ G with cm:=G.cm ++ [c] }
theorem commit_fm (c:Cmt):Fm i G (G.commit c):=⟨fun _ _ h=>h,fun _ _ h _=>h,fun _ _ _=>rfl,fun _=>⟨Nat.le_refl _,Ag.refl _ _⟩,fun _ _ _ _=>rfl,fun _ _ _ h=>⟨h,rfl⟩,fun _ _ _=>rfl,fun _ _=>Nat.le_refl _,fun _ _ _=>rfl,fun _ _ _ h=>h,fun _ _ _=>rfl,fun _ h=>List.mem_append_left _ h⟩
theorem NInv.commit (hG:GInv cf c0 G)(h:NInv G i s)(hr:s.role=3){n:Nat}{e:Ent}{q:Int→Bool}(hn:0<n)(he:s.L[n - 1]?=some e)(het:e.term=s.T)(hq:rch (conf cf c0 s.L) q)(hqa:∀ u:Int,q u=true→n≤G.ak u s.T) :
 let c:Cmt:=⟨s.T,n,s.L.length,q⟩
 let G':=G.commit c
 GInv cf c0 G'∧NInv G' i { s with c:=n }∧Fm i G G'∧∀ u t:Int,u≠i→G'.vl u t=G.vl u t:=by
 intro c G'
 obtain ⟨hel,hld,hmt⟩:=h.n5 hr
 obtain ⟨hL,hLa⟩:=h.n6 hel
 have hnl:n≤s.L.length:=by have:=lt_len he;omega
 have heb:(G.eb s.T).length<n:=by
  have:=(hG.own hel (k:=n - 1) (e:=e) (by rw[←hL];exact he)).1 het
  omega
 have f:Fm i G G':=commit_fm c
 have mem:∀ d:Cmt,d∈G'.cm→d∈G.cm∨d=c:=by
  intro d hd
  have hd':d∈G.cm ++ [c]:=hd
  rw[List.mem_append,List.mem_singleton] at hd'
  exact hd'
 have tak:(G.tl s.T).take s.L.length=s.L:=by rw[←hL,List.take_length]
 have later:∀ (d:Nat) (t' x:Int),s.T<t'→(t' - s.T).toNat=d→G.el t'=some x→Ag (G.tl s.T) (G.eb t') n:=by
  intro d
  induction d using Nat.strongRecOn with
  | _ d ih=>
   intro t' x ht hd hx
   obtain ⟨b1,b2⟩:=hG.g4 t' x hx
   obtain ⟨l1,l2,l3,l4⟩:=hG.g2 t' x hx
   have WZ:WL G (G.eb t'):=by
    intro k ee hk
    have hkl:=lt_len hk
    obtain ⟨a,b⟩:=hG.g3 t' k ee (by rw[←l2 k hkl];exact hk)
    exact ⟨a,(l2.mono (by omega)).trans b⟩
   have hbet:∀ y:Int,s.T<y→y<t'→(∃ j,G.el y=some j)→Ag (G.tl s.T) (G.eb y) n:=by
    intro y h1 h2 ⟨j,hj⟩
    exact ih (y - s.T).toNat (by omega) y j h1 rfl hj
   refine hG.core (t':=t') (m:=s.L.length) (vl:=fun u=>G.vl u t') hel heb hnl (by rw[←hL];exact Nat.le_refl _) (by rw[tak];exact hq) hqa ?_ ht hbet WZ l3 b1 ?_
   ·intro k1 k2 hk _ c1 c2
    obtain ⟨d,d1,d2,d3,d4⟩:=hG.g7 s.T k1 k2 hk c1 c2
    exact d4.trans ((hG.g9 d d1 t' x (by omega) hx).mono (by omega))
   ·intro u hu
    obtain ⟨v1,v2,v3,v4⟩:=b2 u hu
    exact ⟨v2,v3,fun hnn=>v4 s.T n hnn ht hbet⟩
 have hG':GInv cf c0 G':={
  g1:=hG.g1
  g0:=hG.g0
  g2:=hG.g2
  g3:=hG.g3
  g4:=hG.g4
  g5:=by
   intro d hd
   rcases mem d hd with h1 | rfl
   ·exact hG.g5 d h1
   ·exact ⟨⟨i,hel⟩,heb,hnl,by show s.L.length≤(G.tl s.T).length;rw[←hL];exact Nat.le_refl _,by show rch (conf cf c0 ((G.tl s.T).take s.L.length)) q;rw[tak];exact hq,hqa⟩
  g6:=by
   intro x d hd k1 k2 hk hk2 c1 c2
   have hd':(G.cm ++ [c])[x]?=some d:=hd
   rcases Nat.lt_or_ge x G.cm.length with hx | hx
   ·rw[List.getElem?_append_left hx] at hd'
    obtain ⟨j,y,y1,y2,y3⟩:=hG.g6 x d hd' k1 k2 hk hk2 c1 c2
    exact ⟨j,y,y1,by show (G.cm ++ [c])[j]?=some y;rw[List.getElem?_append_left (by omega)];exact y2,y3⟩
   ·have hxl:=(List.getElem?_eq_some_iff.1 hd').1
    simp at hxl
    have hxe:x=G.cm.length:=by omega
    subst hxe
    simp at hd'
    subst hd'
    obtain ⟨d,d1,d2,d3,d4⟩:=hG.g7 s.T k1 k2 hk c1 c2
    obtain ⟨j,hj⟩:=List.mem_iff_getElem?.1 d1
    have hjl:=(List.getElem?_eq_some_iff.1 hj).1
    exact ⟨j,d,hjl,by show (G.cm ++ [c])[j]?=some d;rw[List.getElem?_append_left hjl];exact hj,d2,d3,d4⟩
  g7:=by
   intro t k1 k2 hk c1 c2
   obtain ⟨d,d1,d2⟩:=hG.g7 t k1 k2 hk c1 c2
   exact ⟨d,List.mem_append_left _ d1,d2⟩
  g8:=hG.g8
  g9:=by
   intro d hd t' x ht hx
   rcases mem d hd with h1 | rfl
   ·exact hG.g9 d h1 t' x ht hx
   ·exact later _ t' x ht rfl hx
  g10:=hG.g10
  g11:=hG.g11 }
 refine ⟨hG',?_,f,fun _ _ _=>rfl⟩
 exact ⟨h.n1,h.n2,h.n3,h.n4,h.n5,h.n6,⟨hnl,fun _=>⟨c,List.mem_append_right _ (List.mem_singleton.2 rfl),Int.le_refl _,Nat.le_refl _,by show Ag s.L (G.tl s.T) n;rw[←hL];exact Ag.refl _ _⟩⟩,h.n8,h.n9,h.nA⟩
theorem NInv.quiet (h:NInv G i s)(s':NV)(e1:s'.T=s.T)(e2:s'.voted=s.voted)(e4:s'.L=s.L)(e3:s'.role=1)(e5:s'.c=s.c∨s'.c=0)(e6:0≤s'.ld→G.el s.T=some s'.ld):NInv G i s' where
 n1:=by rw[e1,e2];exact h.n1
 n2:=by rw[e1];exact h.n2
 n3:=by rw[e1,e4];exact h.n3
 n4 hh:=by rw[e3] at hh;exact absurd hh (by decide)
 n5 hh:=by rw[e3] at hh;exact absurd hh (by decide)
 n6:=by rw[e1,e4];exact h.n6
 n7:=by
  rw[e1,e4]
  rcases e5 with e5 | e5
  ·rw[e5];exact h.n7
  ·rw[e5];exact ⟨Nat.zero_le _,fun hh=>by omega⟩
 n8 hl:=by rw[e1];exact e6 hl
 n9:=by rw[e1,e4];exact h.n9
 nA:=h.nA
theorem NInv.voted (h:NInv G i s){u:Int}(hu:G.vt u s.T=some i)(vs':Int→Bool)(hvs:∀ x:Int,vs' x=true→x=u∨s.vs x=true):NInv G i { s with vs:=vs' }:=
 ⟨h.n1,h.n2,h.n3,fun hr=>by
  obtain ⟨a,b⟩:=h.n4 hr
  exact ⟨fun x hx=>by rcases hvs x hx with rfl | hx;exact hu;exact a x hx,b⟩,h.n5,h.n6,h.n7,h.n8,h.n9,h.nA⟩
theorem NInv.matched (h:NInv G i s)(mt':Int→Nat)(hm:∀ u:Int,mt' u≤G.ak u s.T):NInv G i { s with mt:=mt' }:=
 ⟨h.n1,h.n2,h.n3,h.n4,fun hr=>by obtain ⟨a,b,_⟩:=h.n5 hr;exact ⟨a,b,hm⟩,h.n6,h.n7,h.n8,h.n9,h.nA⟩
theorem GInv.agree (hG:GInv cf c0 G){c d:Cmt}(hc:c∈G.cm)(hd:d∈G.cm){n:Nat}(h1:n≤c.n)(h2:n≤d.n):Ag (G.tl c.t) (G.tl d.t) n:=by
 have one:∀ {c d:Cmt},c∈G.cm→d∈G.cm→n≤c.n→c.t<d.t→Ag (G.tl c.t) (G.tl d.t) n:=by
  intro c d hc hd h1 ht
  obtain ⟨⟨j,a1⟩,a2,a3,a4,a5,a6⟩:=hG.g5 d hd
  obtain ⟨_,_,b3,b4,_⟩:=hG.g5 c hc
  have h3:=hG.g9 c hc d.t j ht a1
  have:=h3.len (by omega)
  exact (h3.trans ((hG.g2 d.t j a1).2.1.mono this)).mono h1
 rcases Int.lt_trichotomy c.t d.t with h | h | h
 ·exact one hc hd h1 h
 ·rw[h];exact Ag.refl _ _
 ·exact (one hd hc h2 h).symm
end
end Go.Raft

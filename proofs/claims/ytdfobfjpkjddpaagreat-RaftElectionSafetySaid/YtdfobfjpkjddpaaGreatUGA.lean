import Derived.Test.YtdfobfjpkjddpaaGreatUIo
set_option linter.unusedVariables false
set_option linter.unusedSimpArgs false
namespace Go.Raft
structure Ent where
 term:Int
 kind:Int
 body:List Int
structure Mb where
 o:List Int
 n:List Int
def Ag (X Y:List Ent)(n:Nat):Prop:=∀ k,k<n→X[k]?=Y[k]?
section
variable {X Y Z:List Ent} {m n:Nat}
theorem Ag.refl (X:List Ent)(n:Nat):Ag X X n:=fun _ _=>rfl
theorem Ag.symm (h:Ag X Y n):Ag Y X n:=fun k hk=>(h k hk).symm
theorem Ag.trans (h:Ag X Y n)(h':Ag Y Z n):Ag X Z n:=fun k hk=>(h k hk).trans (h' k hk)
theorem Ag.mono (h:Ag X Y n)(hm:m≤n):Ag X Y m:=fun k hk=>h k (by omega)
theorem Ag.take (h:Ag X Y n):X.take n=Y.take n:=by
 apply List.ext_getElem?
 intro k
 by_cases hk:k<n
 ·rw[List.getElem?_take_of_lt hk,List.getElem?_take_of_lt hk,h k hk]
 ·rw[List.getElem?_eq_none (by simp;omega),List.getElem?_eq_none (by simp;omega)]
theorem Ag.len (h:Ag X Y n)(hn:n≤X.length):n≤Y.length:=by
 rcases n with _ | n
 ·omega
 ·have:=h n (by omega)
  rw[List.getElem?_eq_getElem (by omega)] at this
  have h2:=(List.getElem?_eq_some_iff.1 this.symm).1
  omega
theorem Ag.take_self (X:List Ent)(n:Nat):Ag (X.take n) X n:=fun k hk=>List.getElem?_take_of_lt hk
theorem Ag.app (X Y:List Ent):Ag X (X ++ Y) X.length:=fun k hk=>(List.getElem?_append_left hk).symm
end
theorem lt_len {X:List Ent}{k:Nat}{e:Ent}(h:X[k]?=some e):k<X.length:=(List.getElem?_eq_some_iff.1 h).1
theorem at_lt {X:List Ent}{k:Nat}(h:k<X.length):∃ e,X[k]?=some e:=⟨X[k],List.getElem?_eq_getElem h⟩
def lastT (X:List Ent):Int:=match X[X.length - 1]? with | some e=>e.term | none=>0
theorem lastT_at {X:List Ent}{k:Nat}{e:Ent}(h:X[k]?=some e)(hk:X.length=k+1):lastT X=e.term:=by
 unfold lastT
 rw[show X.length - 1=k by omega,h]
def utd (X Y:List Ent):Prop:=lastT Y<lastT X∨(lastT Y=lastT X∧Y.length≤X.length)
def maj (l:List Int)(q:Int→Bool):Prop:=l.length<2 * (l.filter q).length
def rch (c:Mb)(q:Int→Bool):Prop:=maj c.o q∧(c.n=[]∨maj c.n q)
def stepC (c d:Mb):Prop:=(c.n=[]∧d.o=c.o)∨(c.n≠[]∧d.o=c.n∧d.n=[])
theorem maj_meet {l:List Int}{p q:Int→Bool}(h1:maj l p)(h2:maj l q):∃ x,p x=true∧q x=true:=by
 unfold maj at h1 h2
 by_cases hx:∃ x,p x=true∧q x=true
 ·exact hx
 ·exfalso
  have:∀ l:List Int,(l.filter p).length+(l.filter q).length≤l.length:=by
   intro l
   induction l with
   | nil=>simp
   | cons a r ih=>
    rw[List.filter_cons,List.filter_cons]
    cases hp:p a <;> cases hq:q a <;> simp <;> first | omega | exact (hx ⟨a,hp,hq⟩).elim
  have:=this l
  omega
theorem meet_same {c:Mb}{p q:Int→Bool}(h1:rch c p)(h2:rch c q):∃ x,p x=true∧q x=true:=maj_meet h1.1 h2.1
theorem meet_step {c d:Mb}{p q:Int→Bool}(hs:stepC c d)(h1:rch c p)(h2:rch d q):∃ x,p x=true∧q x=true:=by
 rcases hs with ⟨_,h⟩ | ⟨hn,h,_⟩
 ·exact maj_meet h1.1 (h ▸ h2.1)
 ·rcases h1.2 with e | e
  ·exact absurd e hn
  ·exact maj_meet e (h ▸ h2.1)
theorem meet_both {c d d':Mb}{p q:Int→Bool}(hs:stepC c d)(hs':stepC c d')(h1:rch d p)(h2:rch d' q):∃ x,p x=true∧q x=true:=by
 rcases hs with ⟨hn,h⟩ | ⟨hn,h,_⟩
 ·rcases hs' with ⟨_,h'⟩ | ⟨hn',h',_⟩
  ·exact maj_meet (l:=c.o) (h ▸ h1.1) (h' ▸ h2.1)
  ·exact absurd hn hn'
 ·rcases hs' with ⟨hn',h'⟩ | ⟨_,h',_⟩
  ·exact absurd hn' hn
  ·exact maj_meet (l:=c.n) (h ▸ h1.1) (h' ▸ h2.1)
theorem meet_comm {p q:Int→Bool}(h:∃ x,p x=true∧q x=true):∃ x,q x=true∧p x=true:=by
 obtain ⟨x,a,b⟩:=h;exact ⟨x,b,a⟩
section
variable (cf:Ent→Option Mb) (c0:Mb)
def conf (X:List Ent):Mb:=X.foldl (fun c e=>(cf e).getD c) c0
def isC (X:List Ent)(k:Nat):Prop:=∃ e c,X[k]?=some e∧cf e=some c
theorem conf_snoc (X:List Ent)(e:Ent):conf cf c0 (X ++ [e])=(cf e).getD (conf cf c0 X):=by simp[conf]
variable {cf} {c0}
theorem isC.lt {X:List Ent}{k:Nat}(h:isC cf X k):k<X.length:=by obtain ⟨e,c,h,_⟩:=h;exact lt_len h
theorem isC.ag {X Y:List Ent}{k n:Nat}(h:isC cf X k)(ha:Ag X Y n)(hk:k<n):isC cf Y k:=by
 obtain ⟨e,c,h,h'⟩:=h
 exact ⟨e,c,(ha k hk) ▸ h,h'⟩
theorem conf_last:∀ X:List Ent,((∀ k,¬ isC cf X k)∧conf cf c0 X=c0)∨∃ p e c,X[p]?=some e∧cf e=some c∧conf cf c0 X=c∧∀ k,isC cf X k→k≤p:=by
 intro X
 induction hn:X.length generalizing X with
 | zero=>
  rw[List.length_eq_zero_iff] at hn
  subst hn
  exact .inl ⟨fun k h=>by have:=h.lt;simp at this,rfl⟩
 | succ n ih=>
  have hne:X≠[]:=by intro e;subst e;simp at hn
  obtain ⟨L,e,rfl⟩:∃ L e,X=L ++ [e]:=⟨X.dropLast,X.getLast hne,(List.dropLast_concat_getLast hne).symm⟩
  rw[conf_snoc]
  simp only[List.length_append,List.length_singleton] at hn
  cases hc:cf e with
  | some c=>
   refine .inr ⟨L.length,e,c,by simp,hc,rfl,fun k hk=>?_⟩
   have:=hk.lt;simp at this;omega
  | none=>
   have back:∀ k,isC cf (L ++ [e]) k→isC cf L k:=by
    intro k hk
    have hl:=hk.lt
    simp at hl
    by_cases h:k<L.length
    ·exact hk.ag (Ag.app L [e]).symm h
    ·obtain ⟨e',c',h1,h2⟩:=hk
     rw[show k=L.length by omega] at h1
     simp at h1
     subst h1
     rw[hc] at h2;cases h2
   rcases ih L (by omega) with ⟨h1,h2⟩ | ⟨p,e',c,h1,h2,h3,h4⟩
   ·exact .inl ⟨fun k hk=>h1 k (back k hk),h2⟩
   ·exact .inr ⟨p,e',c,(Ag.app L [e] p (lt_len h1)) ▸ h1,h2,h3,fun k hk=>h4 k (back k hk)⟩
theorem conf_of {X:List Ent}{p:Nat}{e:Ent}{c:Mb}(h1:X[p]?=some e)(h2:cf e=some c)(h3:∀ k,isC cf X k→k≤p):conf cf c0 X=c:=by
 rcases conf_last (cf:=cf) (c0:=c0) X with ⟨h,_⟩ | ⟨q,e',c',g1,g2,g3,g4⟩
 ·exact absurd ⟨e,c,h1,h2⟩ (h p)
 ·have a:=h3 q ⟨e',c',g1,g2⟩
  have b:=g4 p ⟨e,c,h1,h2⟩
  have:q=p:=by omega
  subst this
  rw[h1] at g1;cases g1
  rw[h2] at g2;cases g2
  exact g3
theorem conf_none {X:List Ent}(h:∀ k,¬ isC cf X k):conf cf c0 X=c0:=by
 rcases conf_last (cf:=cf) (c0:=c0) X with ⟨_,g⟩ | ⟨q,e',c',g1,g2,g3,g4⟩
 ·exact g
 ·exact absurd ⟨e',c',g1,g2⟩ (h q)
theorem take_len {X:List Ent}{k p:Nat}{e:Ent}(h:(X.take p)[k]?=some e):k<p∧X[k]?=some e:=by
 have hl:=lt_len h
 simp at hl
 rw[List.getElem?_take_of_lt (by omega)] at h
 exact ⟨by omega,h⟩
theorem isC.of_take {X:List Ent}{k p:Nat}(h:isC cf (X.take p) k):k<p∧isC cf X k:=by
 obtain ⟨e,c,h1,h2⟩:=h
 exact ⟨(take_len h1).1,e,c,(take_len h1).2,h2⟩
theorem adjacent {X Y:List Ent}{p q:Int→Bool}(hX:∀ k1 k2,k1<k2→isC cf X k1→isC cf X k2→Ag X Y (k1+1))(hY:∀ k1 k2,k1<k2→isC cf Y k1→isC cf Y k2→Ag Y X (k1+1))
 (tX:∀ k e c,X[k]?=some e→cf e=some c→stepC (conf cf c0 (X.take k)) c) (tY:∀ k e c,Y[k]?=some e→cf e=some c→stepC (conf cf c0 (Y.take k)) c)
 (h1:rch (conf cf c0 X) p) (h2:rch (conf cf c0 Y) q):∃ x,p x=true∧q x=true:=by
 have one:∀ {X Y:List Ent} {p q:Int→Bool},(∀ k1 k2,k1<k2→isC cf Y k1→isC cf Y k2→Ag Y X (k1+1))→(∀ k e c,Y[k]?=some e→cf e=some c→stepC (conf cf c0 (Y.take k)) c)→rch (conf cf c0 X) p→rch (conf cf c0 Y) q→(∀ k,isC cf X k→k<Y.length∧Ag X Y (k+1))→∃ x,p x=true∧q x=true:=by
  intro X Y p q hY tY h1 h2 hin
  rcases conf_last (cf:=cf) (c0:=c0) Y with ⟨hn,hc⟩ | ⟨b,e,c,g1,g2,g3,g4⟩
  ·have:conf cf c0 X=c0:=conf_none fun k hk=>hn k (hk.ag (hin k hk).2 (by omega))
   rw[this,←hc] at h1
   exact meet_same h1 h2
  ·have hb:isC cf Y b:=⟨e,c,g1,g2⟩
   rcases conf_last (cf:=cf) (c0:=c0) X with ⟨hn,hc⟩ | ⟨a,e',c',f1,f2,f3,f4⟩
   ·have:conf cf c0 (Y.take b)=c0:=conf_none fun k hk=>by
     have:=hk.of_take
     have h3:=hY k b this.1 this.2 hb
     exact hn k (this.2.ag h3 (by omega))
    have st:=tY b e c g1 g2
    rw[this,←hc] at st
    rw[←g3] at st
    exact meet_step st h1 h2
   ·have ha:isC cf X a:=⟨e',c',f1,f2⟩
    have hia:=(hin a ha).2
    have ha':isC cf Y a:=ha.ag hia (by omega)
    have hab:=g4 a ha'
    rcases Nat.lt_or_ge a b with hlt | hge
    ·have:conf cf c0 (Y.take b)=c':=by
      refine conf_of (p:=a) (e:=e') ?_ f2 ?_
      ·rw[List.getElem?_take_of_lt hlt,←hia a (by omega),f1]
      ·intro k hk
       have hk':=hk.of_take
       have h3:=hY k b hk'.1 hk'.2 hb
       exact f4 k (hk'.2.ag h3 (by omega))
     have st:=tY b e c g1 g2
     rw[this,←f3,←g3] at st
     exact meet_step st h1 h2
    ·have:a=b:=by omega
     subst this
     have he:=hia a (by omega)
     rw[f1,g1] at he
     cases he
     rw[f2] at g2;cases g2
     rw[f3,←g3] at h1
     exact meet_same h1 h2
 by_cases i1:∀ k,isC cf X k→k<Y.length∧Ag X Y (k+1)
 ·exact one hY tY h1 h2 i1
 by_cases i2:∀ k,isC cf Y k→k<X.length∧Ag Y X (k+1)
 ·exact meet_comm (one hX tX h2 h1 i2)
 have last:∀ {X Y:List Ent},(∀ k1 k2,k1<k2→isC cf X k1→isC cf X k2→Ag X Y (k1+1))→¬ (∀ k,isC cf X k→k<Y.length∧Ag X Y (k+1)) →
  ∃ a e c,X[a]?=some e∧cf e=some c∧conf cf c0 X=c∧(∀ k,isC cf X k→k≤a)∧¬ Ag X Y (a+1)∧∀ k,k<a→isC cf X k→Ag X Y (k+1):=by
  intro X Y hX hn
  rcases conf_last (cf:=cf) (c0:=c0) X with ⟨h,_⟩ | ⟨a,e,c,f1,f2,f3,f4⟩
  ·exact absurd (fun k hk=>absurd hk (h k)) hn
  ·refine ⟨a,e,c,f1,f2,f3,f4,fun hag=>hn ?_,fun k hk hc=>hX k a hk hc ⟨e,c,f1,f2⟩⟩
   intro k hk
   have:=hag.mono (m:=k+1) (by have:=f4 k hk;omega)
   exact ⟨by have:=this.len (by have:=hk.lt;omega);omega,this⟩
 obtain ⟨a,e,c,f1,f2,f3,f4,f5,f6⟩:=last hX i1
 obtain ⟨b,e',c',g1,g2,g3,g4,g5,g6⟩:=last hY i2
 have lt1:∀ k,k<a→isC cf X k→k<b:=by
  intro k hk hc
  have hy:=hc.ag (f6 k hk hc) (by omega)
  have:=g4 k hy
  rcases Nat.lt_or_ge k b with h | h
  ·exact h
  ·have:k=b:=by omega
   subst this
   exact absurd (f6 k hk hc).symm g5
 have lt2:∀ k,k<b→isC cf Y k→k<a:=by
  intro k hk hc
  have hy:=hc.ag (g6 k hk hc) (by omega)
  have:=f4 k hy
  rcases Nat.lt_or_ge k a with h | h
  ·exact h
  ·have:k=a:=by omega
   subst this
   exact absurd (g6 k hk hc).symm f5
 have same:conf cf c0 (X.take a)=conf cf c0 (Y.take b):=by
  rcases conf_last (cf:=cf) (c0:=c0) (X.take a) with ⟨h,hc⟩ | ⟨k,d,cc,k1,k2,k3,k4⟩
  ·rw[hc,conf_none]
   intro k hk
   have hk':=hk.of_take
   have hx:=hk'.2.ag (g6 k hk'.1 hk'.2) (by omega)
   exact h k (hx.ag (Ag.take_self X a).symm (lt2 k hk'.1 hk'.2))
  ·have hk:=take_len k1
   have hkc:isC cf X k:=⟨d,cc,hk.2,k2⟩
   rw[k3]
   refine (conf_of (p:=k) (e:=d) ?_ k2 ?_).symm
   ·rw[List.getElem?_take_of_lt (lt1 k hk.1 hkc),←(f6 k hk.1 hkc) k (by omega),hk.2]
   ·intro j hj
    have hj':=hj.of_take
    have hx:=hj'.2.ag (g6 j hj'.1 hj'.2) (by omega)
    exact k4 j (hx.ag (Ag.take_self X a).symm (lt2 j hj'.1 hj'.2))
 have s1:=tX a e c f1 f2
 have s2:=tY b e' c' g1 g2
 rw[←same] at s2
 rw[f3] at h1
 rw[g3] at h2
 exact meet_both s1 s2 h1 h2
end
structure Cmt where
 t:Int
 n:Nat
 m:Nat
 q:Int→Bool
structure Gh where
 el:Int→Option Int
 eb:Int→List Ent
 tl:Int→List Ent
 eq:Int→Int→Bool
 vt:Int→Int→Option Int
 vl:Int→Int→List Ent
 cl:Int→Int→Option (List Ent)
 ak:Int→Int→Nat
 cm:List Cmt
def WL (G:Gh)(X:List Ent):Prop:=∀ (k:Nat) (e:Ent),X[k]?=some e→(∃ i,G.el e.term=some i)∧Ag X (G.tl e.term) (k+1)
def Keeps (G:Gh)(u t':Int)(X:List Ent):Prop:=∀ (t:Int) (a:Nat),a≤G.ak u t→t<t'→(∀ s:Int,t<s→s<t'→(∃ i,G.el s=some i)→Ag (G.tl t) (G.eb s) a)→Ag (G.tl t) X a
structure GInv (cf:Ent→Option Mb) (c0:Mb) (G:Gh):Prop where
 g1:∀ t:Int,G.el t=none→G.tl t=[]∧G.eb t=[]
 g0:∀ t i:Int,G.el t=some i→0<t
 g2:∀ t i:Int,G.el t=some i→(G.eb t).length≤(G.tl t).length∧Ag (G.eb t) (G.tl t) (G.eb t).length∧(∀ (k:Nat) (e:Ent),(G.eb t)[k]?=some e→e.term<t)∧∀ (k:Nat) (e:Ent),(G.eb t).length≤k→(G.tl t)[k]?=some e→e.term=t
 g3:∀ t:Int,WL G (G.tl t)
 g4:∀ t i:Int,G.el t=some i→rch (conf cf c0 (G.eb t)) (G.eq t)∧∀ u,G.eq t u=true→G.vt u t=some i∧utd (G.eb t) (G.vl u t)∧WL G (G.vl u t)∧Keeps G u t (G.vl u t)
 g5:∀ c:Cmt,c∈G.cm→(∃ i,G.el c.t=some i)∧(G.eb c.t).length<c.n∧c.n≤c.m∧c.m≤(G.tl c.t).length∧rch (conf cf c0 ((G.tl c.t).take c.m)) c.q∧∀ u,c.q u=true→c.n≤G.ak u c.t
 g6:∀ (i:Nat) (c:Cmt),G.cm[i]?=some c→∀ k1 k2:Nat,k1<k2→k2<c.m→isC cf (G.tl c.t) k1→isC cf (G.tl c.t) k2→∃ (j:Nat) (d:Cmt),j<i∧G.cm[j]?=some d∧d.t≤c.t∧k1<d.n∧Ag (G.tl c.t) (G.tl d.t) (k1+1)
 g7:∀ (t:Int) (k1 k2:Nat),k1<k2→isC cf (G.tl t) k1→isC cf (G.tl t) k2→∃ d:Cmt,d∈G.cm∧d.t≤t∧k1<d.n∧Ag (G.tl t) (G.tl d.t) (k1+1)
 g8:∀ (t:Int) (k:Nat) (e:Ent) (c:Mb),(G.tl t)[k]?=some e→cf e=some c→stepC (conf cf c0 ((G.tl t).take k)) c
 g9:∀ c:Cmt,c∈G.cm→∀ t' i:Int,c.t<t'→G.el t'=some i→Ag (G.tl c.t) (G.eb t') c.n
 g10:∀ u t j:Int,G.vt u t=some j→∃ X,G.cl j t=some X∧utd X (G.vl u t)
 g11:∀ u t:Int,G.ak u t≤(G.tl t).length
section
variable {cf:Ent→Option Mb} {c0:Mb} {G:Gh}
theorem GInv.le (h:GInv cf c0 G){t:Int}{k:Nat}{e:Ent}(hk:(G.tl t)[k]?=some e):e.term≤t:=by
 cases he:G.el t with
 | none=>rw[(h.g1 t he).1] at hk;simp at hk
 | some i=>
  obtain ⟨a,b,c,d⟩:=h.g2 t i he
  rcases Nat.lt_or_ge k (G.eb t).length with hl | hl
  ·have:=c k e (by rw[b k hl,hk]);omega
  ·have:=d k e hl hk;omega
theorem GInv.own (h:GInv cf c0 G){t i:Int}(he:G.el t=some i){k:Nat}{e:Ent}(hk:(G.tl t)[k]?=some e):e.term=t↔(G.eb t).length≤k:=by
 obtain ⟨a,b,c,d⟩:=h.g2 t i he
 constructor
 ·intro e1
  rcases Nat.lt_or_ge k (G.eb t).length with hl | hl
  ·have:=c k e (by rw[b k hl,hk]);omega
  ·exact hl
 ·exact fun hl=>d k e hl hk
theorem GInv.sorted (h:GInv cf c0 G){X:List Ent}(hX:WL G X){j k:Nat}{d e:Ent}(hj:X[j]?=some d)(hk:X[k]?=some e)(hjk:j≤k):d.term≤e.term:=by
 have h1:=(hX k e hk).2 j (by omega)
 rw[hj] at h1
 exact h.le h1.symm
theorem GInv.last_ge (h:GInv cf c0 G){X:List Ent}(hX:WL G X){k:Nat}{e:Ent}(hk:X[k]?=some e):e.term≤lastT X:=by
 have hl:=lt_len hk
 obtain ⟨d,hd⟩:=at_lt (X:=X) (k:=X.length - 1) (by omega)
 rw[lastT_at hd (by omega)]
 exact h.sorted hX hk hd (by omega)
theorem nz_of {X:List Ent}(h:0<X.length):∃ e,X[X.length - 1]?=some e∧lastT X=e.term:=by
 obtain ⟨d,hd⟩:=at_lt (X:=X) (k:=X.length - 1) (by omega)
 exact ⟨d,hd,lastT_at hd (by omega)⟩
theorem GInv.base (h:GInv cf c0 G){X:List Ent}(hX:WL G X)(hl:0<X.length):∃ i,G.el (lastT X)=some i∧Ag X (G.tl (lastT X)) X.length∧X.length≤(G.tl (lastT X)).length∧(G.eb (lastT X)).length<X.length∧Ag X (G.eb (lastT X)) (G.eb (lastT X)).length:=by
 obtain ⟨e,h1,h2⟩:=nz_of hl
 obtain ⟨⟨i,hi⟩,ha⟩:=hX _ e h1
 rw[←h2] at hi ha
 have ha':Ag X (G.tl (lastT X)) X.length:=ha.mono (by omega)
 have h3:=(h.own hi (e:=e) (k:=X.length - 1) (by rw[←ha _ (by omega),h1])).1 h2.symm
 exact ⟨i,hi,ha',ha'.len (Nat.le_refl _),by omega,(ha'.mono (by omega)).trans ((h.g2 _ i hi).2.1).symm⟩
theorem GInv.chain (h:GInv cf c0 G){X:List Ent}(hX:WL G X){k1 k2:Nat}(hk:k1<k2)(c1:isC cf X k1)(c2:isC cf X k2):∃ d,d∈G.cm∧d.t≤lastT X∧k1<d.n∧Ag X (G.tl d.t) (k1+1):=by
 have hl:0<X.length:=by have:=c1.lt;omega
 obtain ⟨i,h1,h2,h3,h4,h5⟩:=h.base hX hl
 obtain ⟨d,d1,d2,d3,d4⟩:=h.g7 (lastT X) k1 k2 hk (c1.ag h2 c1.lt) (c2.ag h2 c2.lt)
 exact ⟨d,d1,d2,d3,(h2.mono (by have:=c1.lt;omega)).trans d4⟩
theorem GInv.trans (h:GInv cf c0 G){X:List Ent}(hX:WL G X):∀ (k:Nat) (e:Ent) (c:Mb),X[k]?=some e→cf e=some c→stepC (conf cf c0 (X.take k)) c:=by
 intro k e c hk hc
 have hl:0<X.length:=by have:=lt_len hk;omega
 obtain ⟨i,h1,h2,h3,h4,h5⟩:=h.base hX hl
 have hkl:=lt_len hk
 have:=h.g8 (lastT X) k e c (by rw[←h2 k hkl,hk]) hc
 rwa [(h2.mono (m:=k) (by omega)).take]
theorem WL.take {X:List Ent}(hX:WL G X)(n:Nat):WL G (X.take n):=by
 intro k e hk
 have hk':=take_len hk
 obtain ⟨a,b⟩:=hX k e hk'.2
 exact ⟨a,((Ag.take_self X n).mono (by omega)).trans b⟩
theorem GInv.core (h:GInv cf c0 G){t t' i:Int}{n m:Nat}{q qx:Int→Bool}{X:List Ent}{vl:Int→List Ent}
 (he:G.el t=some i) (hn:(G.eb t).length<n) (hnm:n≤m) (hm:m≤(G.tl t).length) (hq:rch (conf cf c0 ((G.tl t).take m)) q) (hak:∀ u,q u=true→n≤G.ak u t)
 (hY:∀ k1 k2:Nat,k1<k2→k2<m→isC cf (G.tl t) k1→isC cf (G.tl t) k2→Ag (G.tl t) X (k1+1))
 (ht:t<t') (hbet:∀ s:Int,t<s→s<t'→(∃ i,G.el s=some i)→Ag (G.tl t) (G.eb s) n)
 (hX:WL G X) (hXt:∀ (k:Nat) (e:Ent),X[k]?=some e→e.term<t') (hqx:rch (conf cf c0 X) qx)
 (hv:∀ u,qx u=true→utd X (vl u)∧WL G (vl u)∧(n≤G.ak u t→Ag (G.tl t) (vl u) n)):Ag (G.tl t) X n:=by
 have hs':X.length=0∨0<X.length:=by omega
 by_cases hbig:0<X.length∧t<lastT X
 ·obtain ⟨j,h1,h2,h3,h4,h5⟩:=h.base hX hbig.1
  have hlt:lastT X<t':=by
   obtain ⟨e,e1,e2⟩:=nz_of hbig.1
   rw[e2];exact hXt _ e e1
  have hag:=hbet (lastT X) hbig.2 hlt ⟨j,h1⟩
  have:=hag.len (by omega)
  exact hag.trans ((h5.mono this).symm)
 by_cases hsame:0<X.length∧lastT X=t∧n≤X.length
 ·obtain ⟨j,h1,h2,h3,h4,h5⟩:=h.base hX hsame.1
  rw[hsame.2.1] at h2
  exact (h2.mono hsame.2.2).symm
 have WY:WL G ((G.tl t).take m):=(h.g3 t).take m
 have mem1:∀ k1 k2,k1<k2→isC cf X k1→isC cf X k2→Ag X ((G.tl t).take m) (k1+1):=by
  intro k1 k2 hk c1 c2
  have hl:0<X.length:=by have:=c1.lt;omega
  obtain ⟨j,h1,h2,h3,h4,h5⟩:=h.base hX hl
  rcases (show lastT X<t∨lastT X=t by
   by_cases h7:t<lastT X
   ·exact absurd ⟨hl,h7⟩ hbig
   ·omega) with hlt | heq
  ·obtain ⟨d,d1,d2,d3,d4⟩:=h.chain hX hk c1 c2
   have g9:=h.g9 d d1 t i (by omega) he
   have:=((h.g5 d d1).2.2.1)
   have hdl:=(h.g5 d d1).2.2.2.1
   have hdn:=g9.len (by omega)
   have e1:=(d4.trans (g9.mono (by omega))).trans (((h.g2 t i he).2.1).mono (m:=k1+1) (by omega))
   exact e1.trans ((Ag.take_self _ m).mono (by omega)).symm
  ·have hle:X.length<n:=by
    rcases Nat.lt_or_ge X.length n with h8 | h8
    ·exact h8
    ·exact absurd ⟨hl,heq,h8⟩ hsame
   rw[heq] at h2
   have:=c1.lt
   exact (h2.mono (by omega)).trans ((Ag.take_self _ m).mono (by omega)).symm
 have mem2:∀ k1 k2,k1<k2→isC cf ((G.tl t).take m) k1→isC cf ((G.tl t).take m) k2→Ag ((G.tl t).take m) X (k1+1):=by
  intro k1 k2 hk c1 c2
  have d1:=c1.of_take
  have d2:=c2.of_take
  exact ((Ag.take_self _ m).mono (by omega)).trans (hY k1 k2 hk d2.1 d1.2 d2.2)
 obtain ⟨u,hu1,hu2⟩:=adjacent mem1 mem2 (h.trans hX) (h.trans WY) hqx hq
 obtain ⟨v1,v2,v3⟩:=hv u hu1
 have hvl:=v3 (hak u hu2)
 obtain ⟨e,he1⟩:=at_lt (X:=G.tl t) (k:=n - 1) (by omega)
 have het:=(h.own he he1).2 (by omega)
 have hv1:(vl u)[n - 1]?=some e:=by rw[←hvl (n - 1) (by omega),he1]
 have hge:=h.last_ge v2 hv1
 have hvlen:=hvl.len (by omega)
 exfalso
 unfold utd at v1
 by_cases hz:0<X.length
 ·have a1:¬ t<lastT X:=fun hh=>hbig ⟨hz,hh⟩
  have a2:¬ (lastT X=t∧n≤X.length):=fun hh=>hsame ⟨hz,hh⟩
  rcases v1 with v1 | v1
  ·omega
  ·exact a2 ⟨by omega,by omega⟩
 ·have:X=[]:=List.eq_nil_of_length_eq_zero (by omega)
  subst this
  have hl0:lastT ([]:List Ent)=0:=rfl
  rcases v1 with v1 | v1
  ·rw[hl0] at v1
   have:=h.g0 t i he
   omega
  ·have h9:=v1.2
   simp only[List.length_nil] at h9
   omega
end
structure NV where
 T:Int
 voted:Int
 role:Int
 L:List Ent
 c:Nat
 ld:Int
 vs:Int→Bool
 mt:Int→Nat
structure NInv (G:Gh) (i:Int) (s:NV):Prop where
 n1:∀ j:Int,G.vt i s.T=some j↔s.voted=j∧0≤j
 n2:∀ t:Int,s.T<t→G.vt i t=none∧G.ak i t=0∧G.el t≠some i∧G.cl i t=none
 n3:WL G s.L∧∀ (k:Nat) (e:Ent),s.L[k]?=some e→e.term≤s.T
 n4:s.role=2→(∀ u:Int,s.vs u=true→G.vt u s.T=some i)∧G.cl i s.T=some s.L∧G.el s.T≠some i∧∀ (k:Nat) (e:Ent),s.L[k]?=some e→e.term<s.T
 n5:s.role=3→G.el s.T=some i∧s.ld=i∧∀ u:Int,s.mt u≤G.ak u s.T
 n6:G.el s.T=some i→s.L=G.tl s.T∧s.L.length≤G.ak i s.T
 n7:s.c≤s.L.length∧(0<s.c→∃ d:Cmt,d∈G.cm∧d.t≤s.T∧s.c≤d.n∧Ag s.L (G.tl d.t) s.c)
 n8:0≤s.ld→G.el s.T=some s.ld
 n9:∀ (t:Int) (a:Nat),a≤G.ak i t→t≤s.T→(∀ s':Int,t<s'→s'≤s.T→(∃ j,G.el s'=some j)→Ag (G.tl t) (G.eb s') a)→Ag (G.tl t) s.L a
 nA:∀ t' j:Int,G.vt i t'=some j→WL G (G.vl i t')∧∀ (t:Int) (a:Nat),a≤G.ak i t→t<t'→(∀ s':Int,t<s'→s'≤t'→(∃ j,G.el s'=some j)→Ag (G.tl t) (G.eb s') a)→Ag (G.tl t) (G.vl i t') a
structure Fm (i:Int) (G G':Gh):Prop where
 f1:∀ t x:Int,G.el t=some x→G'.el t=some x
 f2:∀ t x:Int,G'.el t=some x→x≠i→G.el t=some x
 f3:∀ t x:Int,G.el t=some x→G'.eb t=G.eb t
 f4:∀ t:Int,(G.tl t).length≤(G'.tl t).length∧Ag (G.tl t) (G'.tl t) (G.tl t).length
 f5:∀ t x:Int,G.el t=some x→x≠i→G'.tl t=G.tl t
 f6:∀ u t x:Int,G.vt u t=some x→G'.vt u t=some x∧G'.vl u t=G.vl u t
 f7:∀ u t:Int,u≠i→G'.vt u t=G.vt u t
 f8:∀ u t:Int,G.ak u t≤G'.ak u t
 f8':∀ u t:Int,u≠i→G'.ak u t=G.ak u t
 f9:∀ (u t:Int) (X:List Ent),G.cl u t=some X→G'.cl u t=some X
 f9':∀ u t:Int,u≠i→G'.cl u t=G.cl u t
 fA:∀ d:Cmt,d∈G.cm→d∈G'.cm
theorem Fm.refl (i:Int)(G:Gh):Fm i G G:=⟨fun _ _ h=>h,fun _ _ h _=>h,fun _ _ _=>rfl,fun _=>⟨Nat.le_refl _,Ag.refl _ _⟩,fun _ _ _ _=>rfl,fun _ _ _ h=>⟨h,rfl⟩,fun _ _ _=>rfl,fun _ _=>Nat.le_refl _,fun _ _ _=>rfl,fun _ _ _ h=>h,fun _ _ _=>rfl,fun _ h=>h⟩
theorem Fm.trans {i:Int}{G H K:Gh}(h:Fm i G H)(k:Fm i H K):Fm i G K where
 f1 t x e:=k.f1 t x (h.f1 t x e)
 f2 t x e hx:=h.f2 t x (k.f2 t x e hx) hx
 f3 t x e:=(k.f3 t x (h.f1 t x e)).trans (h.f3 t x e)
 f4 t:=⟨Nat.le_trans (h.f4 t).1 (k.f4 t).1,(h.f4 t).2.trans ((k.f4 t).2.mono (h.f4 t).1)⟩
 f5 t x e hx:=(k.f5 t x (h.f1 t x e) hx).trans (h.f5 t x e hx)
 f6 u t x e:=⟨(k.f6 u t x (h.f6 u t x e).1).1,(k.f6 u t x (h.f6 u t x e).1).2.trans (h.f6 u t x e).2⟩
 f7 u t hu:=(k.f7 u t hu).trans (h.f7 u t hu)
 f8 u t:=Nat.le_trans (h.f8 u t) (k.f8 u t)
 f8' u t hu:=(k.f8' u t hu).trans (h.f8' u t hu)
 f9 u t X e:=k.f9 u t X (h.f9 u t X e)
 f9' u t hu:=(k.f9' u t hu).trans (h.f9' u t hu)
 fA d hd:=k.fA d (h.fA d hd)
section
variable {cf:Ent→Option Mb} {c0:Mb} {i:Int} {G G':Gh}
theorem Fm.tlAg (f:Fm i G G'){t:Int}{n:Nat}(hn:n≤(G.tl t).length):Ag (G.tl t) (G'.tl t) n:=(f.f4 t).2.mono hn
theorem WL.fm {X:List Ent}(h:WL G X)(f:Fm i G G'):WL G' X:=by
 intro k e hk
 obtain ⟨⟨j,hj⟩,ha⟩:=h k e hk
 have hk':=lt_len hk
 exact ⟨⟨j,f.f1 _ _ hj⟩,ha.trans (f.tlAg (ha.len (by omega)))⟩
theorem prem_back (f:Fm i G G'){t hi:Int}{a:Nat}(ha:a≤(G.tl t).length)(hp:∀ s:Int,t<s→s≤hi→(∃ j,G'.el s=some j)→Ag (G'.tl t) (G'.eb s) a):∀ s:Int,t<s→s≤hi→(∃ j,G.el s=some j)→Ag (G.tl t) (G.eb s) a:=by
 intro s h1 h2 ⟨j,hj⟩
 have:=hp s h1 h2 ⟨j,f.f1 _ _ hj⟩
 rw[f.f3 _ _ hj] at this
 exact (f.tlAg ha).trans this
theorem Keeps.fm {u t':Int}{X:List Ent}(hg:∀ u t:Int,G.ak u t≤(G.tl t).length)(h:Keeps G u t' X)(f:Fm i G G')(hk:∀ t:Int,t<t'→G'.ak u t=G.ak u t):Keeps G' u t' X:=by
 intro t a ha ht hp
 rw[hk t ht] at ha
 have hl:a≤(G.tl t).length:=Nat.le_trans ha (hg u t)
 refine (f.tlAg hl).symm.trans (h t a ha ht ?_)
 intro s h1 h2 ⟨j,hj⟩
 have:=hp s h1 h2 ⟨j,f.f1 _ _ hj⟩
 rw[f.f3 _ _ hj] at this
 exact (f.tlAg hl).trans this
theorem NInv.fm {j:Int}{s:NV}(hG:GInv cf c0 G)(h:NInv G j s)(f:Fm i G G')(hv:∀ u t:Int,u≠i→G'.vl u t=G.vl u t)(hj:j≠i):NInv G' j s where
 n1:=by rw[f.f7 j s.T hj];exact h.n1
 n2:=by
  intro t ht
  obtain ⟨a,b,c,d⟩:=h.n2 t ht
  exact ⟨by rw[f.f7 j t hj,a],by rw[f.f8' j t hj,b],fun e=>c (f.f2 t j e hj),by rw[f.f9' j t hj,d]⟩
 n3:=⟨h.n3.1.fm f,h.n3.2⟩
 n4 hr:=by
  obtain ⟨a,b,c,d⟩:=h.n4 hr
  exact ⟨fun u hu=>(f.f6 _ _ _ (a u hu)).1,f.f9 _ _ _ b,fun e=>c (f.f2 _ _ e hj),d⟩
 n5 hr:=by
  obtain ⟨a,b,c⟩:=h.n5 hr
  exact ⟨f.f1 _ _ a,b,fun u=>Nat.le_trans (c u) (f.f8 _ _)⟩
 n6 he:=by
  have:=f.f2 _ _ he hj
  obtain ⟨a,b⟩:=h.n6 this
  exact ⟨by rw[f.f5 _ _ this hj,a],by rw[f.f8' _ _ hj];exact b⟩
 n7:=by
  refine ⟨h.n7.1,fun hc=>?_⟩
  obtain ⟨d,d1,d2,d3,d4⟩:=h.n7.2 hc
  exact ⟨d,f.fA d d1,d2,d3,d4.trans (f.tlAg (d4.len h.n7.1))⟩
 n8 hl:=f.f1 _ _ (h.n8 hl)
 n9:=by
  intro t a ha ht hp
  rw[f.f8' j t hj] at ha
  have hl:=Nat.le_trans ha (hG.g11 j t)
  exact (f.tlAg hl).symm.trans (h.n9 t a ha ht (prem_back f hl hp))
 nA:=by
  intro t' x hx
  rw[f.f7 j t' hj] at hx
  obtain ⟨a,b⟩:=h.nA t' x hx
  rw[hv j t' hj]
  refine ⟨a.fm f,fun t n hn ht hp=>?_⟩
  rw[f.f8' j t hj] at hn
  have hl:=Nat.le_trans hn (hG.g11 j t)
  exact (f.tlAg hl).symm.trans (b t n hn ht (prem_back f hl hp))
end
structure Msg where
 kind:Int
 frm:Int
 to:Int
 term:Int
 prev:Int
 pterm:Int
 commit:Int
 granted:Bool
 es:List Ent
def AppOk (G:Gh)(t:Int)(p:Nat)(pt:Int)(c:Nat)(es:List Ent):Prop:=
 p≤(G.tl t).length∧(∀ e,0<p→(G.tl t)[p - 1]?=some e→e.term=pt)∧(∀ (k:Nat) (e:Ent),es[k]?=some e→(G.tl t)[p+k]?=some e)∧c≤(G.tl t).length∧(0<c→∃ d:Cmt,d∈G.cm∧d.t≤t∧c≤d.n∧Ag (G.tl t) (G.tl d.t) c)
structure MInv (G:Gh) (m:Msg):Prop where
 m1:m.kind=1→∃ X,G.cl m.frm m.term=some X∧m.prev=X.length∧m.pterm=lastT X
 m2:m.kind=2→m.granted=true→G.vt m.frm m.term=some m.to
 m3:m.kind=3→G.el m.term=some m.frm∧∃ p c:Nat,m.prev=p∧m.commit=c∧AppOk G m.term p m.pterm c m.es
 m4:m.kind=4→m.granted=true→m.prev.toNat≤G.ak m.frm m.term
theorem AppOk.fm {i:Int}{G G':Gh}{t:Int}{p:Nat}{pt:Int}{c:Nat}{es:List Ent}(h:AppOk G t p pt c es)(f:Fm i G G'):AppOk G' t p pt c es:=by
 obtain ⟨a,b,k1,k2,k3⟩:=h
 have h4:=f.f4 t
 refine ⟨by omega,fun e he hh=>b e he ?_,fun k e he=>?_,by omega,fun hc=>?_⟩
 ·rw[h4.2 (p - 1) (by omega)];exact hh
 ·have:=k1 k e he
  rw[←h4.2 (p+k) (lt_len this)];exact this
 ·obtain ⟨d,d1,d2,d3,d4⟩:=k3 hc
  exact ⟨d,f.fA d d1,d2,d3,(f.tlAg k2).symm.trans (d4.trans (f.tlAg (d4.len k2)))⟩
theorem MInv.fm {i:Int}{G G':Gh}{m:Msg}(h:MInv G m)(f:Fm i G G'):MInv G' m where
 m1 hk:=by obtain ⟨X,a,b⟩:=h.m1 hk;exact ⟨X,f.f9 _ _ _ a,b⟩
 m2 hk hg:=(f.f6 _ _ _ (h.m2 hk hg)).1
 m3 hk:=by obtain ⟨a,p,c,b1,b2,b3⟩:=h.m3 hk;exact ⟨f.f1 _ _ a,p,c,b1,b2,b3.fm f⟩
 m4 hk hg:=Nat.le_trans (h.m4 hk hg) (f.f8 _ _)
end Go.Raft

import Derived.Test.YtdfobfjpkjddpaaGreatUG5
import Derived.Test.YtdfobfjpkjddpaaGreatUG6
import Derived.Test.YtdfobfjpkjddpaaGreatUG3
import Derived.OrdersHeld
import Derived.RegionTactic
import Derived.NoCompiler
set_option linter.unusedVariables false
set_option linter.unusedSimpArgs false
set_option maxRecDepth 10000
set_option maxHeartbeats 1000000
namespace Go.Proofs.YtdfobfjpkjddpaaGreat
open Go.RowKit Go.Own Go.Quo Go.Wire
def BysPost (out:List Int)(w:World)(e:Ending)(w':World):Prop:=∃ A c,e=.returned (.slice A out.length c)∧Reads w' (w.heap.size≤·) 1 A out.length (bys out)∧Below w.heap.size w w'
theorem encIs_len {l:List Int}(hm:l.length≤1000)(h:∀ x∈l,0≤x∧x<64):(encIs l).length≤20000:=by
 have h1:(za (l.length:Int)).length≤10:=encI_len (by omega) (by omega)
 have h2:=flat_len l (fun x hx=>by have:=h x hx;omega)
 unfold encIs
 rw[List.length_append];omega
theorem encode_yes (B:Nat→Prop)(m:Ms)(w:World)(h:MR w B m)(hv:vB m.o m.n=true) :
 Calls Tryz.prog 70 #[msV m] w (BysPost (encM m.o m.n) w):=by
 have HEm:=ħ (show encM m.o m.n=encIs m.o ++ encIs m.n by unfold encM;rw[if_pos hv])
 obtain ⟨hl1,hl2,hl3⟩:=v_lens hv
 have HR:=ħ (v_range hv)
 have lo:=encIs_len (l:=m.o) (by omega) (fun x hx=>HR.out x (.inl hx))
 have ln:=encIs_len (l:=m.n) (by omega) (fun x hx=>HR.out x (.inr hx))
 have h1:=h.alloc (.cells (msC m) 24)
 have HO:=ħ (valid_b B m _ h1 true hv)
 have g1:Blk (w.alloc (.cells (msC m) 24)) w.heap.size 24 (msC m):=Blk.new w 24 _
 have b1:Below w.heap.size w (w.alloc (.cells (msC m) 24)):=(Below.refl _ _).alloc (Nat.le_refl _) _
 clear h hv
 go_enter Tryz.func70,Tryz.ntmps70
 go_wp2_with (go_at_call 54;((with_reducible refine HO.out.mono ?_);rintro e w1 ⟨rfl,rfl⟩))
 have hm3:MR (((w.alloc (.cells (msC m) 24)).alloc (.cells (msC m) 24)).alloc (.cells #[.slice none 0 0] 160)) (· < w.heap.size+1+1) m:=by
  have h2:=h1.alloc (.cells (msC m) 24)
  exact ⟨((h2.o.old (by omega)).alloc _).more (fun k hk=>by simpa using hk.2),((h2.n.old (by omega)).alloc _).more (fun k hk=>by simpa using hk.2),h2.ol,h2.nl⟩
 have g3:=(g1.alloc (.cells (msC m) 24)).alloc (.cells #[.slice none 0 0] 160)
 have b3:=(b1.alloc b1.size (.cells (msC m) 24)).alloc (by simp;omega) (.cells #[.slice none 0 0] 160)
 have hw3:WrP (((w.alloc (.cells (msC m) 24)).alloc (.cells (msC m) 24)).alloc (.cells #[.slice none 0 0] 160)) (w.heap.size+1+1) []:=by simpa using WrP.new ((w.alloc (.cells (msC m) 24)).alloc (.cells (msC m) 24))
 clear h1 HO g1 b1
 generalize ((w.alloc (.cells (msC m) 24)).alloc (.cells (msC m) 24)).alloc (.cells #[.slice none 0 0] 160)=W3 at *
 refine (wints_any _ m.A m.c m.o [] W3 hw3 hm3.o (fun x hx=>by have:=HR.out x (.inl hx);omega) (by omega) (by simp)).mono ?_
 rintro e w4 ⟨rfl,hw4,hb4⟩
 have hn4:RI w4 (· < w.heap.size+1+1) m.A' m.n:=hm3.n.below hb4 (fun _ h=>h)
 have g4:=g3.below hb4 (by omega)
 have b4:=b3.trans (hb4.mono (by omega))
 obtain ⟨q0,q1,q2⟩:=g4.facts
 go_wp2_with fail
 refine (wints_any _ m.A' m.c' m.n _ w4 hw4 hn4 (fun x hx=>by have:=HR.out x (.inr hx);omega) (by omega) (by simp;omega)).mono ?_
 rintro e w5 ⟨rfl,hw5,hb5⟩
 have b5:=b4.trans (hb5.mono (by omega))
 rw[List.nil_append,←HEm.out] at hw5
 have hlm:(encM m.o m.n).length≤1000000000:=by rw[HEm.out,List.length_append];omega
 go_wp2_with fail
 refine (encoded_any _ _ w5 hw5 hlm).mono ?_
 rintro e w6 ⟨A6,c6,rfl,hr6,hb6⟩
 go_wp2
 go_ret
 exact ⟨A6,c6,rfl,hr6.more (fun k hk=>Nat.le_trans b5.size hk),b5.trans (hb6.mono b5.size)⟩
theorem encode_no (B:Nat→Prop)(m:Ms)(w:World)(h:MR w B m)(hv:vB m.o m.n=false) :
 Calls Tryz.prog 70 #[msV m] w (BysPost (encM m.o m.n) w):=by
 have HEm:=ħ (show encM m.o m.n=[] by unfold encM;rw[if_neg (by simp[hv])])
 have HO:=ħ (valid_b B m _ (h.alloc (.cells (msC m) 24)) false hv)
 clear h hv
 go_enter Tryz.func70,Tryz.ntmps70
 go_wp2_with (go_at_call 54;((with_reducible refine HO.out.mono ?_);rintro e w1 ⟨rfl,rfl⟩))
 go_ret
 rw[HEm.out]
 exact ⟨none,0,rfl,Reads.none_,((Below.refl _ _).alloc (Nat.le_refl _) _).alloc (by simp) _⟩
theorem encode_any (B:Nat→Prop)(m:Ms)(w:World)(h:MR w B m):Calls Tryz.prog 70 #[msV m] w (BysPost (encM m.o m.n) w):=by
 cases hv:vB m.o m.n with
 | false=>exact encode_no B m w h hv
 | true=>exact encode_yes B m w h hv
end Go.Proofs.YtdfobfjpkjddpaaGreat
namespace Go.Own
section
variable {P:Program} {init:Array Oper} {last:Oper} {Q:Exit→Act→World→Prop} {S:World→Prop}
theorem Oper.wp_post {o:Oper}{a:Act}{w:World}{K:Act→World→Prop}{Q Q':Exit→Act→World→Prop}(h:∀ e a w,e≠.normal→Q' e a w→Q e a w)
 (hh:o.wp P a w K Q'):o.wp P a w K Q:=by
 unfold Oper.wp at *
 generalize (execOp a.eval o).run P w=r at *
 cases r with
 | ok n w'=>
  cases n <;> simp only[Oper.upon] at hh⊢ <;>
   first
    | exact hh
    | exact Calls.mono hh (fun e w'' he=>by
     cases e with
     | returned v=>exact he
     | panicked c=>exact h _ _ _ (by simp) he
     | outgrown=>exact (by obtain ⟨a,w,q⟩:=he;exact ⟨a,w,h _ _ _ (by simp) q⟩))
 | halt x w'=>cases x <;> simp only[Oper.upon] at hh⊢ <;> first | exact hh | exact h _ _ _ (by simp) hh
def Closed (init:Array Oper)(listed:Array Bool):Prop:=
 ∀ (k:Nat) (o:Oper),listed.getD k false=true→init[k]?=some o→∀ e∈o.after,Region.binds .any e=true→listed.getD e.on false=true
theorem getD_lt {listed:Array Bool}{j:Nat}(h:j<listed.size)(d d':Bool):listed.getD j d=listed.getD j d':=by
 simp[h]
theorem any_mem {α:Type}{xs:Array α}{p:α→Bool}(h:xs.any p=true):∃ x∈xs,p x=true:=by
 rw[Array.any_eq_true] at h
 obtain ⟨i,hi,hp⟩:=h
 exact ⟨xs[i],Array.getElem_mem hi,hp⟩
theorem ready_le {ops:Array Oper}{listed:Array Bool}{i:Nat}(h:i∈Region.ready .any ops listed):i<ops.size:=by
 obtain ⟨-,o,h,-⟩:=mem_ready.1 h
 rcases Nat.lt_or_ge i ops.size with h' | h'
 ·exact h'
 ·rw[Array.getElem?_eq_none h'] at h;cases h
theorem Closed.set {listed:Array Bool}{i:Nat}(hs:listed.size=init.size)(hc:Closed init listed)(hi:i∈Region.ready .any init listed):Closed init (listed.setIfInBounds i true):=by
 intro k o hk ho e he hb
 by_cases hki:i=k
 ·subst hki
  obtain ⟨-,o',ho',h⟩:=mem_ready.1 hi
  rw[ho] at ho'
  injection ho' with ho'
  subst ho'
  exact getD_set_true (h e he hb)
 ·rw[getD_set_ne _ hki] at hk
  exact getD_set_true (hc k o hk ho e he hb)
end
section
variable {P:Program} {init tail:Array Oper} {l0:Array Bool} {Q:Exit→Act→World→Prop} {S:World→Prop}
def tailPost (P:Program)(ops:Array Oper)(n t:Nat)(Q:Exit→Act→World→Prop):Exit→Act→World→Prop
 | .normal,a,w=>wpAny P .any ops Q t (Array.replicate n true ++ Array.replicate t false) a w
 | e,a,w=>Q e a w
def tailOk (init tail:Array Oper)(l0:Array Bool):Bool:=
 ((List.range init.size).all fun i=>match init[i]? with
  | some o=>(o.after.all fun e=>!Region.binds .any e || decide (e.on<i)) && (match o.guard with | none=>true | some (g,_)=>decide (g<init.size))
  | none=>true) &&
 (tail.all fun o=>(List.range init.size).all fun j=>l0.getD j false || o.after.any fun e=>Region.binds .any e && (e.on == j || (match init[e.on]? with
  | some o'=>o'.after.any fun e'=>Region.binds .any e' && e'.on == j
  | none=>false)))
def closedOk (init:Array Oper)(l0:Array Bool):Bool:=
 (List.range init.size).all fun i=>!l0.getD i false || match init[i]? with
  | some o=>o.after.all fun e=>!Region.binds .any e || l0.getD e.on false
  | none=>true
theorem app_get (init tail:Array Oper){i:Nat}(h:i<init.size):(init ++ tail)[i]?=init[i]?:=by
 rw[Array.getElem?_append_left h]
theorem app_get_tail (init tail:Array Oper){i:Nat}(h:init.size≤i):(init ++ tail)[i]?=tail[i - init.size]?:=by
 rw[Array.getElem?_append_right h]
theorem appD_lt {listed x:Array Bool}{j:Nat}(h:j<listed.size)(d:Bool):(listed ++ x).getD j d=listed.getD j d:=by
 simp only[Array.getD_eq_getD_getElem?]
 rw[Array.getElem?_append_left h]
theorem app_set {listed x:Array Bool}{i:Nat}(h:i<listed.size):(listed ++ x).setIfInBounds i true=listed.setIfInBounds i true ++ x:=by
 apply Array.ext_getElem?
 intro j
 simp only[Array.getElem?_setIfInBounds,Array.getElem?_append,Array.size_setIfInBounds,Array.size_append]
 by_cases hij:i=j
 ·subst hij
  have h2:i<listed.size+x.size:=by omega
  simp[h,h2]
 ·simp[hij]
theorem tailPost_of (P:Program)(ops:Array Oper)(n t:Nat)(Q:Exit→Act→World→Prop)(e:Exit)(a:Act)(w:World)(he:e≠.normal):tailPost P ops n t Q e a w=Q e a w:=by
 cases e <;> first | rfl | exact absurd rfl he
theorem wpAny_more {ops:Array Oper}:∀ (m:Nat) (k:Nat) (listed:Array Bool) (a:Act) (w:World),wpAny P .any ops Q m listed a w→wpAny P .any ops Q (m+k) listed a w
 | 0,0,_,_,_,h=>h
 | 0,k+1,_,_,_,h=>by rw[Nat.zero_add];exact ⟨fun _=>h.2,fun i hi=>(by rw[h.1] at hi;cases hi)⟩
 | m+1,k,_,_,_,h=>by
  rw[Nat.succ_add]
  exact ⟨h.1,fun i hi=>wpOp_mono (fun a' w' h'=>wpAny_more m k _ a' w' h') (h.2 i hi)⟩
theorem wpOp_frontT {Q':Exit→Act→World→Prop}(hq:∀ e a w,e≠.normal→Q' e a w=Q e a w){i:Nat}{a:Act}{w:World}{K:Act→World→Prop}(hi:i<init.size)
 (hg:∀ o g b,init[i]?=some o→o.guard=some (g,b)→g<init.size)
 (h:wpOp P init Q' i K a w):wpOp P (init ++ tail) Q i K a w:=by
 unfold wpOp at *
 rw[app_get init tail hi]
 have ho:init[i]?=some init[i]:=Array.getElem?_eq_getElem hi
 rw[ho] at h⊢
 simp only at h⊢
 have hw:Region.wanted init[i] (yielded (init ++ tail) a.tmps)=Region.wanted init[i] (yielded init a.tmps):=by
  unfold Region.wanted
  cases hgd:init[i].guard with
  | none=>rfl
  | some gb=>
   obtain ⟨g,b⟩:=gb
   have:=hg _ g b ho hgd
   simp only[yielded,app_get init tail this]
 rw[hw]
 split
 ·rename_i hww
  rw[if_pos hww] at h
  rcases h with h | ⟨h1,a',w',q⟩
  ·exact .inl (Oper.wp_post (fun e a w he q=>by rw[hq _ _ _ he] at q;exact q) h)
  ·exact .inr ⟨h1,a',w',by rw[hq _ _ _ (by simp)] at q;exact q⟩
 ·rename_i hww
  rw[if_neg hww] at h
  exact h
theorem tailOk_spec (h:tailOk init tail l0=true) :
 (∀ (i:Nat) (o:Oper),init[i]?=some o→(∀ e∈o.after,Region.binds .any e=true→e.on<i)∧∀ g b,o.guard=some (g,b)→g<init.size) ∧
 (∀ o∈tail,∀ j,j<init.size→l0.getD j false=true∨∃ e∈o.after,Region.binds .any e=true∧(e.on=j∨∃ o,init[e.on]?=some o∧∃ e'∈o.after,Region.binds .any e'=true∧e'.on=j)):=by
 unfold tailOk at h
 simp only[Bool.and_eq_true,List.all_eq_true,List.mem_range,Array.all_eq_true_iff_forall_mem,decide_eq_true_eq] at h
 obtain ⟨h1,h3⟩:=h
 refine ⟨fun i o ho=>?_,fun o hot j hj=>?_⟩
 ·have hi:i<init.size:=by
   rcases Nat.lt_or_ge i init.size with h | h
   ·exact h
   ·rw[Array.getElem?_eq_none h] at ho;cases ho
  have:=h1 i hi
  rw[ho] at this
  simp only[Bool.and_eq_true,Array.all_eq_true_iff_forall_mem,decide_eq_true_eq] at this
  refine ⟨fun e he hb=>by have:=this.1 e he;rw[hb] at this;simpa using this,fun g b hg=>?_⟩
  have:=this.2
  rw[hg] at this
  simpa using this
 ·have:=h3 o hot j hj
  rw[Bool.or_eq_true] at this
  rcases this with h | this
  ·exact .inl h
  right
  obtain ⟨e,he,h⟩:=any_mem this
  simp only[Bool.and_eq_true,Bool.or_eq_true,beq_iff_eq] at h
  refine ⟨e,he,h.1,?_⟩
  rcases h.2 with h | h
  ·exact .inl h
  ·right
   split at h
   ·rename_i o ho
    obtain ⟨e',he',h⟩:=any_mem h
    simp only[Bool.and_eq_true,beq_iff_eq] at h
    exact ⟨o,ho,e',he',h.1,h.2⟩
   ·cases h
theorem closedOk_spec (h:closedOk init l0=true):Closed init l0:=by
 intro k o hk ho e he hb
 have hi:k<init.size:=by
  rcases Nat.lt_or_ge k init.size with h | h
  ·exact h
  ·rw[Array.getElem?_eq_none h] at ho;cases ho
 unfold closedOk at h
 simp only[List.all_eq_true,List.mem_range] at h
 have:=h k hi
 rw[hk,ho] at this
 simp only[Bool.not_true,Bool.false_or,Array.all_eq_true_iff_forall_mem] at this
 have:=this e he
 rw[hb] at this
 simpa using this
theorem all_listedT (hok:tailOk init tail l0=true){listed:Array Bool}(hs:listed.size=init.size)(h:Region.ready .any init listed=[]):listed=Array.replicate init.size true:=by
 have:∀ j,j<init.size→listed.getD j false=true:=by
  intro j
  induction j using Nat.strongRecOn with
  | ind j ih=>
   intro hj
   cases hb:listed.getD j false with
   | true=>rfl
   | false=>
    have ho:init[j]?=some init[j]:=Array.getElem?_eq_getElem hj
    have:j∈Region.ready .any init listed:=mem_ready.2 ⟨by rw[getD_lt (by omega) true false];exact hb,_,ho,fun e he hbd=>by
     have:=((tailOk_spec hok).1 j _ ho).1 e he hbd
     exact ih _ this (by omega)⟩
    rw[h] at this
    cases this
 apply Array.ext_getElem?
 intro j
 rcases Nat.lt_or_ge j init.size with hj | hj
 ·have h1:=this j hj
  simp only[Array.getD_eq_getD_getElem?] at h1
  have hj':j<listed.size:=by omega
  rw[Array.getElem?_eq_getElem hj'] at h1⊢
  simp only[Option.getD_some] at h1
  rw[h1]
  simp[hj]
 ·rw[Array.getElem?_eq_none (by omega),Array.getElem?_eq_none (by simp;omega)]
theorem ready_app (hok:tailOk init tail l0=true){listed x:Array Bool}(hs:listed.size=init.size){i:Nat}(hi:i<init.size) :
 i∈Region.ready .any (init ++ tail) (listed ++ x)↔i∈Region.ready .any init listed:=by
 rw[mem_ready,mem_ready,app_get init tail hi,appD_lt (by omega)]
 have ho:init[i]?=some init[i]:=Array.getElem?_eq_getElem hi
 constructor
 ·rintro ⟨h1,o,h2,h3⟩
  refine ⟨h1,o,h2,fun e he hb=>?_⟩
  have h4:=h3 e he hb
  have:=((tailOk_spec hok).1 i o h2).1 e he hb
  rw[appD_lt (by omega)] at h4
  exact h4
 ·rintro ⟨h1,o,h2,h3⟩
  refine ⟨h1,o,h2,fun e he hb=>?_⟩
  have h4:=h3 e he hb
  have:=((tailOk_spec hok).1 i o h2).1 e he hb
  rw[appD_lt (by omega)]
  exact h4
theorem tail_forced (hok:tailOk init tail l0=true){listed x:Array Bool}(hs:listed.size=init.size)(h0:∀ j,l0.getD j false=true→listed.getD j false=true)(hc:Closed init listed){i:Nat}(hi:init.size≤i)
 (h:i∈Region.ready .any (init ++ tail) (listed ++ x)):Region.ready .any init listed=[]:=by
 obtain ⟨-,o,ho,h3⟩:=mem_ready.1 h
 rw[app_get_tail init tail hi] at ho
 have hot:o∈tail:=Array.mem_of_getElem? ho
 have hall:∀ j,j<init.size→listed.getD j false=true:=fun j hj=>by
  rcases (tailOk_spec hok).2 o hot j hj with e | ⟨e,he,hb,h⟩
  ·exact h0 j e
  have h4:=h3 e he hb
  rcases h with rfl | ⟨o',ho',e',he',hb',rfl⟩
  ·rw[appD_lt (by omega)] at h4
   exact h4
  ·have hlt:=ready_le' ho'
   rw[appD_lt (by omega)] at h4
   exact hc _ o' h4 ho' e' he' hb'
 cases hr:Region.ready .any init listed with
 | nil=>rfl
 | cons x xs=>
  have hx:x∈Region.ready .any init listed:=by rw[hr];exact List.mem_cons_self
  have h1:=(mem_ready.1 hx).1
  have h2:=hall x (ready_le hx)
  rw[getD_lt (by have:=ready_le hx;omega) true false,h2] at h1
  cases h1
where
 ready_le' {init:Array Oper} {i:Nat} {o:Oper} (h:init[i]?=some o):i<init.size:=by
  rcases Nat.lt_or_ge i init.size with h' | h'
  ·exact h'
  ·rw[Array.getElem?_eq_none h'] at h;cases h
theorem set_le {listed:Array Bool}{i j:Nat}(h:listed.getD j false=true):(listed.setIfInBounds i true).getD j false=true:=getD_set_true h
theorem wpAny_tail (hok:tailOk init tail l0=true):∀ (m:Nat) (listed:Array Bool) (a:Act) (w:World),listed.size=init.size→(∀ j,l0.getD j false=true→listed.getD j false=true)→Closed init listed →
 wpAnyH P .any init (tailPost P (init ++ tail) init.size tail.size Q) S m listed a w→wpAny P .any (init ++ tail) Q (m+tail.size) (listed ++ Array.replicate tail.size false) a w:=by
 intro m
 induction m with
 | zero=>
  intro listed a w hs _ hc h
  obtain ⟨h0,h1⟩:=h
  rw[all_listedT hok hs h0,Nat.zero_add]
  exact h1
 | succ m ih=>
  intro listed a w hs h00 hc h
  obtain ⟨h0,h1⟩:=h
  by_cases hr:Region.ready .any init listed=[]
  ·have h2:=h0 hr
   rw[all_listedT hok hs hr,Nat.add_comm]
   exact wpAny_more _ _ _ _ _ h2
  ·rw[Nat.succ_add]
   refine ⟨fun h=>?_,fun i hi=>?_⟩
   ·exfalso
    cases hr':Region.ready .any init listed with
    | nil=>exact hr hr'
    | cons x xs=>
     have hx:x∈Region.ready .any init listed:=by rw[hr'];exact List.mem_cons_self
     have:=(ready_app (x:=Array.replicate tail.size false) hok hs (ready_le hx)).2 hx
     rw[h] at this;cases this
   ·rcases Nat.lt_or_ge i init.size with hlt | hge
    ·have hi':=(ready_app hok hs hlt).1 hi
     refine wpOp_mono (fun a w q=>?_) (wpOp_frontT (fun e a w he=>tailPost_of _ _ _ _ _ e a w he) hlt (fun o g b ho hg=>((tailOk_spec hok).1 i o ho).2 g b hg) (h1 i hi'))
     rw[app_set (by omega)]
     exact ih _ a w (by simp[hs]) (fun j hj=>set_le (h00 j hj)) (hc.set hs hi') q.2
    ·exact absurd (tail_forced hok hs h00 hc hge hi) hr
theorem region_tail {ops:Array Oper}{N m:Nat}{L:Array Bool}{a:Act}{w:World}(init tail:Array Oper)(l0:Array Bool)(hops:ops=init ++ tail)(hok:tailOk init tail l0=true)(hc:closedOk init l0=true)(hs:l0.size=init.size)
 (hN:N=m+tail.size) (hL:L=l0 ++ Array.replicate tail.size false) (hS:S w)
 (h:S w→wpAnyH P .any init (tailPost P ops init.size tail.size Q) S m l0 a w):wpAny P .any ops Q N L a w:=by
 subst hops hN hL
 exact wpAny_tail hok m l0 a w hs (fun _ h=>h) (closedOk_spec hc) (h hS)
theorem tail_go {ops:Array Oper}{n t:Nat}{a:Act}{w:World}{L:Array Bool}(hL:Array.replicate n true ++ Array.replicate t false=L)(h:wpAnyH P .any ops Q (fun _=>True) t L a w):tailPost P ops n t Q .normal a w:=by
 subst hL
 exact wpAny_of_held _ _ _ _ h
end
end Go.Own

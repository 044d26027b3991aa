import Derived.Test.YtdfobfjpkjddpaaGreatUG31
import Derived.Lib.SlBytesConst
set_option linter.unusedVariables false
set_option linter.unusedSimpArgs false
set_option maxRecDepth 10000
set_option maxHeartbeats 8000000
namespace Go.Proofs.YtdfobfjpkjddpaaGreat
open Go.RowKit Go.Own Go.Quo Go.Wire Go.Raft
theorem cinv_clN {m n:Nat}(hm:1≤m∧m≤n)(hn:n≤5):CInv (cN m) g0 (clN m n):=by
 refine CInv.new (perm_cN hm.1 (by omega)) (fun i s hs=>?_) 0
 rw[List.getElem?_map] at hs
 by_cases hi:i<n
 ·rw[List.getElem?_range hi] at hs
  injection hs with hs
  subst hs
  exact ⟨by show (0:Int)≤(i:Int);omega,by show (i:Int)<9;omega,rfl,rfl,rfl,rfl,rfl,rfl,rfl,rfl,rfl,rfl,rfl⟩
 ·rw[List.getElem?_eq_none (by simp;omega)] at hs
  cases hs
theorem cw_clN {m n:Nat}(hm:1≤m∧m≤n)(hn:n≤5):CW (cN m) 0 (clN m n):=by
 refine ⟨fun i s hs=>?_,fun x hx=>(by cases hx),Nat.zero_le _,Int.le_refl _,Int.le_refl _⟩
 have hs:((List.range n).map (nN m))[i]?=some s:=hs
 rw[List.getElem?_map] at hs
 by_cases hi:i<n
 ·rw[List.getElem?_range hi] at hs
  injection hs with hs
  subst hs
  exact ⟨Wf.new ⟨by omega,by omega⟩ ⟨by omega,by unfold MT;omega,by omega,by decide⟩ (perm_cN hm.1 (by omega)),rfl,rfl,rfl,rfl⟩
 ·rw[List.getElem?_eq_none (by simp;omega)] at hs
  cases hs
theorem put_len (c:Cl)(i:Nat)(r:Nd × List Msg):(c.put i r).nd.length=c.nd.length:=by
 unfold Cl.put
 exact List.length_set
theorem come_len (c:Cl)(i:Nat):(c.come i).nd.length=c.nd.length:=by
 unfold Cl.come
 split
 ·rfl
 ·split
  ·rfl
  ·split
   ·rfl
   ·rw[put_len];rfl
theorem step_len (c:Cl)(kd wh nn:Nat)(b:List Int):(c.step kd wh nn b).nd.length=c.nd.length:=by
 have h8:kd % 8=0∨kd % 8=1∨kd % 8=2∨kd % 8=3∨kd % 8=4∨kd % 8=5∨kd % 8=6∨kd % 8=7:=by omega
 unfold Cl.step
 cases c.nd[wh % c.nd.length]? with
 | none=>rfl
 | some s=>
  rcases h8 with e | e | e | e | e | e | e | e <;> rw[e]
  ·exact put_len _ _ _
  ·exact come_len _ _
  ·rfl
  ·show (match c.ms[nn % c.ms.length]? with | none=>c | some m=>c.send [m]).nd.length=_
   cases c.ms[nn % c.ms.length]? with
   | none=>exact rfl
   | some m=>exact congrArg List.length (send_nd c [m])
  ·exact put_len _ _ _
  ·exact put_len _ _ _
  ·exact List.length_set
  ·exact come_len _ _
theorem CZ.own {w w':World}{cc c1:Nat→Nat}{g:Nat}{C:Cl}{K:List NQ}{fo:Ms}{Am Ap At Al:Option Addr}{cm cp ct cl:Nat}{mv:List MV}{S:Nat→Prop}(h:CZ w cc g C K fo Am cm Ap cp At ct Al cl mv)(hK:K.length≤90)(hf:Fr S w w')(hS:∀ k,k<w.heap.size→S k→cc k=101)(h1:∀ k,k<w.heap.size→c1 k=cc k)(hlt:∀ k,c1 k≠0→k<w'.heap.size):CZ w' c1 g C K fo Am cm Ap cp At ct Al cl mv where
 b:=h.b.fr hf (fun e=>by have:=hS g h.b.lt e;rw[h.gc] at this;cases this)
 gc:=by rw[h1 g h.b.lt];exact h.gc
 om:=own_fr h.om hf (fun k hk e=>by have:=hS k (own_lt h.om hk) e;rw[h.mc k hk] at this;cases this)
 op:=own_fr h.op hf (fun k hk e=>by have:=hS k (own_lt h.op hk) e;rw[h.pc k hk] at this;cases this)
 ot:=own_fr h.ot hf (fun k hk e=>by have:=hS k (own_lt h.ot hk) e;rw[h.tc k hk] at this;cases this)
 ol:=own_fr h.ol hf (fun k hk e=>by have:=hS k (own_lt h.ol hk) e;rw[h.lc k hk] at this;cases this)
 mc k hk:=by rw[h1 k (own_lt h.om hk)];exact h.mc k hk
 pc k hk:=by rw[h1 k (own_lt h.op hk)];exact h.pc k hk
 tc k hk:=by rw[h1 k (own_lt h.ot hk)];exact h.tc k hk
 lc k hk:=by rw[h1 k (own_lt h.ol hk)];exact h.lc k hk
 fo:=(h.fo.fr hf (fun k hk e=>by have h2:=h.lt k (by rw[hk];decide);have:=hS k h2 e;rw[hk] at this;cases this)).more' (fun k hk=>by rw[h1 k (h.lt k (by rw[hk];decide))];exact hk)
 nd:=h.nd
 ms:=h.ms
 mb:=(h.mb.old.fr hf (fun k hk e=>by have:=hS k hk.2 e;rw[hk.1] at this;cases this)).more (fun k hk=>by rw[h1 k hk.2];exact hk.1)
 n i x hx:=by
  have hi:=(List.getElem?_eq_some_iff.1 hx).1
  obtain ⟨a1,a2,a3⟩:=h.n i x hx
  exact ⟨a1.fr hf (fun k hk e=>by have:=hS k (a1.lt k hk) e;rw[a3 k hk] at this;omega),a2,fun k hk=>by rw[h1 k (a1.lt k hk)];exact a3 k hk⟩
 lt:=hlt
structure TOk (w:World) (x:TV):Prop where
 r:Reads w (fun _=>True) 1 x.A x.b.length (bys x.b)
 y:Bytes x.b
 k:x.kd<256∧x.wh<256∧x.nn<256
structure LC (w0:World) (m n:Nat) (fo:Ms) (g i:Nat) (W:World) (cc:Nat→Nat) (C:Cl) (G:Gh):Prop where
 s:CS W cc g C fo
 I:CInv (cN m) G C
 w:CW (cN m) (4 * i) C
 l:C.nd.length=n
 z:∀ k,k<w0.heap.size→cc k=0
 b:Below w0.heap.size w0 W
section
variable {w0 W W':World} {m n:Nat} {fo:Ms} {g i:Nat} {cc:Nat→Nat} {C:Cl} {G:Gh}
theorem LC.below (h:LC w0 m n fo g i W cc C G)(hb:Below W.heap.size W W'):LC w0 m n fo g i W' cc C G:=
 ⟨h.s.below hb,h.I,h.w,h.l,h.z,h.b.trans (hb.mono h.b.size)⟩
theorem LC.lt (h:LC w0 m n fo g i W cc C G):∀ k,cc k≠0→k<W.heap.size:=by
 obtain ⟨K,Am,cm,Ap,cp,At,ct,Al,cl,mv,hz⟩:=h.s
 exact hz.lt
theorem LC.own {c1:Nat→Nat}{S:Nat→Prop}(h:LC w0 m n fo g i W cc C G)(hn:n≤5)(hf:Fr S W W')(hS:∀ k,k<W.heap.size→S k→cc k=101)(h1:∀ k,k<W.heap.size→c1 k=cc k)(hlt:∀ k,c1 k≠0→k<W'.heap.size):LC w0 m n fo g i W' c1 C G:=by
 obtain ⟨K,Am,cm,Ap,cp,At,ct,Al,cl,mv,hz⟩:=h.s
 have hK:K.length≤90:=by have h2:=congrArg List.length hz.nd;rw[List.length_map] at h2;have:=h.l;omega
 exact ⟨⟨K,Am,cm,Ap,cp,At,ct,Al,cl,mv,hz.own hK hf hS h1 hlt⟩,h.I,h.w,h.l,fun k hk=>by rw[h1 k (Nat.lt_of_lt_of_le hk h.b.size)];exact h.z k hk,h.b.trans (hf.below h.b.size (fun k hk e=>by have:=hS k (Nat.lt_of_lt_of_le hk h.b.size) e;rw[h.z k hk] at this;cases this))⟩
theorem LC.paint (h:LC w0 m n fo g i W cc C G)(hn:n≤5)(hb:Below W.heap.size W W')(P:Nat→Prop)(hP:∀ k,P k→W.heap.size≤k∧k<W'.heap.size):∃ c1,LC w0 m n fo g i W' c1 C G∧(∀ k,k<W.heap.size→c1 k=cc k)∧(∀ k,P k→c1 k=101)∧(∀ k,W.heap.size≤k→¬ P k→c1 k=0):=by
 classical
 refine ⟨fun k=>if W.heap.size≤k then (if P k then 101 else 0) else cc k,h.own hn (S:=fun _=>False) (Fr.of_below hb) (fun _ _ e=>e.elim) (fun k hk=>if_neg (by omega)) (fun k hk=>?_),fun k hk=>if_neg (by omega),fun k hk=>?_,fun k hk hp=>?_⟩
 ·split at hk
  ·split at hk
   ·rename_i e;exact (hP k e).2
   ·exact absurd rfl hk
  ·exact Nat.lt_of_lt_of_le (h.lt k hk) hb.size
 ·show (if W.heap.size≤k then (if P k then 101 else 0) else cc k)=101
  rw[if_pos (hP k hk).1,if_pos hk]
 ·show (if W.heap.size≤k then (if P k then 101 else 0) else cc k)=0
  rw[if_pos hk,if_neg hp]
theorem LC.step (h:LC w0 m n fo g i W cc C G)(hi:i≤300)(hn:1≤n∧n≤5)(hfo:(⟨fo.o,fo.n⟩:Mb)=cN m){x:TV}(hx:TOk w0 x)(hb:x.b.length≤200) :
 Calls Tryz.prog 15 #[.pointer (some ⟨g,0,none⟩),.agg (stC x.kd x.wh x.nn x.A x.b.length x.c)] W fun e w'=>e=.returned (.bool true)∧∃ c1 G',LC w0 m n fo g (i+1) w' c1 (C.step x.kd x.wh x.nn x.b) G'∧Gro G G'∧(∀ k,k<W.heap.size→c1 k=cc k)∧Fr (fun k=>cc k≠0∧cc k≠101) W w':=by
 have hr:=((hx.r.old (by decide)).below h.b (fun _ h=>h.2))
 refine (step15_any W cc g C fo h.s h.w h.I hfo.symm (by omega) x.kd x.wh x.nn x.A x.b x.c _ hr (fun k hk=>h.z k hk.2) ⟨hb,hx.y⟩ hx.k.1 hx.k.2.1 hx.k.2.2 (by rw[h.l];omega)).mono ?_
 rintro e w' ⟨he,c1,hc⟩
 obtain ⟨G',hI,hG⟩:=h.I.step x.kd x.wh x.nn x.b
 refine ⟨he,c1,G',⟨hc.n,hI,?_,?_,fun k hk=>?_,?_⟩,hG,hc.ag,hc.fr⟩
 ·exact h.w.step h.I (by omega) x.kd x.wh x.nn x.b ⟨hb,hx.y⟩
 ·rw[step_len];exact h.l
 ·rw[hc.ag k (Nat.lt_of_lt_of_le hk h.b.size)];exact h.z k hk
 ·exact h.b.trans (hc.fr.below h.b.size (fun k hk e=>e.1 (h.z k hk)))
end
theorem conv_str {w:World}{B:Nat→Prop}{A:Option Addr}{b:List Int}(h:Reads w B 1 A b.length (bys b))(c:Nat):(convert 46 9 (.slice A b.length c)).run Tryz.prog w=.ok (.string (strOfNums b)) w:=
 (bytesIn_of h).convert (P:=Tryz.prog) rfl c 46 5 9 Tryz.underlying46 (by kernel_rfl) (by kernel_rfl)
theorem alike19 (B B':Nat→Prop)(t k:Int)(A:Option Addr)(c:Nat)(b:List Int)(t' k':Int)(A':Option Addr)(c':Nat)(b':List Int)(w:World)(h:Reads w B 1 A b.length (bys b))(h':Reads w B' 1 A' b'.length (bys b'))(hB:Bytes b)(hB':Bytes b')(q:Bool)(hq:decide ((⟨t,k,b⟩:Ent)=⟨t',k',b'⟩)=q) :
 Calls Tryz.prog 19 #[evV t k A b.length c,evV t' k' A' b'.length c'] w fun e w'=>e=.returned (.bool q)∧Below w.heap.size w w':=by
 subst hq
 rw[ent_eq]
 have b1:Below w.heap.size w ((w.alloc (.cells (evC t k A b.length c) 58)).alloc (.cells (evC t' k' A' b'.length c') 58)):=((Below.refl _ _).alloc (Nat.le_refl _) _).alloc (by simp) _
 have r1:=conv_str ((h.alloc (.cells (evC t k A b.length c) 58)).alloc (.cells (evC t' k' A' b'.length c') 58)) c
 have r2:=conv_str ((h'.alloc (.cells (evC t k A b.length c) 58)).alloc (.cells (evC t' k' A' b'.length c') 58)) c'
 have hbb:=ħ (bytes_inj hB hB')
 clear h h' hB hB'
 by_cases h1:t=t'
 ·subst h1
  by_cases h2:k=k'
  ·subst h2
   go_enter Tryz.func19,Tryz.ntmps19
   go_wp2
   go_ret
   exact ⟨by have h9:=hbb.out;simp[Lib.strOfNums_toList,h9],b1⟩
  ·go_enter Tryz.func19,Tryz.ntmps19
   go_wp2
   go_ret
   exact ⟨by simp[h2],b1⟩
 ·go_enter Tryz.func19,Tryz.ntmps19
  go_wp2
  go_ret
  exact ⟨by simp[h1],b1⟩
attribute [local irreducible] Go.wpQuiet
theorem open9_bad (w:World)(B:Nat→Prop)(id wait beat now:Int)(m:Ms)(fp:Option Addr)(hm:MR w B m)(hbad:¬ (0≤id∧id<9∧permB m.o m.n=true∧fp≠none∧1≤wait∧wait≤MT∧1≤beat∧beat≤MT)) :
 Calls Tryz.prog 9 #[.int .i64 id,msV m,.pointer fp,.int .i64 wait,.int .i64 beat,.int .i64 now] w fun e w'=>e=.returned (.tuple #[.pointer none,.int .i64 1])∧Below w.heap.size w w':=by
 unfold MT at hbad
 have b1:Below w.heap.size w (w.alloc (.cells (msC m) 24)):=(Below.refl _ _).alloc (Nat.le_refl _) _
 have g1:Blk (w.alloc (.cells (msC m) 24)) w.heap.size 24 (msC m):=Blk.new w 24 _
 have m1:=hm.alloc (.cells (msC m) 24)
 have H30:=ħ fun q hq=>permitted30 _ m _ m1 q hq
 have hml:=m1.ol
 have hmn:=m1.nl
 have HBD:=ħ hbad
 clear hm hbad
 by_cases i1:id<0
 ·have wi1:decide (id<0)=true:=decide_eq_true i1
  go_enter Tryz.func9,Tryz.ntmps9
  go_wp2_with fail
  refine bodyPost_ret (v:=.tuple #[.pointer none,.int .i64 1]) (by simp[results,Tryz.results9,go_sem]) rfl ⟨rfl,b1⟩
 ·by_cases i2:9≤id
  ·have wi2:decide (9≤id)=true:=decide_eq_true i2
   have wi1:decide (id<0)=false:=decide_eq_false i1
   go_enter Tryz.func9,Tryz.ntmps9
   go_wp2_with fail
   refine bodyPost_ret (v:=.tuple #[.pointer none,.int .i64 1]) (by simp[results,Tryz.results9,go_sem]) rfl ⟨rfl,b1⟩
  ·have wi1:decide (id<0)=false:=decide_eq_false i1
   have wi2:decide (9≤id)=false:=decide_eq_false i2
   go_enter Tryz.func9,Tryz.ntmps9
   go_upto_region 1 with fail
   generalize w.alloc (.cells (msC m) 24)=W1 at *
   obtain ⟨q0,q1,q2⟩:=g1.facts
   have y0:W1.cell? ⟨w.heap.size,0,none⟩=some (.slice m.A m.o.length m.c):=g1.cell 0
   have y1:W1.cell? ⟨w.heap.size,1,none⟩=some (.slice m.A' m.n.length m.c'):=g1.cell 1
   clear q1
   obtain ⟨q,hq⟩:∃ q,permB m.o m.n=q:=⟨_,rfl⟩
   have H30q:=ħ (H30.out q hq)
   have HQ:=ħ hq
   clear hq H30
   cases q with
   | false=>
    go_wp2_with (go_at_call 30;((with_reducible refine H30q.out.mono ?_);rintro e w2 ⟨rfl,b2⟩))
    refine bodyPost_ret (v:=.tuple #[.pointer none,.int .i64 1]) (by simp[results,Tryz.results9,go_sem]) rfl ⟨rfl,b1.trans (b2.mono b1.size)⟩
   | true=>
    cases fp with
    | none=>
     have hnil:∀ (W:World),(binOp .eql 36 (.pointer none) (.pointer none)).run Tryz.prog W=.ok (.bool true) W:=fun _=>by rfl
     go_wp2_with (go_at_call 30;((with_reducible refine H30q.out.mono ?_);rintro e w2 ⟨rfl,b2⟩))
     refine bodyPost_ret (v:=.tuple #[.pointer none,.int .i64 1]) (by simp[results,Tryz.results9,go_sem]) rfl ⟨rfl,b1.trans (b2.mono b1.size)⟩
    | some a=>
     have hnil:∀ (a:Addr) (W:World),(binOp .eql 36 (.pointer (some a)) (.pointer none)).run Tryz.prog W=.ok (.bool false) W:=fun _ _=>by rfl
     have HB2:=ħ (show wait<1∨1099511627776<wait∨beat<1∨1099511627776<beat by
      by_cases h:wait<1∨1099511627776<wait∨beat<1∨1099511627776<beat
      ·exact h
      ·exact absurd ⟨by omega,by omega,HQ.out,by simp,by omega,by omega,by omega,by omega⟩ HBD.out)
     go_upto_region 3 with (go_at_call 30;((with_reducible refine H30q.out.mono ?_);rintro e w2 ⟨rfl,b2⟩))
     have B2:=b1.trans (b2.mono b1.size)
     clear b1 b2 g1 q0 q2 y0 y1 m1 wi1 wi2
     by_cases a1:wait<1
     ·have ww1:decide (wait<1)=true:=decide_eq_true a1
      go_wp2_with fail
      refine bodyPost_ret (v:=.tuple #[.pointer none,.int .i64 1]) (by simp[results,Tryz.results9,go_sem]) rfl ⟨rfl,B2⟩
     ·have ww1:decide (wait<1)=false:=decide_eq_false a1
      by_cases a2:1099511627776<wait
      ·have ww2:decide (1099511627776<wait)=true:=decide_eq_true a2
       go_wp2_with fail
       refine bodyPost_ret (v:=.tuple #[.pointer none,.int .i64 1]) (by simp[results,Tryz.results9,go_sem]) rfl ⟨rfl,B2⟩
      ·have ww2:decide (1099511627776<wait)=false:=decide_eq_false a2
       by_cases a3:beat<1
       ·have ww3:decide (beat<1)=true:=decide_eq_true a3
        go_wp2_with fail
        refine bodyPost_ret (v:=.tuple #[.pointer none,.int .i64 1]) (by simp[results,Tryz.results9,go_sem]) rfl ⟨rfl,B2⟩
       ·have ww3:decide (beat<1)=false:=decide_eq_false a3
        have a4:1099511627776<beat:=by have:=HB2.out;omega
        have ww4:decide (1099511627776<beat)=true:=decide_eq_true a4
        go_wp2_with fail
        refine bodyPost_ret (v:=.tuple #[.pointer none,.int .i64 1]) (by simp[results,Tryz.results9,go_sem]) rfl ⟨rfl,B2⟩
def aw0:Nd:=Nd.new 0 5 2 0 ⟨[0],[]⟩
def aw1:Nd:=(aw0.tick 4).1
def aw2:Nd:=(aw1.tick 5).1
def aw3:Nd:=(aw2.propose [120]).1
theorem aw_0:aw0.propose [120]=(aw0,[])∧prN aw0=(14,0):=⟨by unfold Nd.propose;rw[if_pos (by decide +kernel)],by decide +kernel⟩
theorem aw_1:(aw0.tick 4).2=[]∧aw1.role=1:=by constructor <;> decide +kernel
theorem aw_2:aw2.role=3∧aw2.term=1∧aw2.commit=1∧prN aw2=(0,2):=by refine ⟨?_,?_,?_,?_⟩ <;> decide +kernel
theorem aw_3:aw3.log[1]?=some ⟨1,2,[120]⟩∧aw3.c0.o=[0]∧aw3.c0.n=[]:=by refine ⟨?_,?_,?_⟩ <;> decide +kernel
structure AX (w:World) (p v j l f:Nat) (s:Nd) (k:Nat) (col:Nat→Nat) (W:World):Prop where
 n:NS W col p v j l f s false []
 c:Clean col
 o:∀ i,col i≠0→w.heap.size≤i
 b:Below w.heap.size w W
 w:Wf k s
 t:s.role=3→1≤s.term
section
variable {w W W':World} {p v j l f:Nat} {s s':Nd} {k k':Nat} {col col':Nat→Nat}
theorem AX.below (h:AX w p v j l f s k col W)(hb:Below W.heap.size W W'):AX w p v j l f s k col W':=⟨h.n.below hb,h.c,h.o,h.b.trans (hb.mono h.b.size),h.w,h.t⟩
theorem AX.nb (h:AX w p v j l f s k col W)(hb:NB W col p v j l f s' false [] W' col')(hc:Clean col')(hw:Wf k' s')(ht:s'.role=3→1≤s'.term):AX w p v j l f s' k' col' W' where
 n:=hb.n
 c:=hc
 o i hi:=by
  rcases Nat.lt_or_ge i W.heap.size with h1 | h1
  ·rw[hb.ag i h1] at hi;exact h.o i hi
  ·exact Nat.le_trans h.b.size h1
 b:=h.b.trans (hb.fr.below h.b.size (fun i hi e=>by have:=h.o i e;omega))
 w:=hw
 t:=ht
theorem AX.tick (h:AX w p v j l f s k col W)(hk:k≤1600)(now:Int){s1:Nd}{ms1:List Msg}(e1:s.tick now=(s1,ms1))(hw:Wf k' s1)(ht:s1.role=3→1≤s1.term) :
 Calls Tryz.prog 25 #[.pointer (some ⟨p,0,none⟩),.int .i64 now] W fun e w'=>∃ (A:Option Addr) (c:Nat) (ms:List MV) (col':Nat→Nat),e=.returned (.slice A ms.length c)∧ms.map MV.m=ms1∧AX w p v j l f s1 k' col' w':=by
 refine (tick25 W col p v j l f s h.n h.c h.w hk now).mono ?_
 rintro e w' ⟨A,c,ms,col',he,h1,h2,h3,h4⟩
 rw[e1] at h1 h3
 exact ⟨A,c,ms,col',he,h1,h.nb h3 h4 hw ht⟩
theorem AX.propose (h:AX w p v j l f s k col W)(hk:k≤1600)(A:Option Addr)(c:Nat)(b:List Int)(B:Nat→Prop)(hb:Reads W B 1 A b.length (bys b))(hBc:∀ i,B i→col i=0)(hbb:b.length≤200∧Bytes b){s1:Nd}{ms1:List Msg}{er n:Int}(e1:s.propose b=(s1,ms1))(e2:prN s=(er,n))(hw:Wf k' s1)(ht:s1.role=3→1≤s1.term) :
 Calls Tryz.prog 24 #[.pointer (some ⟨p,0,none⟩),.slice A b.length c] W fun e w'=>∃ (A:Option Addr) (c:Nat) (ms:List MV) (col':Nat→Nat),e=.returned (.tuple #[.int .i64 n,.slice A ms.length c,.int .i64 er])∧ms.map MV.m=ms1∧AX w p v j l f s1 k' col' w':=by
 refine (propose24 W col p v j l f s h.n h.c h.w hk h.t A c b B hb hBc hbb).mono ?_
 rintro e w' ⟨A,c,ms,col',he,h1,h2,h3,h4⟩
 rw[e1] at h1 h3
 rw[e2] at he
 exact ⟨A,c,ms,col',he,h1,h.nb h3 h4 hw ht⟩
end
theorem commit16_cell (w:World)(p:Nat)(n:Int)(h:w.cell? ⟨p,13,none⟩=some (.int .i64 n)):Calls Tryz.prog 16 #[.pointer (some ⟨p,0,none⟩)] w fun e w'=>e=.returned (.int .i64 n)∧w=w':=by
 go_enter Tryz.func16,Tryz.ntmps16
 go_wp2
 go_ret
 exact ⟨rfl,rfl⟩
theorem bytes_x:Bytes [120]:=fun b hb=>by rw[List.mem_singleton] at hb;omega
theorem aw_wf:Wf 0 aw0∧Wf 3 aw1∧Wf 6 aw2∧Wf 9 aw3:=by
 have h0:Wf 0 aw0:=Wf.new (by decide) ⟨by decide,by decide,by decide,by decide⟩ (by decide +kernel)
 have h1:Wf 3 aw1:=(h0.tick (by decide) 4).1
 have h2:Wf 6 aw2:=(h1.tick (by decide) 5).1
 exact ⟨h0,h1,h2,(h2.propose (by decide) (by decide +kernel) (body:=[120]) ⟨by decide,bytes_x⟩).1⟩
theorem aw_t:1≤aw3.term:=by decide +kernel
theorem aw_i:aw3.id=0∧aw3.wait=5∧aw3.beat=2:=by refine ⟨?_,?_,?_⟩ <;> decide +kernel
theorem aw_p:aw2.propose [120]=(aw3,[]):=Prod.ext rfl (List.eq_nil_of_length_eq_zero (by decide +kernel))
theorem aw_a:aw3.again 6=aw3.again 6∧(aw3.again 6).role=1∧(aw3.again 6).term=1∧(aw3.again 6).log.length=2∧(aw3.again 6).commit=0∧(aw3.again 6).ld = -1∧aw3.commit=2∧aw3.log.length=2:=by refine ⟨rfl,?_,?_,?_,?_,?_,?_,?_⟩ <;> decide +kernel
theorem ri_one (W:World)(x:Int):MR (W.alloc (.cells #[.int .i64 x] 3)) (fun k=>k=W.heap.size) ⟨some ⟨W.heap.size,0,none⟩,1,[x],none,0,[]⟩:=
 ⟨Reads.newS W [.int .i64 x] 3 (0,0) 1 1 rfl _ rfl,Reads.none_,by show 1≤1000;decide,by show 0≤1000;decide⟩
theorem awake7 (w:World):Calls Tryz.prog 7 #[] w fun e w'=>e=.returned (.bool true)∧Below w.heap.size w w':=by
 have H11:=ħ (storage_new w)
 have hcv:=fun (w:World) (C:Array Value) (n c:Nat)=>Lib.run_convert_bytes_const (P:=Tryz.prog) w 46 5 C n c Tryz.underlying46 Tryz.underlying5
 go_enter Tryz.func7,Tryz.ntmps7
 go_upto_region 2 with (go_at_call 11;((with_reducible refine H11.out.mono ?_);rintro e w1 ⟨rfl,fp1,b1⟩;have HF1:=ħ fp1;have HB1:=ħ b1;have hf1:=fp1.lt;clear fp1 b1))
 have H23:=ħ (show Calls Tryz.prog 23 #[.agg #[.int .i64 0,.slice (some ⟨w1.heap.size,0,none⟩) 1 1,.slice none 0 0,.int .i64 5,.int .i64 2,.int .i64 0],.pointer (some ⟨w.heap.size,0,none⟩)] (w1.alloc (.cells #[.int .i64 0] 3)) (OkQ w.heap.size (fun _=>False) aw0 (w1.alloc (.cells #[.int .i64 0] 3))) from
  open23 (w1.alloc (.cells #[.int .i64 0] 3)) w.heap.size (fun _=>False) (fun k=>k=w1.heap.size) 0 5 2 0 ⟨some ⟨w1.heap.size,0,none⟩,1,[0],none,0,[]⟩ [] 0 (-1) [] (by rw[show encJ initS []=[] from by simp[encJ]];exact HF1.out.fr (Fr.of_below (S:=fun _=>False) ((Below.refl _ _).alloc (Nat.le_refl _) _)) (fun e=>e) (fun _ _ e=>e)) (ri_one w1 0) ⟨by decide,by decide⟩ (show permB [0] []=true by decide +kernel) (by unfold MT;decide) RcOk.nil)
 go_upto_region 3 with (go_at_call 23;((with_reducible refine H23.out.mono ?_);rintro e w2 ⟨p,v,j,l,col,rfl,n2,c2,s2,f2⟩;have HN2:=ħ n2;have HC2:=ħ c2;have HS2:=ħ s2;have HF2:=ħ f2;clear n2 c2 s2 f2))
 have hz1:w1.heap.size≤w2.heap.size:=by have:=HF2.out.size;simp at this;omega
 have AX2:=ħ (show AX w p v j l w.heap.size aw0 0 col w2 from ⟨HN2.out,HC2.out,fun i hi=>by
  rcases HS2.out i hi with e | e | e
  ·omega
  ·exact e.1.elim
  ·have:=HB1.out.size;simp at e;omega,(HB1.out.trans (((Below.refl w1.heap.size w1).alloc (Nat.le_refl _) (.cells #[.int .i64 0] 3)).mono HB1.out.size)).trans (HF2.out.below (by have:=HB1.out.size;simp;omega) (fun k hk e=>e.elim (fun e=>by omega) id)),aw_wf.1,fun h=>absurd h (by decide)⟩)
 have HL2:=ħ fun (i:Nat) (hi:col i≠0)=>HN2.out.lt i hi
 clear HN2 HC2 HS2 HF2 HF1 HB1 H23 H11 hz1 hf1
 go_upto_region 5 with fail
 have A3:AX w p v j l w.heap.size aw0 0 col (w2.alloc (.cells #[.int .u8 120] 5 (1,2))):=AX2.out.below ((Below.refl _ _).alloc (Nat.le_refl _) _)
 have H24:=ħ (show Calls Tryz.prog 24 #[.pointer (some ⟨p,0,none⟩),.slice (some ⟨w2.heap.size,0,none⟩) 1 1] (w2.alloc (.cells #[.int .u8 120] 5 (1,2))) _ from A3.propose (by decide) (some ⟨w2.heap.size,0,none⟩) 1 [120] (fun k=>k=w2.heap.size) (Reads.newS w2 [.int .u8 120] 5 (1,2) 1 1 rfl _ rfl) (fun i hi=>by
  subst hi
  cases hc:col w2.heap.size with
  | zero=>rfl
  | succ n=>exact absurd (HL2.out w2.heap.size (by rw[hc];simp)) (by omega)) ⟨by decide,bytes_x⟩ aw_0.1 aw_0.2 aw_wf.1 (fun h=>absurd h (by decide)))
 clear A3
 go_upto_region 6 with (go_at_call 24;((with_reducible refine H24.out.mono ?_);rintro e w3 ⟨A3,c3,ms3,col3,rfl,-,a3⟩;have AX3:=ħ a3;clear a3))
 have H25:=ħ (AX3.out.tick (by decide) 4 (s1:=aw1) (ms1:=(aw0.tick 4).2) rfl aw_wf.2.1 (fun h=>absurd h (by rw[aw_1.2];decide)))
 go_upto_region 7 with (go_at_call 25;((with_reducible refine H25.out.mono ?_);rintro e w4 ⟨A4,c4,ms4,col4,rfl,-,a4⟩;have AX4:=ħ a4;clear a4))
 have H21:=ħ (role21 w4 col4 p v j l w.heap.size aw1 false [] AX4.out.n)
 go_upto_region 8 with (go_at_call 21;((with_reducible refine H21.out.mono ?_);rintro e w5 ⟨rfl,rfl⟩))
 have H25b:=ħ (AX4.out.tick (by decide) 5 (s1:=aw2) (ms1:=(aw1.tick 5).2) rfl aw_wf.2.2.1 (fun h=>by rw[aw_2.2.1];decide))
 go_upto_region 9 with (go_at_call 25;((with_reducible refine H25b.out.mono ?_);rintro e w5 ⟨A5,c5,ms5,col5,rfl,-,a5⟩;have AX5:=ħ a5;clear a5))
 have H21b:=ħ (role21 w5 col5 p v j l w.heap.size aw2 false [] AX5.out.n)
 have H22b:=ħ (term22 w5 col5 p v j l w.heap.size aw2 false [] AX5.out.n)
 have H16b:=ħ (commit16 w5 col5 p v j l w.heap.size aw2 false [] AX5.out.n)
 rw[aw_2.1] at H21b
 rw[aw_2.2.1] at H22b
 rw[aw_2.2.2.1] at H16b
 rw[aw_1.2]
 clear H21 H24 H25 H25b
 go_upto_region 10 with (first
  | (go_at_call 21;((with_reducible refine H21b.out.mono ?_);rintro e w6 ⟨rfl,rfl⟩))
  | (go_at_call 22;((with_reducible refine H22b.out.mono ?_);rintro e w6 ⟨rfl,rfl⟩))
  | (go_at_call 16;((with_reducible refine H16b.out.mono ?_);rintro e w6 ⟨rfl,rfl⟩)))
 have HL5:=ħ fun (i:Nat) (hi:col5 i≠0)=>AX5.out.n.lt i hi
 have H24b:=ħ (show Calls Tryz.prog 24 #[.pointer (some ⟨p,0,none⟩),.slice (some ⟨w5.heap.size,0,none⟩) 1 1] (w5.alloc (.cells #[.int .u8 120] 5 (1,2))) _ from (show AX w p v j l w.heap.size aw2 6 col5 (w5.alloc (.cells #[.int .u8 120] 5 (1,2))) from AX5.out.below ((Below.refl _ _).alloc (Nat.le_refl _) _)).propose (by decide) (some ⟨w5.heap.size,0,none⟩) 1 [120] (fun k=>k=w5.heap.size) (Reads.newS w5 [.int .u8 120] 5 (1,2) 1 1 rfl _ rfl) (fun i hi=>by
  subst hi
  cases hc:col5 w5.heap.size with
  | zero=>rfl
  | succ n=>exact absurd (HL5.out w5.heap.size (by rw[hc];simp)) (by omega)) ⟨by decide,bytes_x⟩ aw_p aw_2.2.2.2 aw_wf.2.2.2 (fun _=>aw_t))
 clear H21b H22b H16b
 go_upto_region 11 with (go_at_call 24;((with_reducible refine H24b.out.mono ?_);rintro e w6 ⟨A6,c6,ms6,col6,rfl,hm6,a6⟩;have AX6:=ħ a6;have HM6:=ħ hm6;clear a6 hm6))
 obtain rfl:ms6=[]:=List.map_eq_nil_iff.1 HM6.out
 have hl3:aw3.log.length≤1000000:=by have:=AX6.out.w.ln;omega
 have H18:=ħ (show Calls Tryz.prog 18 #[.pointer (some ⟨p,0,none⟩),.int .i64 2] w6 fun e w'=>∃ A c,e=.returned (.tuple #[evV 1 2 A 1 c,.bool true])∧Reads w' (w6.heap.size≤·) 1 A 1 (bys [120])∧Below w6.heap.size w6 w' from entry18_yes w6 col6 p v j l w.heap.size aw3 false [] AX6.out.n 1 ⟨1,2,[120]⟩ hl3 aw_3.1 AX6.out.w.bd.sm)
 clear hl3
 go_upto_region 12 with (go_at_call 18;((with_reducible refine H18.out.mono ?_);rintro e w7 ⟨A7,c7,rfl,r7,b7⟩;have HR7:=ħ r7;have HB7:=ħ b7;clear r7 b7))
 have g8:Blk (w7.alloc (.cells (evC 1 2 A7 1 c7) 58)) w7.heap.size 58 (evC 1 2 A7 1 c7):=Blk.new w7 58 _
 have b8:Below w6.heap.size w6 (w7.alloc (.cells (evC 1 2 A7 1 c7) 58)):=HB7.out.alloc HB7.out.size _
 have r8:=HR7.out.alloc (.cells (evC 1 2 A7 1 c7) 58)
 have hk7:=HB7.out.size
 have hl8:=g8.lt
 generalize w7.alloc (.cells (evC 1 2 A7 1 c7) 58)=w8 at *
 have HB8:=ħ b8
 have HR8:=ħ (r8.old (by decide))
 have HG8:=ħ g8
 have HL6:=ħ fun (i:Nat) (hi:col6 i≠0)=>AX6.out.n.lt i hi
 have AX8:=ħ (AX6.out.below b8)
 clear b8 r8 g8
 have H26:=ħ (show Calls Tryz.prog 26 #[.agg #[.int .i64 0,.slice (some ⟨w8.heap.size,0,none⟩) 1 1,.slice none 0 0,.int .i64 5,.int .i64 2,.int .i64 0],.pointer (some ⟨w.heap.size,0,none⟩),.int .i64 6] (w8.alloc (.cells #[.int .i64 0] 3)) (OkQ w.heap.size (fun k=>col6 k=3) (aw3.again 6) (w8.alloc (.cells #[.int .i64 0] 3))) from by
  have h:=again_w (w8.alloc (.cells #[.int .i64 0] 3)) col6 p v j l w.heap.size aw3 [] (AX8.out.n.below ((Below.refl _ _).alloc (Nat.le_refl _) _)) AX8.out.w (by decide) (fun k=>k=w8.heap.size) ⟨some ⟨w8.heap.size,0,none⟩,1,[0],none,0,[]⟩ (ri_one w8 0) (fun i hi=>by
   subst hi
   cases hc:col6 w8.heap.size with
   | zero=>rfl
   | succ n=>exact absurd (HL6.out w8.heap.size (by rw[hc];simp)) (by have:=HB8.out.size;omega)) ⟨aw_3.2.1.symm,aw_3.2.2.symm⟩ 0 6
  rw[aw_i.1,aw_i.2.1,aw_i.2.2] at h
  exact h)
 go_upto_region 13 with (go_at_call 26;((with_reducible refine H26.out.mono ?_);rintro e w9 ⟨q,v9,j9,l9,col9,rfl,n9,c9,s9,f9⟩;have HN9:=ħ n9;have HF9:=ħ f9;have HS9:=ħ s9;clear n9 s9 f9))
 have HC9:=ħ (show w9.cell? ⟨p,13,none⟩=some (.int .i64 2) from by
  obtain ⟨mi,mm,Ao,co,ms,dur,hz,hm⟩:=AX8.out.n
  have x13:w8.cell? ⟨p,13,none⟩=some (.int .i64 aw3.commit):=AX8.out.n.x.2.2.2.2.2.2.2.2.2.2.2.1
  have g1:=hz.b.alloc (.cells #[.int .i64 0] 3)
  have g9:=g1.fr HF9.out (fun e=>by
   rcases e with e | e
   ·obtain ⟨_,_,_,_,_,_,_,h1,_⟩:=hz.js
    have h2:col6 w.heap.size=3:=h1.zp
    rw[←e,hz.cp] at h2
    cases h2
   ·rw[hz.cp] at e;cases e)
  rw[g9.cell 13,←hz.b.cell 13,x13,aw_a.2.2.2.2.2.2.1])
 have hs9:w8.heap.size+1≤w9.heap.size:=by have:=HF9.out.size;simpa using this
 have HG9:=ħ ((HG8.out.alloc (.cells #[.int .i64 0] 3)).fr HF9.out (fun e=>by
  rcases e with e | e
  ·have:=AX6.out.b.size
   have h3:=AX6.out.n.lt w.heap.size (by obtain ⟨mi,mm,Ao,co,ms,dur,hz,hm⟩:=AX6.out.n;obtain ⟨_,_,_,_,_,_,_,h1,_⟩:=hz.js;have h2:col6 w.heap.size=3:=h1.zp;rw[h2];decide)
   omega
  ·have:=HL6.out w7.heap.size (by rw[e];decide)
   omega))
 have HR9:=ħ ((HR8.out.alloc (.cells #[.int .i64 0] 3)).fr HF9.out (fun k hk e=>by
  obtain ⟨h0,h1⟩:=hk
  rcases e with e | e
  ·have h3:=AX6.out.n.lt w.heap.size (by obtain ⟨mi,mm,Ao,co,ms,dur,hz,hm⟩:=AX6.out.n;obtain ⟨_,_,_,_,_,_,_,h1,_⟩:=hz.js;have h2:col6 w.heap.size=3:=h1.zp;rw[h2];decide)
   omega
  ·have:=HL6.out k (by rw[e];decide)
   omega))
 have HB9:=ħ (show Below w.heap.size w w9 from (AX8.out.b.alloc AX8.out.b.size (.cells #[.int .i64 0] 3)).trans (HF9.out.below (by have:=AX8.out.b.size;simp;omega) (fun k hk e=>by
  rcases e with e | e
  ·omega
  ·have:=AX8.out.o k (by rw[e];decide)
   omega)))
 have H11b:=ħ (storage_new (w9.alloc (.cells #[.int .i64 0] 3)))
 have H9:=ħ fun W (hb:Below (w9.alloc (.cells #[.int .i64 0] 3)).heap.size (w9.alloc (.cells #[.int .i64 0] 3)) W) fp=>(show Calls Tryz.prog 9 #[.int .i64 9,.agg #[.slice (some ⟨w9.heap.size,0,none⟩) 1 1,.slice none 0 0],.pointer fp,.int .i64 5,.int .i64 2,.int .i64 0] W fun e w'=>e=.returned (.tuple #[.pointer none,.int .i64 1])∧Below W.heap.size W w' from
  open9_bad W (fun k=>k=w9.heap.size) 9 5 2 0 ⟨some ⟨w9.heap.size,0,none⟩,1,[0],none,0,[]⟩ fp ((ri_one w9 0).below hb) (fun h=>absurd h.2.1 (by decide)))
 have b9:Below w9.heap.size w9 (w9.alloc (.cells #[.int .i64 0] 3)):=(Below.refl _ _).alloc (Nat.le_refl _) _
 clear H24b H18 H26
 go_upto_region 16 with (first
  | (go_at_call 11;((with_reducible refine H11b.out.mono ?_);rintro e w10 ⟨rfl,-,b10⟩;have HB10:=ħ b10;clear b10))
  | (go_at_call 9;((with_reducible refine (H9.out _ HB10.out _).mono ?_);rintro e w11 ⟨rfl,b11⟩;have HB11:=ħ ((b9.trans (HB10.out.mono b9.size)).trans (b11.mono (Nat.le_trans b9.size HB10.out.size)));clear b11)))
 have HX:=ħ (HG9.out.below HB11.out HG9.out.lt)
 have HCV:=ħ (conv_str (show Reads w11 _ 1 A7 [120].length (bys [120]) from HR9.out.below HB11.out (fun k hk=>by have:=hk.2;omega)) c7)
 have HQ:=ħ (HN9.out.below HB11.out)
 have H16p:=ħ (commit16_cell w11 p 2 ((HB11.out.cell (p:=⟨p,13,none⟩) (show p<w9.heap.size from by
  have h1:=HL6.out p (by obtain ⟨mi,mm,Ao,co,ms,dur,hz,hm⟩:=AX6.out.n;rw[hz.cp];decide)
  omega)).trans HC9.out))
 have H21q:=ħ (role21 w11 col9 q v9 j9 l9 w.heap.size _ false [] HQ.out)
 have H22q:=ħ (term22 w11 col9 q v9 j9 l9 w.heap.size _ false [] HQ.out)
 have H17q:=ħ (lastIndex17 w11 col9 q v9 j9 l9 w.heap.size _ false [] HQ.out (by rw[aw_a.2.2.2.1];decide))
 have H16q:=ħ fun W (hb:Below w11.heap.size w11 W)=>commit16 W col9 q v9 j9 l9 w.heap.size _ false [] (HQ.out.below hb)
 have H20q:=ħ fun W (hb:Below w11.heap.size w11 W)=>leader20 W col9 q v9 j9 l9 w.heap.size _ false [] (HQ.out.below hb)
 rw[aw_a.2.1] at H21q
 rw[aw_a.2.2.1] at H22q
 rw[aw_a.2.2.2.1] at H17q
 rw[aw_a.2.2.2.2.1] at H16q
 rw[aw_a.2.2.2.2.2.1] at H20q
 have hb11:=HB9.out.trans (HB11.out.mono HB9.out.size)
 have HB:=ħ hb11
 obtain ⟨x0,x1,x2⟩:=HX.out.facts
 have x3:w11.cell? ⟨w7.heap.size,0,none⟩=some (.int .i64 1):=HX.out.cell 0
 have x4:w11.cell? ⟨w7.heap.size,1,none⟩=some (.int .i64 2):=HX.out.cell 1
 have x5:w11.cell? ⟨w7.heap.size,2,none⟩=some (.slice A7 1 c7):=HX.out.cell 2
 have hcv2:(convert 46 9 (.slice A7 1 c7)).run Tryz.prog w11=.ok (.string { data:=#[120] }) w11:=by
  have h:=HCV.out
  rw[show strOfNums [120] = { data:=#[120] } from by decide +kernel] at h
  exact h
 clear hb11 x1
 go_wp2_with (first
  | (go_at_call 16;((with_reducible refine H16p.out.mono ?_);rintro e w12 ⟨rfl,rfl⟩))
  | (go_at_call 21;((with_reducible refine H21q.out.mono ?_);rintro e w12 ⟨rfl,rfl⟩))
  | (go_at_call 22;((with_reducible refine H22q.out.mono ?_);rintro e w12 ⟨rfl,rfl⟩))
  | (go_at_call 17;((with_reducible refine H17q.out.mono ?_);rintro e w12 ⟨rfl,b12⟩;have HB12:=ħ b12;clear b12))
  | (go_at_call 16;((with_reducible refine (H16q.out w12 HB12.out).mono ?_);rintro e w13 ⟨rfl,rfl⟩))
  | (go_at_call 20;((with_reducible refine (H20q.out w12 HB12.out).mono ?_);rintro e w13 ⟨rfl,rfl⟩)))
 go_ret
 exact ⟨rfl,HB.out.trans (HB12.out.mono HB.out.size)⟩
end Go.Proofs.YtdfobfjpkjddpaaGreat

import Derived.Test.YtdfobfjpkjddpaaGreatUG26
import Derived.Test.YtdfobfjpkjddpaaGreatUG6
import Derived.Test.YtdfobfjpkjddpaaGreatUG16
set_option linter.unusedVariables false
set_option linter.unusedSimpArgs false
set_option maxRecDepth 10000
set_option maxHeartbeats 4000000
namespace Go.Proofs.YtdfobfjpkjddpaaGreat
open Go.RowKit Go.Own Go.Quo Go.Wire Go.Raft
attribute [local irreducible] Go.wpQuiet
abbrev mdC (id wait beat now:Int)(m:Ms):Array Value:=#[.int .i64 id,.slice m.A m.o.length m.c,.slice m.A' m.n.length m.c',.int .i64 wait,.int .i64 beat,.int .i64 now]
def OkQ (f:Nat)(X:Nat→Prop)(s:Nd)(w:World)(e:Ending)(w':World):Prop:=
 ∃ p v j l col,e=.returned (.pointer (some ⟨p,0,none⟩))∧NS w' col p v j l f s false []∧Clean col∧(∀ k,col k≠0→k=f∨(X k∧k<w.heap.size)∨w.heap.size≤k)∧Fr (fun k=>k=f∨X k) w w'
structure RcOk (recs:List (Int × List Int)) (term voted:Int) (L:List Ent):Prop where
 fit:(encJ initS recs).length≤16777216
 rl:recs.length≤400000
 ok:∀ x∈recs,recOk x
 rv:rAll recs (0,-1)=some (term,voted)
 lg:lAll recs []=some L
 e:∀ e∈L,EW e
 s:Srt L
 ll:L.length≤400000
theorem RcOk.nil:RcOk [] 0 (-1) []:=⟨by simp[encJ],by simp,(fun x hx=>by cases hx),rfl,rfl,(fun x hx=>by cases hx),(fun i j a b _ ha _=>(nil_at ha).elim),by simp⟩
theorem RcOk.of {k:Nat}{s:Nd}(h:Wf k s)(hk:k≤2000):RcOk s.recs s.term s.voted s.log:=⟨h.fit hk,by have:=h.rn;omega,h.rk,h.rv,h.rl,fun e he=>(h.ew e he).1,h.so,by have:=h.ln;omega⟩
theorem open23 (w:World)(f:Nat)(X B:Nat→Prop)(id wait beat now:Int)(m:Ms)(recs:List (Int × List Int))(term voted:Int)(L:List Ent)(hfp:FileP w f X (encJ initS recs) (encJ initS recs).length false)(hm:MR w B m)(hid:0≤id∧id<9)(hpm:permB m.o m.n=true)(hwb:1≤wait∧wait≤MT∧1≤beat∧beat≤MT)(hR:RcOk recs term voted L) :
 Calls Tryz.prog 23 #[.agg (mdC id wait beat now m),.pointer (some ⟨f,0,none⟩)] w (OkQ f X (opened id wait beat (max 0 (min (max now 0) MT)) ⟨m.o,m.n⟩ recs term voted L) w):=by
 have b1:Below w.heap.size w (w.alloc (.cells (mdC id wait beat now m) 26)):=(Below.refl _ _).alloc (Nat.le_refl _) _
 have g1:Blk (w.alloc (.cells (mdC id wait beat now m) 26)) w.heap.size 26 (mdC id wait beat now m):=Blk.new w 26 _
 have m1:=hm.alloc (.cells (mdC id wait beat now m) 26)
 have f1:=hfp.cut.fr (Fr.of_below (S:=fun _=>False) b1) (fun e=>e) (fun _ _ e=>e)
 have hfl:=hfp.lt
 have hsz:(w.alloc (.cells (mdC id wait beat now m) 26)).heap.size=w.heap.size+1:=by simp
 have HSZ:=ħ hsz
 generalize hT:opened id wait beat (max 0 (min (max now 0) MT)) ⟨m.o,m.n⟩ recs term voted L=T at *
 clear hfp hm hsz
 go_enter Tryz.func23,Tryz.ntmps23
 go_upto_region 1 with fail
 generalize w.alloc (.cells (mdC id wait beat now m) 26)=W1 at *
 have HC:=ħ fun W (hb:Below W1.heap.size W1 W)=>conf10 _ m W (m1.below hb)
 have HO:=ħ fun W (hb:Below W1.heap.size W1 W) (m':Ms) (e1:m'.o=m.o) (e2:m'.n=m.n) (x:MR W (W1.heap.size≤·) m')=>(show Calls Tryz.prog 9 #[.int .i64 id,msV m',.pointer (some ⟨f,0,none⟩),.int .i64 wait,.int .i64 beat,.int .i64 now] W (OkP f (fun k=>X k∧k<w.heap.size) T W) from by
  have:=open9_ok W f (fun k=>X k∧k<w.heap.size) _ id wait beat now m' recs term voted L (f1.fr (Fr.of_below (S:=fun _=>False) hb) (fun e=>e) (fun _ _ e=>e)) x (fun k hk e=>by have:=HSZ.out;omega) hid (by rw[e1,e2];exact hpm) hwb hR.fit hR.rl hR.ok hR.rv hR.lg hR.e hR.s hR.ll
  rw[e1,e2,hT] at this
  exact this)
 have HK:=ħ fun W (b:Blk W w.heap.size 26 (mdC id wait beat now m))=>(show (W.cell? ⟨w.heap.size,0,none⟩=some (.int .i64 id))∧(W.cell? ⟨w.heap.size,1,none⟩=some (.slice m.A m.o.length m.c)∧W.cell? ⟨w.heap.size,2,none⟩=some (.slice m.A' m.n.length m.c'))∧(W.cell? ⟨w.heap.size,3,none⟩=some (.int .i64 wait))∧(W.cell? ⟨w.heap.size,4,none⟩=some (.int .i64 beat))∧(W.cell? ⟨w.heap.size,5,none⟩=some (.int .i64 now)) from ⟨b.cell 0,⟨b.cell 1,b.cell 2⟩,b.cell 3,b.cell 4,b.cell 5⟩)
 have S1:=HK.out W1 g1
 go_region_held (fun W=>(W.cell? ⟨w.heap.size,0,none⟩=some (.int .i64 id))∧(W.cell? ⟨w.heap.size,1,none⟩=some (.slice m.A m.o.length m.c)∧W.cell? ⟨w.heap.size,2,none⟩=some (.slice m.A' m.n.length m.c'))∧(W.cell? ⟨w.heap.size,3,none⟩=some (.int .i64 wait))∧(W.cell? ⟨w.heap.size,4,none⟩=some (.int .i64 beat))∧(W.cell? ⟨w.heap.size,5,none⟩=some (.int .i64 now))) (first | assumption | exact S1) (first
  | (((with_reducible refine (HC.out _ ((Below.refl _ _).drew)).mono ?_);rintro e w5 ⟨m',rfl,e1,e2,mr5,b5⟩;have B5:=((Below.refl W1.heap.size W1).drew).trans b5;have g5:=g1.below B5 g1.lt;have S5:=HK.out _ g5;have E1:=ħ e1;have E2:=ħ e2;have M5:=ħ (show MR w5 (W1.heap.size≤·) m' from mr5);clear b5 e1 e2 mr5))
  | (((with_reducible refine (HO.out _ B5 m' E1.out E2.out M5.out).mono ?_);rintro e w6 ⟨p,v,j,l,col,rfl,n6,cl6,sp6,fr6⟩;have g6:=g5.fr fr6 (fun e=>e.elim (fun h=>by omega) (fun h=>by have:=h.2;omega));have S6:=HK.out _ g6;have N6:=ħ n6;clear n6)))
 all_goals
  go_wp2_with fail
  go_ret
  refine ⟨p,v,j,l,col,rfl,N6.out,cl6,fun k hk=>?_,?_⟩
  ·have hs:=B5.size
   have:=HSZ.out
   rcases sp6 k hk with h | h | h
   ·exact .inl h
   ·exact .inr (.inl ⟨h.1.1,h.1.2⟩)
   ·exact .inr (.inr (by omega))
  ·exact ((Fr.of_below b1).trans (Fr.of_below B5)).trans (fr6.mono (fun k _ hk=>hk.elim .inl (fun h=>.inr h.1)))
theorem again26 (w:World)(f:Nat)(X B:Nat→Prop)(id wait beat now0 now:Int)(m:Ms)(recs:List (Int × List Int))(term voted:Int)(L:List Ent)(hfp:FileP w f X (encJ initS recs) (encJ initS recs).length false)(hm:MR w B m)(hBf:∀ k,B k→k≠f)(hid:0≤id∧id<9)(hpm:permB m.o m.n=true)(hwb:1≤wait∧wait≤MT∧1≤beat∧beat≤MT)(hR:RcOk recs term voted L) :
 Calls Tryz.prog 26 #[.agg (mdC id wait beat now0 m),.pointer (some ⟨f,0,none⟩),.int .i64 now] w (OkQ f X (opened id wait beat (max 0 (min (max now 0) MT)) ⟨m.o,m.n⟩ recs term voted L) w):=by
 have b1:Below w.heap.size w (w.alloc (.cells (mdC id wait beat now0 m) 26)):=(Below.refl _ _).alloc (Nat.le_refl _) _
 have g1:Blk (w.alloc (.cells (mdC id wait beat now0 m) 26)) w.heap.size 26 (mdC id wait beat now0 m):=Blk.new w 26 _
 have m1:=(show MR w (fun k=>B k∧k<w.heap.size) m from ⟨hm.o.old (by omega),hm.n.old (by omega),hm.ol,hm.nl⟩).alloc (.cells (mdC id wait beat now0 m) 26)
 have f1:=hfp.cut.fr (Fr.of_below (S:=fun _=>False) b1) (fun e=>e) (fun _ _ e=>e)
 have hfl:=hfp.lt
 have hsz:(w.alloc (.cells (mdC id wait beat now0 m) 26)).heap.size=w.heap.size+1:=by simp
 have HSZ:=ħ hsz
 generalize hT:opened id wait beat (max 0 (min (max now 0) MT)) ⟨m.o,m.n⟩ recs term voted L=T at *
 clear hfp hm hsz
 go_enter Tryz.func26,Tryz.ntmps26
 go_upto_region 1 with fail
 generalize w.alloc (.cells (mdC id wait beat now0 m) 26)=W1 at *
 have H12:=ħ (powerFail_any W1 f _ _ 0 0 f1 hR.fit (by decide))
 have H50:=ħ fun W (x:FileP W f (fun k=>X k∧k<w.heap.size) (encJ initS recs) (encJ initS recs).length true)=>powerOn_any W f _ _ _ true x
 go_upto_region 3 with (first
  | (go_at_call 12;((with_reducible refine H12.out.mono ?_);rintro e w2 ⟨rfl,fp2,fr2⟩))
  | (go_at_call 50;((with_reducible refine (H50.out w2 fp2).mono ?_);rintro e w3 ⟨rfl,fp3,fr3⟩)))
 have fr23:=fr2.trans fr3
 have g3:=g1.fr fr23 (by omega)
 have m3:=m1.fr fr23 (fun k hk e=>hBf k hk.1 e)
 have hs3:=fr23.size
 have g4:Blk (w3.setCell ⟨w.heap.size,5,none⟩ (.int .i64 now)) w.heap.size 26 (mdC id wait beat now m):=g3.set_ 5 (.int .i64 now)
 have f4:Fr (fun k=>k=w.heap.size) w3 (w3.setCell ⟨w.heap.size,5,none⟩ (.int .i64 now)):=(Fr.refl (fun k=>k=w.heap.size) w3).setCell (p:=⟨w.heap.size,5,none⟩) (.inl rfl) _
 have m4:=m3.fr f4 (fun k hk e=>by have:=hk.2;omega)
 have fp4:=fp3.fr f4 (by omega) (fun k hk e=>by have:=hk.2;omega)
 have F4:Fr (fun k=>k=f∨X k) w (w3.setCell ⟨w.heap.size,5,none⟩ (.int .i64 now)):=((Fr.of_below b1).trans (fr23.mono (fun k _ hk=>Or.inl hk))).setCell (p:=⟨w.heap.size,5,none⟩) (.inr (Nat.le_refl _)) _
 have hs4:w.heap.size<(w3.setCell ⟨w.heap.size,5,none⟩ (.int .i64 now)).heap.size:=g4.lt
 obtain ⟨q0,q1,q2⟩:=g3.facts
 go_upto_region 4 with fail
 clear q0 q1 q2 g3 f4 m3 fp3 g1 m1 f1 fr2 fr3 fr23
 generalize w3.setCell ⟨w.heap.size,5,none⟩ (.int .i64 now)=W4 at *
 have H23:=ħ (open23 W4 f _ _ id wait beat now m recs term voted L fp4 m4 hid hpm hwb hR)
 rw[hT] at H23
 obtain ⟨q0,q1,q2⟩:=g4.facts
 go_wp2_with (go_at_call 23;((with_reducible refine H23.out.mono ?_);rintro e w6 ⟨p,v,j,l,col,rfl,n6,cl6,sp6,fr6⟩;have N6:=ħ n6;clear n6))
 go_ret
 refine ⟨p,v,j,l,col,rfl,N6.out,cl6,fun k hk=>?_,?_⟩
 ·rcases sp6 k hk with h | h | h
  ·exact .inl h
  ·exact .inr (.inl h.1)
  ·exact .inr (.inr (by omega))
 ·exact F4.trans (fr6.mono (fun k _ hk=>hk.elim .inl (fun h=>.inr h.1)))
theorem again_w (w:World)(col:Nat→Nat)(p v j l f:Nat)(s:Nd)(outs:List Msg)(h:NS w col p v j l f s false outs){k:Nat}(hw:Wf k s)(hk:k≤1900)(B:Nat→Prop)(m:Ms)(hm:MR w B m)(hB:∀ k,B k→col k=0)(hmo:m.o=s.c0.o∧m.n=s.c0.n)(now0 now:Int) :
 Calls Tryz.prog 26 #[.agg (mdC s.id s.wait s.beat now0 m),.pointer (some ⟨f,0,none⟩),.int .i64 now] w (OkQ f (fun k=>col k=3) (s.again now) w):=by
 obtain ⟨mi,mm,Ao,co,ms,dur,hz,_⟩:=h
 have hf3:col f=3:=by
  obtain ⟨A,c,Ar,cr,As,cs,rs,h1,h2⟩:=hz.js
  exact h1.zp
 have:=again26 w f (fun k=>col k=3) B s.id s.wait s.beat now0 now m s.recs s.term s.voted s.log hz.vs.file hm (fun k hk e=>by have:=hB k hk;rw[e,hf3] at this;omega) hw.id (by rw[hmo.1,hmo.2];exact hw.pm) hw.wb (RcOk.of hw (by omega))
 rw[hmo.1,hmo.2,show max (0:Int) (min (max now 0) MT)=min (max now 0) MT by unfold MT;omega] at this
 exact this
end Go.Proofs.YtdfobfjpkjddpaaGreat
namespace Go.Raft
open Go.Quo Go.Wire Go.Proofs.YtdfobfjpkjddpaaGreat
def KP (s s':Nd):Prop:=s'.id=s.id∧s'.wait=s.wait∧s'.beat=s.beat∧s'.c0=s.c0
def EL (l:List Msg):Prop:=l.length≤64∧∀ m∈l,m.es.length≤16
section
variable {s s' s2:Nd}
theorem KP.refl (s:Nd):KP s s:=⟨rfl,rfl,rfl,rfl⟩
theorem KP.trans (h:KP s s')(k:KP s' s2):KP s s2:=⟨k.1.trans h.1,k.2.1.trans h.2.1,k.2.2.1.trans h.2.2.1,k.2.2.2.trans h.2.2.2⟩
theorem EL.nil:EL []:=⟨Nat.zero_le _,fun m h=>by cases h⟩
theorem EL.one {m:Msg}(h:m.es.length≤16):EL [m]:=⟨(show 1≤64 by decide),fun x hx=>by rw[List.mem_singleton] at hx;subst hx;exact h⟩
theorem oth_len (s:Nd):s.others.length≤64:=Nat.le_trans (List.length_filter_le _ _) (memF_le _ _)
theorem EL.map {l:List Int}{f:Int→Msg}(hl:l.length≤64)(h:∀ x,(f x).es.length≤16):EL (l.map f):=⟨by rw[List.length_map];exact hl,fun m hm=>by obtain ⟨x,_,rfl⟩:=List.mem_map.1 hm;exact h x⟩
theorem app_el (s:Nd)(x:Int):(s.app x).es.length≤16:=by
 show ((s.log.drop _).take 16).length≤16
 rw[List.length_take];omega
theorem msg_el (s:Nd)(a b c d e:Int)(g:Bool):(s.msg a b c d e g []).es.length≤16:=Nat.zero_le _
theorem apps_el (s:Nd):EL s.apps:=EL.map (oth_len s) (app_el s)
theorem KP.write (s:Nd)(p:Nat)(es:List Ent):KP s (s.write p es):=by
 unfold Nd.write
 split <;> exact KP.refl _
theorem KP.add (s:Nd)(k:Int)(b:List Int):KP s (s.add k b):=KP.write _ _ _
theorem KP.adv (s:Nd):KP s s.adv:=by
 have hc:KP s s.comm:=by unfold Nd.comm;split <;> exact KP.refl _
 unfold Nd.adv
 split
 ·exact hc
 ·split
  ·exact hc.trans (KP.add _ _ _)
  ·split
   ·exact hc
   ·exact hc
theorem KP.prop (s:Nd)(k:Int)(b:List Int):KP s (s.prop k b).1∧EL (s.prop k b).2:=⟨(KP.add s k b).trans (KP.adv _),apps_el _⟩
theorem KP.lead (s:Nd)(t:Int):KP s (s.lead t).1∧EL (s.lead t).2:=KP.prop s.lead0 1 []
theorem KP.start (s:Nd)(t:Int):KP s (s.start t).1∧EL (s.start t).2:=by
 unfold Nd.start
 split
 ·exact ⟨KP.refl _,EL.nil⟩
 ·split
  ·exact KP.lead (s.start0 t) t
  ·exact ⟨KP.refl _,EL.map (oth_len _) (fun x=>msg_el _ _ _ _ _ _ _)⟩
theorem KP.tick (s:Nd)(now:Int):KP s (s.tick now).1∧EL (s.tick now).2:=by
 unfold Nd.tick Nd.tick1
 split
 ·split
  ·exact ⟨KP.refl _,apps_el _⟩
  ·exact ⟨KP.refl _,EL.nil⟩
 ·split
  ·exact KP.start (s.clock now) _
  ·exact ⟨KP.refl _,EL.nil⟩
theorem KP.propose (s:Nd)(b:List Int):KP s (s.propose b).1∧EL (s.propose b).2:=by
 unfold Nd.propose
 split
 ·exact ⟨KP.refl _,EL.nil⟩
 ·exact KP.prop _ _ _
theorem KP.change (s:Nd)(l:List Int):KP s (s.change l).1∧EL (s.change l).2:=by
 unfold Nd.change
 split
 ·exact ⟨KP.refl _,EL.nil⟩
 ·split
  ·exact ⟨KP.refl _,EL.nil⟩
  ·split
   ·exact KP.prop _ _ _
   ·exact ⟨KP.refl _,EL.nil⟩
theorem KP.replied (s:Nd)(m:Msg):KP s (s.replied m).1∧EL (s.replied m).2:=by
 have h:KP s (s.seen m).adv:=KP.adv (s.seen m)
 unfold Nd.replied
 split
 ·exact ⟨KP.refl _,EL.one (app_el _ _)⟩
 ·split
  ·exact ⟨KP.refl _,EL.nil⟩
  ·split
   ·exact ⟨h,EL.nil⟩
   ·split
    ·exact ⟨h,apps_el _⟩
    ·split
     ·exact ⟨h,EL.one (app_el _ _)⟩
     ·exact ⟨h,EL.nil⟩
theorem KP.receive (s:Nd)(m:Msg)(t:Int):KP s (s.receive m t).1∧EL (s.receive m t).2:=by
 unfold Nd.receive
 split
 ·exact ⟨KP.write s _ _,EL.one (msg_el _ _ _ _ _ _ _)⟩
 ·exact ⟨KP.refl _,EL.one (msg_el _ _ _ _ _ _ _)⟩
theorem KP.requested (s:Nd)(m:Msg)(t:Int):KP s (s.requested m t).1∧EL (s.requested m t).2:=by
 unfold Nd.requested Nd.grant0
 split
 ·refine ⟨?_,EL.one (msg_el _ _ _ _ _ _ _)⟩
  show KP s { (if 0≤s.voted then s else _) with since:=t }
  split <;> exact KP.refl _
 ·exact ⟨KP.refl _,EL.one (msg_el _ _ _ _ _ _ _)⟩
theorem KP.step2 (s:Nd)(m:Msg)(t:Int):KP s (s.step2 m t).1∧EL (s.step2 m t).2:=by
 unfold Nd.step2
 split
 ·exact KP.requested _ _ _
 ·split
  ·split
   ·split
    ·exact KP.lead (s.gotVote m) t
    ·exact ⟨KP.refl _,EL.nil⟩
   ·exact ⟨KP.refl _,EL.nil⟩
  ·split
   ·split
    ·exact KP.receive _ _ _
    ·exact ⟨KP.refl _,EL.nil⟩
   ·split
    ·exact KP.replied _ _
    ·exact ⟨KP.refl _,EL.nil⟩
theorem KP.later (s:Nd)(m:Msg):KP s (s.later m):=by
 unfold Nd.later
 split <;> exact KP.refl _
theorem KP.step (s:Nd)(m:Msg)(now:Int):KP s (s.step m now).1∧EL (s.step m now).2:=by
 unfold Nd.step Nd.step1
 split
 ·exact ⟨KP.refl _,EL.nil⟩
 ·split
  ·exact ⟨KP.refl _,EL.nil⟩
  ·split
   ·refine ⟨KP.later (s.clock now) m,?_⟩
    unfold Nd.refuse
    split
    ·exact EL.one (msg_el _ _ _ _ _ _ _)
    ·split
     ·exact EL.one (msg_el _ _ _ _ _ _ _)
     ·exact EL.nil
   ·exact ⟨(KP.later (s.clock now) m).trans (KP.step2 _ _ _).1,(KP.step2 _ _ _).2⟩
end
structure NW (c0:Mb) (k i:Nat) (s:Nd):Prop where
 w:Wf k s
 id:s.id=i
 wait:s.wait=8+2 * (i:Int)
 beat:s.beat=2
 c0:s.c0=c0
structure CW (c0:Mb) (k:Nat) (C:Cl):Prop where
 n:∀ (i:Nat) (s:Nd),C.nd[i]?=some s→NW c0 k i s
 m:∀ m∈C.ms,MW k m∧m.es.length≤16
 l:C.ms.length≤200
 t:0≤C.now∧C.now≤8 * k
set_option maxRecDepth 4000
section
variable {c0:Mb} {k:Nat} {C:Cl} {G:Gh}
theorem CInv.tm (h:CInv c0 G C){i:Nat}{s:Nd}(hs:C.nd[i]?=some s)(hr:s.role=3):1≤s.term:=by
 have:=h.g.g0 _ _ ((h.n i s hs).1.n5 hr).1
 exact this
theorem NW.upd {i:Nat}{s:Nd}{r:Nd × List Msg}(h:NW c0 k i s){k':Nat}(hw:WOut k' r)(hk:KP s r.1):NW c0 k' i r.1:=
 ⟨hw.1,hk.1.trans h.id,hk.2.1.trans h.wait,hk.2.2.1.trans h.beat,hk.2.2.2.trans h.c0⟩
theorem MW.more {k n:Nat}{m:Msg}(h:MW k m)(hk:k≤n):MW n m:=⟨by have:=h.t;omega,h.e⟩
theorem last_len (l:List Msg):(Cl.last200 l).length≤200:=by unfold Cl.last200;rw[List.length_drop];omega
theorem CW.more (h:CW c0 k C):CW c0 (k+4) C:=⟨fun i s hs=>⟨(h.n i s hs).w.more (by omega),(h.n i s hs).id,(h.n i s hs).wait,(h.n i s hs).beat,(h.n i s hs).c0⟩,fun m hm=>⟨(h.m m hm).1.more (by omega),(h.m m hm).2⟩,h.l,by have:=h.t;omega⟩
theorem CW.ms (h:CW c0 k C){l:List Msg}(hl:∀ m∈l,m∈C.ms)(hn:l.length≤200):CW c0 k ⟨C.nd,l,C.now⟩:=⟨h.n,fun m hm=>h.m m (hl m hm),hn,h.t⟩
theorem CW.put {i:Nat}{s:Nd}{r:Nd × List Msg}(h:CW c0 (k+4) C)(hi:C.nd[i]?=some s)(hs:NW c0 k i s)(hw:WOut (k+4) r)(hk:KP s r.1∧EL r.2):CW c0 (k+4) (C.put i r):=by
 refine ⟨fun j x hx=>?_,fun m hm=>?_,last_len _,h.t⟩
 ·rw[put_get C i r j hi] at hx
  by_cases hj:j=i
  ·rw[if_pos hj] at hx;injection hx with hx;subst hx;subst hj;exact hs.upd hw hk.1
  ·rw[if_neg hj] at hx;exact h.n j x hx
 ·have hm':=last_mem m hm
  rcases List.mem_append.1 hm' with h1 | h1
  ·exact h.m m h1
  ·exact ⟨hw.2 m h1,hk.2.2 m h1⟩
theorem CW.cut (h:CW c0 k C)(i:Nat):CW c0 k (C.cut i):=h.ms (fun m hm=>List.mem_of_mem_eraseIdx hm) (by have:=h.l;have:=List.length_eraseIdx_le C.ms i;omega)
theorem CW.come (h:CW c0 k C)(hk:k≤1400)(i:Nat):CW c0 (k+4) (C.come i):=by
 unfold Cl.come
 split
 ·exact h.more
 ·rename_i m hm
  split
  ·exact (h.cut i).more
  ·split
   ·exact (h.cut i).more
   ·rename_i s hs
    have h1:=h.n _ s hs
    exact (h.cut i).more.put (s:=s) hs h1 (h1.w.step (by omega) (h.m m (List.mem_of_getElem? hm)).1 _) (KP.step _ _ _)
theorem CW.step (h:CW c0 k C)(hI:CInv c0 G C)(hk:k≤1400)(kind who N:Nat)(body:List Int)(hb:body.length≤200∧Bytes body):CW c0 (k+4) (C.step kind who N body):=by
 unfold Cl.step
 split
 ·exact h.more
 ·rename_i s hs
  have h1:=h.n _ s hs
  have htm:=hI.tm hs
  split
  ·have h2:CW c0 (k+4) { C with now:=C.now+(N % 8:Nat) }:=⟨h.more.n,h.more.m,h.more.l,by have:=h.t;show 0≤C.now+_∧C.now+_≤_;omega⟩
   exact h2.put (s:=s) hs h1 ((h1.w.tick (by omega) _).more (by omega)) (KP.tick _ _)
  ·exact (h.cut _).more
  ·split
   ·exact h.more
   ·rename_i m hm
    have hm':=h.m m (List.mem_of_getElem? hm)
    refine ⟨h.more.n,fun x hx=>?_,last_len _,h.more.t⟩
    have:=last_mem x hx
    rcases List.mem_append.1 this with h3 | h3
    ·exact h.more.m x h3
    ·rw[List.mem_singleton] at h3;subst h3;exact ⟨hm'.1.more (by omega),hm'.2⟩
  ·exact h.more.put hs h1 ((h1.w.propose (by omega) htm hb).more (by omega)) (KP.propose _ _)
  ·exact h.more.put hs h1 ((h1.w.change (by omega) htm _).more (by omega)) (KP.change _ _)
  ·refine ⟨fun j x hx=>?_,h.more.m,h.more.l,h.more.t⟩
   have hx':(C.nd.set (who % C.nd.length) (s.again C.now))[j]?=some x:=hx
   rw[List.getElem?_set] at hx'
   split at hx'
   ·rename_i e
    split at hx'
    ·injection hx' with hx';subst hx';subst e
     exact ⟨(h1.w.again _).more (by omega),h1.id,h1.wait,h1.beat,h1.c0⟩
    ·cases hx'
   ·exact h.more.n j x hx'
  ·exact h.come hk _
end
end Go.Raft
namespace Go.Proofs.YtdfobfjpkjddpaaGreat
open Go.RowKit Go.Own Go.Quo Go.Wire Go.Raft
attribute [local irreducible] Go.wpQuiet
structure NQ where
 p:Nat
 v:Nat
 j:Nat
 l:Nat
 f:Nat
 col:Nat→Nat
 s:Nd
def mdR (fo:Ms)(i:Nat):List Value:=[.int .i64 (i:Int),.slice fo.A fo.o.length fo.c,.slice fo.A' fo.n.length fo.c',.int .i64 (8+2 * (i:Int)),.int .i64 2,.int .i64 0]
theorem mdR_len (fo:Ms)(i:Nat):(mdR fo i).length=6:=rfl
structure CZ (w:World) (cc:Nat→Nat) (g:Nat) (C:Cl) (K:List NQ) (fo:Ms) (Am:Option Addr) (cm:Nat) (Ap:Option Addr) (cp:Nat) (At:Option Addr) (ct:Nat) (Al:Option Addr) (cl:Nat) (mv:List MV):Prop where
 b:Blk w g 55 #[.slice Am K.length cm,.slice Ap K.length cp,.slice At K.length ct,.slice Al mv.length cl,.int .i64 C.now,.bool false]
 gc:cc g=1
 om:w.ownsRow 0 26 6 (.slice Am K.length cm) K.length ((List.range K.length).flatMap (mdR fo))
 op:w.ownsRow 0 31 1 (.slice Ap K.length cp) K.length (K.map fun x=>.pointer (some ⟨x.p,0,none⟩))
 ot:w.ownsRow 0 36 1 (.slice At K.length ct) K.length (K.map fun x=>.pointer (some ⟨x.f,0,none⟩))
 ol:w.ownsRow 0 99 9 (.slice Al mv.length cl) mv.length (mv.flatMap mvL)
 mc:∀ k,(Value.slice Am K.length cm).ownBlock=some k→cc k=1
 pc:∀ k,(Value.slice Ap K.length cp).ownBlock=some k→cc k=1
 tc:∀ k,(Value.slice At K.length ct).ownBlock=some k→cc k=1
 lc:∀ k,(Value.slice Al mv.length cl).ownBlock=some k→cc k=1
 fo:MR w (fun k=>cc k=100) fo
 nd:K.map (fun x=>x.s)=C.nd
 ms:mv.map MV.m=C.ms
 mb:MsB w (fun k=>cc k=0) mv
 n:∀ (i:Nat) (x:NQ),K[i]?=some x→NS w x.col x.p x.v x.j x.l x.f x.s false []∧Clean x.col∧∀ k,x.col k≠0→cc k=2+i
 lt:∀ k,cc k≠0→k<w.heap.size
def CS (w:World)(cc:Nat→Nat)(g:Nat)(C:Cl)(fo:Ms):Prop:=∃ K Am cm Ap cp At ct Al cl mv,CZ w cc g C K fo Am cm Ap cp At ct Al cl mv
structure CB (w:World) (cc:Nat→Nat) (g:Nat) (C:Cl) (fo:Ms) (W:World) (cr:Nat→Nat):Prop where
 n:CS W cr g C fo
 ag:∀ k,k<w.heap.size→cr k=cc k
 fr:Fr (fun k=>cc k≠0∧cc k≠101) w W
section
variable {w w' w2 w5:World} {cc c1:Nat→Nat} {g:Nat} {C C2:Cl} {K:List NQ} {fo:Ms} {Am Ap At Al A5:Option Addr} {cm cp ct cl c5:Nat} {mv mv':List MV}
theorem fr_hot (h:Fr (fun k=>cc k≠0∧cc k≠101) w w')(ag:∀ k,k<w.heap.size→c1 k=cc k)(h2:Fr (fun k=>c1 k≠0∧c1 k≠101) w' w2):Fr (fun k=>cc k≠0∧cc k≠101) w w2:=
 ((h.mono (T:=fun k=>(cc k≠0∧cc k≠101)∨w.heap.size≤k) (fun k _ hk=>.inl hk)).trans (h2.mono (fun k _ hk=>by
  rcases Nat.lt_or_ge k w.heap.size with hl | hl
  ·left;rw[←ag k hl];exact hk
  ·exact .inr hl))).mono (fun k hk hh=>hh.elim id (fun e=>by omega))
theorem MsB.old {B:Nat→Prop}{ms:List MV}(h:MsB w B ms):MsB w (fun k=>B k∧k<w.heap.size) ms:=fun x hx=>⟨(h x hx).1.old,(h x hx).2⟩
theorem CZ.fr {S:Nat→Prop}(h:CZ w cc g C K fo Am cm Ap cp At ct Al cl mv)(hf:Fr S w w')(hS:∀ k,k<w.heap.size→¬ S k):CZ w' cc g C K fo Am cm Ap cp At ct Al cl mv where
 b:=h.b.fr hf (hS g h.b.lt)
 gc:=h.gc
 om:=own_fr h.om hf (fun k hk=>hS k (own_lt h.om hk))
 op:=own_fr h.op hf (fun k hk=>hS k (own_lt h.op hk))
 ot:=own_fr h.ot hf (fun k hk=>hS k (own_lt h.ot hk))
 ol:=own_fr h.ol hf (fun k hk=>hS k (own_lt h.ol hk))
 mc:=h.mc
 pc:=h.pc
 tc:=h.tc
 lc:=h.lc
 fo:=h.fo.fr hf (fun k hk=>hS k (h.lt k (by rw[hk];decide)))
 nd:=h.nd
 ms:=h.ms
 mb:=(h.mb.old.fr hf (fun k hk=>hS k hk.2)).more (fun k hk=>hk.1)
 n i x hx:=⟨(h.n i x hx).1.fr hf (fun k hk=>hS k ((h.n i x hx).1.lt k hk)),(h.n i x hx).2⟩
 lt k hk:=Nat.lt_of_lt_of_le (h.lt k hk) hf.size
theorem CS.below (h:CS w cc g C fo)(hb:Below w.heap.size w w'):CS w' cc g C fo:=by
 obtain ⟨K,Am,cm,Ap,cp,At,ct,Al,cl,mv,h⟩:=h
 exact ⟨K,Am,cm,Ap,cp,At,ct,Al,cl,mv,h.fr (S:=fun _=>False) (Fr.of_below hb) (fun _ _ e=>e)⟩
theorem CB.below (h:CB w cc g C fo w' c1)(hb:Below w'.heap.size w' w2):CB w cc g C fo w2 c1:=⟨h.n.below hb,h.ag,h.fr.trans (Fr.of_below hb)⟩
theorem CB.trans {c2:Nat→Nat}(h:CB w cc g C fo w' c1)(k:CB w' c1 g C2 fo w2 c2):CB w cc g C2 fo w2 c2:=
 ⟨k.n,fun i hi=>(k.ag i (Nat.lt_of_lt_of_le hi h.fr.size)).trans (h.ag i hi),fr_hot h.fr h.ag k.fr⟩
theorem CZ.setl (h:CZ w cc g C K fo Am cm Ap cp At ct Al cl mv)(hf:Fr (fun k=>(Value.slice Al mv.length cl).ownBlock=some k) w w5)(ho:w5.ownsRow 0 99 9 (.slice A5 mv'.length c5) mv'.length (mv'.flatMap mvL))
 (hat:∀ k,(Value.slice A5 mv'.length c5).ownBlock=some k→(Value.slice Al mv.length cl).ownBlock=some k∨w.heap.size≤k) (hm:MsB w (fun k=>cc k=0) mv') :
 ∃ c1,CZ (w5.setCell ⟨g,3,none⟩ (.slice A5 mv'.length c5)) c1 g { C with ms:=mv'.map MV.m } K fo Am cm Ap cp At ct A5 c5 mv'∧(∀ k,k<w.heap.size→c1 k=cc k)∧Fr (fun k=>cc k≠0∧cc k≠101) w (w5.setCell ⟨g,3,none⟩ (.slice A5 mv'.length c5)):=by
 classical
 obtain ⟨c1,k1,k2,k3⟩:∃ c1:Nat→Nat,(∀ k,k<w.heap.size→c1 k=cc k)∧(∀ k,(Value.slice A5 mv'.length c5).ownBlock=some k→c1 k=1)∧(∀ k,c1 k≠0→k<w5.heap.size):=by
  refine ⟨fun k=>if w.heap.size≤k then (if (Value.slice A5 mv'.length c5).ownBlock=some k then 1 else 0) else cc k,fun k hk=>if_neg (by omega),fun k hk=>?_,fun k hk=>?_⟩
  ·simp only
   rcases hat k hk with h1 | h1
   ·rw[if_neg (by have:=own_lt h.ol h1;omega)];exact h.lc k h1
   ·rw[if_pos h1,if_pos hk]
  ·simp only at hk
   split at hk
   ·split at hk
    ·rename_i e;exact own_lt ho e
    ·exact absurd rfl hk
   ·exact Nat.lt_of_lt_of_le (h.lt k hk) hf.size
 have ne:∀ k,cc k≠1→¬ (Value.slice Al mv.length cl).ownBlock=some k:=fun k hk e=>hk (h.lc k e)
 have b5:Blk w5 g 55 #[.slice Am K.length cm,.slice Ap K.length cp,.slice At K.length ct,.slice Al mv.length cl,.int .i64 C.now,.bool false]:=h.b.fr hf (fun e=>own_ne h.ol h.b (by decide) g e rfl)
 have nrow:∀ {t:TypeId} {sz n c:Nat} {A:Option Addr} {xs:List Value} (ho':w.ownsRow 0 t sz (.slice A n c) n xs) (ht:t≠99),∀ k,(Value.slice A n c).ownBlock=some k→¬ (Value.slice Al mv.length cl).ownBlock=some k:=by
  intro t sz n c A xs ho' ht k hk e
  rcases ho'.2 with ⟨e1,_⟩ | ⟨g',cap,cur,e1,_,e2,_⟩
  ·rw[e1] at hk;cases hk
  ·rcases h.ol.2 with ⟨f1,_⟩ | ⟨g2,cap2,cur2,f1,_,f2,_⟩
   ·rw[f1] at e;cases e
   ·rw[e1] at hk;rw[f1] at e
    have a1:some g'=some k:=hk
    have a2:some g2=some k:=e
    injection a1 with a1;injection a2 with a2
    subst a1;subst a2
    rw[e2] at f2
    injection f2 with f2
    injection f2 with _ f3
    exact ht f3
 have om5:=own_fr h.om hf (nrow h.om (by decide))
 have op5:=own_fr h.op hf (nrow h.op (by decide))
 have ot5:=own_fr h.ot hf (nrow h.ot (by decide))
 have f6:Fr (fun k=>k=g) w5 (w5.setCell ⟨g,3,none⟩ (.slice A5 mv'.length c5)):=(Fr.refl (fun k=>k=g) w5).setCell (p:=⟨g,3,none⟩) (.inl rfl) _
 have f7:Fr (fun k=>(Value.slice Al mv.length cl).ownBlock=some k∨k=g) w (w5.setCell ⟨g,3,none⟩ (.slice A5 mv'.length c5)):=(hf.mono (fun k _ hk=>Or.inl hk)).trans (f6.mono (fun k _ hk=>Or.inr hk))
 have n7:∀ k,cc k≠1→¬ ((Value.slice Al mv.length cl).ownBlock=some k∨k=g):=fun k hk e=>e.elim (ne k hk) (fun e=>hk (by rw[e];exact h.gc))
 refine ⟨c1,⟨b5.set_ 3 (.slice A5 mv'.length c5),by rw[k1 g h.b.lt];exact h.gc,own_set om5 (own_ne om5 b5 (by decide)) _,own_set op5 (own_ne op5 b5 (by decide)) _,own_set ot5 (own_ne ot5 b5 (by decide)) _,own_set ho (own_ne ho b5 (by decide)) _,fun k hk=>by rw[k1 k (own_lt h.om hk)];exact h.mc k hk,fun k hk=>by rw[k1 k (own_lt h.op hk)];exact h.pc k hk,fun k hk=>by rw[k1 k (own_lt h.ot hk)];exact h.tc k hk,k2,?_,h.nd,rfl,?_,?_,fun k hk=>by have:=k3 k hk;simpa using this⟩,k1,f7.mono (fun k _ hk=>?_)⟩
 ·refine ⟨?_,?_,h.fo.ol,h.fo.nl⟩
  ·exact (h.fo.o.fr f7 (fun k hk=>n7 k (by rw[hk];decide))).more (fun k hk=>by rw[k1 k (h.lt k (by rw[hk];decide))];exact hk)
  ·exact (h.fo.n.fr f7 (fun k hk=>n7 k (by rw[hk];decide))).more (fun k hk=>by rw[k1 k (h.lt k (by rw[hk];decide))];exact hk)
 ·exact (hm.old.fr f7 (fun k hk=>n7 k (by rw[hk.1];decide))).more (fun k hk=>by rw[k1 k hk.2];exact hk.1)
 ·intro i x hx
  obtain ⟨a1,a2,a3⟩:=h.n i x hx
  exact ⟨a1.fr f7 (fun k hk=>n7 k (by rw[a3 k hk];omega)),a2,fun k hk=>by rw[k1 k (a1.lt k hk)];exact a3 k hk⟩
 ·rcases hk with e | e
  ·rw[h.lc k e];decide
  ·rw[e,h.gc];decide
theorem CZ.node (h:CZ w cc g C K fo Am cm Ap cp At ct Al cl mv){i:Nat}{x:NQ}(hx:K[i]?=some x)(hi:i<90){s':Nd}{col':Nat→Nat}(hb:NB w x.col x.p x.v x.j x.l x.f s' false [] w' col')(hc:Clean col') :
 ∃ c1,CZ w' c1 g { C with nd:=C.nd.set i s' } (K.set i ⟨x.p,x.v,x.j,x.l,x.f,col',s'⟩) fo Am cm Ap cp At ct Al cl mv∧(∀ k,k<w.heap.size→c1 k=cc k)∧Fr (fun k=>cc k≠0∧cc k≠101) w w'∧(∀ k,w.heap.size≤k→col' k=0→c1 k=0):=by
 classical
 obtain ⟨a1,a2,a3⟩:=h.n i x hx
 have hil:=(List.getElem?_eq_some_iff.1 hx).1
 obtain ⟨c1,k1,k2,k3⟩:∃ c1:Nat→Nat,(∀ k,k<w.heap.size→c1 k=cc k)∧(∀ k,w.heap.size≤k→c1 k=if col' k=0 then 0 else 2+i)∧(∀ k,c1 k≠0→k<w'.heap.size):=by
  refine ⟨fun k=>if w.heap.size≤k then (if col' k=0 then 0 else 2+i) else cc k,fun k hk=>if_neg (by omega),fun k hk=>if_pos hk,fun k hk=>?_⟩
  simp only at hk
  split at hk
  ·split at hk
   ·exact absurd rfl hk
   ·rename_i e;exact hb.n.lt k e
  ·exact Nat.lt_of_lt_of_le (h.lt k hk) hb.fr.size
 have ne:∀ k,cc k≠2+i→¬ x.col k≠0:=fun k hk e=>hk (a3 k e)
 have hl:(K.set i ⟨x.p,x.v,x.j,x.l,x.f,col',s'⟩).length=K.length:=List.length_set
 have hp:(K.set i (⟨x.p,x.v,x.j,x.l,x.f,col',s'⟩:NQ)).map (fun x=>(Value.pointer (some ⟨x.p,0,none⟩)))=K.map (fun x=>(Value.pointer (some ⟨x.p,0,none⟩))):=by
  rw[List.map_set]
  refine List.ext_getElem? (fun k=>?_)
  rw[List.getElem?_set]
  split
  ·rename_i e;subst e;rw[List.length_map,if_pos hil,List.getElem?_map,hx];rfl
  ·rfl
 have hp2:(K.set i (⟨x.p,x.v,x.j,x.l,x.f,col',s'⟩:NQ)).map (fun x=>(Value.pointer (some ⟨x.f,0,none⟩)))=K.map (fun x=>(Value.pointer (some ⟨x.f,0,none⟩))):=by
  rw[List.map_set]
  refine List.ext_getElem? (fun k=>?_)
  rw[List.getElem?_set]
  split
  ·rename_i e;subst e;rw[List.length_map,if_pos hil,List.getElem?_map,hx];rfl
  ·rfl
 have one:∀ k,cc k=1→¬ x.col k≠0:=fun k hk=>ne k (by rw[hk];omega)
 refine ⟨c1,⟨by rw[hl];exact h.b.fr hb.fr (one g h.gc),by rw[k1 g h.b.lt];exact h.gc,by rw[hl];exact own_fr h.om hb.fr (fun k hk=>one k (h.mc k hk)),by rw[hl,hp];exact own_fr h.op hb.fr (fun k hk=>one k (h.pc k hk)),by rw[hl,hp2];exact own_fr h.ot hb.fr (fun k hk=>one k (h.tc k hk)),own_fr h.ol hb.fr (fun k hk=>one k (h.lc k hk)),fun k hk=>by rw[hl] at hk;rw[k1 k (own_lt h.om hk)];exact h.mc k hk,fun k hk=>by rw[hl] at hk;rw[k1 k (own_lt h.op hk)];exact h.pc k hk,fun k hk=>by rw[hl] at hk;rw[k1 k (own_lt h.ot hk)];exact h.tc k hk,fun k hk=>by rw[k1 k (own_lt h.ol hk)];exact h.lc k hk,⟨?_,?_,h.fo.ol,h.fo.nl⟩,?_,h.ms,?_,?_,k3⟩,k1,hb.fr.mono (fun k _ hk=>by rw[a3 k hk];omega),fun k hk h0=>by rw[k2 k hk,if_pos h0]⟩
 ·exact (h.fo.o.fr hb.fr (fun k hk=>ne k (by rw[hk];omega))).more (fun k hk=>by rw[k1 k (h.lt k (by rw[hk];decide))];exact hk)
 ·exact (h.fo.n.fr hb.fr (fun k hk=>ne k (by rw[hk];omega))).more (fun k hk=>by rw[k1 k (h.lt k (by rw[hk];decide))];exact hk)
 ·show (K.set i _).map _=C.nd.set i s'
  rw[List.map_set,h.nd]
 ·exact (h.mb.old.fr hb.fr (fun k hk=>ne k (by rw[hk.1];omega))).more (fun k hk=>by rw[k1 k hk.2];exact hk.1)
 ·intro j y hy
  by_cases e:i=j
  ·subst e
   rw[List.getElem?_set_self hil] at hy
   injection hy with hy
   subst hy
   refine ⟨hb.n,hc,fun k hk=>?_⟩
   rcases Nat.lt_or_ge k w.heap.size with h1 | h1
   ·rw[k1 k h1];exact a3 k (by rw[←hb.ag k h1];exact hk)
   ·rw[k2 k h1,if_neg hk]
  ·rw[List.getElem?_set_ne e] at hy
   obtain ⟨b1,b2,b3⟩:=h.n j y hy
   exact ⟨b1.fr hb.fr (fun k hk=>ne k (by rw[b3 k hk];omega)),b2,fun k hk=>by rw[k1 k (b1.lt k hk)];exact b3 k hk⟩
end
end Go.Proofs.YtdfobfjpkjddpaaGreat

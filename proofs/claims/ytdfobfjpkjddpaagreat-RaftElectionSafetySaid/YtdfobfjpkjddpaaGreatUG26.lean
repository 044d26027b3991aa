import Derived.Test.YtdfobfjpkjddpaaGreatURN36
set_option linter.unusedVariables false
set_option linter.unusedSimpArgs false
set_option maxRecDepth 10000
set_option maxHeartbeats 8000000
namespace Go.Proofs.YtdfobfjpkjddpaaGreat
open Go.RowKit Go.Own Go.Quo Go.Wire Go.Raft
attribute [local irreducible] Go.wpQuiet
def opened (id wait beat t:Int)(c0:Mb)(recs:List (Int × List Int))(term voted:Int)(L:List Ent):Nd:=⟨id,wait,beat,c0,recs,term,voted,L,1,-1,0,t,0,t,List.replicate 9 false,List.replicate 9 0,List.replicate 9 0⟩
abbrev op0 (id wait beat:Int)(c0:Mb)(recs:List (Int × List Int))(term voted:Int)(L:List Ent):Nd:=⟨id,wait,beat,c0,recs,term,voted,L,1,-1,0,0,0,0,List.replicate 9 false,List.replicate 9 0,List.replicate 9 0⟩
abbrev opC (id wait beat:Int)(j v:Nat)(lg:Option Addr)(mi:Ms):Array Value:=#[.int .i64 id,.int .i64 wait,.int .i64 beat,.pointer (some ⟨j,0,none⟩),.pointer (some ⟨v,0,none⟩),.pointer lg,.slice mi.A mi.o.length mi.c,.slice mi.A' mi.n.length mi.c',.slice none 0 0,.slice none 0 0,.int .i64 0,.int .i64 1,.int .i64 (-1),.int .i64 0,.int .i64 0,.int .i64 0,.int .i64 0,
 .bool false,.bool false,.bool false,.bool false,.bool false,.bool false,.bool false,.bool false,.bool false,.int .i64 0,.int .i64 0,.int .i64 0,.int .i64 0,.int .i64 0,.int .i64 0,.int .i64 0,.int .i64 0,.int .i64 0,.int .i64 0,.int .i64 0,.int .i64 0,.int .i64 0,.int .i64 0,.int .i64 0,.int .i64 0,.int .i64 0,.int .i64 0,.int .i64 0,.bool false,.slice none 0 0]
def OkP (f:Nat)(X:Nat→Prop)(s:Nd)(w:World)(e:Ending)(w':World):Prop:=
 ∃ p v j l col,e=.returned (.tuple #[.pointer (some ⟨p,0,none⟩),.int .i64 0])∧NS w' col p v j l f s false []∧Clean col∧(∀ k,col k≠0→k=f∨(X k∧k<w.heap.size)∨w.heap.size≤k)∧Fr (fun k=>k=f∨X k) w w'
theorem col_made (f p v:Nat)(X:Nat→Prop)(a1 a2 b1 b2 c1 c2 N:Nat)(hf:f<a1)(hX:∀ k,X k→k<a1)(h1:a1≤a2)(h2:a2≤v)(h3:v<b1)(h4:b1≤b2)(h5:b2≤p)(h6:p<c1)(h7:c1≤c2)(h8:c2≤N) :
 ∃ col:Nat→Nat,col p=1∧col v=2∧(∀ k,(k=f∨X k∨(a1≤k∧k<a2))→col k=3)∧(∀ k,c1≤k∧k<c2→col k=4)∧(∀ k,b1≤k∧k<b2→col k=5)∧Clean col∧(∀ k,col k≠0→k<N∧(k=f∨X k∨a1≤k)):=by
 classical
 refine ⟨fun k=>if k=p then 1 else if k=v then 2 else if (k=f∨X k∨(a1≤k∧k<a2)) then 3 else if c1≤k∧k<c2 then 4 else if b1≤k∧k<b2 then 5 else 0,?_,?_,?_,?_,?_,?_,?_⟩
 ·simp
 ·simp only;rw[if_neg (show ¬ v=p by omega)];simp
 ·intro k hk
  have hlt:k<a2:=by
   rcases hk with h | h | h
   ·omega
   ·have:=hX k h;omega
   ·omega
  simp only
  rw[if_neg (by omega),if_neg (by omega),if_pos hk]
 ·intro k hk
  have hn:¬ (k=f∨X k∨(a1≤k∧k<a2)):=by
   rintro (h | h | h)
   ·omega
   ·have:=hX k h;omega
   ·omega
  simp only
  rw[if_neg (by omega),if_neg (by omega),if_neg hn,if_pos hk]
 ·intro k hk
  have hn:¬ (k=f∨X k∨(a1≤k∧k<a2)):=by
   rintro (h | h | h)
   ·omega
   ·have:=hX k h;omega
   ·omega
  simp only
  rw[if_neg (by omega),if_neg (by omega),if_neg hn,if_neg (by omega),if_pos hk]
 ·intro k
  simp only
  split
  ·omega
  ·split
   ·omega
   ·split
    ·omega
    ·split
     ·omega
     ·split <;> omega
 ·intro k hk
  simp only at hk
  split at hk
  ·omega
  ·split at hk
   ·omega
   ·split at hk
    ·rename_i h
     rcases h with h | h | h
     ·exact ⟨by omega,.inl h⟩
     ·exact ⟨by have:=hX k h;omega,.inr (.inl h)⟩
     ·exact ⟨by omega,.inr (.inr h.1)⟩
    ·split at hk
     ·omega
     ·split at hk
      ·omega
      ·exact absurd rfl hk
theorem lastIndex_b (w:World)(Z:Nat→Prop)(p l:Nat)(cs:Array Value)(L:List Ent)(h:Blk w p 88 cs)(h5:cs[5]?=some (.pointer (some ⟨l,0,none⟩)))(hl:LS w Z l L)(hL:L.length≤1000000):Calls Tryz.prog 17 #[.pointer (some ⟨p,0,none⟩)] w fun e w'=>e=.returned (.int .i64 (L.length:Int))∧Below w.heap.size w w':=by
 have HT:=ħ (last_any w _ l _ hl hL)
 have c0:=h.lt
 have c1:=h.frozen
 have x5:=(h.cell 5).trans h5
 clear h h5 hl hL
 go_enter Tryz.func17,Tryz.ntmps17
 go_wp2_with (go_at_call 42;((with_reducible refine HT.out.mono ?_);rintro e w2 ⟨rfl,b2⟩))
 go_ret
 exact ⟨rfl,b2⟩
theorem NZ.clean {w:World}{col:Nat→Nat}{p v j l f:Nat}{s:Nd}{un:Bool}{mb:Mb}{pos:Int}{mi mm:Ms}{dur:Int}(h:NZ w col p v j l f s un mb pos mi mm none 0 [] dur):NZ w (strip col) p v j l f s un mb pos mi mm none 0 [] dur:=by
 refine ⟨h.b,h.vb,h.js.wider (fun k hk=>strip_of hk (by decide) (by decide)),h.du,h.ls.wider (fun k hk=>strip_of hk (by decide) (by decide)),h.ri.more' (fun k hk=>strip_of hk (by decide) (by decide)),h.mio,h.rm.more' (fun k hk=>strip_of hk (by decide) (by decide)),h.mmo,h.oo,(fun g hg=>by simp[Value.ownBlock] at hg),(fun x hx=>by cases hx),strip_of h.cp (by decide) (by decide),strip_of h.cv (by decide) (by decide),fun k hk=>?_,h.l9⟩
 refine h.lt k (fun e=>hk ?_)
 unfold strip
 split
 ·rfl
 ·exact e
theorem open9_ok (w:World)(f:Nat)(X B:Nat→Prop)(id wait beat now:Int)(m:Ms)(recs:List (Int × List Int))(term voted:Int)(L:List Ent)(hfp:FileP w f X (encJ initS recs) (encJ initS recs).length false)(hm:MR w B m)(hBf:∀ k,B k→k≠f)(hid:0≤id∧id<9)(hpm:permB m.o m.n=true)(hwb:1≤wait∧wait≤MT∧1≤beat∧beat≤MT)
 (hfit:(encJ initS recs).length≤16777216) (hrl:recs.length≤400000) (hok:∀ x∈recs,recOk x) (hrv:rAll recs (0,-1)=some (term,voted)) (hlg:lAll recs []=some L) (hE:∀ e∈L,EW e) (hS:Srt L) (hLl:L.length≤400000) :
 Calls Tryz.prog 9 #[.int .i64 id,msV m,.pointer (some ⟨f,0,none⟩),.int .i64 wait,.int .i64 beat,.int .i64 now] w (OkP f X (opened id wait beat (max 0 (min (max now 0) MT)) ⟨m.o,m.n⟩ recs term voted L) w):=by
 unfold MT at hwb
 have hBd:Bd L:=fun e he=>⟨(hE e he).2.2.2.2.1,(hE e he).2.2.2.2.2⟩
 have hrec:RecsOk recs:=fun x hx=>by
  obtain ⟨h1,h2,h3,h4⟩:=hok x hx
  exact ⟨h1,by omega,h3,h4⟩
 have b1:Below w.heap.size w (w.alloc (.cells (msC m) 24)):=(Below.refl _ _).alloc (Nat.le_refl _) _
 have g1:Blk (w.alloc (.cells (msC m) 24)) w.heap.size 24 (msC m):=Blk.new w 24 _
 have m1:=(show MR w (fun k=>B k∧k<w.heap.size) m from ⟨hm.o.old (by omega),hm.n.old (by omega),hm.ol,hm.nl⟩).alloc (.cells (msC m) 24)
 have f1:=hfp.cut.fr (Fr.of_below (S:=fun _=>False) b1) (fun e=>e) (fun _ _ e=>e)
 have hfl:=hfp.lt
 have H30:=ħ (permitted30 _ m _ m1 true hpm)
 have hml:=m1.ol
 have hmn:=m1.nl
 clear hfp hm hpm
 go_enter Tryz.func9,Tryz.ntmps9
 go_upto_region 1 with fail
 generalize w.alloc (.cells (msC m) 24)=W1 at *
 obtain ⟨q0,q1,q2⟩:=g1.facts
 have y0:W1.cell? ⟨w.heap.size,0,none⟩=some (.slice m.A m.o.length m.c):=g1.cell 0
 have y1:W1.cell? ⟨w.heap.size,1,none⟩=some (.slice m.A' m.n.length m.c'):=g1.cell 1
 have wi1:decide (id<0)=false:=decide_eq_false (by omega)
 have wi2:decide (9≤id)=false:=decide_eq_false (by omega)
 have hnil:∀ (a:Addr) (W:World),(binOp .eql 36 (.pointer (some a)) (.pointer none)).run Tryz.prog W=.ok (.bool false) W:=fun _ _=>by rfl
 clear q1
 go_upto_region 3 with (go_at_call 30;((with_reducible refine H30.out.mono ?_);rintro e w2 ⟨rfl,b2⟩))
 have B2:=b1.trans (b2.mono b1.size)
 have g2:=g1.below b2 g1.lt
 have m2:=m1.below b2
 have f2:=f1.fr (Fr.of_below (S:=fun _=>False) b2) (fun e=>e) (fun _ _ e=>e)
 have hsz1:=b1.size
 have hs2:=b2.size
 clear q0 q2 y0 y1 g1 m1 f1 b1 b2 H30 wi1 wi2
 have H31:=ħ (jopen_any w2 f _ recs f2 hfit (by omega) hrec)
 have ww1:decide (wait<1)=false:=decide_eq_false (by omega)
 have ww2:decide (1099511627776<wait)=false:=decide_eq_false (by omega)
 have wb1:decide (beat<1)=false:=decide_eq_false (by omega)
 have wb2:decide (1099511627776<beat)=false:=decide_eq_false (by omega)
 go_upto_region 8 with (go_at_call 31;((with_reducible refine H31.out.mono ?_);rintro e w3 ⟨j,rfl,hj,js3,fr3⟩))
 have g3:=g2.fr fr3 (by omega)
 have m3:=m2.fr fr3 (fun k hk e=>hBf k hk.1 e)
 have H32:=ħ (vopen_any w3 _ f j recs _ js3 (by omega) (fun x hx=>⟨(hrec x hx).1,by have:=(hrec x hx).2.1;omega⟩))
 have hs3:=fr3.size
 clear g2 m2 f2 H31 ww1 ww2 wb1 wb2
 have hy0:=hrv
 go_upto_region 11 with (go_at_call 32;((with_reducible refine H32.out.mono ?_);rintro e w4 ⟨hy,-,b4⟩;obtain ⟨rfl,vb4⟩:=hy _ _ hy0;clear hy))
 have g4:=g3.below b4 g3.lt
 have m4:=m3.below b4
 have js4:=js3.cut.fr (Fr.of_below (S:=fun _=>False) b4) (fun _ _ e=>e)
 have hs4:=b4.size
 clear H32 g3 m3 js3 hnil
 have HK:=ħ fun W (hb:Below w4.heap.size w4 W)=>(show W.cell? ⟨w.heap.size,0,none⟩=some (.slice m.A m.o.length m.c)∧W.cell? ⟨w.heap.size,1,none⟩=some (.slice m.A' m.n.length m.c') from ⟨(g4.below hb g4.lt).cell 0,(g4.below hb g4.lt).cell 1⟩)
 have S4:=HK.out w4 (Below.refl _ _)
 have HA:=ħ fun W (hb:Below w4.heap.size w4 W)=>cloneI_any _ m.A m.c m.o W (m4.below hb).o m4.ol
 have HB:=ħ fun W (hb:Below w4.heap.size w4 W)=>cloneI_any _ m.A' m.c' m.n W (m4.below hb).n m4.nl
 go_cut [17] (fun vx wx=>∃ (mi:Ms) (g:Nat),vx=.pointer (some ⟨g,0,none⟩)∧mi.o=m.o∧mi.n=m.n∧MR wx (fun k=>w4.heap.size≤k) mi∧Blk wx g 24 (msC mi)∧Below w4.heap.size w4 wx∧w4.heap.size≤g)
 case first=>
  go_region_held (fun W=>W.cell? ⟨w.heap.size,0,none⟩=some (.slice m.A m.o.length m.c)∧W.cell? ⟨w.heap.size,1,none⟩=some (.slice m.A' m.n.length m.c')) (first | assumption | exact S4 | exact HK.out _ ((Below.refl w4.heap.size w4).drew.alloc (Nat.le_refl _) _) | exact HK.out _ (B5.alloc B5.size _) | exact HK.out _ (B6.alloc B6.size _) | exact HK.out _ ((B6.setCell (p:=⟨_,0,none⟩) B5.size _).setCell (p:=⟨_,1,none⟩) B5.size _) | exact HK.out _ ((B6.setCell (p:=⟨_,0,none⟩) (Nat.le_refl _) _).setCell (p:=⟨_,1,none⟩) (Nat.le_refl _) _)) (first
   | ((((with_reducible refine (HA.out w4.drew ((Below.refl _ _).drew)).mono ?_);rintro e w5 ⟨A5,c5,rfl,r5,b5⟩;have B5:=((Below.refl w4.heap.size w4).drew).trans b5);have S5:=HK.out _ B5;have R5:=ħ r5;clear r5 b5))
   | ((((with_reducible refine (HA.out (w4.alloc (.cells #[.slice none 0 0,.slice none 0 0] 24)).drew ((Below.refl _ _).alloc (Nat.le_refl _) _).drew).mono ?_);rintro e w5 ⟨A5,c5,rfl,r5,b5⟩;have b45:=((Below.refl w4.heap.size w4).alloc (Nat.le_refl _) (.cells #[.slice none 0 0,.slice none 0 0] 24)).drew;have B5:=b45.trans (b5.mono b45.size));have S5:=HK.out _ B5;have R5:=ħ r5;have gb5:=(Blk.new w4 24 #[.slice none 0 0,.slice none 0 0]).drew.below b5 (by simp);clear r5 b5;obtain ⟨z0,z1,z2⟩:=gb5.facts))
   | (((with_reducible refine (HB.out _ B5).mono ?_);rintro e w6 ⟨A6,c6,rfl,r6,b6⟩;have gb6:=gb5.below b6 gb5.lt;have B6:=B5.trans (b6.mono B5.size);have S6:=HK.out _ B6;clear z0 z1 z2;obtain ⟨z0,z1,z2⟩:=gb6.facts))
   | (((with_reducible refine (HB.out _ B5).mono ?_);rintro e w6 ⟨A6,c6,rfl,r6,b6⟩;have B6:=B5.trans (b6.mono B5.size);have S6:=HK.out _ B6))
   | (((with_reducible refine (HB.out _ (B5.alloc B5.size (.cells #[.slice none 0 0,.slice none 0 0] 24))).mono ?_);rintro e w6 ⟨A6,c6,rfl,r6,b6⟩;have b56:=B5.alloc B5.size (.cells #[.slice none 0 0,.slice none 0 0] 24);have gb6:=(Blk.new w5 24 #[.slice none 0 0,.slice none 0 0]).below b6 (by simp);have B6:=b56.trans (b6.mono b56.size);have S6:=HK.out _ B6;obtain ⟨z0,z1,z2⟩:=gb6.facts)))
  all_goals
   go_wp2_with fail
   go_meet
  ·refine ⟨⟨A5,c5,m.o,A6,c6,m.n⟩,w6.heap.size,rfl,rfl,rfl,⟨?_,?_,m4.ol,m4.nl⟩,Blk.new w6 24 _,B6.alloc B6.size _,B6.size⟩
   ·exact (((R5.out.old (by omega)).below b6 (fun _ h=>h.2)).alloc _).more (fun k hk=>hk.1)
   ·exact (r6.alloc _).more (fun k hk=>Nat.le_trans B5.size hk)
  ·have b5s:=B5.size
   refine ⟨⟨A5,c5,m.o,A6,c6,m.n⟩,w5.heap.size,rfl,rfl,rfl,⟨?_,?_,m4.ol,m4.nl⟩,(gb6.set_ 0 (.slice A5 m.o.length c5)).set_ 1 (.slice A6 m.n.length c6),(B6.setCell (p:=⟨_,0,none⟩) b5s _).setCell (p:=⟨_,1,none⟩) b5s _,b5s⟩
   ·exact (((((R5.out.old (by omega)).alloc _).below b6 (fun _ h=>by have:=h.2;simp;omega)).setCell (p:=⟨w5.heap.size,0,none⟩) (fun e=>by have:=e.2;simp at this) _).setCell (p:=⟨w5.heap.size,1,none⟩) (fun e=>by have:=e.2;simp at this) _).more (fun k hk=>hk.1)
   ·exact ((r6.setCell (p:=⟨w5.heap.size,0,none⟩) (fun e=>by simp at e;omega) _).setCell (p:=⟨w5.heap.size,1,none⟩) (fun e=>by simp at e;omega) _).more (fun k hk=>by simp at hk;omega)
  ·have b5s:=B5.size
   refine ⟨⟨A5,c5,m.o,A6,c6,m.n⟩,w4.heap.size,rfl,rfl,rfl,⟨?_,?_,m4.ol,m4.nl⟩,(gb6.set_ 0 (.slice A5 m.o.length c5)).set_ 1 (.slice A6 m.n.length c6),(B6.setCell (p:=⟨_,0,none⟩) (Nat.le_refl _) _).setCell (p:=⟨_,1,none⟩) (Nat.le_refl _) _,Nat.le_refl _⟩
   ·exact ((((R5.out.old (by omega)).below b6 (fun _ h=>h.2)).setCell (p:=⟨w4.heap.size,0,none⟩) (fun e=>by have:=e.1;simp at this;omega) _).setCell (p:=⟨w4.heap.size,1,none⟩) (fun e=>by have:=e.1;simp at this;omega) _).more (fun k hk=>by have:=hk.1;simp at this;omega)
   ·exact ((r6.setCell (p:=⟨w4.heap.size,0,none⟩) (fun e=>by simp at e;have:=gb5.lt;omega) _).setCell (p:=⟨w4.heap.size,1,none⟩) (fun e=>by simp at e;have:=gb5.lt;omega) _).more (fun k hk=>Nat.le_trans b5s hk)
 case rest=>
  obtain ⟨mi,gi,rfl,hmo,hmn,hmr,hgi,bi,hgl⟩:=hcut
  have HMO:=ħ hmo
  have HMN:=ħ hmn
  have hmr':MR wc (fun k=>w4.heap.size≤k∧k<wc.heap.size) mi:=⟨hmr.o.old (by omega),hmr.n.old (by omega),hmr.ol,hmr.nl⟩
  have js5:=js4.fr (Fr.of_below (S:=fun _=>False) bi) (fun _ _ e=>e)
  have vb5:=vb4.below bi vb4.lt
  have hv4:=vb4.lt
  have hs5:=bi.size
  have z0:wc.cell? ⟨gi,0,none⟩=some (.slice mi.A mi.o.length mi.c):=hgi.cell 0
  have z1:wc.cell? ⟨gi,1,none⟩=some (.slice mi.A' mi.n.length mi.c'):=hgi.cell 1
  have b6:Below wc.heap.size wc (wc.alloc (.cells (opC id wait beat j w3.heap.size none mi) 88)):=(Below.refl _ _).alloc (Nat.le_refl _) _
  have g6:Blk (wc.alloc (.cells (opC id wait beat j w3.heap.size none mi) 88)) wc.heap.size 88 (opC id wait beat j w3.heap.size none mi):=Blk.new wc 88 _
  have hs6:(wc.alloc (.cells (opC id wait beat j w3.heap.size none mi) 88)).heap.size=wc.heap.size+1:=by simp
  clear hmo hmn hmr g4 m4 js4 vb4 HK S4 HA HB
  go_upto_region 13 with fail
  have hj6:=js5.fr (Fr.of_below (S:=fun _=>False) b6) (fun _ _ e=>e)
  have vb6:=vb5.below b6 vb5.lt
  have mr6:=hmr'.below b6
  generalize wc.alloc (.cells (opC id wait beat j w3.heap.size none mi) 88)=W6 at *
  have HS6:=ħ hs6
  clear hs6
  have H35:=ħ (records_any W6 _ f j recs _ false hj6 (by omega) (fun x hx=>by have:=(hrec x hx).2.1;omega))
  have H34:=ħ fun W ds c (r7:Reads W (·=W6.heap.size) 2 (some ⟨W6.heap.size,0,none⟩) ds.length (ds.flatMap rcL)) (h7:ds.map recOf=recs) (d7:∀ r∈ds,Reads W (fun k=>W6.heap.size<k) 1 r.A r.body.length (bys r.body))=>restore34 W (fun k=>W6.heap.size≤k) (some ⟨W6.heap.size,0,none⟩) c ds recs L (r7.more (fun k hk=>by omega)) (fun r hr=>(d7 r hr).more (fun k hk=>by omega)) h7 hok hrl hlg (fun e he=>⟨(hE e he).val,(hE e he).2.2.2.2.2⟩) hS
  obtain ⟨q0,q1,q2⟩:=g6.facts
  clear z0 z1 hgi js5 vb5 hmr'
  go_upto_region 14 with (first
   | (go_at_call 35;((with_reducible refine H35.out.mono ?_);rintro e w7 ⟨ds,rfl,r7,h7,d7,b7⟩;have H34b:=ħ (H34.out w7 ds ds.length r7 h7 d7);have g7:=g6.below b7 g6.lt;have B7:=ħ b7;clear r7 h7 d7 b7))
   | (go_at_call 34;((with_reducible refine H34b.out.mono ?_);rintro e w8 ⟨l,rfl,hl8,ls8,b8⟩;have B8:=ħ b8;have g8:=g7.below b8 g7.lt;clear b8 q0 q1 q2;obtain ⟨q0,q1,q2⟩:=g8.facts)))
  have g9:Blk (w8.setCell ⟨wc.heap.size,5,none⟩ (.pointer (some ⟨l,0,none⟩))) wc.heap.size 88 (ndL w3.heap.size j l (op0 id wait beat ⟨m.o,m.n⟩ recs term voted L) false 0 mi nilM (.slice none 0 0)).toArray:=g8.set_ 5 (.pointer (some ⟨l,0,none⟩))
  have hs6:=HS6.out
  have hs7:=B7.out.size
  have hs8:=B8.out.size
  have F9:Fr (fun k=>k=wc.heap.size) w8 (w8.setCell ⟨wc.heap.size,5,none⟩ (.pointer (some ⟨l,0,none⟩))):=(Fr.refl (fun k=>k=wc.heap.size) w8).setCell (p:=⟨wc.heap.size,5,none⟩) (.inl rfl) _
  obtain ⟨col,k1,k2,k3,k4,k5,k6,k7⟩:=col_made f wc.heap.size w3.heap.size (fun k=>X k∧k<w.heap.size) w2.heap.size w3.heap.size w4.heap.size wc.heap.size w7.heap.size w8.heap.size w8.heap.size (by omega) (fun k hk=>by have:=hk.2;omega) hs3 (Nat.le_refl _) hv4 hs5 (Nat.le_refl _) (by omega) hs8 (Nat.le_refl _)
  have hz9:NZ (w8.setCell ⟨wc.heap.size,5,none⟩ (.pointer (some ⟨l,0,none⟩))) col wc.heap.size w3.heap.size j l f (op0 id wait beat ⟨m.o,m.n⟩ recs term voted L) false ⟨[],[]⟩ 0 mi nilM none 0 [] (encJ initS recs).length:=by
   have ff:Fr (fun k=>k=wc.heap.size) W6 (w8.setCell ⟨wc.heap.size,5,none⟩ (.pointer (some ⟨l,0,none⟩))):=((Fr.of_below B7.out).trans (Fr.of_below B8.out)).trans F9
   refine ⟨g9,vb6.fr ff (fun e=>by omega),(hj6.fr ff (fun k hk e=>by have:=hk.2;omega)).wider (fun k hk=>k3 k (by have h2:=hk.2;rcases hk.1 with h | h | h;exact .inl h;exact .inr (.inl h);exact .inr (.inr ⟨h,h2⟩))),fun _=>rfl,(ls8.cut.fr F9 (fun k hk e=>by have:=hk.1;omega)).wider (fun k hk=>k4 k hk),⟨?_,?_,mr6.ol,mr6.nl⟩,⟨HMO.out,HMN.out⟩,nilMR _ _,⟨rfl,rfl⟩,World.ownsRow_nil _ _ _ _,(fun g hg=>by simp[Value.ownBlock] at hg),(fun x hx=>by cases hx),k1,k2,(fun k hk=>by have:=(k7 k hk).1;simpa using this),⟨by simp,by simp,by simp⟩⟩
   ·exact (mr6.o.fr ff (fun k hk e=>by have:=hk.2;omega)).more (fun k hk=>k5 k hk)
   ·exact (mr6.n.fr ff (fun k hk e=>by have:=hk.2;omega)).more (fun k hk=>k5 k hk)
  have HZ9:=ħ hz9
  have hsz9:(w8.setCell ⟨wc.heap.size,5,none⟩ (.pointer (some ⟨l,0,none⟩))).heap.size=w8.heap.size:=by simp
  have FA:=ħ (show Fr (fun k=>k=f∨X k) w (w8.setCell ⟨wc.heap.size,5,none⟩ (.pointer (some ⟨l,0,none⟩))) from by
   have a1:Fr (fun k=>k=f∨X k) w w2:=Fr.of_below B2
   have a2:Fr (fun k=>k=f∨X k) w2 w4:=(fr3.mono (fun k _ e=>Or.inl e)).trans (Fr.of_below b4)
   have a3:Fr (fun k=>k=f∨X k) w4 w8:=(((Fr.of_below bi).trans (Fr.of_below b6)).trans (Fr.of_below B7.out)).trans (Fr.of_below B8.out)
   exact ((a1.trans a2).trans a3).setCell (p:=⟨wc.heap.size,5,none⟩) (.inr (by show w.heap.size≤wc.heap.size;omega)) _)
  clear hz9 q0 q1 q2 H35 H34 H34b g6 g7 g8 ls8 hj6 vb6 mr6 F9 hok hrec hlg hrv hy0 HMO HMN
  generalize w8.setCell ⟨wc.heap.size,5,none⟩ (.pointer (some ⟨l,0,none⟩))=W9 at *
  have H17:=ħ (lastIndex_b W9 _ wc.heap.size l _ L g9 rfl HZ9.out.ls (by omega))
  have H36:=ħ fun W (hb:Below W9.heap.size W9 W)=>findMembership36 W col wc.heap.size w3.heap.size j l f _ false _ _ mi nilM none 0 [] _ (HZ9.out.below hb) L.length (Nat.le_refl _) (by show L.length≤_;omega) hBd
  have g9l:=g9.lt
  clear g9
  go_upto_region 17 with (first
   | (go_at_call 17;((with_reducible refine H17.out.mono ?_);rintro e w10 ⟨rfl,b10⟩;have B10:=ħ b10;clear b10))
   | (go_at_call 36;((with_reducible refine (H36.out w10 B10.out).mono ?_);rintro e w11 ⟨rfl,c11,mm11,hz11,ag11,fr11⟩)))
  have n11:NS w11 (strip c11) wc.heap.size w3.heap.size j l f (op0 id wait beat ⟨m.o,m.n⟩ recs term voted L) false []:=by
   have h1:=hz11.clean
   rw[show (op0 id wait beat ⟨m.o,m.n⟩ recs term voted L).log.take L.length=L from List.take_length] at h1
   exact ⟨mi,mm11,none,0,[],_,h1,rfl⟩
  have N11:=ħ n11
  have HAG:=ħ ag11
  have HFB:=ħ (show Fr (fun k=>k=f∨X k) w w11 from by
   have h1:Fr (fun k=>(k=f∨X k)∨w.heap.size≤k) w w11:=((FA.out.trans (Fr.of_below B10.out)).mono (fun k _ hk=>Or.inl hk)).trans (fr11.mono (fun k _ hk=>by
    rcases (k7 k hk).2 with h | h | h
    ·exact .inl (.inl h)
    ·exact .inl (.inr h.1)
    ·exact .inr (by omega)))
   exact h1.mono (fun k hk hh=>hh.elim (fun e=>e) (fun e=>by omega)))
  have HSP:=ħ (show ∀ k,strip c11 k≠0→k=f∨(X k∧k<w.heap.size)∨w.heap.size≤k from fun k hk=>by
   have hs10:=B10.out.size
   rcases Nat.lt_or_ge k w10.heap.size with h1 | h1
   ·have h2:col k≠0:=fun e=>hk (by unfold strip;rw[HAG.out k h1,e];simp)
    rcases (k7 k h2).2 with h | h | h
    ·exact .inl h
    ·exact .inr (.inl h)
    ·exact .inr (.inr (by omega))
   ·exact .inr (.inr (by omega)))
  have H37:=ħ (tick37 w11 _ _ _ _ _ _ _ _ _ n11 now)
  have HTT:=ħ (show (op0 id wait beat ⟨m.o,m.n⟩ recs term voted L).tickT now=max 0 (min (max now 0) MT) from rfl)
  rw[HTT.out] at H37
  clear hz11 ag11 fr11 n11 k1 k2 k3 k4 k5 k6 k7 H17 H36 g9l
  go_upto_region 18 with (go_at_call 37;((with_reducible refine H37.out.mono ?_);rintro e w12 ⟨rfl,nb12⟩;have NB12:=ħ nb12;obtain ⟨c0,c1,x0,x1,x2,x3,x4,x5,x10,x11,x12,x13,x14,x15,x44⟩:=nb12.n.x;clear nb12 x0 x1 x2 x3 x4 x5 x10 x11 x12 x13 x15 x44))
  have NB13:=ħ (NB12.out.trans (NB12.out.n.st14 (max 0 (min (max now 0) MT))))
  go_wp2_with fail
  refine bodyPost_ret (v:=.tuple #[.pointer (some ⟨wc.heap.size,0,none⟩),.int .i64 0]) (by simp[results,Tryz.results9,go_sem]) rfl ⟨wc.heap.size,w3.heap.size,j,l,strip c11,rfl,NB13.out.n,strip_clean _,HSP.out,?_⟩
  have h1:Fr (fun k=>(k=f∨X k)∨w.heap.size≤k) w _:=(HFB.out.mono (fun k _ hk=>Or.inl hk)).trans (NB13.out.fr.mono (fun k _ hk=>by
   rcases HSP.out k hk with h | h | h
   ·exact .inl (.inl h)
   ·exact .inl (.inr h.1)
   ·exact .inr h))
  exact h1.mono (fun k hk hh=>hh.elim (fun e=>e) (fun e=>by omega))
theorem own_z {w:World}{L base:Nat}{e:TypeId}{size:Nat}(h:Blk w L e #[])(hb:base≤L):w.ownsRow base e size (.slice (some ⟨L,0,none⟩) 0 0) 0 []:=⟨by simp,.inr ⟨L,0,#[],rfl,hb,h,Nat.le_refl _,by simp[maxLen],by simp,by simp⟩⟩
theorem blk_g {w w':World}{L g:Nat}{t:TypeId}{cs:Array Value}(h:Blk w L t cs)(hg:w.grownBy w' (some g))(hne:L≠g):Blk w' L t cs:=h.grown hg (fun e=>hne (by injection e))
structure ST (w W1 W:World) (m:Ms):Prop where
 g1:Blk W w.heap.size 24 (msC m)
 g2:Blk W (w.heap.size+1) 24 msZ
 m:MR W (fun k=>k<W1.heap.size) m
 sz:W1.heap.size≤W.heap.size
 b:Below w.heap.size w W
theorem ST.alloc {w W1 W:World}{m:Ms}(h:ST w W1 W m)(o:Obj):ST w W1 (W.alloc o) m:=⟨h.g1.alloc o,h.g2.alloc o,h.m.alloc o,by have:=h.sz;simp;omega,h.b.alloc h.b.size o⟩
theorem ST.drew {w W1 W:World}{m:Ms}(h:ST w W1 W m):ST w W1 W.drew m:=⟨h.g1.drew,h.g2.drew,h.m.below (Below.refl _ _).drew,h.sz,h.b.drew⟩
theorem ST.grown {w W1 W W':World}{m:Ms}{row:Option Nat}(h:ST w W1 W m)(hg:W.grownBy W' row)(hr:∀ g,row=some g→W1.heap.size≤g∧w.heap.size+1<g):ST w W1 W' m:=
 ⟨h.g1.grown hg (fun e=>by have:=hr _ e.symm;omega),h.g2.grown hg (fun e=>by have:=hr _ e.symm;omega),⟨h.m.o.grown hg (fun k hk e=>by have:=hr _ e.symm;omega),h.m.n.grown hg (fun k hk e=>by have:=hr _ e.symm;omega),h.m.ol,h.m.nl⟩,Nat.le_trans h.sz hg.size,h.b.grown hg h.b.size (fun g hg'=>by have:=hr g hg';omega)⟩
def CfPost (o n:List Int)(w:World)(e:Ending)(w':World):Prop:=∃ m':Ms,e=.returned (msV m')∧m'.o=o∧m'.n=n∧MR w' (w.heap.size≤·) m'∧Below w.heap.size w w'
theorem conf10 (B:Nat→Prop)(m:Ms)(w:World)(h:MR w B m):Calls Tryz.prog 10 #[msV m] w (CfPost m.o m.n w):=by
 have b1:Below w.heap.size w ((w.alloc (.cells (msC m) 24)).alloc (.cells msZ 24)):=((Below.refl _ _).alloc (Nat.le_refl _) _).alloc (by simp) _
 have g1:Blk ((w.alloc (.cells (msC m) 24)).alloc (.cells msZ 24)) w.heap.size 24 (msC m):=(Blk.new w 24 _).alloc _
 have g2:Blk ((w.alloc (.cells (msC m) 24)).alloc (.cells msZ 24)) (w.heap.size+1) 24 msZ:=by simpa using Blk.new (w.alloc (.cells (msC m) 24)) 24 msZ
 have m1:=(h.alloc (.cells (msC m) 24)).alloc (.cells msZ 24)
 have hol:=h.ol
 have hnl:=h.nl
 clear h
 go_enter Tryz.func10,Tryz.ntmps10
 go_upto_region 1 with fail
 generalize (w.alloc (.cells (msC m) 24)).alloc (.cells msZ 24)=W1 at *
 obtain ⟨q0,q1,q2⟩:=g1.facts
 obtain ⟨z0,z1,z2⟩:=g2.facts
 have y0:W1.cell? ⟨w.heap.size,0,none⟩=some (.slice m.A m.o.length m.c):=g1.cell 0
 have y1:W1.cell? ⟨w.heap.size,1,none⟩=some (.slice m.A' m.n.length m.c'):=g1.cell 1
 clear q1
 have HM:=ħ (show MR W1 (fun k=>k<W1.heap.size) m from ⟨(m1.o.old (by omega)).more (fun k hk=>hk.2),(m1.n.old (by omega)).more (fun k hk=>hk.2),hol,hnl⟩)
 have hb1s:=b1.size
 have hW:w.heap.size+1<W1.heap.size:=g2.lt
 have S1:ST w W1 W1 m:=⟨g1,g2,HM.out,Nat.le_refl _,b1⟩
 have Z1:Blk (W1.alloc (.cells #[] 3)) W1.heap.size 3 #[]:=Blk.new W1 3 #[]
 have Z2a:=Z1.alloc (.cells #[] 3)
 have Z2b:Blk ((W1.alloc (.cells #[] 3)).alloc (.cells #[] 3)) (W1.heap.size+1) 3 #[]:=by simpa using Blk.new (W1.alloc (.cells #[] 3)) 3 #[]
 go_region_law (first
  | (refine step_append_any _ (by rfl) (.tmp 3) (.tmp 5) _ (by rfl) w.heap.size 3 (.int .i64 0) 1 8 Tryz.underlying22 info3 rfl (by omega) _ 0 [] (by rfl) (by exact own_z Z1 (by omega)) (fun k=>k<W1.heap.size) m.A m.o.length m.c (m.o.map (Value.int .i64)) (by rfl) (by exact ((S1.alloc (.cells #[] 3)).m.o)) (ints_one _) (by simp only[maxLen];omega) (by omega) (by simp;omega) ?_
     intro A5 c5 w5 hown5 hgr5 hat5
     simp only[Nat.zero_add,List.nil_append] at hown5 hat5
     have hs5:=hgr5.size;have S5:=(S1.alloc (.cells #[] 3)).drew.grown hgr5 (fun g hg=>by first | (have e:some W1.heap.size=some g:=hg;injection e with e;omega) | (have e:some (W1.heap.size+1)=some g:=hg;injection e with e;omega));have l1:=S5.g1.lt;have y1:w5.cell? ⟨w.heap.size,1,none⟩=some (.slice m.A' m.n.length m.c'):=S5.g1.cell 1;obtain ⟨z0,z1,z2⟩:=S5.g2.facts;have R5:=(Reads.of_own hown5).more (B':=fun g=>W1.heap.size≤g∧g<w5.heap.size∧g≠w5.heap.size) (fun g hg=>by have hl:=(hown5.lt g hg).2;rcases hat5 with e | e;(rw[hg] at e;first | (have e:some g=some W1.heap.size:=e;injection e with e;omega) | (have e:some g=some (W1.heap.size+1):=e;injection e with e;omega));(rw[hg] at e;injection e with e;simp at e;omega)))
  | (refine step_append_any _ (by rfl) (.tmp 3) (.tmp 5) _ (by rfl) w.heap.size 3 (.int .i64 0) 1 8 Tryz.underlying22 info3 rfl (by omega) _ 0 [] (by rfl) (by exact own_z Z2a (by omega)) (fun k=>k<W1.heap.size) m.A m.o.length m.c (m.o.map (Value.int .i64)) (by rfl) (by exact (((S1.alloc (.cells #[] 3)).alloc (.cells #[] 3)).m.o)) (ints_one _) (by simp only[maxLen];omega) (by omega) (by simp;omega) ?_
     intro A5 c5 w5 hown5 hgr5 hat5
     simp only[Nat.zero_add,List.nil_append] at hown5 hat5
     have hs5:=hgr5.size;have S5:=((S1.alloc (.cells #[] 3)).alloc (.cells #[] 3)).drew.grown hgr5 (fun g hg=>by first | (have e:some W1.heap.size=some g:=hg;injection e with e;omega) | (have e:some (W1.heap.size+1)=some g:=hg;injection e with e;omega));have ZB5:=blk_g Z2b.drew hgr5 (by simp);have l1:=S5.g1.lt;have y1:w5.cell? ⟨w.heap.size,1,none⟩=some (.slice m.A' m.n.length m.c'):=S5.g1.cell 1;obtain ⟨z0,z1,z2⟩:=S5.g2.facts;have R5:=(Reads.of_own hown5).more (B':=fun g=>W1.heap.size≤g∧g<w5.heap.size∧g≠W1.heap.size+1) (fun g hg=>by have hl:=(hown5.lt g hg).2;rcases hat5 with e | e;(rw[hg] at e;first | (have e:some g=some W1.heap.size:=e;injection e with e;omega) | (have e:some g=some (W1.heap.size+1):=e;injection e with e;omega));(rw[hg] at e;injection e with e;simp at e;omega)))
  | (refine step_append_any _ (by rfl) (.tmp 3) (.tmp 5) _ (by rfl) w.heap.size 3 (.int .i64 0) 1 8 Tryz.underlying22 info3 rfl (by omega) _ 0 [] (by rfl) (by exact own_z Z2b (by omega)) (fun k=>k<W1.heap.size) m.A m.o.length m.c (m.o.map (Value.int .i64)) (by rfl) (by exact (((S1.alloc (.cells #[] 3)).alloc (.cells #[] 3)).m.o)) (ints_one _) (by simp only[maxLen];omega) (by omega) (by simp;omega) ?_
     intro A5 c5 w5 hown5 hgr5 hat5
     simp only[Nat.zero_add,List.nil_append] at hown5 hat5
     have hs5:=hgr5.size;have S5:=((S1.alloc (.cells #[] 3)).alloc (.cells #[] 3)).drew.grown hgr5 (fun g hg=>by first | (have e:some W1.heap.size=some g:=hg;injection e with e;omega) | (have e:some (W1.heap.size+1)=some g:=hg;injection e with e;omega));have ZB5:=blk_g Z2a.drew hgr5 (by simp);have l1:=S5.g1.lt;have y1:w5.cell? ⟨w.heap.size,1,none⟩=some (.slice m.A' m.n.length m.c'):=S5.g1.cell 1;obtain ⟨z0,z1,z2⟩:=S5.g2.facts;have R5:=(Reads.of_own hown5).more (B':=fun g=>W1.heap.size≤g∧g<w5.heap.size∧g≠W1.heap.size) (fun g hg=>by have hl:=(hown5.lt g hg).2;rcases hat5 with e | e;(rw[hg] at e;first | (have e:some g=some W1.heap.size:=e;injection e with e;omega) | (have e:some g=some (W1.heap.size+1):=e;injection e with e;omega));(rw[hg] at e;injection e with e;simp at e;omega)))
  | (refine step_append_any _ (by rfl) (.tmp 7) (.tmp 9) _ (by rfl) w.heap.size 3 (.int .i64 0) 1 8 Tryz.underlying22 info3 rfl (by omega) _ 0 [] (by rfl) (by exact own_z ZB5 (by have:=S5.sz;omega)) (fun k=>k<W1.heap.size) m.A' m.n.length m.c' (m.n.map (Value.int .i64)) (by rfl) (by exact S5.m.n) (ints_one _) (by simp only[maxLen];omega) (by omega) (by have:=S5.sz;simp;omega) ?_
     intro A6 c6 w6 hown6 hgr6 hat6
     simp only[Nat.zero_add,List.nil_append] at hown6 hat6
     have S6:=S5.grown hgr6 (fun g hg=>by first | (have e:some W1.heap.size=some g:=hg;injection e with e;omega) | (have e:some (W1.heap.size+1)=some g:=hg;injection e with e;omega));obtain ⟨z0,z1,z2⟩:=S6.g2.facts;have R6:=(R5.grown hgr6 (fun k hk e=>by first | (have e:some k=some W1.heap.size:=e;injection e with e;omega) | (have e:some k=some (W1.heap.size+1):=e;injection e with e;omega))).more (B':=fun g=>W1.heap.size≤g) (fun g hg=>hg.1))
  | (refine step_append_any _ (by rfl) (.tmp 7) (.tmp 9) _ (by rfl) w.heap.size 3 (.int .i64 0) 1 8 Tryz.underlying22 info3 rfl (by omega) _ 0 [] (by rfl) (by exact own_z (Blk.new w5 3 #[]) (by have:=S5.sz;omega)) (fun k=>k<W1.heap.size) m.A' m.n.length m.c' (m.n.map (Value.int .i64)) (by rfl) (by exact (S5.alloc (.cells #[] 3)).m.n) (ints_one _) (by simp only[maxLen];omega) (by omega) (by have:=S5.sz;simp;omega) ?_
     intro A6 c6 w6 hown6 hgr6 hat6
     simp only[Nat.zero_add,List.nil_append] at hown6 hat6
     have S6:=(S5.alloc (.cells #[] 3)).grown hgr6 (fun g hg=>by have:=S5.sz;have e:some w5.heap.size=some g:=hg;injection e with e;omega);obtain ⟨z0,z1,z2⟩:=S6.g2.facts;have R6:=((R5.alloc (.cells #[] 3)).grown hgr6 (fun k hk e=>by have e:some k=some w5.heap.size:=e;injection e with e;omega)).more (B':=fun g=>W1.heap.size≤g) (fun g hg=>hg.1)))
 all_goals
  go_wp2_with fail
  have hs6:=hgr6.size
  have hs5:=S5.sz
  have R7:Reads w6 (fun g=>W1.heap.size≤g) 1 A6 m.n.length (m.n.map (Value.int .i64)):=(Reads.of_own hown6).more (fun g hg=>by
   rcases hat6 with e | e
   ·rw[hg] at e
    first
    | (have e:some g=some W1.heap.size:=e;injection e with e;omega)
    | (have e:some g=some (W1.heap.size+1):=e;injection e with e;omega)
    | (have e:some g=some w5.heap.size:=e;injection e with e;omega)
   ·rw[hg] at e;injection e with e;try simp at e
    omega)
  refine bodyPost_ret (v:=msV ⟨A5,c5,m.o,A6,c6,m.n⟩) (by simp[results,Tryz.results10,go_sem,z1]) rfl ⟨⟨A5,c5,m.o,A6,c6,m.n⟩,rfl,rfl,rfl,⟨?_,?_,hol,hnl⟩,(S6.b.setCell (p:=⟨w.heap.size+1,0,none⟩) (by simp) _).setCell (p:=⟨w.heap.size+1,1,none⟩) (by simp) _⟩
  ·exact ((R6.setCell (p:=⟨w.heap.size+1,0,none⟩) (by simp;omega) _).setCell (p:=⟨w.heap.size+1,1,none⟩) (by simp;omega) _).more (fun g hg=>by omega)
  ·exact ((R7.setCell (p:=⟨w.heap.size+1,0,none⟩) (by simp;omega) _).setCell (p:=⟨w.heap.size+1,1,none⟩) (by simp;omega) _).more (fun g hg=>by omega)
end Go.Proofs.YtdfobfjpkjddpaaGreat

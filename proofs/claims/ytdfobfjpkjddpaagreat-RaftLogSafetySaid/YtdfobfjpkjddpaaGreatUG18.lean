import Derived.Test.YtdfobfjpkjddpaaGreatUG17
import Derived.Laws.AppendOwn
set_option linter.unusedVariables false
set_option linter.unusedSimpArgs false
set_option maxRecDepth 10000
set_option maxHeartbeats 4000000
namespace Go.Proofs.YtdfobfjpkjddpaaGreat
open Go.RowKit Go.Own Go.Quo Go.Wire Go.Raft
theorem strip3 {col:Nat→Nat}{k:Nat}(h:strip col k=3):col k=3:=by
 unfold strip at h
 split at h
 ·omega
 ·exact h
section
variable {w w2 w3:World} {col:Nat→Nat} {p v j l f:Nat} {s:Nd} {un:Bool} {mb:Mb} {pos:Int} {mi mm:Ms} {Ao:Option Addr} {co:Nat} {ms:List MV} {dur:Int}
theorem NZ.clr (h:NZ w col p v j l f s un mb pos mi mm Ao co ms dur):NZ (w.setCell ⟨p,46,none⟩ (.slice none 0 0)) (strip col) p v j l f s un mb pos mi mm none 0 [] dur:=by
 have f6:Fr (fun k=>k=p) w (w.setCell ⟨p,46,none⟩ (.slice none 0 0)):=(Fr.refl (fun k=>k=p) w).setCell (p:=⟨p,46,none⟩) (.inl rfl) _
 have ne:∀ {c:Nat} (k:Nat),col k=c→c≠1→¬ k=p:=by
  rintro c k hk h1 rfl
  rw[h.cp] at hk;omega
 refine ⟨?_,h.vb.fr f6 (ne v h.cv (by decide)),(h.js.fr f6 (fun g hg=>ne g hg (by decide))).wider (fun k hk=>strip_of hk (by decide) (by decide)),h.du,(h.ls.fr f6 (fun g hg=>ne g hg (by decide))).wider (fun k hk=>strip_of hk (by decide) (by decide)),(h.ri.fr f6 (fun g hg=>ne g hg (by decide))).more' (fun k hk=>strip_of hk (by decide) (by decide)),h.mio,(h.rm.fr f6 (fun g hg=>ne g hg (by decide))).more' (fun k hk=>strip_of hk (by decide) (by decide)),h.mmo,?_,?_,?_,strip_of h.cp (by decide) (by decide),strip_of h.cv (by decide) (by decide),?_,h.l9⟩
 ·have:=h.b.set_ 46 (.slice none 0 0)
  rwa [nd46 h.l9] at this
 ·simp[World.ownsRow,Value.ownBlock]
 ·intro g hg;simp[Value.ownBlock] at hg
 ·intro x hx;simp at hx
 ·intro k hk
  have:col k≠0:=by
   intro e
   apply hk
   unfold strip
   split
   ·rfl
   ·exact e
  have:=h.lt k this
  simpa using this
theorem NZ.sync (h:NZ w col p v j l f s un mb pos mi mm Ao co ms dur)(f1:Fr (fun k=>k=p) w w2)(hb:Blk w2 p 88 (ndL v j l s false pos mi mm (.slice Ao ms.length co)).toArray)(js:JS w3 (fun k=>col k=3) f j s.recs (encJ initS s.recs).length false)(f2:Fr (fun k=>col k=3) w2 w3) :
 NZ w3 col p v j l f s false mb pos mi mm Ao co ms (encJ initS s.recs).length:=by
 have f6:Fr (fun k=>k=p∨col k=3) w w3:=(f1.mono (T:=fun k=>k=p∨col k=3) (fun k _ hk=>Or.inl hk)).trans (f2.mono (fun k _ hk=>Or.inr hk))
 have ne:∀ {c:Nat} (k:Nat),col k=c→c≠1→c≠3→¬ (k=p∨col k=3):=by
  rintro c k hk h1 h3 (rfl | e)
  ·rw[h.cp] at hk;omega
  ·omega
 exact ⟨hb.fr f2 (by rw[h.cp];decide),h.vb.fr f6 (ne v h.cv (by decide) (by decide)),js,fun _=>rfl,h.ls.fr f6 (fun g hg=>ne g hg (by decide) (by decide)),h.ri.fr f6 (fun g hg=>ne g hg (by decide) (by decide)),h.mio,h.rm.fr f6 (fun g hg=>ne g hg (by decide) (by decide)),h.mmo,own_fr h.oo f6 (fun g hg=>ne g (h.ob g hg) (by decide) (by decide)),h.ob,h.om.fr f6 (fun g hg=>ne g hg (by decide) (by decide)),h.cp,h.cv,fun k hk=>Nat.lt_of_lt_of_le (h.lt k hk) f6.size,h.l9⟩
end
def SentP (w:World)(col:Nat→Nat)(p v j l f:Nat)(s:Nd)(outs:List Msg)(e:Ending)(w':World):Prop:=
 ∃ A c ms,e=.returned (.slice A ms.length c)∧ms.map MV.m=outs∧Msgs w' (fun k=>col k=6∨col k=7) A ms∧NS w' (strip col) p v j l f s false []∧Fr (fun k=>col k≠0) w w'
section
variable (w:World) (col:Nat→Nat) (p v j l f:Nat) (s:Nd) (un:Bool) (outs:List Msg) (h:NS w col p v j l f s un outs)
include h
theorem sent49:Calls Tryz.prog 49 #[.pointer (some ⟨p,0,none⟩)] w (SentP w col p v j l f s outs):=by
 obtain ⟨mi,mm,Ao,co,ms,dur,hz,hm⟩:=h
 have h1:=hz.clr
 have hr:Reads w (fun k=>col k=6) 9 Ao ms.length (ms.flatMap mvL):=(Reads.of_own hz.oo).more hz.ob
 have f1:Fr (fun k=>k=p) w (w.setCell ⟨p,46,none⟩ (.slice none 0 0)):=(Fr.refl (fun k=>k=p) w).setCell (p:=⟨p,46,none⟩) (.inl rfl) _
 have KEEP:=ħ (show ∀ W dur',NZ W (strip col) p v j l f s false s.mb (posC s.log) mi mm none 0 [] dur'→Fr (fun k=>k=p∨col k=3) w W→SentP w col p v j l f s outs (.returned (.slice Ao ms.length co)) W from by
  intro W dur' hn hf
  refine ⟨Ao,co,ms,rfl,hm,⟨(hr.fr hf ?_).more (fun k hk=>.inl hk),(hz.om.fr hf ?_).more (fun k hk=>.inr hk)⟩,⟨mi,mm,none,0,[],dur',hn,rfl⟩,hf.mono ?_⟩
  ·rintro k hk (rfl | e)
   ·rw[hz.cp] at hk;omega
   ·omega
  ·rintro k hk (rfl | e)
   ·rw[hz.cp] at hk;omega
   ·omega
  ·rintro k _ (rfl | e)
   ·rw[hz.cp];decide
   ·rw[e];decide)
 have H1:=ħ h1
 have HF1:=ħ (f1.mono (T:=fun k=>k=p∨col k=3) (fun k _ hk=>Or.inl hk))
 obtain ⟨c0,c1,x0,x1,x2,x3,x4,x5,x6,x7,x8,x9,x10,x11,x12,x13,x14,x15,x16,x44,x45,x46⟩:=hz.c
 clear hz h1 hr f1 hm x0 x1 x2 x3 x4 x5 x6 x7 x8 x9 x10 x11 x12 x13 x14 x15 x16
 go_enter Tryz.func49,Tryz.ntmps49
 go_upto_region 3 with (fail)
 generalize w.setCell ⟨p,46,none⟩ (.slice none 0 0)=W1 at *
 clear c0 c1 x44 x45 x46
 obtain ⟨c0,c1,x0,x1,x2,x3,x4,x5,x6,x7,x8,x9,x10,x11,x12,x13,x14,x15,x16,x44,x45,x46⟩:=H1.out.c
 clear x0 x1 x2 x4 x5 x6 x7 x8 x9 x10 x11 x12 x13 x14 x15 x16 x46
 cases un with
 | false=>
  go_wp2_with fail
  go_ret
  exact KEEP.out _ dur (by exact H1.out) HF1.out
 | true=>
  go_upto_region 5 with (fail)
  have f2:Fr (fun k=>k=p) W1 (W1.setCell ⟨p,45,none⟩ (.bool false)):=(Fr.refl (fun k=>k=p) W1).setCell (p:=⟨p,45,none⟩) (.inl rfl) _
  have g2:=H1.out.b.set_ 45 (.bool false)
  rw[nd45 H1.out.l9] at g2
  have j2:JS (W1.setCell ⟨p,45,none⟩ (.bool false)) (fun k=>strip col k=3) f j s.recs dur false:=H1.out.js.fr f2 (fun g hg e=>by rw[e,H1.out.cp] at hg;omega)
  have HS:=ħ (js_sync _ _ f j s.recs dur j2)
  have HZ:=ħ fun W3 js f3=>NZ.sync (w3:=W3) H1.out f2 g2 js f3
  have HF2:=ħ f2
  have y3:(W1.setCell ⟨p,45,none⟩ (.bool false)).cell? ⟨p,3,none⟩=some (.pointer (some ⟨j,0,none⟩)):=(g2.cell 3).trans rfl
  have y0:=g2.lt
  clear f2 g2 j2 c0 c1 x3 x44 x45
  have HQ:=ħ fun (W:World) (x:NS W (strip col) p v j l f s false [])=>ok72 W (strip col) p v j l f s false [] x
  generalize W1.setCell ⟨p,45,none⟩ (.bool false)=W2 at *
  go_upto_region 6 with (first
   | (go_at_call 82;((with_reducible refine HS.out.mono ?_);rintro e w3 ⟨rfl,js3,f3⟩;have h3:=HZ.out w3 js3 f3;have n3:NS w3 (strip col) p v j l f s false []:=⟨mi,mm,none,0,[],_,h3,rfl⟩;have F3:=(HF1.out.trans (HF2.out.mono (fun k _ hk=>Or.inl hk))).trans (f3.mono (T:=fun k=>k=p∨col k=3) (fun k _ hk=>Or.inr (strip3 hk)));obtain ⟨c0,c1,x0,x1,x2,x3,x4,x5,x6,x7,x8,x9,x10,x11,x12,x13,x14,x15,x16,x44,x45,x46⟩:=h3.c))
   | (go_at_call 72;((with_reducible refine (HQ.out w3 n3).mono ?_);rintro e w4 ⟨rfl,rfl⟩)))
  go_wp2_with fail
  go_ret
  exact KEEP.out _ _ h3 F3
end
theorem own_cut {w:World}{base:Nat}{e:TypeId}{g n m c:Nat}{xs:List Value}(h:w.ownsRow base e 1 (.slice (some ⟨g,0,none⟩) n c) n xs)(hm:m≤n):w.ownsRow base e 1 (.slice (some ⟨g,0,none⟩) m c) m (xs.take m):=by
 have hl:xs.length=n:=by simpa using h.1
 refine ⟨by rw[List.length_take];omega,?_⟩
 rcases h.2 with ⟨h0,_⟩ | ⟨g',cap,cur,hv,hb,hg,hnc,hcm,hsz,htk⟩
 ·cases h0
 ·injection hv with h1 h2 h3
  injection h1 with h1
  injection h1 with h1
  subst h1 h3
  exact .inr ⟨g,c,cur,rfl,hb,hg,by omega,hcm,hsz,by rw[←htk,List.take_take,Nat.mul_one,Nat.mul_one,Nat.min_eq_left hm]⟩
def DelPost (base:Nat)(e:TypeId)(A:Option Addr)(c:Nat)(l:List Int)(w:World)(en:Ending)(w':World):Prop:=
 en=.returned (.slice A l.length c)∧w'.ownsRow base e 1 (.slice A l.length c) l.length (l.map (Value.int .i64))∧w.grownBy w' (Value.slice A l.length c).ownBlock
theorem putRow_own {w:World}{base g c n q:Nat}{e:TypeId}{l ts:List Int}(h:w.ownsRow base e 1 (.slice (some ⟨g,0,none⟩) l.length c) l.length (l.map (Value.int .i64)))(ht:ts.length=l.length)(hm:n≤l.length) :
 (Sort.putRow (Value.int .i64) (Sort.ahead w q) g 0 ts.toArray).ownsRow base e 1 (.slice (some ⟨g,0,none⟩) n c) n ((ts.take n).map (Value.int .i64))∧w.grownBy (Sort.putRow (Value.int .i64) (Sort.ahead w q) g 0 ts.toArray) (some g):=by
 have hgr:∀ W:World,Sort.grow W #[]=W:=fun W=>by simp[Sort.grow]
 rcases h.2 with ⟨h0,_⟩ | ⟨g',cap,cur,hv,hb,hg,hnc,hcm,hsz,htk⟩
 ·cases h0
 ·injection hv with h1 h2 h3
  injection h1 with h1
  injection h1 with h1
  subst h1 h3
  have h1:=ownsRow_sortedI (n:=q) (os:=#[]) (ss:=l) (ts:=ts) ht hb hg hnc hcm hsz
  have h2:=grownBy_sortedI (w:=w) (g:=g) (n:=q) (os:=#[]) ts.toArray
  rw[hgr] at h1 h2
  refine ⟨?_,h2⟩
  have h3:=own_cut h1 hm
  rwa [←List.map_take] at h3
theorem holds_own {w:World}{base g c:Nat}{e:TypeId}{l:List Int}(h:w.ownsRow base e 1 (.slice (some ⟨g,0,none⟩) l.length c) l.length (l.map (Value.int .i64))):Sort.Holds (Value.int .i64) w g 0 l.toArray∧l.length≤c∧c≤maxLen∧g<w.heap.size:=by
 rcases h.2 with ⟨h0,_⟩ | ⟨g',cap,cur,hv,hb,hg,hnc,hcm,hsz,htk⟩
 ·cases h0
 ·injection hv with h1 h2 h3
  injection h1 with h1
  injection h1 with h1
  subst h1 h3
  exact ⟨holds_of_blockI hg (by simpa using htk),hnc,hcm,(Array.getElem?_eq_some_iff.1 hg).1⟩
theorem own_base {w:World}{b b2:Nat}{e:TypeId}{size n:Nat}{v:Value}{xs:List Value}(h:w.ownsRow b e size v n xs)(hb:b2≤b):w.ownsRow b2 e size v n xs:=by
 refine ⟨h.1,?_⟩
 rcases h.2 with h0 | ⟨g',cap,cur,hv,hb',r⟩
 ·exact .inl h0
 ·exact .inr ⟨g',cap,cur,hv,Nat.le_trans hb hb',r⟩
def MOPost (l:List Int)(w:World)(e:Ending)(w':World):Prop:=∃ A c,e=.returned (.slice A l.length c)∧w'.ownsRow w.heap.size 3 1 (.slice A l.length c) l.length (l.map (Value.int .i64))∧Below w.heap.size w w'
theorem compact_own2 (base:Nat)(A:Option Addr)(n c:Nat)(zs:List Int)(w:World)(hown:w.ownsRow base 3 1 (.slice A n c) n (zs.map (Value.int .i64)))(hnb:n≤1000000)(h0:0<n) :
 Calls Tryz.prog 87 #[.slice A n c] w (DelPost base 3 A c (Lib.compact zs) w):=by
 obtain rfl:zs.length=n:=by simpa using hown.1
 obtain ⟨g,cur,rfl,-,-,-,-⟩:=own_blk hown h0
 obtain ⟨hH,hcap,hmx,hg⟩:=holds_own hown
 have hcl:(Lib.compact zs).length≤zs.length:=by
  unfold Lib.compact Lib.compactUpTo
  rw[List.length_map]
  exact Nat.le_trans (List.length_filter_le _ _) (by simp)
 refine (Tryz.slices_Compact_int g 0 c zs w hH (by omega) (by omega)).mono ?_
 rintro e w' ⟨rfl,q,rfl⟩
 have h2:=putRow_own (q:=q) (n:=(Lib.compact zs).length) hown (ts:=Lib.compact zs ++ List.replicate (zs.length - (Lib.compact zs).length) 0) (by simp;omega) hcl
 rw[List.take_left] at h2
 exact ⟨rfl,h2.1,h2.2⟩
theorem members_own (B:Nat→Prop)(m:Ms)(w:World)(h:MR w B m)(hv:vB m.o m.n=true) :
 Calls Tryz.prog 55 #[msV m] w (MOPost (memF m.o m.n) w):=by
 have HO:=ħ (valid_b B m _ (h.alloc (.cells (msC m) 24)) true hv)
 have HV:=ħ hv
 have hlen:=v_lens hv
 clear hv
 go_enter Tryz.func55,Tryz.ntmps55
 go_wp2_with (go_at_call 54;((with_reducible refine HO.out.mono ?_);rintro e w1 ⟨rfl,rfl⟩))
 generalize hW:(w.alloc (.cells (msC m) 24)).alloc (.cells (msC m) 24)=W
 have hb0:Blk W w.heap.size 24 (msC m):=by rw[←hW];exact (Blk.new w 24 _).alloc _
 have hmW:MR W B m:=by rw[←hW];exact (h.alloc _).alloc _
 have hbW:Below w.heap.size w W:=by rw[←hW];exact ((Below.refl _ _).alloc (Nat.le_refl _) _).alloc (by simp) _
 have hsW:w.heap.size<W.heap.size:=by rw[←hW];simp;omega
 clear hW h
 have ho:=(hmW.o.old (by omega)).more (B':=(· < W.heap.size)) (fun k hk=>hk.2)
 have hn:=(hmW.n.old (by omega)).more (B':=(· < W.heap.size)) (fun k hk=>hk.2)
 obtain ⟨q0,q1,q2⟩:=hb0.facts
 have p0:W.cell? ⟨w.heap.size,0,none⟩=some (.slice m.A m.o.length m.c):=hb0.cell 0
 have p1:W.cell? ⟨w.heap.size,1,none⟩=some (.slice m.A' m.n.length m.c'):=hb0.cell 1
 clear q1 q2 hmW
 go_region_law (first
  | (refine step_append_any _ (by rfl) (.const (.slice none 0 0)) (.tmp 8) _ (by rfl) W.heap.size 3 (.int .i64 0) 1 8 Tryz.underlying22 info3 rfl (by omega) (.slice none 0 0) 0 [] (by rfl) (World.ownsRow_nil _ _ _ _) (· < W.heap.size) m.A m.o.length m.c (m.o.map (Value.int .i64)) (by rfl) ho.drew (ints_one _) (by simp only[maxLen];omega) (by omega) (by simp) ?_
     intro A2 c2 w2 hown2 hgr2 hat2
     simp only[Nat.zero_add,List.nil_append] at hown2 hat2
     have hs2:W.heap.size≤w2.heap.size:=by have:=hgr2.size;simpa using this
     have p1':w2.cell? ⟨w.heap.size,1,none⟩=some (.slice m.A' m.n.length m.c'):=by rw[grown_cell hgr2 (by simpa using hsW) (by simp[Value.ownBlock])];exact p1
     have hn2:=hn.drew.grown hgr2 (by simp[Value.ownBlock]))
  | (refine step_append_any _ (by rfl) (.tmp 9) (.tmp 11) _ (by rfl) W.heap.size 3 (.int .i64 0) 1 8 Tryz.underlying22 info3 rfl (by omega) (.slice A2 m.o.length c2) m.o.length (m.o.map (Value.int .i64)) (by rfl) hown2 (· < W.heap.size) m.A' m.n.length m.c' (m.n.map (Value.int .i64)) (by rfl) hn2 (ints_one _) (by simp only[maxLen];omega) (by omega) hs2 ?_
     intro A3 c3 w3 hown3 hgr3 hat3))
 all_goals
  rw[←List.map_append] at hown3
  have hpos:0<m.o.length+m.n.length:=by omega
  have hrow2:∀ g,(Value.slice A2 m.o.length c2).ownBlock=some g→W.heap.size≤g:=fun g hg=>(hown2.lt g hg).1
  have b2:Below w.heap.size w w2:=(hbW.drew).grown hgr2 (by simpa using hbW.size) (by simp[Value.ownBlock])
  have b3:Below w.heap.size w w3:=b2.grown hgr3 b2.size (fun g hg=>by have:=hrow2 g hg;omega)
  have HSo:=ħ (sort_own W.heap.size A3 _ c3 (m.o ++ m.n) w3 hown3 (by omega))
  clear hown2 hgr2 hat2 hgr3 hat3 hn2 p1' hrow2 hown3 p0 p1
  go_wp2_with fail
  refine HSo.out.mono ?_
  rintro e w4 ⟨rfl,hown4,hgr4⟩
  have HCo:=ħ (compact_own2 W.heap.size A3 _ c3 (srt (m.o ++ m.n)) w4 hown4 (by omega) hpos)
  have hrow4:∀ g,(Value.slice A3 (m.o.length+m.n.length) c3).ownBlock=some g→W.heap.size≤g:=fun g hg=>(hown4.lt g hg).1
  have b4:Below w.heap.size w w4:=b3.grown hgr4 b3.size (fun g hg=>by have:=hrow4 g hg;omega)
  clear hown4 hgr4
  go_wp2_with fail
  refine HCo.out.mono ?_
  rintro e w5 ⟨rfl,hr5,hgr5⟩
  rw[compact_mem HV.out] at hr5 hgr5⊢
  go_wp2
  go_ret
  exact ⟨A3,c3,rfl,own_base hr5 (by omega),b4.grown hgr5 b4.size (fun g hg=>by have:=(hr5.lt g hg).1;omega)⟩
def noX (l:List Int)(x:Int):List Int:=l.filter (fun y=>!decide (y=x))
theorem noX_len (l:List Int)(x:Int):(noX l x).length≤l.length:=List.length_filter_le _ _
theorem clos114 (x y:Int)(B p:Nat)(W:World)(hc:W.cell? ⟨B,0,none⟩=some (.pointer (some ⟨p,0,none⟩)))(hp:W.cell? ⟨p,0,none⟩=some (.int .i64 x)):FnGives Tryz.prog 114 #[.pointer (some ⟨B,0,none⟩)] #[.int .i64 y] (.bool (decide (y=x))) W:=by
 show Calls Tryz.prog 114 #[.int .i64 y,.pointer (some ⟨B,0,none⟩)] W _
 by_cases h:y=x
 ·subst h
  go_enter Tryz.func114,Tryz.ntmps114
  go_wp2
  go_ret
  exact ⟨by simp,0,rfl⟩
 ·have h1:(y == x)=false:=by simpa using h
  go_enter Tryz.func114,Tryz.ntmps114
  go_wp2
  go_ret
  exact ⟨by simp[h],0,rfl⟩
theorem pred114 (x:Int)(B p:Nat)(w:World)(hB:B<w.heap.size)(hpl:p<w.heap.size)(hc:w.cell? ⟨B,0,none⟩=some (.pointer (some ⟨p,0,none⟩)))(hp:w.cell? ⟨p,0,none⟩=some (.int .i64 x)):PredAt Tryz.prog 114 #[.pointer (some ⟨B,0,none⟩)] (Value.int .i64) (fun y=>decide (y=x)) w:=
 fun W y hb=>clos114 x y B p W ((hb.cell (p:=⟨B,0,none⟩) hB).trans hc) ((hb.cell (p:=⟨p,0,none⟩) hpl).trans hp)
theorem over114 (x:Int)(B p blk off size:Nat)(w:World)(hB:B<w.heap.size)(hpl:p<w.heap.size)(hne:B≠blk)(hpe:p≠blk)(hc:w.cell? ⟨B,0,none⟩=some (.pointer (some ⟨p,0,none⟩)))(hp:w.cell? ⟨p,0,none⟩=some (.int .i64 x)):PredOver Tryz.prog 114 #[.pointer (some ⟨B,0,none⟩)] (Value.int .i64) (fun y=>decide (y=x)) blk off size w:=
 fun n os dk y _=>clos114 x y B p _ (by
  unfold sortWorld
  rw[Sort.cell?_grow _ _ _ (by show B<(Sort.putRow _ _ _ _ _).heap.size;rw[Sort.size_putRow];exact hB),Sort.cell?_putRow_other _ _ blk off _ _ (Or.inl hne)]
  exact hc) (by
  unfold sortWorld
  rw[Sort.cell?_grow _ _ _ (by show p<(Sort.putRow _ _ _ _ _).heap.size;rw[Sort.size_putRow];exact hpl),Sort.cell?_putRow_other _ _ blk off _ _ (Or.inl hpe)]
  exact hp)
theorem del113 (base:Nat)(A:Option Addr)(c:Nat)(l:List Int)(x:Int)(B p:Nat)(w:World)(hown:w.ownsRow base 3 1 (.slice A l.length c) l.length (l.map (Value.int .i64)))(h0:0<l.length)(hB:B<w.heap.size)(hpl:p<w.heap.size)(hne:∀ g,(Value.slice A l.length c).ownBlock=some g→B≠g)(hpe:∀ g,(Value.slice A l.length c).ownBlock=some g→p≠g)(hc:w.cell? ⟨B,0,none⟩=some (.pointer (some ⟨p,0,none⟩)))(hp:w.cell? ⟨p,0,none⟩=some (.int .i64 x)) :
 Calls Tryz.prog 113 #[.slice A l.length c,.func (.func 114) #[] #[.pointer (some ⟨B,0,none⟩)]] w (DelPost base 3 A c (noX l x) w):=by
 obtain ⟨g,cur,rfl,-,-,-,-⟩:=own_blk hown h0
 obtain ⟨hH,hcap,hmx,hg⟩:=holds_own hown
 have hne:=hne g rfl
 have hpe:=hpe g rfl
 have eg:∀ args w,(callFunc 114 args).run Tryz.prog w=.ok (.enter 114 args) w:=enters_of Tryz.func114 (by kernel_rfl) rfl
 have hcon:=Tryz.slices_DeleteFunc (Value.int .i64) (fun _=>rfl) (fun y=>decide (y=x)) 114 #[.pointer (some ⟨B,0,none⟩)] eg 0 Tryz.zeroValue3 g 0 c l.toArray w
  (pred114 x B p w hB hpl hc hp) (over114 x B p g 0 l.toArray.size w hB hpl hne hpe hc hp) hH (by simp only[maxLen] at hmx;rw[List.size_toArray];omega) (by simpa using hcap)
 refine hcon.mono ?_
 rintro en w' ⟨rfl,q,rfl⟩
 have hn:=noX_len l x
 have hle:(noX l x ++ List.replicate (l.length - (noX l x).length) 0).length=l.length:=by rw[List.length_append,List.length_replicate];omega
 have h2:=putRow_own (q:=q) (n:=(noX l x).length) hown hle hn
 rw[List.take_left] at h2
 refine ⟨?_,h2.1,h2.2⟩
 show _=Ending.returned (Value.slice (some ⟨g,0,none⟩) (noX l x).length c)
 rfl
theorem mem_len {o n:List Int}(h:vB o n=true):0<(memF o n).length∧(memF o n).length≤1000:=by
 have h1:=v_lens h
 have h2:=memF_le o n
 have hc:=compact_mem h
 refine ⟨?_,by omega⟩
 obtain ⟨x,hx⟩:∃ x,x∈o:=by
  cases o with
  | nil=>simp at h1
  | cons x r=>exact ⟨x,List.mem_cons_self ..⟩
 exact List.length_pos_of_mem ((mem_memF o n x).2 ⟨v_range h x (.inl hx),.inl hx⟩)
section
variable (w:World) (col:Nat→Nat) (p v j l f:Nat) (s:Nd) (un:Bool) (outs:List Msg) (h:NS w col p v j l f s un outs)
include h
theorem others75 (hv:vB s.mb.o s.mb.n=true):Calls Tryz.prog 75 #[.pointer (some ⟨p,0,none⟩)] w (ClPost s.others w):=by
 have hos:s.others=noX (memF s.mb.o s.mb.n) s.id:=rfl
 obtain ⟨mi,mm,Ao,co,ms,dur,hz,hm⟩:=h
 have b1:Below w.heap.size w (w.alloc (.cells #[.pointer (some ⟨p,0,none⟩)] 31)):=(Below.refl _ _).alloc (Nat.le_refl _) _
 have g1:Blk (w.alloc (.cells #[.pointer (some ⟨p,0,none⟩)] 31)) w.heap.size 31 #[.pointer (some ⟨p,0,none⟩)]:=Blk.new w 31 _
 have h1:=hz.fr (Fr.of_below (S:=fun _=>False) b1) (fun _ _=>id)
 have hpl:=hz.b.lt
 have HM:=ħ fun (W:World) (x:MR W (fun k=>col k=5) mm)=>members_own _ mm W x (by rw[hz.mmo.1,hz.mmo.2];exact hv)
 rw[hz.mmo.1,hz.mmo.2] at HM
 obtain ⟨l0,l1⟩:=mem_len hv
 rw[hos]
 generalize memF s.mb.o s.mb.n=L at *
 clear hm hos
 go_enter Tryz.func75,Tryz.ntmps75
 go_upto_region 1 with (fail)
 generalize w.alloc (.cells #[.pointer (some ⟨p,0,none⟩)] 31)=W1 at *
 obtain ⟨q0,q1,q2⟩:=g1.facts
 obtain ⟨c0,c1,x0,x1,x2,x3,x4,x5,x6,x7,x8,x9,x10,x11,x12,x13,x14,x15,x16,x44,x45,x46⟩:=h1.c
 clear x1 x2 x3 x4 x5 x6 x7 x10 x11 x12 x13 x14 x15 x16 x44 x45 x46
 go_wp2_with (first
  | (go_at_call 55;((with_reducible refine (HM.out W1 h1.rm).mono ?_);rintro e w2 ⟨A2,c2,rfl,hown2,b2⟩;have hlt:=b1.size;have q3:=(b2.cell (p:=⟨w.heap.size,0,none⟩) g1.lt).trans (g1.cell 0);have c3:=(b2.cell (p:=⟨p,0,none⟩) h1.b.lt).trans x0;have HD:=ħ (del113 W1.heap.size A2 c2 L s.id w.heap.size p w2 hown2 l0 (Nat.lt_of_lt_of_le g1.lt b2.size) (Nat.lt_of_lt_of_le h1.b.lt b2.size) (fun g hg e=>by have:=(hown2.lt g hg).1;have:=g1.lt;omega) (fun g hg e=>by have:=(hown2.lt g hg).1;omega) q3 c3)))
  | (go_at_call 113;((with_reducible refine (HD.out).mono ?_);rintro e w3 ⟨rfl,hown3,hgr3⟩)))
 go_ret
 obtain ⟨A5,c5,he5,hri5⟩:=own_slice hown3
 injection he5 with e1 e2 e3
 subst e1 e3
 exact ⟨A2,c2,rfl,hri5.more (fun k hk=>Nat.le_trans b1.size hk),b1.trans ((b2.mono b1.size).grown hgr3 (Nat.le_trans b1.size b2.size) (fun g hg=>by have:=(hown3.lt g hg).1;have:=b1.size;omega))⟩
end
def vtK (vs:List Bool)(k:Nat):List Int:=((List.range k).filter fun i=>vs.getD i false).map fun (i:Nat)=>(i:Int)
theorem vtK_len (vs:List Bool)(k:Nat):(vtK vs k).length≤k:=by
 unfold vtK
 rw[List.length_map]
 exact Nat.le_trans (List.length_filter_le _ _) (by simp)
theorem vtK_no (vs:List Bool)(k:Nat)(h:vs.getD k false=false):vtK vs (k+1)=vtK vs k:=by
 unfold vtK
 rw[List.range_succ,List.filter_append,List.filter_cons,h]
 simp
theorem vtK_yes (vs:List Bool)(k:Nat)(h:vs.getD k false=true):vtK vs (k+1)=vtK vs k ++ [(k:Int)]:=by
 unfold vtK
 rw[List.range_succ,List.filter_append,List.filter_cons,h]
 simp
theorem run_index85 (b0 b1 b2 b3 b4 b5 b6 b7 b8:Bool)(k:Nat)(W:World)(hk:k<9):(Instr.index 85 (.agg #[.bool b0,.bool b1,.bool b2,.bool b3,.bool b4,.bool b5,.bool b6,.bool b7,.bool b8]) (.int .i64 (k:Int))).run Tryz.prog W=.ok (.bool ([b0,b1,b2,b3,b4,b5,b6,b7,b8].getD k false)) W:=by
 have hu:Tryz.prog.underlying 85=some (.array 9 4):=by kernel_rfl
 rcases (by omega:k=0∨k=1∨k=2∨k=3∨k=4∨k=5∨k=6∨k=7∨k=8) with rfl | rfl | rfl | rfl | rfl | rfl | rfl | rfl | rfl <;> simp[Instr.index,run_underlying hu,asIntOf,go_sem]
theorem list9 {α:Type}(l:List α)(h:l.length=9):∃ b0 b1 b2 b3 b4 b5 b6 b7 b8,l=[b0,b1,b2,b3,b4,b5,b6,b7,b8]:=by
 match l,h with
 | [b0,b1,b2,b3,b4,b5,b6,b7,b8],_=>exact ⟨b0,b1,b2,b3,b4,b5,b6,b7,b8,rfl⟩
theorem NZ.facts9v {w:World}{col:Nat→Nat}{p v j l f:Nat}{s:Nd}{un:Bool}{mb:Mb}{pos:Int}{mi mm:Ms}{Ao:Option Addr}{co:Nat}{ms:List MV}{dur:Int}(h:NZ w col p v j l f s un mb pos mi mm Ao co ms dur):∃ b0 b1 b2 b3 b4 b5 b6 b7 b8,s.vs=[b0,b1,b2,b3,b4,b5,b6,b7,b8]∧w.cell? ⟨p,17,none⟩=some (.bool b0)∧w.cell? ⟨p,18,none⟩=some (.bool b1)∧w.cell? ⟨p,19,none⟩=some (.bool b2)∧w.cell? ⟨p,20,none⟩=some (.bool b3)∧w.cell? ⟨p,21,none⟩=some (.bool b4)∧w.cell? ⟨p,22,none⟩=some (.bool b5)∧w.cell? ⟨p,23,none⟩=some (.bool b6)∧w.cell? ⟨p,24,none⟩=some (.bool b7)∧w.cell? ⟨p,25,none⟩=some (.bool b8):=by
 obtain ⟨b0,b1,b2,b3,b4,b5,b6,b7,b8,e⟩:=list9 _ h.l9.1
 refine ⟨b0,b1,b2,b3,b4,b5,b6,b7,b8,e,?_,?_,?_,?_,?_,?_,?_,?_,?_⟩
 all_goals
  rw[h.b.cell,List.getElem?_toArray]
  unfold ndL
  rw[e]
  rfl
section
variable (w:World) (col:Nat→Nat) (p v j l f:Nat) (s:Nd) (un:Bool) (outs:List Msg) (h:NS w col p v j l f s un outs)
include h
theorem member47 (hv:vB s.mb.o s.mb.n=true):Calls Tryz.prog 47 #[.pointer (some ⟨p,0,none⟩)] w fun e w'=>e=.returned (.bool (hasB s.mem s.id))∧Below w.heap.size w w':=by
 have hos:s.mem=memF s.mb.o s.mb.n:=rfl
 obtain ⟨mi,mm,Ao,co,ms,dur,hz,hm⟩:=h
 have hpl:=hz.b.lt
 have HM:=ħ fun (W:World) (x:MR W (fun k=>col k=5) mm)=>members_any _ mm W x
 unfold memV at HM
 rw[hz.mmo.1,hz.mmo.2,if_pos hv] at HM
 obtain ⟨l0,l1⟩:=mem_len hv
 rw[hos]
 generalize memF s.mb.o s.mb.n=L at *
 obtain ⟨c0,c1,x0,x1,x2,x3,x4,x5,x6,x7,x8,x9,x10,x11,x12,x13,x14,x15,x16,x44,x45,x46⟩:=hz.c
 clear hm hos x1 x2 x3 x4 x5 x6 x7 x10 x11 x12 x13 x14 x15 x16 x44 x45 x46
 go_enter Tryz.func47,Tryz.ntmps47
 have HR:=ħ hz.rm
 clear hz
 go_upto_region 1 with (fail)
 go_region_law (first
  | (go_simp;((with_reducible refine (HM.out _ (by exact HR.out.fr (S:=fun _=>False) (Fr.of_below (Below.refl _ _).drew) (fun _ _=>id))).mono ?_);rintro e w2 ⟨A2,c2,rfl,hr2,b2,hc2⟩;have b2:=((Below.refl w.heap.size w).drew).trans b2;have x02:=(b2.cell (p:=⟨p,0,none⟩) hpl).trans x0;have hpl2:=Nat.lt_of_lt_of_le hpl b2.size;have HC:=ħ (contains_any _ A2 c2 L s.id w2 hr2 l1)))
  | (go_simp;((with_reducible refine HC.out.mono ?_);rintro e w3 ⟨rfl,rfl⟩)))
 all_goals
  go_wp2
  go_ret
  exact ⟨rfl,b2⟩
theorem entry18_yes (k:Nat)(x:Ent)(hl:s.log.length≤1000000)(hk:s.log[k]?=some x)(hs:Sm s.log):Calls Tryz.prog 18 #[.pointer (some ⟨p,0,none⟩),.int .i64 ((k:Int)+1)] w fun e w'=>∃ A c,e=.returned (.tuple #[evV x.term x.kind A x.body.length c,.bool true])∧Reads w' (w.heap.size≤·) 1 A x.body.length (bys x.body)∧Below w.heap.size w w':=by
 obtain ⟨mi,mm,Ao,co,ms,dur,hz,hm⟩:=h
 have b1:Below w.heap.size w (w.alloc (.cells (evC 0 0 none 0 0) 58)):=(Below.refl _ _).alloc (Nat.le_refl _) _
 have h1:=hz.fr (Fr.of_below (S:=fun _=>False) b1) (fun _ _=>id)
 have g1:Blk (w.alloc (.cells (evC 0 0 none 0 0) 58)) w.heap.size 58 (evC 0 0 none 0 0):=Blk.new w 58 _
 have HG:=ħ fun W (y:LS W (fun k=>col k=4) l s.log)=>get_yes W _ l s.log k x y hl hk hs
 clear hm
 go_enter Tryz.func18,Tryz.ntmps18
 go_upto_region 1 with (fail)
 generalize w.alloc (.cells (evC 0 0 none 0 0) 58)=W1 at *
 obtain ⟨q0,q1,q2⟩:=g1.facts
 obtain ⟨c0,c1,x0,x1,x2,x3,x4,x5,x6,x7,x8,x9,x10,x11,x12,x13,x14,x15,x16,x44,x45,x46⟩:=h1.c
 clear x0 x1 x2 x3 x4 x6 x7 x8 x9 x10 x11 x12 x13 x14 x15 x16 x44 x45 x46
 have HL:=ħ h1.ls
 clear hz h1
 go_wp2_with (go_at_call 43;((with_reducible refine (HG.out W1 HL.out).mono ?_);rintro e w2 ⟨A2,c2,rfl,hr2,b2⟩;have g2:=g1.below b2 g1.lt;clear q0 q1 q2;obtain ⟨q0,q1,q2⟩:=g2.facts))
 refine bodyPost_ret (v:=.tuple #[evV x.term x.kind A2 x.body.length c2,.bool true]) (by simp[results,Tryz.results18,go_sem,q1]) rfl ⟨A2,c2,rfl,?_,?_⟩
 ·have hb:=b1.size
  exact (((hr2.setCell (by have:=g1.lt;simp;omega) _).setCell (by have:=g1.lt;simp;omega) _).setCell (by have:=g1.lt;simp;omega) _).more (fun j hj=>by omega)
 ·exact (((b1.trans (b2.mono b1.size)).setCell (by simp) _).setCell (by simp) _).setCell (by simp) _
end
section
variable (w:World) (col:Nat→Nat) (p v j l f:Nat) (s:Nd) (un:Bool) (outs:List Msg) (h:NS w col p v j l f s un outs)
include h
theorem elected79 (hv:vB s.mb.o s.mb.n=true):Calls Tryz.prog 79 #[.pointer (some ⟨p,0,none⟩)] w fun e w'=>e=.returned (.bool s.elected)∧Below w.heap.size w w':=by
 obtain ⟨mi,mm,Ao,co,ms,dur,hz,hm⟩:=h
 obtain ⟨c0,c1,x0,x1,x2,x3,x4,x5,x6,x7,x8,x9,x10,x11,x12,x13,x14,x15,x16,x44,x45,x46⟩:=hz.c
 have HE:=ħ hz.facts9v
 go_enter Tryz.func79,Tryz.ntmps79
 go_upto_region 2 with (fail)
 obtain ⟨b0,b1,b2,b3,b4,b5,b6,b7,b8,hvs,y0,y1,y2,y3,y4,y5,y6,y7,y8⟩:=HE.out
 go_wp2_with fail
 clear x0 x1 x2 x3 x4 x5 x6 x7 x10 x11 x12 x13 x14 x15 x16 x44 x45 x46 y0 y1 y2 y3 y4 y5 y6 y7 y8
 have HZ:=ħ hz
 clear hz hm HE
 go_loopw [3,10] (fun vo vi wr=>∃ (k m:Nat) (A:Option Addr) (c:Nat),k≤9∧vi=.int .i64 (k:Int)∧vo=.slice A m c∧m=(vtK s.vs k).length∧wr.ownsRow w.heap.size 3 1 (.slice A m c) m ((vtK s.vs k).map (Value.int .i64))∧Below w.heap.size w wr) (fun _ vi _=>9 - (intOf vi).toNat)
 case atStart=>exact ⟨0,0,none,0,by omega,rfl,rfl,rfl,World.ownsRow_nil _ _ _ _,Below.refl _ _⟩
 case round=>
  obtain ⟨k,m,A,c,hk,rfl,rfl,hm,ho,hb⟩:=hrel
  have hml:=vtK_len s.vs k
  rw[←hm] at hml
  have HS:=ħ ho
  have HB:=ħ hb
  have HM:=ħ hm
  have z8:=(hb.cell (p:=⟨p,8,none⟩) c0).trans x8
  have z9:=(hb.cell (p:=⟨p,9,none⟩) c0).trans x9
  have z0:=Nat.lt_of_lt_of_le c0 hb.size
  clear ho hb hm
  by_cases hk9:k=9
  ·have hlt:¬ ((k:Int)<9):=by omega
   have hk9k:=ħ hk9
   clear hk hk9
   have hri:RI wr (w.heap.size≤·) A (vtK s.vs k):=by
    have h0:=HS.out
    rw[HM.out] at h0
    obtain ⟨A',c',e,h⟩:=own_slice h0
    injection e with e1 e2 e3
    subst e1
    exact h
   have HR:=ħ (reached_any _ _ mm A c (vtK s.vs k) wr (HZ.out.rm.below HB.out) hri (by have:=vtK_len s.vs k;have:=hk9k.out;omega))
   rw[HZ.out.mmo.1,HZ.out.mmo.2,←HM.out] at HR
   clear hri hml HM hvs
   go_wp2_with fail
   refine HR.out.mono ?_
   rintro e w2 ⟨rfl,b2⟩
   go_wp2_with fail
   go_ret
   have hk9:=hk9k.out
   subst hk9
   exact ⟨rfl,HB.out.trans (b2.mono HB.out.size)⟩
  ·have hk9':k<9:=by omega
   have hlt:(k:Int)<9:=by omega
   have HI:=ħ fun W=>run_index85 b0 b1 b2 b3 b4 b5 b6 b7 b8 k W hk9'
   have hi:=HI.out
   rw[←hvs] at hi
   cases hb:s.vs.getD k false with
   | true=>
    rw[hb] at hi
    have HX:=ħ (vtK_yes _ _ hb)
    clear hb
    have hsr:=HB.out.size
    go_wp2_with (at_builtin;refine wpList_append_any _ rfl _ _ _ rfl w.heap.size 3 _ 1 8 Tryz.underlying22 info3 rfl (by omega) (.slice A m c) m ((vtK s.vs k).map (Value.int .i64)) rfl (by exact own_fr HS.out (Fr.of_below (S:=fun _=>False) ((Below.refl _ _).alloc (Nat.le_refl _) _)) (fun _ _=>id)) (fun _=>True) (some ⟨wr.heap.size,0,none⟩) 1 1 [.int .i64 k] rfl (by exact ((Reads.newS _ [.int .i64 k] 3 (0,0) 1 1 rfl _ rfl).more (fun _ _=>trivial))) (by intro u hu;simp at hu;rcases hu with rfl;rfl) (by simp only[maxLen];omega) (by omega) (by simp;omega) ?_;intro A5 c5 w5 hown hgr hat;have HS5:=ħ hown;have HB5:=ħ (Below.grown (HB.out.alloc HB.out.size _) hgr (by simp;omega) (fun j hj=>(HS.out.lt j hj).1));clear hown hgr hat)
    exact ⟨⟨k+1,m+1,A5,c5,by omega,by go_num,rfl,by rw[HX.out,List.length_append,←HM.out];rfl,by rw[HX.out,List.map_append];exact HS5.out,HB5.out⟩,by simp[intOf];omega⟩
   | false=>
    rw[hb] at hi
    have HX:=ħ (vtK_no _ _ hb)
    clear hb
    go_wp2_with fail
    exact ⟨⟨k+1,m,A,c,by omega,by go_num,rfl,by rw[HX.out];exact HM.out,by rw[HX.out];exact HS.out,HB.out⟩,by simp[intOf];omega⟩
end
end Go.Proofs.YtdfobfjpkjddpaaGreat

import Derived.Test.YtdfobfjpkjddpaaGreatUG15
import Derived.Test.YtdfobfjpkjddpaaGreatUG12
import Derived.Test.YtdfobfjpkjddpaaGreatUG16
import Derived.Test.YtdfobfjpkjddpaaGreatUG7
import Derived.Test.YtdfobfjpkjddpaaGreatUG9
set_option linter.unusedVariables false
set_option linter.unusedSimpArgs false
set_option maxRecDepth 10000
set_option maxHeartbeats 4000000
namespace Go.Proofs.YtdfobfjpkjddpaaGreat
open Go.RowKit Go.Own Go.Quo Go.Wire Go.Raft
structure MV where
 kind:Int
 frm:Int
 tt:Int
 term:Int
 prev:Int
 pterm:Int
 commit:Int
 granted:Bool
 A:Option Addr
 c:Nat
 es:List EV
def MV.m (x:MV):Msg:=⟨x.kind,x.frm,x.tt,x.term,x.prev,x.pterm,x.commit,x.granted,x.es.map EV.e⟩
def mvL (x:MV):List Value:=[.int .i64 x.kind,.int .i64 x.frm,.int .i64 x.tt,.int .i64 x.term,.int .i64 x.prev,.int .i64 x.pterm,.int .i64 x.commit,.bool x.granted,.slice x.A x.es.length x.c]
theorem mvL_len (x:MV):(mvL x).length=9:=rfl
def MsB (w:World)(B:Nat→Prop)(ms:List MV):Prop:=∀ x∈ms,ES w B x.A x.es∧x.es.length≤x.c
def ndL (v j l:Nat)(s:Nd)(un:Bool)(pos:Int)(mi mm:Ms)(o:Value):List Value:=
 [.int .i64 s.id,.int .i64 s.wait,.int .i64 s.beat,.pointer (some ⟨j,0,none⟩),.pointer (some ⟨v,0,none⟩),.pointer (some ⟨l,0,none⟩),.slice mi.A mi.o.length mi.c,.slice mi.A' mi.n.length mi.c',.slice mm.A mm.o.length mm.c,.slice mm.A' mm.n.length mm.c',.int .i64 pos,.int .i64 s.role,.int .i64 s.ld,.int .i64 s.commit,.int .i64 s.since,.int .i64 s.hb,.int .i64 s.latest]
  ++ (s.vs.map Value.bool ++ (s.nx.map (Value.int .i64) ++ (s.mt.map (Value.int .i64) ++ [.int .i64 0,.bool un,o])))
structure NZ (w:World) (col:Nat→Nat) (p v j l f:Nat) (s:Nd) (un:Bool) (mb:Mb) (pos:Int) (mi mm:Ms) (Ao:Option Addr) (co:Nat) (ms:List MV) (dur:Int):Prop where
 b:Blk w p 88 (ndL v j l s un pos mi mm (.slice Ao ms.length co)).toArray
 vb:Blk w v 122 #[.pointer (some ⟨j,0,none⟩),.int .i64 s.term,.int .i64 s.voted]
 js:JS w (fun k=>col k=3) f j s.recs dur false
 du:un=false→dur=(encJ initS s.recs).length
 ls:LS w (fun k=>col k=4) l s.log
 ri:MR w (fun k=>col k=5) mi
 mio:mi.o=s.c0.o∧mi.n=s.c0.n
 rm:MR w (fun k=>col k=5) mm
 mmo:mm.o=mb.o∧mm.n=mb.n
 oo:w.ownsRow 0 99 9 (.slice Ao ms.length co) ms.length (ms.flatMap mvL)
 ob:∀ g,(Value.slice Ao ms.length co).ownBlock=some g→col g=6
 om:MsB w (fun k=>col k=7) ms
 cp:col p=1
 cv:col v=2
 lt:∀ k,col k≠0→k<w.heap.size
 l9:s.vs.length=9∧s.nx.length=9∧s.mt.length=9
def NS (w:World)(col:Nat→Nat)(p v j l f:Nat)(s:Nd)(un:Bool)(outs:List Msg):Prop:=∃ mi mm Ao co ms dur,NZ w col p v j l f s un s.mb (posC s.log) mi mm Ao co ms dur∧ms.map MV.m=outs
structure NB (w:World) (col:Nat→Nat) (p v j l f:Nat) (s:Nd) (un:Bool) (outs:List Msg) (w':World) (col':Nat→Nat):Prop where
 n:NS w' col' p v j l f s un outs
 ag:∀ k,k<w.heap.size→col' k=col k
 fr:Fr (fun k=>col k≠0) w w'
def NP (w:World)(col:Nat→Nat)(p v j l f:Nat)(s:Nd)(un:Bool)(outs:List Msg)(w':World):Prop:=∃ col',NB w col p v j l f s un outs w' col'
section
variable {w w' w2:World} {col col':Nat→Nat} {p v j l f:Nat} {s s':Nd} {un un':Bool} {mb:Mb} {pos:Int} {mi mm:Ms} {Ao:Option Addr} {co:Nat} {ms:List MV} {dur:Int} {outs outs':List Msg} {S:Nat→Prop}
theorem MsB.fr {B:Nat→Prop}(h:MsB w B ms)(hf:Fr S w w')(hS:∀ k,B k→¬ S k):MsB w' B ms:=fun x hx=>⟨(h x hx).1.fr hf hS,(h x hx).2⟩
theorem MR.fr {B:Nat→Prop}{m:Ms}(h:MR w B m)(hf:Fr S w w')(hS:∀ k,B k→¬ S k):MR w' B m:=⟨h.o.fr hf hS,h.n.fr hf hS,h.ol,h.nl⟩
theorem MR.more' {B B':Nat→Prop}{m:Ms}(h:MR w B m)(hB:∀ k,B k→B' k):MR w B' m:=⟨h.o.more hB,h.n.more hB,h.ol,h.nl⟩
theorem NZ.fr (h:NZ w col p v j l f s un mb pos mi mm Ao co ms dur)(hf:Fr S w w')(hS:∀ k,col k≠0→¬ S k):NZ w' col p v j l f s un mb pos mi mm Ao co ms dur where
 b:=h.b.fr hf (hS p (by rw[h.cp];decide))
 vb:=h.vb.fr hf (hS v (by rw[h.cv];decide))
 js:=h.js.fr hf (fun g hg=>hS g (by rw[hg];decide))
 du:=h.du
 ls:=h.ls.fr hf (fun g hg=>hS g (by rw[hg];decide))
 ri:=h.ri.fr hf (fun g hg=>hS g (by rw[hg];decide))
 mio:=h.mio
 rm:=h.rm.fr hf (fun g hg=>hS g (by rw[hg];decide))
 mmo:=h.mmo
 oo:=own_fr h.oo hf (fun g hg=>hS g (by rw[h.ob g hg];decide))
 ob:=h.ob
 om:=h.om.fr hf (fun g hg=>hS g (by rw[hg];decide))
 cp:=h.cp
 cv:=h.cv
 lt k hk:=Nat.lt_of_lt_of_le (h.lt k hk) hf.size
 l9:=h.l9
theorem NS.fr (h:NS w col p v j l f s un outs)(hf:Fr S w w')(hS:∀ k,col k≠0→¬ S k):NS w' col p v j l f s un outs:=by
 obtain ⟨mi,mm,Ao,co,ms,dur,hz,hm⟩:=h
 exact ⟨mi,mm,Ao,co,ms,dur,hz.fr hf hS,hm⟩
theorem NS.below (h:NS w col p v j l f s un outs)(hb:Below w.heap.size w w'):NS w' col p v j l f s un outs:=h.fr (S:=fun _=>False) (Fr.of_below hb) (fun _ _=>id)
theorem NS.lt (h:NS w col p v j l f s un outs):∀ k,col k≠0→k<w.heap.size:=by obtain ⟨mi,mm,Ao,co,ms,dur,hz,hm⟩:=h;exact hz.lt
theorem NB.start (h:NS w col p v j l f s un outs):NB w col p v j l f s un outs w col:=⟨h,fun _ _=>rfl,Fr.refl _ _⟩
theorem NB.below {w1:World}{col1:Nat→Nat}(h:NB w col p v j l f s un outs w1 col1)(hb:Below w1.heap.size w1 w2):NB w col p v j l f s un outs w2 col1:=⟨h.n.below hb,h.ag,h.fr.trans (Fr.of_below hb)⟩
theorem fr_col {w1:World}{col1:Nat→Nat}(h:Fr (fun k=>col k≠0) w w1)(ag:∀ k,k<w.heap.size→col1 k=col k)(h2:Fr (fun k=>col1 k≠0) w1 w2):Fr (fun k=>col k≠0) w w2:=
 ((h.mono (T:=fun k=>col k≠0∨w.heap.size≤k) (fun k _ hk=>.inl hk)).trans (h2.mono (fun k _ hk=>by
  rcases Nat.lt_or_ge k w.heap.size with hl | hl
  ·left;rw[←ag k hl];exact hk
  ·exact .inr hl))).mono (fun k hk hh=>hh.elim id (fun e=>by omega))
theorem NB.call {w1:World}{col1:Nat→Nat}(h:NB w col p v j l f s un outs w1 col1)(k:NP w1 col1 p v j l f s' un' outs' w2):NP w col p v j l f s' un' outs' w2:=by
 obtain ⟨col2,k⟩:=k
 exact ⟨col2,k.n,fun i hi=>(k.ag i (Nat.lt_of_lt_of_le hi h.fr.size)).trans (h.ag i hi),fr_col h.fr h.ag k.fr⟩
theorem NB.done (h:NB w col p v j l f s un outs w' col'):NP w col p v j l f s un outs w':=⟨col',h⟩
theorem NZ.set (h:NZ w col p v j l f s un mb pos mi mm Ao co ms dur){mb':Mb}{pos':Int}{mm':Ms}(hb:Blk w' p 88 (ndL v j l s' un' pos' mi mm' (.slice Ao ms.length co)).toArray)(hf:Fr (fun k=>k=p) w w')
 (e:s'.term=s.term∧s'.voted=s.voted∧s'.recs=s.recs∧s'.log=s.log∧s'.c0=s.c0) (hu:un'=false→un=false∨dur=(encJ initS s.recs).length) (hm:MR w (fun k=>col k=5) mm') (hmo:mm'.o=mb'.o∧mm'.n=mb'.n) (l9:s'.vs.length=9∧s'.nx.length=9∧s'.mt.length=9) :
 NZ w' col p v j l f s' un' mb' pos' mi mm' Ao co ms dur:=by
 obtain ⟨e1,e2,e3,e4,e5⟩:=e
 have ne:∀ {c:Nat} (k:Nat),col k=c→c≠1→¬ k=p:=by
  rintro c k hk hc rfl
  rw[h.cp] at hk
  exact hc hk.symm
 exact ⟨hb,by rw[e1,e2];exact h.vb.fr hf (ne v h.cv (by decide)),by rw[e3];exact h.js.fr hf (fun g hg=>ne g hg (by decide)),(fun hh=>by
  rw[e3]
  rcases hu hh with h1 | h1
  ·exact h.du h1
  ·exact h1),by rw[e4];exact h.ls.fr hf (fun g hg=>ne g hg (by decide)),h.ri.fr hf (fun g hg=>ne g hg (by decide)),by rw[e5];exact h.mio,hm.fr hf (fun g hg=>ne g hg (by decide)),hmo,own_fr h.oo hf (fun g hg=>ne g (h.ob g hg) (by decide)),h.ob,h.om.fr hf (fun g hg=>ne g hg (by decide)),h.cp,h.cv,fun k hk=>Nat.lt_of_lt_of_le (h.lt k hk) hf.size,l9⟩
theorem NZ.c (h:NZ w col p v j l f s un mb pos mi mm Ao co ms dur):p<w.heap.size∧(∀ i,w.frozen? ⟨p,i,none⟩=false)∧w.cell? ⟨p,0,none⟩=some (.int .i64 s.id)∧w.cell? ⟨p,1,none⟩=some (.int .i64 s.wait)∧w.cell? ⟨p,2,none⟩=some (.int .i64 s.beat)∧w.cell? ⟨p,3,none⟩=some (.pointer (some ⟨j,0,none⟩))∧w.cell? ⟨p,4,none⟩=some (.pointer (some ⟨v,0,none⟩))∧w.cell? ⟨p,5,none⟩=some (.pointer (some ⟨l,0,none⟩)) ∧
 w.cell? ⟨p,6,none⟩=some (.slice mi.A mi.o.length mi.c)∧w.cell? ⟨p,7,none⟩=some (.slice mi.A' mi.n.length mi.c')∧w.cell? ⟨p,8,none⟩=some (.slice mm.A mm.o.length mm.c)∧w.cell? ⟨p,9,none⟩=some (.slice mm.A' mm.n.length mm.c')∧w.cell? ⟨p,10,none⟩=some (.int .i64 pos)∧w.cell? ⟨p,11,none⟩=some (.int .i64 s.role)∧w.cell? ⟨p,12,none⟩=some (.int .i64 s.ld) ∧
 w.cell? ⟨p,13,none⟩=some (.int .i64 s.commit)∧w.cell? ⟨p,14,none⟩=some (.int .i64 s.since)∧w.cell? ⟨p,15,none⟩=some (.int .i64 s.hb)∧w.cell? ⟨p,16,none⟩=some (.int .i64 s.latest)∧w.cell? ⟨p,44,none⟩=some (.int .i64 0)∧w.cell? ⟨p,45,none⟩=some (.bool un)∧w.cell? ⟨p,46,none⟩=some (.slice Ao ms.length co):=by
 obtain ⟨l1,l2,l3⟩:=h.l9
 have hc:=h.b.cell
 refine ⟨h.b.lt,h.b.frozen,?_,?_,?_,?_,?_,?_,?_,?_,?_,?_,?_,?_,?_,?_,?_,?_,?_,?_,?_,?_⟩
 all_goals first
  | (rw[hc];rfl)
  | skip
 all_goals
  rw[hc,List.getElem?_toArray]
  unfold ndL
  rw[List.getElem?_append_right (by simp),List.getElem?_append_right (by simp[l1]),List.getElem?_append_right (by simp[l1,l2]),List.getElem?_append_right (by simp[l1,l2,l3])]
  simp[l1,l2,l3]
end
section
variable {v j l:Nat} {s:Nd} {un:Bool} {pos:Int} {mi mm:Ms} {o x:Value}
theorem nd10 (y:Int):(ndL v j l s un pos mi mm o).toArray.setIfInBounds 10 (.int .i64 y)=(ndL v j l s un y mi mm o).toArray:=by rw[σa];rfl
theorem nd11 (y:Int):(ndL v j l s un pos mi mm o).toArray.setIfInBounds 11 (.int .i64 y)=(ndL v j l { s with role:=y } un pos mi mm o).toArray:=by rw[σa];rfl
theorem nd12 (y:Int):(ndL v j l s un pos mi mm o).toArray.setIfInBounds 12 (.int .i64 y)=(ndL v j l { s with ld:=y } un pos mi mm o).toArray:=by rw[σa];rfl
theorem nd13 (y:Int):(ndL v j l s un pos mi mm o).toArray.setIfInBounds 13 (.int .i64 y)=(ndL v j l { s with commit:=y } un pos mi mm o).toArray:=by rw[σa];rfl
theorem nd14 (y:Int):(ndL v j l s un pos mi mm o).toArray.setIfInBounds 14 (.int .i64 y)=(ndL v j l { s with since:=y } un pos mi mm o).toArray:=by rw[σa];rfl
theorem nd15 (y:Int):(ndL v j l s un pos mi mm o).toArray.setIfInBounds 15 (.int .i64 y)=(ndL v j l { s with hb:=y } un pos mi mm o).toArray:=by rw[σa];rfl
theorem nd16 (y:Int):(ndL v j l s un pos mi mm o).toArray.setIfInBounds 16 (.int .i64 y)=(ndL v j l { s with latest:=y } un pos mi mm o).toArray:=by rw[σa];rfl
theorem nd89 (m2:Ms):((ndL v j l s un pos mi mm o).toArray.setIfInBounds 8 (.slice m2.A m2.o.length m2.c)).setIfInBounds 9 (.slice m2.A' m2.n.length m2.c')=(ndL v j l s un pos mi m2 o).toArray:=by rw[σa,σa];rfl
theorem nd_tail {A B C D E:List Value}(hA:A.length=17)(hB:B.length=9)(hC:C.length=9)(hD:D.length=9)(k:Nat)(y:Value) :
 (A ++ (B ++ (C ++ (D ++ E)))).set (44+k) y=A ++ (B ++ (C ++ (D ++ E.set k y))):=by
 rw[List.set_append_right _ _ (by omega),List.set_append_right _ _ (by omega),List.set_append_right _ _ (by omega),List.set_append_right _ _ (by omega)]
 rw[show 44+k - A.length - B.length - C.length - D.length=k by omega]
theorem nd45 (h:s.vs.length=9∧s.nx.length=9∧s.mt.length=9)(y:Bool):(ndL v j l s un pos mi mm o).toArray.setIfInBounds 45 (.bool y)=(ndL v j l s y pos mi mm o).toArray:=by
 obtain ⟨l1,l2,l3⟩:=h
 rw[σa]
 congr 1
 exact nd_tail (by rfl) (by simp[l1]) (by simp[l2]) (by simp[l3]) 1 (.bool y)
theorem nd46 (h:s.vs.length=9∧s.nx.length=9∧s.mt.length=9)(y:Value):(ndL v j l s un pos mi mm o).toArray.setIfInBounds 46 y=(ndL v j l s un pos mi mm y).toArray:=by
 obtain ⟨l1,l2,l3⟩:=h
 rw[σa]
 congr 1
 exact nd_tail (by rfl) (by simp[l1]) (by simp[l2]) (by simp[l3]) 2 y
theorem nd17 (h:s.vs.length=9){k:Nat}(hk:k<9)(y:Bool):(ndL v j l s un pos mi mm o).toArray.setIfInBounds (17+k) (.bool y)=(ndL v j l { s with vs:=s.vs.set k y } un pos mi mm o).toArray:=by
 rw[σa]
 congr 1
 unfold ndL
 rw[List.set_append_right _ _ (by simp),List.set_append_left _ _ (by simp;omega)]
 congr 2
 rw[show 17+k - ([Value.int .i64 s.id,.int .i64 s.wait,.int .i64 s.beat,.pointer (some ⟨j,0,none⟩),.pointer (some ⟨v,0,none⟩),.pointer (some ⟨l,0,none⟩),.slice mi.A mi.o.length mi.c,.slice mi.A' mi.n.length mi.c',.slice mm.A mm.o.length mm.c,.slice mm.A' mm.n.length mm.c',.int .i64 pos,.int .i64 s.role,.int .i64 s.ld,.int .i64 s.commit,.int .i64 s.since,.int .i64 s.hb,.int .i64 s.latest]:List Value).length=k by simp]
 rw[List.map_set]
theorem nd26 (h:s.vs.length=9∧s.nx.length=9){k:Nat}(hk:k<9)(y:Int):(ndL v j l s un pos mi mm o).toArray.setIfInBounds (26+k) (.int .i64 y)=(ndL v j l { s with nx:=s.nx.set k y } un pos mi mm o).toArray:=by
 rw[σa]
 congr 1
 unfold ndL
 rw[List.set_append_right _ _ (by simp;omega),List.set_append_right _ _ (by simp[h.1];omega),List.set_append_left _ _ (by simp[h.1,h.2];omega)]
 congr 3
 rw[show 26+k - ([Value.int .i64 s.id,.int .i64 s.wait,.int .i64 s.beat,.pointer (some ⟨j,0,none⟩),.pointer (some ⟨v,0,none⟩),.pointer (some ⟨l,0,none⟩),.slice mi.A mi.o.length mi.c,.slice mi.A' mi.n.length mi.c',.slice mm.A mm.o.length mm.c,.slice mm.A' mm.n.length mm.c',.int .i64 pos,.int .i64 s.role,.int .i64 s.ld,.int .i64 s.commit,.int .i64 s.since,.int .i64 s.hb,.int .i64 s.latest]:List Value).length - (s.vs.map Value.bool).length=k by simp[h.1];omega]
 rw[List.map_set]
theorem nd35 (h:s.vs.length=9∧s.nx.length=9∧s.mt.length=9){k:Nat}(hk:k<9)(y:Int):(ndL v j l s un pos mi mm o).toArray.setIfInBounds (35+k) (.int .i64 y)=(ndL v j l { s with mt:=s.mt.set k y } un pos mi mm o).toArray:=by
 obtain ⟨l1,l2,l3⟩:=h
 rw[σa]
 congr 1
 unfold ndL
 rw[List.set_append_right _ _ (by simp;omega),List.set_append_right _ _ (by simp[l1];omega),List.set_append_right _ _ (by simp[l1,l2];omega),List.set_append_left _ _ (by simp[l1,l2,l3];omega)]
 congr 4
 rw[show 35+k - ([Value.int .i64 s.id,.int .i64 s.wait,.int .i64 s.beat,.pointer (some ⟨j,0,none⟩),.pointer (some ⟨v,0,none⟩),.pointer (some ⟨l,0,none⟩),.slice mi.A mi.o.length mi.c,.slice mi.A' mi.n.length mi.c',.slice mm.A mm.o.length mm.c,.slice mm.A' mm.n.length mm.c',.int .i64 pos,.int .i64 s.role,.int .i64 s.ld,.int .i64 s.commit,.int .i64 s.since,.int .i64 s.hb,.int .i64 s.latest]:List Value).length - (s.vs.map Value.bool).length - (s.nx.map (Value.int .i64)).length=k by simp[l1,l2];omega]
 rw[List.map_set]
end
section
variable {w w':World} {col:Nat→Nat} {p v j l f:Nat} {s s':Nd} {un:Bool} {mb:Mb} {pos:Int} {mi mm:Ms} {Ao:Option Addr} {co:Nat} {ms:List MV} {dur:Int}
theorem NZ.vote (h:NZ w col p v j l f s un mb pos mi mm Ao co ms dur){k:Nat}(hk:k<9):w.cell? ⟨p,17+k,none⟩=some (.bool (s.vs.getD k false)):=by
 obtain ⟨l1,l2,l3⟩:=h.l9
 rw[h.b.cell,List.getElem?_toArray]
 unfold ndL
 rw[List.getElem?_append_right (by simp),List.getElem?_append_left (by simp[l1];omega)]
 simp[List.getD,l1,hk]
theorem NZ.next (h:NZ w col p v j l f s un mb pos mi mm Ao co ms dur){k:Nat}(hk:k<9):w.cell? ⟨p,26+k,none⟩=some (.int .i64 (gd s.nx k)):=by
 obtain ⟨l1,l2,l3⟩:=h.l9
 rw[h.b.cell,List.getElem?_toArray]
 unfold ndL
 rw[List.getElem?_append_right (by simp;omega),List.getElem?_append_right (by simp[l1];omega),List.getElem?_append_left (by simp[l1,l2];omega)]
 simp only[List.length_cons,List.length_nil,List.length_map,l1]
 rw[show 26+k - (0+1+1+1+1+1+1+1+1+1+1+1+1+1+1+1+1+1) - 9=k by omega,List.getElem?_map,List.getElem?_eq_getElem (by omega),gd_get (by omega)]
 rfl
theorem NZ.mat (h:NZ w col p v j l f s un mb pos mi mm Ao co ms dur){k:Nat}(hk:k<9):w.cell? ⟨p,35+k,none⟩=some (.int .i64 (gd s.mt k)):=by
 obtain ⟨l1,l2,l3⟩:=h.l9
 rw[h.b.cell,List.getElem?_toArray]
 unfold ndL
 rw[List.getElem?_append_right (by simp;omega),List.getElem?_append_right (by simp[l1];omega),List.getElem?_append_right (by simp[l1,l2];omega),List.getElem?_append_left (by simp[l1,l2,l3];omega)]
 simp only[List.length_cons,List.length_nil,List.length_map,l1,l2]
 rw[show 35+k - (0+1+1+1+1+1+1+1+1+1+1+1+1+1+1+1+1+1) - 9 - 9=k by omega,List.getElem?_map,List.getElem?_eq_getElem (by omega),gd_get (by omega)]
 rfl
theorem NS.set1 {outs:List Msg}(h:NS w col p v j l f s un outs)(hb:∀ mi mm o,Blk w p 88 (ndL v j l s un (posC s.log) mi mm o).toArray→Blk w' p 88 (ndL v j l s' un (posC s.log) mi mm o).toArray)(hf:Fr (fun k=>k=p) w w')(e:s'.term=s.term∧s'.voted=s.voted∧s'.recs=s.recs∧s'.log=s.log∧s'.c0=s.c0)(l9:(s.vs.length=9∧s.nx.length=9∧s.mt.length=9)→s'.vs.length=9∧s'.nx.length=9∧s'.mt.length=9):NB w col p v j l f s' un outs w' col:=by
 obtain ⟨mi,mm,Ao,co,ms,dur,hz,hm⟩:=h
 have hz':=hz.set (hb _ _ _ hz.b) hf e (fun hh=>.inl hh) hz.rm hz.mmo (l9 hz.l9)
 have em:s'.mb=s.mb:=by unfold Nd.mb;rw[e.2.2.2.1,e.2.2.2.2]
 refine ⟨⟨mi,mm,Ao,co,ms,dur,by rw[em,e.2.2.2.1];exact hz',hm⟩,fun _ _=>rfl,hf.mono (fun k _ hk=>?_)⟩
 rw[hk,hz.cp];decide
theorem NB.trans {w0 w1 w2:World}{c0 c1 c2:Nat→Nat}{s0 s2:Nd}{u0 u2:Bool}{o0 o2:List Msg}(h:NB w0 c0 p v j l f s0 u0 o0 w1 c1)(k:NB w1 c1 p v j l f s2 u2 o2 w2 c2):NB w0 c0 p v j l f s2 u2 o2 w2 c2:=
 ⟨k.n,fun i hi=>(k.ag i (Nat.lt_of_lt_of_le hi h.fr.size)).trans (h.ag i hi),fr_col h.fr h.ag k.fr⟩
end
theorem term44 (w:World)(v j:Nat)(t n:Int)(h:Blk w v 122 #[.pointer (some ⟨j,0,none⟩),.int .i64 t,.int .i64 n]):Calls Tryz.prog 44 #[.pointer (some ⟨v,0,none⟩)] w fun e w'=>e=.returned (.int .i64 t)∧w=w':=by
 obtain ⟨q0,q1,q2⟩:=h.facts
 go_enter Tryz.func44,Tryz.ntmps44
 go_wp2
 go_ret
 exact ⟨rfl,rfl⟩
theorem voted131 (w:World)(v j:Nat)(t n:Int)(h:Blk w v 122 #[.pointer (some ⟨j,0,none⟩),.int .i64 t,.int .i64 n]):Calls Tryz.prog 131 #[.pointer (some ⟨v,0,none⟩)] w fun e w'=>e=.returned (.int .i64 n)∧w=w':=by
 obtain ⟨q0,q1,q2⟩:=h.facts
 go_enter Tryz.func131,Tryz.ntmps131
 go_wp2
 go_ret
 exact ⟨rfl,rfl⟩
section
variable (w:World) (col:Nat→Nat) (p v j l f:Nat) (s:Nd) (un:Bool) (outs:List Msg) (h:NS w col p v j l f s un outs)
include h
theorem tick37 (now:Int):Calls Tryz.prog 37 #[.pointer (some ⟨p,0,none⟩),.int .i64 now] w fun e w'=>e=.returned (.int .i64 (s.tickT now))∧NB w col p v j l f (s.clock now) un outs w' col:=by
 have H:=ħ h
 obtain ⟨mi,mm,Ao,co,ms,dur,hz,hm⟩:=h
 obtain ⟨c0,c1,x0,x1,x2,x3,x4,x5,x6,x7,x8,x9,x10,x11,x12,x13,x14,x15,x16,x44,x45,x46⟩:=hz.c
 have HT:=ħ (show max s.latest (min (max now 0) 1099511627776)=s.tickT now from rfl)
 have HB:=ħ fun y=>H.out.set1 (w':=w.setCell ⟨p,16,none⟩ (.int .i64 y)) (s':={ s with latest:=y }) (fun mi mm o hb=>by have:=hb.set_ 16 (.int .i64 y);rwa [nd16] at this) ((Fr.refl (fun k=>k=p) w).setCell (p:=⟨p,16,none⟩) (.inl rfl) _) ⟨rfl,rfl,rfl,rfl,rfl⟩ id
 clear hz hm x0 x1 x2 x3 x4 x5 x6 x7 x8 x9 x10 x11 x12 x13 x14 x15 x44 x45 x46
 go_enter Tryz.func37,Tryz.ntmps37
 go_wp2
 go_ret
 rw[HT.out]
 exact ⟨rfl,HB.out (s.tickT now)⟩
theorem ok72:Calls Tryz.prog 72 #[.pointer (some ⟨p,0,none⟩),.int .i64 0] w fun e w'=>e=.returned (.bool true)∧w=w':=by
 obtain ⟨mi,mm,Ao,co,ms,dur,hz,hm⟩:=h
 obtain ⟨c0,c1,x0,x1,x2,x3,x4,x5,x6,x7,x8,x9,x10,x11,x12,x13,x14,x15,x16,x44,x45,x46⟩:=hz.c
 clear hz hm x0 x1 x2 x3 x4 x5 x6 x7 x8 x9 x10 x11 x12 x13 x14 x15 x16 x45 x46
 go_enter Tryz.func72,Tryz.ntmps72
 go_wp2
 go_ret
 exact ⟨rfl,rfl⟩
theorem role21:Calls Tryz.prog 21 #[.pointer (some ⟨p,0,none⟩)] w fun e w'=>e=.returned (.int .i64 s.role)∧w=w':=by
 obtain ⟨mi,mm,Ao,co,ms,dur,hz,hm⟩:=h
 obtain ⟨c0,c1,x0,x1,x2,x3,x4,x5,x6,x7,x8,x9,x10,x11,x12,x13,x14,x15,x16,x44,x45,x46⟩:=hz.c
 clear hz hm x0 x1 x2 x3 x4 x5 x6 x7 x8 x9 x10 x12 x13 x14 x15 x16 x45 x46
 go_enter Tryz.func21,Tryz.ntmps21
 go_wp2
 go_ret
 exact ⟨rfl,rfl⟩
theorem leader20:Calls Tryz.prog 20 #[.pointer (some ⟨p,0,none⟩)] w fun e w'=>e=.returned (.int .i64 s.ld)∧w=w':=by
 obtain ⟨mi,mm,Ao,co,ms,dur,hz,hm⟩:=h
 obtain ⟨c0,c1,x0,x1,x2,x3,x4,x5,x6,x7,x8,x9,x10,x11,x12,x13,x14,x15,x16,x44,x45,x46⟩:=hz.c
 clear hz hm x0 x1 x2 x3 x4 x5 x6 x7 x8 x9 x10 x11 x13 x14 x15 x16 x45 x46
 go_enter Tryz.func20,Tryz.ntmps20
 go_wp2
 go_ret
 exact ⟨rfl,rfl⟩
theorem commit16:Calls Tryz.prog 16 #[.pointer (some ⟨p,0,none⟩)] w fun e w'=>e=.returned (.int .i64 s.commit)∧w=w':=by
 obtain ⟨mi,mm,Ao,co,ms,dur,hz,hm⟩:=h
 obtain ⟨c0,c1,x0,x1,x2,x3,x4,x5,x6,x7,x8,x9,x10,x11,x12,x13,x14,x15,x16,x44,x45,x46⟩:=hz.c
 clear hz hm x0 x1 x2 x3 x4 x5 x6 x7 x8 x9 x10 x11 x12 x14 x15 x16 x45 x46
 go_enter Tryz.func16,Tryz.ntmps16
 go_wp2
 go_ret
 exact ⟨rfl,rfl⟩
theorem term22:Calls Tryz.prog 22 #[.pointer (some ⟨p,0,none⟩)] w fun e w'=>e=.returned (.int .i64 s.term)∧w=w':=by
 obtain ⟨mi,mm,Ao,co,ms,dur,hz,hm⟩:=h
 have HT:=ħ (term44 w v j _ _ hz.vb)
 obtain ⟨c0,c1,x0,x1,x2,x3,x4,x5,x6,x7,x8,x9,x10,x11,x12,x13,x14,x15,x16,x44,x45,x46⟩:=hz.c
 clear hz hm x0 x1 x2 x3 x5 x6 x7 x8 x9 x10 x11 x12 x13 x14 x15 x16 x45 x46
 go_enter Tryz.func22,Tryz.ntmps22
 go_wp2_with (go_at_call 44;((with_reducible refine HT.out.mono ?_);rintro e w2 ⟨rfl,rfl⟩))
 go_ret
 exact ⟨rfl,rfl⟩
theorem lastIndex17 (hl:s.log.length≤1000000):Calls Tryz.prog 17 #[.pointer (some ⟨p,0,none⟩)] w fun e w'=>e=.returned (.int .i64 (s.log.length:Int))∧Below w.heap.size w w':=by
 obtain ⟨mi,mm,Ao,co,ms,dur,hz,hm⟩:=h
 have HT:=ħ (last_any w _ l _ hz.ls hl)
 obtain ⟨c0,c1,x0,x1,x2,x3,x4,x5,x6,x7,x8,x9,x10,x11,x12,x13,x14,x15,x16,x44,x45,x46⟩:=hz.c
 clear hz hm x0 x1 x2 x3 x4 x6 x7 x8 x9 x10 x11 x12 x13 x14 x15 x16 x45 x46
 go_enter Tryz.func17,Tryz.ntmps17
 go_wp2_with (go_at_call 42;((with_reducible refine HT.out.mono ?_);rintro e w2 ⟨rfl,b2⟩))
 go_ret
 exact ⟨rfl,b2⟩
end
abbrev mvC (kind frm tt term prev pterm commit:Int)(granted:Bool)(A:Option Addr)(n c:Nat):Array Value:=#[.int .i64 kind,.int .i64 frm,.int .i64 tt,.int .i64 term,.int .i64 prev,.int .i64 pterm,.int .i64 commit,.bool granted,.slice A n c]
theorem info99:(Tryz.prog.info? 99).map (fun i=>(i.zero,i.size,i.bytes))=some (some (.agg #[.int .i64 0,.int .i64 0,.int .i64 0,.int .i64 0,.int .i64 0,.int .i64 0,.int .i64 0,.bool false,.slice none 0 0]),9,88):=by kernel_rfl
def Msgs (w:World)(B:Nat→Prop)(A:Option Addr)(ms:List MV):Prop:=Reads w B 9 A ms.length (ms.flatMap mvL)∧MsB w B ms
def strip (col:Nat→Nat)(k:Nat):Nat:=if col k=6∨col k=7 then 0 else col k
theorem strip_of {col:Nat→Nat}{k c:Nat}(h:col k=c)(h6:c≠6)(h7:c≠7):strip col k=c:=by
 unfold strip
 rw[if_neg (by omega),h]
section
variable {w w5:World} {col col2:Nat→Nat} {p v j l f:Nat} {s:Nd} {un:Bool} {mb:Mb} {pos:Int} {mi mm:Ms} {Ao Ao':Option Addr} {co co':Nat} {ms:List MV} {dur:Int} {outs:List Msg}
theorem blk_out {o:Value}(h:Blk w p 88 (ndL v j l s un pos mi mm o).toArray)(l9:s.vs.length=9∧s.nx.length=9∧s.mt.length=9):w.cell? ⟨p,46,none⟩=some o:=by
 obtain ⟨l1,l2,l3⟩:=l9
 rw[h.cell,List.getElem?_toArray]
 unfold ndL
 rw[List.getElem?_append_right (by simp),List.getElem?_append_right (by simp[l1]),List.getElem?_append_right (by simp[l1,l2]),List.getElem?_append_right (by simp[l1,l2,l3])]
 simp[l1,l2,l3]
theorem MsB.more {B B':Nat→Prop}(h:MsB w B ms)(hB:∀ k,B k→B' k):MsB w B' ms:=fun x hx=>⟨(h x hx).1.more hB,(h x hx).2⟩
theorem NZ.recol (h:NZ w col p v j l f s un mb pos mi mm Ao co ms dur)(h1:∀ k,col k≠0→col2 k=col k)(h2:∀ k,col2 k≠0→k<w.heap.size):NZ w col2 p v j l f s un mb pos mi mm Ao co ms dur:=by
 have t:∀ {c:Nat},c≠0→∀ k,col k=c→col2 k=c:=fun hc k hk=>by rw[h1 k (by rw[hk];exact hc),hk]
 exact ⟨h.b,h.vb,h.js.wider (t (by decide)),h.du,h.ls.wider (t (by decide)),h.ri.more' (t (by decide)),h.mio,h.rm.more' (t (by decide)),h.mmo,h.oo,fun g hg=>t (by decide) g (h.ob g hg),h.om.more (t (by decide)),t (by decide) _ h.cp,t (by decide) _ h.cv,h2,h.l9⟩
theorem NS.recol (h:NS w col p v j l f s un outs)(h1:∀ k,col k≠0→col2 k=col k)(h2:∀ k,col2 k≠0→k<w.heap.size):NS w col2 p v j l f s un outs:=by
 obtain ⟨mi,mm,Ao,co,ms,dur,hz,hm⟩:=h
 exact ⟨mi,mm,Ao,co,ms,dur,hz.recol h1 h2,hm⟩
theorem NZ.push (h:NZ w col p v j l f s un mb pos mi mm Ao co ms dur){o:Obj}{y:MV}(hy:ES w (fun k=>col k=7) y.A y.es∧y.es.length≤y.c)(hg:(w.alloc o).grownBy w5 (Value.slice Ao ms.length co).ownBlock)
 (ho:w5.ownsRow 0 99 9 (.slice Ao' (ms.length+1) co') (ms.length+1) (ms.flatMap mvL ++ mvL y)) (hat:(Value.slice Ao' (ms.length+1) co').ownBlock=(Value.slice Ao ms.length co).ownBlock∨(Value.slice Ao' (ms.length+1) co').ownBlock=some (w.alloc o).heap.size) :
 ∃ col',NZ (w5.setCell ⟨p,46,none⟩ (.slice Ao' (ms.length+1) co')) col' p v j l f s un mb pos mi mm Ao' co' (ms ++ [y]) dur∧(∀ k,k<w.heap.size→col' k=col k)∧Fr (fun k=>col k≠0) w (w5.setCell ⟨p,46,none⟩ (.slice Ao' (ms.length+1) co')):=by
 have hsa:(w.alloc o).heap.size=w.heap.size+1:=by simp
 have hs5:=hg.size
 have hpl:=h.b.lt
 have own:∀ g,(Value.slice Ao ms.length co).ownBlock=some g→col g=6∧g<w.heap.size:=fun g hg=>⟨h.ob g hg,own_lt h.oo hg⟩
 obtain ⟨fb,hfb⟩:∃ fb:Nat,fb=w.heap.size+1:=⟨_,rfl⟩
 obtain ⟨col',hc1,hc2,hc3⟩:∃ col':Nat→Nat,(∀ k,k<w.heap.size→col' k=col k)∧(∀ g,(Value.slice Ao' (ms.length+1) co').ownBlock=some g→col' g=6)∧(∀ k,col' k≠0→k<w5.heap.size):=by
  rcases hat with e | e
  ·exact ⟨col,fun _ _=>rfl,fun g hg=>by rw[e] at hg;exact (own g hg).1,fun k hk=>by have:=h.lt k hk;omega⟩
  ·refine ⟨fun k=>if k=fb then 6 else col k,fun k hk=>if_neg (by omega),fun g hg=>?_,fun k hk=>?_⟩
   ·rw[e,hsa] at hg
    injection hg with hg
    exact if_pos (by omega)
   ·by_cases hkf:k=fb
    ·rw[hkf]
     have:=own_lt ho e
     omega
    ·have hk':col k≠0:=by have:=hk;simp only[hkf,if_false] at this;exact this
     have:=h.lt k hk';omega
 have t:∀ {c:Nat} (k:Nat),c≠0→col k=c→col' k=c:=fun k hc hk=>by rw[hc1 k (h.lt k (by rw[hk];exact hc)),hk]
 have f5:Fr (fun k=>col k=6) w w5:=((Fr.refl _ w).alloc o).grown hg (fun g hg=>.inl (own g hg).1)
 have f6:Fr (fun k=>col k=6∨k=p) w (w5.setCell ⟨p,46,none⟩ (.slice Ao' (ms.length+1) co')):=(f5.mono (T:=fun k=>col k=6∨k=p) (fun k _ hk=>Or.inl hk)).setCell (p:=⟨p,46,none⟩) (.inl (.inr rfl)) _
 have ne:∀ {c:Nat} (k:Nat),col k=c→c≠6→c≠1→¬ (col k=6∨k=p):=by
  rintro c k hk h6 h1 (e | rfl)
  ·omega
  ·rw[h.cp] at hk;omega
 have hb5:Blk w5 p 88 (ndL v j l s un pos mi mm (.slice Ao ms.length co)).toArray:=h.b.fr f5 (by rw[h.cp];decide)
 have hlen:(ms ++ [y]).length=ms.length+1:=by simp
 have hfl:(ms ++ [y]).flatMap mvL=ms.flatMap mvL ++ mvL y:=by simp
 refine ⟨col',⟨?_,h.vb.fr f6 (ne v h.cv (by decide) (by decide)),?_,h.du,?_,?_,h.mio,?_,h.mmo,?_,?_,?_,t p (by decide) h.cp,t v (by decide) h.cv,?_,h.l9⟩,hc1,f6.mono (fun k _ hk=>hk.elim (fun e=>by rw[e];decide) (fun e=>by rw[e,h.cp];decide))⟩
 ·rw[hlen]
  have:=hb5.set_ 46 (.slice Ao' (ms.length+1) co')
  rwa [nd46 h.l9] at this
 ·exact (h.js.fr f6 (fun g hg=>ne g hg (by decide) (by decide))).wider (fun k hk=>t k (by decide) hk)
 ·exact (h.ls.fr f6 (fun g hg=>ne g hg (by decide) (by decide))).wider (fun k hk=>t k (by decide) hk)
 ·exact (h.ri.fr f6 (fun g hg=>ne g hg (by decide) (by decide))).more' (fun k hk=>t k (by decide) hk)
 ·exact (h.rm.fr f6 (fun g hg=>ne g hg (by decide) (by decide))).more' (fun k hk=>t k (by decide) hk)
 ·rw[hlen,hfl]
  exact own_set ho (own_ne ho hb5 (by decide)) _
 ·rw[hlen];exact hc2
 ·intro x hx
  rcases List.mem_append.1 hx with hx | hx
  ·have:=(h.om.fr f6 (fun g hg=>ne g hg (by decide) (by decide))).more (fun k hk=>t k (by decide) hk)
   exact this x hx
  ·rw[List.mem_singleton] at hx
   subst hx
   exact ⟨(hy.1.fr f6 (fun g hg=>ne g hg (by decide) (by decide))).more (fun k hk=>t k (by decide) hk),hy.2⟩
 ·intro k hk
  have:=hc3 k hk
  simpa using this
end
section
variable (w:World) (col:Nat→Nat) (p v j l f:Nat) (s:Nd) (un:Bool) (outs:List Msg) (h:NS w col p v j l f s un outs)
include h
theorem send81 (kind frm tt term prev pterm commit:Int)(granted:Bool)(A:Option Addr)(c:Nat)(es:List EV)(hy:ES w (fun k=>col k=7) A es∧es.length≤c)(ho:outs.length≤1000) :
 Calls Tryz.prog 81 #[.pointer (some ⟨p,0,none⟩),.agg (mvC kind frm tt term prev pterm commit granted A es.length c)] w fun e w'=>e=.returned (.tuple #[])∧NP w col p v j l f s un (outs ++ [s.msg kind tt prev pterm commit granted (es.map EV.e)]) w':=by
 obtain ⟨mi,mm,Ao,co,ms,dur,hz,hm⟩:=h
 have hml:ms.length≤1000:=by rw[←List.length_map (f:=MV.m),hm];exact ho
 have HM:=ħ hm
 have f0:Below w.heap.size w (w.alloc (.cells (mvC kind frm tt term prev pterm commit granted A es.length c) 99)):=(Below.refl _ _).alloc (Nat.le_refl _) _
 have h1:=hz.fr (Fr.of_below (S:=fun _=>False) f0) (fun _ _=>id)
 have g1:Blk (w.alloc (.cells (mvC kind frm tt term prev pterm commit granted A es.length c) 99)) w.heap.size 99 (mvC kind frm tt term prev pterm commit granted A es.length c):=Blk.new w 99 _
 have hpl:=hz.b.lt
 have hvl:=hz.vb.lt
 have HY:=ħ hy
 clear hm ho hy
 go_enter Tryz.func81,Tryz.ntmps81
 go_upto_region 1 with (fail)
 generalize w.alloc (.cells (mvC kind frm tt term prev pterm commit granted A es.length c) 99)=W1 at *
 obtain ⟨q0,q1,q2⟩:=g1.facts
 obtain ⟨c0,c1,x0,x1,x2,x3,x4,x5,x6,x7,x8,x9,x10,x11,x12,x13,x14,x15,x16,x44,x45,x46⟩:=h1.c
 go_upto_region 2 with (fail)
 have f1:=f0.setCell (p:=⟨w.heap.size,1,none⟩) (Nat.le_refl _) (.int .i64 s.id)
 have h2:=hz.fr (Fr.of_below (S:=fun _=>False) f1) (fun _ _=>id)
 have g2:=g1.set_ 1 (.int .i64 s.id)
 simp only[σa,σc,σb] at g2
 generalize W1.setCell ⟨w.heap.size,1,none⟩ (.int .i64 s.id)=W2 at *
 clear q0 q1 q2 c0 c1 x0 x1 x2 x3 x4 x5 x6 x7 x8 x9 x10 x11 x12 x13 x14 x15 x16 x44 x45 x46 h1 g1 f0
 obtain ⟨q0,q1,q2⟩:=g2.facts
 obtain ⟨c0,c1,x0,x1,x2,x3,x4,x5,x6,x7,x8,x9,x10,x11,x12,x13,x14,x15,x16,x44,x45,x46⟩:=h2.c
 have HT:=ħ (term44 W2 v j _ _ h2.vb)
 go_upto_region 3 with ((go_at_call 44;((with_reducible refine HT.out.mono ?_);rintro e w2 ⟨rfl,rfl⟩)))
 have f3:=f1.setCell (p:=⟨w.heap.size,3,none⟩) (Nat.le_refl _) (.int .i64 s.term)
 have h3:=hz.fr (Fr.of_below (S:=fun _=>False) f3) (fun _ _=>id)
 have g3:=g2.set_ 3 (.int .i64 s.term)
 simp only[σa,σc,σb] at g3
 have hy3:=HY.out.1.fr (Fr.of_below (S:=fun _=>False) f3) (fun _ _=>id)
 generalize W2.setCell ⟨w.heap.size,3,none⟩ (.int .i64 s.term)=W3 at *
 clear q0 q1 q2 c0 c1 x0 x1 x2 x3 x4 x5 x6 x7 x8 x9 x10 x11 x12 x13 x14 x15 x16 x44 x45 x46 h2 g2 f1 HT
 obtain ⟨q0,q1,q2⟩:=g3.facts
 obtain ⟨c0,c1,x0,x1,x2,x3,x4,x5,x6,x7,x8,x9,x10,x11,x12,x13,x14,x15,x16,x44,x45,x46⟩:=h3.c
 clear x0 x1 x2 x3 x4 x5 x6 x7 x8 x9 x10 x11 x12 x13 x14 x15 x16 x44 x45
 have hs3:=f3.size
 go_region_law (first
  | (refine step_append_any _ (by rfl) (.tmp 19) (.tmp 21) 53 (by rfl) 0 99 (.agg #[.int .i64 0,.int .i64 0,.int .i64 0,.int .i64 0,.int .i64 0,.int .i64 0,.int .i64 0,.bool false,.slice none 0 0]) 9 88 (by exact Tryz.underlying53) (by exact info99) (by rfl) (by omega) (.slice Ao ms.length co) ms.length (ms.flatMap mvL) (by rfl) (by exact (own_fr h3.oo (Fr.of_below (S:=fun _=>False) ((Below.refl W3.heap.size W3).drew.alloc (Nat.le_refl _) (.cells (mvC kind s.id tt s.term prev pterm commit granted A es.length c) 99))) (fun _ _=>id))) (fun _=>True) (some ⟨W3.heap.size,0,none⟩) 1 1 [.int .i64 kind,.int .i64 s.id,.int .i64 tt,.int .i64 s.term,.int .i64 prev,.int .i64 pterm,.int .i64 commit,.bool granted,.slice A es.length c] (by rfl) (by exact ((Reads.newS _ [.int .i64 kind,.int .i64 s.id,.int .i64 tt,.int .i64 s.term,.int .i64 prev,.int .i64 pterm,.int .i64 commit,.bool granted,.slice A es.length c] 99 (0,0) 1 9 rfl _ rfl).more (fun _ _=>trivial))) (by intro u hu;simp at hu;rcases hu with rfl | rfl | rfl | rfl | rfl | rfl | rfl | rfl | rfl <;> rfl) (by simp only[maxLen];omega) (by omega) (by simp) ?_
     intro A5 c5 w5 hown5 hgr5 hat5
     have j5:=(h3.b.drew.alloc (.cells (mvC kind s.id tt s.term prev pterm commit granted A es.length c) 99)).grown hgr5 (fun e=>own_ne h3.oo h3.b (by decide) _ e.symm rfl)
     have y0:=j5.lt
     have y1:=j5.frozen
     have y46:=blk_out j5 hz.l9))
 all_goals
  refine bodyPost_end (v:=.tuple #[]) (by simp[results,Tryz.results81,go_sem]) rfl ⟨rfl,?_⟩
  have hz3:NZ W3.drew col p v j l f s un s.mb (posC s.log) mi mm Ao co ms dur:=h3.fr (S:=fun _=>False) (Fr.of_below (Below.refl _ _).drew) (fun _ _=>id)
  obtain ⟨col',n1,n2,n3⟩:=NZ.push hz3 (y:=⟨kind,s.id,tt,s.term,prev,pterm,commit,granted,A,c,es⟩) ⟨hy3.fr (S:=fun _=>False) (Fr.of_below (Below.refl _ _).drew) (fun _ _=>id),HY.out.2⟩ hgr5 hown5 hat5
  refine ⟨col',⟨mi,mm,A5,c5,_,dur,n1,by rw[List.map_append,HM.out];rfl⟩,fun k hk=>n2 k (Nat.lt_of_lt_of_le hk hs3),?_⟩
  exact (Fr.of_below (S:=fun k=>col k≠0) f3).trans (Fr.trans ((Fr.of_below (S:=fun k=>col k≠0) (Below.refl W3.heap.size W3).drew)) n3)
end
end Go.Proofs.YtdfobfjpkjddpaaGreat

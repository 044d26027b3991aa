import Derived.Test.YtdhcjhfgibmhfaaGreatDoorJG6
import Derived.Test.YtdhcjhfgibmhfaaGreatDoorJG5
import Derived.Test.YtdhcjhfgibmhfaaGreatDoorJG4
import Derived.Deep.MidRow
set_option linter.unusedVariables false
set_option linter.unusedSimpArgs false
set_option maxRecDepth 10000
set_option maxHeartbeats 8000000
namespace Go.Proofs.YtdhcjhfgibmhfaaGreatDoor
open Go.RowKit Go.Own Go.Quo Go.Inc
theorem iq (id urg dist since merged:Int)(code:ByteArray)(An Ac Au:Option Addr)(nn Vj Fq cn cc cu:Nat)(closed:Bool)(w:World) :
 Calls Tryz.prog 100 #[.agg #[ι id,ι urg,.string code,.slice An nn cn,ι dist,ι since,.slice Ac Vj cc,.slice Au Fq cu,ι merged,.bool closed]] w (qX (decide (merged=0) && !closed) w):=by
 have HB0:=ħ ((Below.refl w.heap.size w).alloc (Nat.le_refl _) (.cells #[ι id,ι urg,.string code,.slice An nn cn,ι dist,ι since,.slice Ac Vj cc,.slice Au Fq cu,ι merged,.bool closed] 48))
 have x0:=(zb.new w 48 #[ι id,ι urg,.string code,.slice An nn cn,ι dist,ι since,.slice Ac Vj cc,.slice Au Fq cu,ι merged,.bool closed]).facts
 by_cases h5:merged=0
 ·subst h5
  rw[decide_eq_true rfl]
  go_enter Tryz.func100,Tryz.ntmps100
  go_wp2_with fail
  go_ret
  exact ⟨by first | rfl | simp,HB0.out⟩
 ·have Co:(merged == 0)=false:=by simpa using h5
  rw[decide_eq_false h5]
  clear h5
  go_enter Tryz.func100,Tryz.ntmps100
  go_wp2_with fail
  go_ret
  exact ⟨by first | rfl | simp,HB0.out⟩
theorem ib (id urg dist since merged:Int)(code:ByteArray)(An Ac Au:Option Addr)(nn Vj Fq cn cc cu:Nat)(closed:Bool)(w:World) :
 Calls Tryz.prog 68 #[.agg #[ι id,ι urg,.string code,.slice An nn cn,ι dist,ι since,.slice Ac Vj cc,.slice Au Fq cu,ι merged,.bool closed]] w (qX (decide (merged=0) && !closed) w):=by
 have HB0:=ħ ((Below.refl w.heap.size w).alloc (Nat.le_refl _) (.cells #[ι id,ι urg,.string code,.slice An nn cn,ι dist,ι since,.slice Ac Vj cc,.slice Au Fq cu,ι merged,.bool closed] 48))
 have x0:=(zb.new w 48 #[ι id,ι urg,.string code,.slice An nn cn,ι dist,ι since,.slice Ac Vj cc,.slice Au Fq cu,ι merged,.bool closed]).facts
 by_cases h5:merged=0
 ·subst h5
  rw[decide_eq_true rfl]
  go_enter Tryz.func68,Tryz.ntmps68
  go_wp2_with fail
  go_ret
  exact ⟨by first | rfl | simp,HB0.out⟩
 ·have Co:(merged == 0)=false:=by simpa using h5
  rw[decide_eq_false h5]
  clear h5
  go_enter Tryz.func68,Tryz.ntmps68
  go_wp2_with fail
  go_ret
  exact ⟨by first | rfl | simp,HB0.out⟩
end Go.Proofs.YtdhcjhfgibmhfaaGreatDoor
namespace Go.Own
open Go.RowKit
theorem za {P:Program}{fn:Func}{p u:Tmp}{ty:TypeId}(h:fn.results=#[.cell p ty,.tmp u])(tmps:Array Value)(w:World)(g:Nat)(t:TypeId)(cs:Array Value)(fr:Nat × Nat)(d:TypeDesc)
 (hp:tmps.getD p undef=.pointer (some ⟨g,0,none⟩)) (hg:w.heap[g]?=some (.cells cs t fr))
 (hu:P.underlying ty=some d) (hd:(match d with | .struct _ | .array _ _=>true | _=>false)=true) (hi:(P.info? ty).map (·.size)=some cs.size) :
 (results fn tmps).run P w=.ok (.tuple #[.agg cs,tmps.getD u undef]) w:=by
 rw[results_cell_tmp h,hp]
 simp[asAddr,run_loadVar_row w g t ty cs fr d hg hu hd hi,Result.andThen]
end Go.Own
namespace Go.Proofs.YtdhcjhfgibmhfaaGreatDoor
open Go.RowKit Go.Own Go.Quo Go.Inc
def zO:Ic:=⟨0,0,⟨#[]⟩,[],0,0,[],[],0,false⟩
def zt (id:Int)(c:Cr):Ic:=⟨id,c.urg,c.code,c.nodes,c.dist,c.since,[c.call],[],0,false⟩
def jX (x:Ic)(err:Int)(w:World)(e:Ending)(w':World):Prop:=∃ An Ac Au cn cc cu,e=.returned (.tuple #[oN x An Ac Au cn cc cu,ι err]) ∧
 w'.ownsRow w.heap.size 3 1 (.slice An x.nodes.length cn) x.nodes.length (x.nodes.map (Value.int .i64))∧w'.ownsRow w.heap.size 2 1 (.slice Ac x.calls.length cc) x.calls.length (x.calls.map (Value.int .i64))∧w'.ownsRow w.heap.size 3 1 (.slice Au x.units.length cu) x.units.length (x.units.map (Value.int .i64))∧Below w.heap.size w w'
theorem zH {v0 v1 v2 v3 v4 v5 v6 v7 v8 v9:Value}(h:v0.oneCell'=true∧v1.oneCell'=true∧v2.oneCell'=true∧v3.oneCell'=true∧v4.oneCell'=true∧v5.oneCell'=true∧v6.oneCell'=true∧v7.oneCell'=true∧v8.oneCell'=true∧v9.oneCell'=true):∀ u∈(#[v0,v1,v2,v3,v4,v5,v6,v7,v8,v9]:Array Value).toList,u.oneCell'=true:=by
 intro u hu
 simp at hu
 obtain ⟨h0,h1,h2,h3,h4,h5,h6,h7,h8,h9⟩:=h
 rcases hu with rfl | rfl | rfl | rfl | rfl | rfl | rfl | rfl | rfl | rfl <;> assumption
theorem EJ (B:Nat→Prop)(id call inc urg dist since:Int)(code:ByteArray)(A:Option Addr)(c:Nat)(nodes:List Int)(closed:Bool)(w:World)(hs:code.size≤100000)(h:RI w B A nodes)(hl:nodes.length≤100000) :
 Calls Tryz.prog 84 #[ι id,.agg #[ι call,ι inc,ι urg,.string code,.slice A nodes.length c,ι dist,ι since,.bool closed]] w
  (if (zQ id 1 && yz ⟨call,inc,urg,code,nodes,dist,since,closed⟩)=true then jX (zt id ⟨call,inc,urg,code,nodes,dist,since,closed⟩) 0 w else jX zO 1 w):=by
 have Yf:=ħ fun W=>kS id W
 have HR:=ħ ((h.old (by omega)).more (B':=fun k=>k<w.heap.size) (fun k hk=>hk.2))
 have gT:=ħ fun (W:World) (hb:Below w.heap.size w W)=>JA _ call inc urg dist since code A c nodes closed W hs (HR.out.below hb (fun k hk=>hk)) hl
 have x0:=(zb.new w 34 #[ι call,ι inc,ι urg,.string code,.slice A nodes.length c,ι dist,ι since,.bool closed]).facts
 have HB0:=ħ (((Below.refl w.heap.size w).alloc (Nat.le_refl _) (.cells #[ι call,ι inc,ι urg,.string code,.slice A nodes.length c,ι dist,ι since,.bool closed] 34)).alloc (by simp) (.cells ζ 48))
 have HX:=ħ ((zb.new w 34 #[ι call,ι inc,ι urg,.string code,.slice A nodes.length c,ι dist,ι since,.bool closed]).alloc (.cells ζ 48))
 have HY:=ħ (show zb ((w.alloc (.cells #[ι call,ι inc,ι urg,.string code,.slice A nodes.length c,ι dist,ι since,.bool closed] 34)).alloc (.cells ζ 48)) (w.heap.size+1) 48 ζ by
  have:=zb.new (w.alloc (.cells #[ι call,ι inc,ι urg,.string code,.slice A nodes.length c,ι dist,ι since,.bool closed] 34)) 48 ζ
  simpa using this)
 clear h
 cases h0:zQ id 1 with
 | false=>
  rw[h0] at Yf
  rw[if_neg (by simp)]
  go_enter Tryz.func84,Tryz.ntmps84
  go_wp2_with (go_at_call 126;((with_reducible refine (Yf.out _).mono ?_);rintro e w2 ⟨rfl,rfl⟩))
  refine bodyPost_ret (za (p:=4) (u:=5) (ty:=48) Tryz.results84 _ _ (w.heap.size+1) 48 ζ (0,0) _ rfl HY.out Tryz.underlying48 rfl qo) rfl ?_
  exact ⟨none,none,none,0,0,0,rfl,World.ownsRow_nil _ _ _ _,World.ownsRow_nil _ _ _ _,World.ownsRow_nil _ _ _ _,HB0.out⟩
 | true=>
  rw[h0] at Yf
  cases h1:yz ⟨call,inc,urg,code,nodes,dist,since,closed⟩ with
  | false=>
   rw[h1] at gT
   rw[if_neg (by simp)]
   go_enter Tryz.func84,Tryz.ntmps84
   go_wp2_with (first | (go_at_call 126;((with_reducible refine (Yf.out _).mono ?_);rintro e w2 ⟨rfl,rfl⟩)) | (go_at_call 127;((with_reducible refine (gT.out _ HB0.out).mono ?_);rintro e w2 ⟨rfl,hb2⟩;have vR:=ħ (HY.out.below hb2 HY.out.lt);have HB2:=ħ (HB0.out.trans (hb2.mono HB0.out.size)))) | (refine z8 rfl (.tmp 4) (.tmp 15) 48 rfl (w.heap.size+1) 48 _ ζ _ 10 136 zJ rfl rfl rfl vR.out rfl (zH (by simp[Value.oneCell'])) ?_;intro w8 zW zI yL))
   refine bodyPost_ret (za (p:=4) (u:=5) (ty:=48) Tryz.results84 _ _ (w.heap.size+1) 48 ζ (0,0) _ rfl zW Tryz.underlying48 rfl qo) rfl ?_
   exact ⟨none,none,none,0,0,0,rfl,World.ownsRow_nil _ _ _ _,World.ownsRow_nil _ _ _ _,World.ownsRow_nil _ _ _ _,HB2.out.trans (zI.below HB2.out.size (fun k hk e=>by omega))⟩
  | true=>
   rw[h1] at gT
   rw[if_pos (by simp)]
   have HF:=ħ fun (p:Nat) (W:World) (hp:zb W p 48 #[ι id,ι 0,.string ⟨#[]⟩,.slice none 0 0,ι dist,ι 0,.slice none 0 0,.slice none 0 0,ι 0,.bool false]) (hb:Below w.heap.size w W) (hpn:w.heap.size≤p)=>ko _ p (ι id) (ι 0) (.string ⟨#[]⟩) (.slice none 0 0) (ι dist) (ι 0) (.slice none 0 0) (.slice none 0 0) (ι 0) (.bool false) call inc urg dist since code A c nodes closed W hp (HR.out.below hb (fun k hk=>hk)) (fun k hk=>by omega) hl
   go_enter Tryz.func84,Tryz.ntmps84
   go_upto_region 4 with (first | (go_at_call 126;((with_reducible refine (Yf.out _).mono ?_);rintro e w2 ⟨rfl,rfl⟩)) | (go_at_call 127;((with_reducible refine (gT.out _ HB0.out).mono ?_);rintro e w2 ⟨rfl,hb2⟩;have vR:=ħ (HY.out.below hb2 HY.out.lt);have Zo:=ħ (HX.out.below hb2 HX.out.lt);have HB2:=ħ (HB0.out.trans (hb2.mono HB0.out.size));have hs2:=ħ hb2.size;clear hb2 x0;have x0:=Zo.out.facts)))
   have ny:=hs2.out
   have hsz:w.heap.size+2≤w2.heap.size:=by simp at ny;omega
   clear ny
   have sN:=ħ (zb.new w2 48 #[ι id,ι 0,.string ⟨#[]⟩,.slice none 0 0,ι dist,ι 0,.slice none 0 0,.slice none 0 0,ι 0,.bool false])
   have RF:=ħ (vR.out.alloc (.cells #[ι id,ι 0,.string ⟨#[]⟩,.slice none 0 0,ι dist,ι 0,.slice none 0 0,.slice none 0 0,ι 0,.bool false] 48))
   have qx:=ħ (Zo.out.alloc (.cells #[ι id,ι 0,.string ⟨#[]⟩,.slice none 0 0,ι dist,ι 0,.slice none 0 0,.slice none 0 0,ι 0,.bool false] 48))
   have HB3:=ħ (HB2.out.alloc HB2.out.size (.cells #[ι id,ι 0,.string ⟨#[]⟩,.slice none 0 0,ι dist,ι 0,.slice none 0 0,.slice none 0 0,ι 0,.bool false] 48))
   have HP:=ħ (HF.out w2.heap.size _ sN.out HB3.out (by omega))
   clear x0
   have x0:=qx.out.facts
   have Mk:=ħ (show w2.heap.size+1=(w2.alloc (.cells #[ι id,ι 0,.string ⟨#[]⟩,.slice none 0 0,ι dist,ι 0,.slice none 0 0,.slice none 0 0,ι 0,.bool false] 48)).heap.size by simp)
   generalize w2.alloc _=W3 at *
   obtain ⟨p,hp⟩:∃ p,p=w2.heap.size:=⟨_,rfl⟩
   rw[←hp] at HP hsz Mk⊢
   clear hp sN vR Zo HB2 hs2
   go_wp2_with (first | (go_at_call 128;((with_reducible refine HP.out.mono ?_);rintro e w5 ⟨A3,c3,A4,rfl,wu,pF,sP,uC⟩;have Nw:=ħ wu;have y9:=ħ pF;have BD:=ħ sP;have J9:=ħ (RF.out.fr uC (by omega));have ZN:=ħ (HB3.out.trans (uC.below HB3.out.size (fun k hk e=>by omega)));clear pF sP uC x0;have z0:=wu.facts;clear wu)) | (refine z8 rfl (.tmp 4) (.tmp 22) 48 rfl (w.heap.size+1) 48 _ #[ι id,ι urg,.string code,.slice A3 nodes.length c3,ι dist,ι since,.slice A4 1 1,.slice none 0 0,ι 0,.bool false] _ 10 136 zJ rfl rfl rfl J9.out rfl (zH (by simp[Value.oneCell'])) ?_;intro w8 zW zI yL))
   refine bodyPost_ret (za (p:=4) (u:=5) (ty:=48) Tryz.results84 _ _ (w.heap.size+1) 48 #[ι id,ι urg,.string code,.slice A3 nodes.length c3,ι dist,ι since,.slice A4 1 1,.slice none 0 0,ι 0,.bool false] (0,0) _ rfl zW Tryz.underlying48 rfl qo) rfl ?_
   have Px:=Mk.out
   refine ⟨A3,A4,none,c3,1,0,rfl,?_,?_,World.ownsRow_nil _ _ _ _,?_⟩
   ·exact World.ownsRow.mono (zY y9.out zI (fun g hg e=>by have:=(y9.out.lt g hg).1;omega)) (by omega)
   ·exact World.ownsRow.mono (zY BD.out zI (fun g hg e=>by have:=(BD.out.lt g hg).1;omega)) (by omega)
   ·exact ZN.out.trans (zI.below ZN.out.size (fun k hk e=>by omega))
end Go.Proofs.YtdhcjhfgibmhfaaGreatDoor
namespace Go.Proofs.YtdhcjhfgibmhfaaGreatDoor
open Go.RowKit Go.Own Go.Quo Go.Inc
theorem Vb {v v':Value}(h:∀ g,v.ownBlock=some g→some g≠v'.ownBlock):v.ownBlock=none∨v.ownBlock≠v'.ownBlock:=by
 cases hq:v.ownBlock with
 | none=>exact .inl rfl
 | some g=>exact .inr (h g hq)
theorem YJ {x:Cr}(h:yz x=true):qf x.nodes 0 4095=true∧0<x.nodes.length:=by
 unfold yz yK at h
 simp at h
 exact ⟨h.2.1.1.1.1.2,h.2.1.1.1.1.1.2⟩
def sub:List Bool→Code→Code
 | [],c=>c
 | true :: p,.seq _ y=>sub p y
 | false :: p,.seq x _=>sub p x
 | _,c=>c
theorem ZZ {P:Program}{c c':Code}{Q:Exit→Act→World→Prop}{a:Act}{w:World}(h:c'=c)(H:c'.wp P Q a w):c.wp P Q a w:=h ▸ H
def Vx (x:Ic):List Cr→Ic
 | []=>x
 | t :: r=>r.foldl qV (Qa x t)
def Jp (x:Ic)(ss:List Cr):Ic × Int:=
 if jC x=false∨ss=[] then (zO,1) else if ss.all yz=false then (zO,1) else
 if qf (Ya (Vx x ss).calls) 1 1099511627776=false then (zO,5) else if (Vx x ss).merged≠0 then (zO,8) else ({ Vx x ss with calls:=Ya (Vx x ss).calls },0)
def Q7 (x:Ic)(cs:List Cr)(w:World)(e:Ending)(w':World):Prop:=∃ ss,ss.Perm cs∧ss.Pairwise UD∧jX (Jp x ss).1 (Jp x ss).2 w e w'
theorem uK {x:Ic}{cs:List Cr}(h:jC x=false∨cs=[]∨∃ t∈cs,yz t=false){w:World}{e:Ending}{w':World}(hp:jX zO 1 w e w'):Q7 x cs w e w':=by
 refine ⟨jQ cs,yo cs,Z9 cs,?_⟩
 have:Jp x (jQ cs)=(zO,1):=by
  unfold Jp
  rcases h with h | rfl | ⟨t,ht,h⟩
  ·rw[if_pos (.inl h)]
  ·rw[if_pos (.inr (List.Perm.eq_nil (yo [])))]
  ·by_cases h2:jC x=false∨jQ cs=[]
   ·rw[if_pos h2]
   ·rw[if_neg h2,if_pos]
    rw[List.all_eq_false]
    exact ⟨t,(yo cs).mem_iff.2 ht,by simp[h]⟩
 rw[this]
 exact hp
theorem Jw:(Tryz.prog.info? 34).map (·.size)=some 8:=by kernel_rfl
theorem VD {A:Option Addr}{n:Nat}(hA:Plain A n)(c k:Nat)(hk:k<n)(w:World):(Instr.indexAt 27 (.slice A n c) (ι (k:Int))).run Tryz.prog w=.ok (.pointer (some ⟨bk A,qP A+k * 8,none⟩)) w:=by
 obtain ⟨i,h1,h2,h3,_⟩:=info_parts Hq
 exact jk (P:=Tryz.prog) Tryz.underlying27 h1 h3 hA c k hk w
theorem jG {w:World}{B:Nat→Prop}{A:Option Addr}{ts:List Ca}(h:Reads w B 8 A ts.length (ts.flatMap qC)){k:Nat}(hk:k<ts.length):w.rangeAt (bk A) (qP A+k * 8) (qC ts[k]):=by
 intro j v hv
 have hj:j<8:=by have:=(List.getElem?_eq_some_iff.1 hv).1;simpa [qC] using this
 have hlt:k * 8+j<ts.length * 8:=by omega
 have:=h.cell2 (k * 8+j) hlt (by omega)
 rw[flat_get qC 8 (fun _=>rfl) ts k j _ (List.getElem?_eq_getElem hk) hj] at this
 rw[Nat.add_assoc,this];exact hv
def ZH (A:Option Addr)(c:Nat):Option Addr:=if c=1 then A else A.map (·.add (1 * 8))
theorem Q3 {A:Option Addr}{n c:Nat}(hn:1≤n)(W:World):(Instr.slice 27 (.slice A n c) (some (ι 1)) none none).run Tryz.prog W=.ok (.slice (ZH A c) (n - 1) (c - 1)) W:=by
 have hu:Tryz.prog.underlying 27=some (.slice (Tryz.prog.elem 27)):=by kernel_rfl
 have he:Tryz.prog.elem 27=34:=by kernel_rfl
 rw[run_slice_l W 27 A n c hu .i64 1 (by omega) (by omega),he,Tryz.sizeOf34]
 simp[sliced,ZH,Result.andThen]
theorem QC {A:Option Addr}{n c:Nat}(hn:1≤n)(W:World):(Instr.sliceAt 27 (.slice A n c) (some (ι 1)) none none).run Tryz.prog W=.ok (.slice (ZH A c) (n - 1) (c - 1)) W:=by
 have hu:Tryz.prog.underlying 27=some (.slice (Tryz.prog.elem 27)):=by kernel_rfl
 rw[run_sliceAt_slice W 27 _ _ _ _ hu]
 exact Q3 hn W
theorem Ym {w:World}{B:Nat→Prop}{A:Option Addr}{n c:Nat}{t:Ca}{r:List Ca}(h:Reads w B 8 A n ((t :: r).flatMap qC))(hn:n=r.length+1)(hc:n≤c):Reads w B 8 (ZH A c) r.length (r.flatMap qC):=by
 have:=h.cut (k:=1) (by omega) hc
 subst hn
 unfold ZH
 rw[List.flatMap_cons,Nat.add_sub_cancel] at this
 have e:(qC t ++ r.flatMap qC).drop (1 * 8)=r.flatMap qC:=rfl
 rw[e] at this
 exact this
theorem S9 {w:World}{base:Nat}{A:Option Addr}{n c:Nat}{xs:List Value}(h:w.ownsRow base 34 8 (.slice A n c) n xs)(hn:0<n):n≤c∧Reads w (· < w.heap.size) 8 A n xs:=by
 refine ⟨?_,(Reads.of_own h).old (by omega) |>.more (fun k hk=>hk.2)⟩
 rcases h.2 with ⟨_,hv⟩ | ⟨g,cap,cur,hv,hb,hg,hnc,_⟩
 ·omega
 ·injection hv with _ _ h3;omega
theorem EH {l:List Int}(h:qf l 0 4095=true):l.length≤4096:=by
 obtain ⟨h1,h2⟩:=j4.1 h
 rw[List.pairwise_iff_getElem] at h1
 have h3:∀ i (hi:i<l.length),(i:Int)≤l[i]:=by
  intro i
  induction i with
  | zero=>intro hi;have:=(h2 _ (List.getElem_mem hi)).1;simpa using this
  | succ i ih=>
   intro hi
   have a:=ih (by omega)
   have b:=h1 i (i+1) (by omega) hi (by omega)
   omega
 rcases Nat.eq_zero_or_pos l.length with h0 | h0
 ·omega
 ·have a:=h3 (l.length - 1) (by omega)
  have b:=(h2 _ (List.getElem_mem (show l.length - 1<l.length by omega))).2
  omega
theorem Gd {x:Ic}{c:Cr}(h:qf x.nodes 0 4095=true)(h0:0<x.nodes.length):qf (qV x c).nodes 0 4095=true∧0<(qV x c).nodes.length:=by
 unfold qV
 simp only
 by_cases hb:0<(zT x.nodes c.nodes).length
 ·rw[if_pos hb];exact ⟨XZ h (QI _ _),hb⟩
 ·rw[if_neg hb];exact ⟨h,h0⟩
theorem Gf (x:Ic)(An Ac Au:Option Addr)(cn cc cu:Nat)(ts:List Ca)(A:Option Addr)(c:Nat)(w:World)(ht:jg w)(hn:RI w (· < w.heap.size) An x.nodes)(hc:RI w (· < w.heap.size) Ac x.calls)(hu:RI w (· < w.heap.size) Au x.units)(h:Reads w (· < w.heap.size) 8 A ts.length (ts.flatMap qC))(hts:∀ t∈ts,RI w (· < w.heap.size) t.A t.c.nodes)(hs:x.code.size≤100000)(ln:x.nodes.length≤100000)(lc:x.calls.length≤100000)(lu:x.units.length≤100000)(lt:ts.length≤1000)(Gb:∀ t∈ts,t.c.code.size≤100000∧t.c.nodes.length≤100000)(h0:jC x=false∨ts=[]):Calls Tryz.prog 107 #[.agg (ξ x An cn Ac cc Au cu),.slice A ts.length c] w (Q7 x (ts.map (·.c)) w):=by
 refine Calls.mono ?_ (fun e w' hp=>uK (h0.imp (fun h=>h) (fun h=>.inl (by rw[h];rfl))) hp)
 have hp:=h.plain (by omega)
 have HR:=ħ h
 have HN:=ħ hn
 have HC:=ħ hc
 have HU:=ħ hu
 have Bz:=ħ hts
 have HT:=ħ ht
 have HL:=ħ Gb
 have GG:=ħ fun (W:World) (hb:Below w.heap.size w W)=>(show Calls Tryz.prog 124 #[.agg (ξ x An cn Ac cc Au cu)] W (qX (jC x) W) from kL _ x.id x.urg x.dist x.since x.merged x.code An Ac Au cn cc cu x.nodes x.calls x.units x.closed W hs (HN.out.below hb (fun k hk=>hk)) (HC.out.below hb (fun k hk=>hk)) (HU.out.below hb (fun k hk=>hk)) ln lc lu)
 have HB:=ħ (((Below.refl w.heap.size w).alloc (Nat.le_refl _) (.cells (ξ x An cn Ac cc Au cu) 48)).alloc (by simp) (.cells ζ 48))
 have HX:=ħ ((zb.new w 48 (ξ x An cn Ac cc Au cu)).alloc (.cells ζ 48))
 have HY:=ħ (show zb ((w.alloc (.cells (ξ x An cn Ac cc Au cu) 48)).alloc (.cells ζ 48)) (w.heap.size+1) 48 ζ by
  have:=zb.new (w.alloc (.cells (ξ x An cn Ac cc Au cu) 48)) 48 ζ
  simpa using this)
 have x0:=HX.out.facts
 clear hn hc hu h hts ht Gb
 cases hi:jC x with
 | false=>
  clear h0
  rw[hi] at GG
  go_enter Tryz.func107,Tryz.ntmps107
  go_wp2_with (first | (go_at_call 124;((with_reducible refine (GG.out _ HB.out).mono ?_);rintro e w2 ⟨rfl,hb⟩;have HX:=ħ (HX.out.below hb HX.out.lt);have HY:=ħ (HY.out.below hb HY.out.lt);have HB:=ħ (HB.out.trans (hb.mono HB.out.size));clear hb x0;have x0:=HX.out.facts)) | (refine z8 rfl (.tmp 4) (.tmp 20) 48 rfl (w.heap.size+1) 48 _ ζ _ 10 136 zJ rfl rfl rfl HY.out rfl (zH (by simp[Value.oneCell'])) ?_;intro w8 zW zI yL))
  refine bodyPost_ret (za (p:=4) (u:=5) (ty:=48) Tryz.results107 _ _ (w.heap.size+1) 48 ζ (0,0) _ rfl zW Tryz.underlying48 rfl qo) rfl ?_
  exact ⟨none,none,none,0,0,0,rfl,World.ownsRow_nil _ _ _ _,World.ownsRow_nil _ _ _ _,World.ownsRow_nil _ _ _ _,HB.out.trans (zI.below HB.out.size (fun k hk e=>by omega))⟩
 | true=>
  have h1:ts=[]:=by rcases h0 with e | e;· rw[hi] at e;cases e
                    ·exact e
  subst h1
  clear h0
  rw[hi] at GG
  go_enter Tryz.func107,Tryz.ntmps107
  go_wp2_with (first | (go_at_call 124;((with_reducible refine (GG.out _ HB.out).mono ?_);rintro e w2 ⟨rfl,hb⟩;have HX:=ħ (HX.out.below hb HX.out.lt);have HY:=ħ (HY.out.below hb HY.out.lt);have HB:=ħ (HB.out.trans (hb.mono HB.out.size));clear hb x0;have x0:=HX.out.facts)) | (refine z8 rfl (.tmp 4) (.tmp 20) 48 rfl (w.heap.size+1) 48 _ ζ _ 10 136 zJ rfl rfl rfl HY.out rfl (zH (by simp[Value.oneCell'])) ?_;intro w8 zW zI yL))
  refine bodyPost_ret (za (p:=4) (u:=5) (ty:=48) Tryz.results107 _ _ (w.heap.size+1) 48 ζ (0,0) _ rfl zW Tryz.underlying48 rfl qo) rfl ?_
  exact ⟨none,none,none,0,0,0,rfl,World.ownsRow_nil _ _ _ _,World.ownsRow_nil _ _ _ _,World.ownsRow_nil _ _ _ _,HB.out.trans (zI.below HB.out.size (fun k hk e=>by omega))⟩
theorem cB (x:Ic)(ss cs:List Cr)(urg since:Int)(code:ByteArray)(nodes calls:List Int)(Y4 Qs Vk:Option Addr)(YA Qu XU:Nat)(p:Nat)(w w5 wr:World)(LA:w.heap.size+1<w5.heap.size)(hSp:w5.heap.size≤p)(dS:calls.length≤1000)
 (HP:RowKit.Hid (zb wr p 48 #[ι x.id,ι urg,.string code,.slice Y4 nodes.length YA,ι x.dist,ι since,.slice Qs calls.length Qu,.slice Vk x.units.length XU,ι x.merged,.bool x.closed])) (fT:RowKit.Hid (wr.ownsRow w5.heap.size 3 1 (.slice Y4 nodes.length YA) nodes.length (nodes.map (Value.int .i64)))) (AJ:RowKit.Hid (wr.ownsRow w5.heap.size 2 1 (.slice Qs calls.length Qu) calls.length (calls.map (Value.int .i64)))) (eT:RowKit.Hid (wr.ownsRow w5.heap.size 3 1 (.slice Vk x.units.length XU) x.units.length (x.units.map (Value.int .i64))))
 (HY:RowKit.Hid (zb wr (w.heap.size+1) 48 ζ)) (HB:RowKit.Hid (Below w.heap.size w wr))
 (UO:RowKit.Hid (Jp x ss=if qf (Ya calls) 1 1099511627776=false then (zO,5) else if x.merged≠0 then (zO,8) else (⟨x.id,urg,code,nodes,x.dist,since,Ya calls,x.units,x.merged,x.closed⟩,0))) (XO:RowKit.Hid (ss.Perm cs)) (VG:RowKit.Hid (ss.Pairwise UD)) (s0 s1 s2 s3 s5 s6 s7 s8 s10 s11 s12 s13 vw s15 s16 xQ xP xS s20 xM vD xK s24 xZ xO xX Sw vB xL vz x_ xN vE kw Df kR D7 Dt DD kg kE s43 s44 DK De kC D9 s49 uI uS D8 s53 DC Dk kX Du uO Dn Dy D5 kK uJ kF Dz DJ Dw s68:Value) :
 (sub [true,true,true,true,true,true,true,true,true] (Tryz.f107.body.getD .skip)).wp Tryz.prog (bodyPost Tryz.prog Tryz.f107 (Q7 x cs w)) ⟨#[s0,s1,s2,s3,.pointer (some ⟨w.heap.size+1,0,none⟩),s5,s6,s7,s8,.pointer (some ⟨p,0,none⟩),s10,s11,s12,s13,vw,s15,s16,xQ,xP,xS,s20,xM,vD,xK,s24,xZ,xO,xX,Sw,vB,xL,vz,x_,xN,vE,kw,Df,kR,D7,Dt,DD,kg,kE,s43,s44,DK,De,kC,D9,s49,uI,uS,D8,s53,DC,Dk,kX,Du,uO,Dn,Dy,D5,kK,uJ,kF,Dz,DJ,Dw,s68],[]⟩ wr:=by
 generalize hQ:bodyPost Tryz.prog Tryz.f107 (Q7 x cs w)=Q
 dsimp only [sub,Tryz.f107,Option.getD]
 subst hQ
 have Ms:=ħ (EQ w5.heap.size Qs calls.length Qu calls wr AJ.out (by omega))
 have MO:=ħ (jf fT.out AJ.out (by decide))
 have gm:=ħ (jf eT.out AJ.out (by decide))
 have Md:=ħ (zR AJ.out HP.out (by decide))
 have jh:=ħ (fun g hg=>(AJ.out.lt g hg).1)
 have z0:=HP.out.facts
 go_upto_region 21 with (go_at_call 111;((with_reducible refine Ms.out.mono ?_);rintro e VT ⟨rfl,hk10,nO⟩;have Cq:=ħ hk10;have Fp:=ħ nO;clear hk10 nO z0))
 have Om:=ħ (HP.out.grown Fp.out (by intro e;exact Md.out p e.symm rfl))
 have K_:=ħ (World.ownsRow.kept fT.out Fp.out (Vb MO.out))
 have LV:=ħ (World.ownsRow.kept eT.out Fp.out (Vb gm.out))
 have wZ:=ħ (HY.out.grown Fp.out (by intro e;have:=jh.out _ e.symm;omega))
 have mO:=ħ (HB.out.grown Fp.out HB.out.size (fun k hk=>by have:=jh.out _ hk;omega))
 have FH:=ħ (show VT.ownsRow w5.heap.size 2 1 (.slice Qs (Ya calls).length Qu) (Ya calls).length ((Ya calls).map (Value.int .i64)) by rw[jE];exact Cq.out)
 have VR:=ħ (show Calls Tryz.prog 152 #[.slice Qs calls.length Qu,ι 1,ι 1099511627776] VT (jr (qf (Ya calls) 1 1099511627776) VT) by
  have:=Bu _ Qs Qu (Ya calls) 1 1099511627776 VT (Ke FH.out) (by rw[jE];omega)
  rw[jE] at this
  exact this)
 have z0:=Om.out.facts
 clear HP fT eT HY HB AJ Fp MO gm Md jh Ms
 cases hq:qf (Ya calls) 1 1099511627776 with
 | false=>
  have xG:=ħ (show Jp x ss=(zO,5) by rw[UO.out,if_pos hq])
  rw[hq] at VR
  clear hq UO
  go_wp2_with (first | (go_at_call 152;((with_reducible refine VR.out.mono ?_);rintro e w11 ⟨rfl,rfl⟩)) | (refine z8 rfl (.tmp 4) (.tmp 63) 48 rfl (w.heap.size+1) 48 _ ζ _ 10 136 zJ rfl rfl rfl wZ.out rfl (zH (by simp[Value.oneCell'])) ?_;intro w8 zW zI yL))
  refine bodyPost_ret (za (p:=4) (u:=5) (ty:=48) Tryz.results107 _ _ (w.heap.size+1) 48 ζ (0,0) _ rfl zW Tryz.underlying48 rfl qo) rfl ?_
  refine ⟨_,XO.out,VG.out,?_⟩
  rw[xG.out]
  exact ⟨none,none,none,0,0,0,rfl,World.ownsRow_nil _ _ _ _,World.ownsRow_nil _ _ _ _,World.ownsRow_nil _ _ _ _,mO.out.trans (zI.below mO.out.size (fun k hk e=>by omega))⟩
 | true=>
  rw[hq] at VR UO
  clear hq
  by_cases hm:x.merged=0
  ·have xG:=ħ (show Jp x ss=(⟨x.id,urg,code,nodes,x.dist,since,Ya calls,x.units,x.merged,x.closed⟩,0) by
    rw[UO.out,if_neg (by simp),if_neg (fun h=>h hm)])
   have dm:(x.merged != 0)=false:=by rw[hm];rfl
   have wL:((x.merged:Int) == 0)=true:=by rw[hm];rfl
   clear hm UO
   go_wp2_with (first | (go_at_call 152;((with_reducible refine VR.out.mono ?_);rintro e w11 ⟨rfl,rfl⟩)) | (refine z8 rfl (.tmp 4) (.tmp 68) 48 rfl (w.heap.size+1) 48 _ #[ι x.id,ι urg,.string code,.slice Y4 nodes.length YA,ι x.dist,ι since,.slice Qs calls.length Qu,.slice Vk x.units.length XU,ι x.merged,.bool x.closed] _ 10 136 zJ rfl rfl rfl wZ.out rfl (zH (by simp[Value.oneCell'])) ?_;intro w8 zW zI yL))
   refine bodyPost_ret (za (p:=4) (u:=5) (ty:=48) Tryz.results107 _ _ (w.heap.size+1) 48 #[ι x.id,ι urg,.string code,.slice Y4 nodes.length YA,ι x.dist,ι since,.slice Qs calls.length Qu,.slice Vk x.units.length XU,ι x.merged,.bool x.closed] (0,0) _ rfl zW Tryz.underlying48 rfl qo) rfl ?_
   refine ⟨_,XO.out,VG.out,?_⟩
   rw[xG.out]
   have e11:oN ⟨x.id,urg,code,nodes,x.dist,since,Ya calls,x.units,x.merged,x.closed⟩ Y4 Qs Vk YA Qu XU=.agg #[ι x.id,ι urg,.string code,.slice Y4 nodes.length YA,ι x.dist,ι since,.slice Qs calls.length Qu,.slice Vk x.units.length XU,ι x.merged,.bool x.closed]:=by
    show Value.agg #[ι x.id,ι urg,.string code,.slice Y4 nodes.length YA,ι x.dist,ι since,.slice Qs (Ya calls).length Qu,.slice Vk x.units.length XU,ι x.merged,.bool x.closed]=_
    rw[jE]
   refine ⟨Y4,Qs,Vk,YA,Qu,XU,by rw[e11];rfl,?_,?_,?_,?_⟩
   ·exact World.ownsRow.mono (zY K_.out zI (fun g hg e=>by have:=(K_.out.lt g hg).1;omega)) (by omega)
   ·exact World.ownsRow.mono (zY FH.out zI (fun g hg e=>by have:=(FH.out.lt g hg).1;omega)) (by omega)
   ·exact World.ownsRow.mono (zY LV.out zI (fun g hg e=>by have:=(LV.out.lt g hg).1;omega)) (by omega)
   ·exact mO.out.trans (zI.below mO.out.size (fun k hk e=>by omega))
  ·have xG:=ħ (show Jp x ss=(zO,8) by
    rw[UO.out,if_neg (by simp),if_pos hm])
   have dm:(x.merged != 0)=true:=by simpa [bne] using hm
   have wL:((x.merged:Int) == 0)=false:=by simpa using hm
   clear hm UO
   go_wp2_with (first | (go_at_call 152;((with_reducible refine VR.out.mono ?_);rintro e w11 ⟨rfl,rfl⟩)) | (refine z8 rfl (.tmp 4) (.tmp 67) 48 rfl (w.heap.size+1) 48 _ ζ _ 10 136 zJ rfl rfl rfl wZ.out rfl (zH (by simp[Value.oneCell'])) ?_;intro w8 zW zI yL))
   refine bodyPost_ret (za (p:=4) (u:=5) (ty:=48) Tryz.results107 _ _ (w.heap.size+1) 48 ζ (0,0) _ rfl zW Tryz.underlying48 rfl qo) rfl ?_
   refine ⟨_,XO.out,VG.out,?_⟩
   rw[xG.out]
   exact ⟨none,none,none,0,0,0,rfl,World.ownsRow_nil _ _ _ _,World.ownsRow_nil _ _ _ _,World.ownsRow_nil _ _ _ _,mO.out.trans (zI.below mO.out.size (fun k hk e=>by omega))⟩
end Go.Proofs.YtdhcjhfgibmhfaaGreatDoor

import Derived.Test.YtdfobfjpkjddpaaGreatUVot2
import Derived.Test.YtdfobfjpkjddpaaGreatUG4
import Derived.Test.YtdfobfjpkjddpaaGreatUShelf
import Derived.Test.YtdfobfjpkjddpaaGreatUG5
import Derived.Test.YtdfobfjpkjddpaaGreatUG3
import Derived.Sort.OwnSortedInts
import Derived.Deep.RegionLaw
import Derived.Test.YtdfobfjpkjddpaaGreatUG1
set_option linter.unusedVariables false
set_option linter.unusedSimpArgs false
set_option maxRecDepth 10000
set_option maxHeartbeats 2000000
namespace Go.Proofs.YtdfobfjpkjddpaaGreat
open Go.RowKit Go.Own Go.Quo Go.Wire Go.Raft
structure EV where
 t:Int
 k:Int
 A:Option Addr
 c:Nat
 b:List Int
def EV.e (x:EV):Ent:=⟨x.t,x.k,x.b⟩
abbrev evC (t k:Int)(A:Option Addr)(n c:Nat):Array Value:=#[.int .i64 t,.int .i64 k,.slice A n c]
abbrev evV (t k:Int)(A:Option Addr)(n c:Nat):Value:=.agg (evC t k A n c)
def evL (x:EV):List Value:=[.int .i64 x.t,.int .i64 x.k,.slice x.A x.b.length x.c]
theorem evL_len (x:EV):(evL x).length=3:=rfl
theorem flat3 (l:List EV):(l.flatMap evL).length=l.length * 3:=by
 induction l with
 | nil=>rfl
 | cons a r ih=>rw[List.flatMap_cons,List.length_append,ih,evL_len,List.length_cons];omega
theorem flat_at (l:List EV){k:Nat}{x:EV}(h:l[k]?=some x){j:Nat}(hj:j<3):(l.flatMap evL)[k * 3+j]?=(evL x)[j]?:=by
 induction l generalizing k with
 | nil=>simp at h
 | cons a r ih=>
  rw[List.flatMap_cons]
  rcases k with _ | k
  ·simp at h;subst h
   rw[List.getElem?_append_left (by rw[evL_len];omega),Nat.zero_mul,Nat.zero_add]
  ·simp at h
   rw[List.getElem?_append_right (by rw[evL_len];omega),evL_len,show (k+1) * 3+j - 3=k * 3+j by omega]
   exact ih h
def EB (w:World)(B:Nat→Prop)(l:List EV):Prop:=∀ x∈l,Reads w B 1 x.A x.b.length (bys x.b)
def ES (w:World)(B:Nat→Prop)(A:Option Addr)(l:List EV):Prop:=Reads w B 3 A l.length (l.flatMap evL)∧EB w B l
section
variable {w w':World} {B B' S:Nat→Prop} {A:Option Addr} {l:List EV}
theorem EB.fr (h:EB w B l)(hf:Fr S w w')(hS:∀ k,B k→¬ S k):EB w' B l:=fun x hx=>(h x hx).fr hf hS
theorem EB.more (h:EB w B l)(hB:∀ k,B k→B' k):EB w B' l:=fun x hx=>(h x hx).more hB
theorem EB.below {b:Nat}(h:EB w B l)(hb:Below b w w')(hB:∀ k,B k→k<b):EB w' B l:=fun x hx=>(h x hx).below hb hB
theorem EB.old (h:EB w B l):EB w (fun k=>B k∧k<w.heap.size) l:=fun x hx=>(h x hx).old (by omega)
theorem ES.fr (h:ES w B A l)(hf:Fr S w w')(hS:∀ k,B k→¬ S k):ES w' B A l:=⟨h.1.fr hf hS,h.2.fr hf hS⟩
theorem ES.more (h:ES w B A l)(hB:∀ k,B k→B' k):ES w B' A l:=⟨h.1.more hB,h.2.more hB⟩
theorem ES.below {b:Nat}(h:ES w B A l)(hb:Below b w w')(hB:∀ k,B k→k<b):ES w' B A l:=⟨h.1.below hb hB,h.2.below hb hB⟩
theorem ES.old (h:ES w B A l):ES w (fun k=>B k∧k<w.heap.size) A l:=⟨h.1.old (by omega),h.2.old⟩
theorem ES.nil:ES w B none []:=⟨Reads.none_,fun x hx=>by cases hx⟩
theorem ES.at_ (h:ES w B A l){k:Nat}{x:EV}(hk:l[k]?=some x):w.cell? ⟨bk A,ofs A+k * 3,none⟩=some (.int .i64 x.t)∧w.cell? ⟨bk A,ofs A+k * 3+1,none⟩=some (.int .i64 x.k)∧w.cell? ⟨bk A,ofs A+k * 3+2,none⟩=some (.slice x.A x.b.length x.c):=by
 have hl:=(List.getElem?_eq_some_iff.1 hk).1
 refine ⟨?_,?_,?_⟩
 ·have:=h.1.cell2 (k * 3+0) (by omega) (by omega)
  rw[flat_at l hk (by omega)] at this
  exact this
 ·have:=h.1.cell2 (k * 3+1) (by omega) (by omega)
  rw[flat_at l hk (by omega)] at this
  rw[Nat.add_assoc];exact this
 ·have:=h.1.cell2 (k * 3+2) (by omega) (by omega)
  rw[flat_at l hk (by omega)] at this
  rw[Nat.add_assoc];exact this
end
theorem info58:(Tryz.prog.info? 58).map (fun i=>(i.zero,i.size,i.bytes))=some (some (.agg #[.int .i64 0,.int .i64 0,.slice none 0 0]),3,40):=by kernel_rfl
theorem i58x:∃ i,Tryz.prog.info? 58=some i∧i.size=3:=by obtain ⟨i,h,_,h2,_⟩:=info_parts info58;exact ⟨i,h,h2⟩
theorem ixE {A:Option Addr}{n:Nat}(hA:Plain A n)(c k:Nat)(hk:k<n)(w:World):(Instr.indexAt 45 (.slice A n c) (.int .i64 (k:Int))).run Tryz.prog w=.ok (.pointer (some ⟨bk A,ofs A+k * 3,none⟩)) w:=by
 obtain ⟨i,hi,hi1⟩:=i58x
 exact run_indexAt2 (P:=Tryz.prog) Tryz.underlying45 hi hi1 hA c k hk w
theorem validE_any (t k:Int)(A:Option Addr)(c:Nat)(b:List Int)(w:World)(q:Bool)(hq:Nd.validE ⟨t,k,b⟩=q) :
 Calls Tryz.prog 98 #[evV t k A b.length c] w fun e w'=>e=.returned (.bool q)∧Below w.heap.size w w':=by
 subst hq
 unfold Nd.validE MT
 by_cases h1:1≤t
 ·by_cases h2:t≤1099511627776
  ·by_cases h3:1≤k
   ·by_cases h4:k≤3
    ·go_enter Tryz.func98,Tryz.ntmps98
     go_wp2
     go_ret
     exact ⟨by simp[h1,h2,h3,h4];omega,(Below.refl _ _).alloc (Nat.le_refl _) _⟩
    ·go_enter Tryz.func98,Tryz.ntmps98
     go_wp2
     go_ret
     exact ⟨by simp[h4];omega,(Below.refl _ _).alloc (Nat.le_refl _) _⟩
   ·go_enter Tryz.func98,Tryz.ntmps98
    go_wp2
    go_ret
    exact ⟨by simp[h3];omega,(Below.refl _ _).alloc (Nat.le_refl _) _⟩
  ·go_enter Tryz.func98,Tryz.ntmps98
   go_wp2
   go_ret
   exact ⟨by simp[h2];omega,(Below.refl _ _).alloc (Nat.le_refl _) _⟩
 ·go_enter Tryz.func98,Tryz.ntmps98
  go_wp2
  go_ret
  exact ⟨by simp[h1];omega,(Below.refl _ _).alloc (Nat.le_refl _) _⟩
theorem cloneE_any (B:Nat→Prop)(t k:Int)(A:Option Addr)(c:Nat)(b:List Int)(w:World)(h:Reads w B 1 A b.length (bys b))(hl:b.length≤1000000) :
 Calls Tryz.prog 71 #[evV t k A b.length c] w fun e w'=>∃ A' c',e=.returned (evV t k A' b.length c')∧Reads w' (w.heap.size≤·) 1 A' b.length (bys b)∧Below w.heap.size w w':=by
 have h0:=(h.alloc (.cells (evC t k A b.length c) 58)).alloc (.cells #[.int .i64 0,.int .i64 0,.slice none 0 0] 58)
 have g1:Blk ((w.alloc (.cells (evC t k A b.length c) 58)).alloc (.cells #[.int .i64 0,.int .i64 0,.slice none 0 0] 58)) w.heap.size 58 (evC t k A b.length c):=(Blk.new w 58 _).alloc _
 have g2:Blk ((w.alloc (.cells (evC t k A b.length c) 58)).alloc (.cells #[.int .i64 0,.int .i64 0,.slice none 0 0] 58)) (w.heap.size+1) 58 #[.int .i64 0,.int .i64 0,.slice none 0 0]:=by simpa using Blk.new (w.alloc (.cells (evC t k A b.length c) 58)) 58 #[.int .i64 0,.int .i64 0,.slice none 0 0]
 have b1:Below w.heap.size w ((w.alloc (.cells (evC t k A b.length c) 58)).alloc (.cells #[.int .i64 0,.int .i64 0,.slice none 0 0] 58)):=((Below.refl _ _).alloc (Nat.le_refl _) _).alloc (by simp) _
 have s1:w.heap.size+2≤((w.alloc (.cells (evC t k A b.length c) 58)).alloc (.cells #[.int .i64 0,.int .i64 0,.slice none 0 0] 58)).heap.size:=by simp
 clear h
 go_enter Tryz.func71,Tryz.ntmps71
 go_wp2_with fail
 generalize (w.alloc (.cells (evC t k A b.length c) 58)).alloc (.cells #[.int .i64 0,.int .i64 0,.slice none 0 0] 58)=W1 at *
 obtain ⟨q0,q1,q2⟩:=g1.facts
 go_region_law (first
  | (refine step_append_any _ (by rfl) (.const (.slice none 0 0)) (.tmp 8) _ (by rfl) W1.heap.size 5 (.int .u8 0) 1 1 Tryz.underlying46 info5 rfl (by omega) (.slice none 0 0) 0 [] (by rfl) (World.ownsRow_nil _ _ _ _) _ A b.length c (bys b) (by rfl) h0.drew (bys_one b) (by simp only[maxLen];omega) (by omega) (by simp) ?_
     intro A4 c4 w4 hown4 hgr4 hat4
     have j1:=(g1.drew).grown hgr4 (by simp[Value.ownBlock])
     have j4:=(g2.drew).grown hgr4 (by simp[Value.ownBlock])
     obtain ⟨x0,x1,x2⟩:=j1.facts
     obtain ⟨y0,y1,y2⟩:=j4.facts))
 all_goals
  go_wp2_with fail
  have ho:w4.ownsRow W1.heap.size 5 1 (.slice A4 b.length c4) b.length (bys b):=by simpa using hown4
  have hr:=(Reads.of_own ho).more (B':=(W1.heap.size≤·)) (fun g hg=>(ho.lt g hg).1)
  refine bodyPost_ret (v:=evV t k A4 b.length c4) (by simp[results,Tryz.results71,go_sem,y1]) rfl ⟨A4,c4,rfl,?_,?_⟩
  ·exact (((hr.setCell (by simp;omega) _).setCell (by simp;omega) _).setCell (by simp;omega) _).more (fun g hg=>by omega)
  ·exact ((((b1.drew).grown hgr4 (by have:=b1.size;simp;omega) (fun g hg=>by cases hg)).setCell (by simp) _).setCell (by simp) _).setCell (by simp) _
theorem below_drewN {B:Nat}{w w':World}(h:Below B w w')(n:Nat):Below B w (w'.drewN n):=⟨h.os,h.tape,h.output,h.size,h.block⟩
structure LZ (w:World) (Z:Nat→Prop) (g:Nat) (A:Option Addr) (c:Nat) (es:List EV):Prop where
 b:Blk w g 136 #[.slice A es.length c]
 o:w.ownsRow 0 58 3 (.slice A es.length c) es.length (es.flatMap evL)
 zg:Z g
 zo:∀ k,(Value.slice A es.length c).ownBlock=some k→Z k
 eb:EB w (fun k=>Z k∧k≠g∧(Value.slice A es.length c).ownBlock≠some k) es
def LS (w:World)(Z:Nat→Prop)(g:Nat)(L:List Ent):Prop:=∃ A c es,LZ w Z g A c es∧es.map EV.e=L
section
variable {w w':World} {Z Z' S:Nat→Prop} {g:Nat} {L:List Ent}
theorem LS.fr (h:LS w Z g L)(hf:Fr S w w')(hS:∀ k,Z k→¬ S k):LS w' Z g L:=by
 obtain ⟨A,c,es,h,e⟩:=h
 exact ⟨A,c,es,⟨h.b.fr hf (hS _ h.zg),own_fr h.o hf (fun k hk=>hS k (h.zo k hk)),h.zg,h.zo,h.eb.fr hf (fun k hk=>hS k hk.1)⟩,e⟩
theorem LS.cut (h:LS w Z g L):LS w (fun k=>Z k∧k<w.heap.size) g L:=by
 obtain ⟨A,c,es,h,e⟩:=h
 exact ⟨A,c,es,⟨h.b,h.o,⟨h.zg,h.b.lt⟩,fun k hk=>⟨h.zo k hk,own_lt h.o hk⟩,h.eb.old.more (fun k hk=>⟨⟨hk.1.1,hk.2⟩,hk.1.2⟩)⟩,e⟩
theorem LS.wider (h:LS w Z g L)(hZ:∀ k,Z k→Z' k):LS w Z' g L:=by
 obtain ⟨A,c,es,h,e⟩:=h
 exact ⟨A,c,es,⟨h.b,h.o,hZ _ h.zg,fun k hk=>hZ k (h.zo k hk),h.eb.more (fun k hk=>⟨hZ k hk.1,hk.2⟩)⟩,e⟩
theorem LS.below (h:LS w Z g L)(hb:Below w.heap.size w w'):LS w' Z g L:=h.fr (S:=fun _=>False) (Fr.of_below hb) (fun _ _=>id)
end
theorem LZ.seen {w:World}{Z:Nat→Prop}{g:Nat}{A:Option Addr}{c:Nat}{es:List EV}(h:LZ w Z g A c es):Reads w Z 3 A es.length (es.flatMap evL)∧EB w Z es:=⟨(Reads.of_own h.o).more (fun k hk=>h.zo k hk),h.eb.more (fun k hk=>hk.1)⟩
theorem map_at {es:List EV}{k:Nat}{x:EV}(h:es[k]?=some x):(es.map EV.e)[k]?=some x.e:=by rw[List.getElem?_map,h];rfl
theorem logNew_any (w:World):Calls Tryz.prog 65 #[] w fun e w'=>e=.returned (.pointer (some ⟨w.heap.size,0,none⟩))∧LS w' (fun k=>k=w.heap.size) w.heap.size []∧Below w.heap.size w w':=by
 go_enter Tryz.func65,Tryz.ntmps65
 go_wp2
 go_ret
 exact ⟨rfl,⟨none,0,[],⟨Blk.new w 136 _,World.ownsRow_nil _ _ _ _,rfl,(fun k hk=>by cases hk),(fun x hx=>by cases hx)⟩,rfl⟩,(Below.refl _ _).alloc (Nat.le_refl _) _⟩
theorem last_any (w:World)(Z:Nat→Prop)(g:Nat)(L:List Ent)(h:LS w Z g L)(hl:L.length≤1000000) :
 Calls Tryz.prog 42 #[.pointer (some ⟨g,0,none⟩)] w fun e w'=>e=.returned (.tuple #[.int .i64 (L.length:Int),.int .i64 (lastT L)])∧Below w.heap.size w w':=by
 obtain ⟨A,c,es,h,rfl⟩:=h
 obtain ⟨q0,q1,q2⟩:=h.b.facts
 rw[List.length_map] at hl⊢
 rcases Nat.eq_zero_or_pos es.length with h0 | h0
 ·have:es=[]:=List.eq_nil_of_length_eq_zero h0
  subst this
  clear h h0 hl
  go_enter Tryz.func42,Tryz.ntmps42
  go_wp2
  exact bodyPost_ret (v:=.tuple #[.int .i64 0,.int .i64 0]) (by simp[results,Tryz.results42,go_sem]) rfl ⟨rfl,Below.refl _ _⟩
 ·obtain ⟨x,hx⟩:∃ x,es[es.length - 1]?=some x:=⟨es[es.length - 1],List.getElem?_eq_getElem (by omega)⟩
  have hT:lastT (es.map EV.e)=x.t:=lastT_at (map_at hx) (by rw[List.length_map];omega)
  have hc:=((show ES w Z A es from h.seen).at_ hx).1
  have hp:=(h.seen.1).plain (by omega)
  have hix:=fun W=>ixE hp c (es.length - 1) (by omega) W
  rw[hT]
  clear hT hx h hp
  generalize es.length=N at *
  have hw:IntKind.i64.wrap ((N:Int) - 1)=((N - 1:Nat):Int):=by rw[IntWalk.i64_in _ (by omega)];omega
  have hz:¬ ((N:Int)=0):=by omega
  clear h0 hl
  go_enter Tryz.func42,Tryz.ntmps42
  go_wp2_with fail
  go_quiet (fail)
  all_goals
   go_wp2_with fail
   exact bodyPost_ret (v:=.tuple #[.int .i64 N,.int .i64 x.t]) (by simp[results,Tryz.results42,go_sem]) rfl ⟨rfl,below_drewN (Below.refl _ _) _⟩
theorem termAt_any (w:World)(Z:Nat→Prop)(g:Nat)(L:List Ent)(n:Int)(h:LS w Z g L)(hl:L.length≤1000000)(hn:n≤1000000)(r:Int)(ok:Bool)(hr:(termAt L n).getD 0=r)(hk:(termAt L n).isSome=ok) :
 Calls Tryz.prog 111 #[.pointer (some ⟨g,0,none⟩),.int .i64 n] w fun e w'=>e=.returned (.tuple #[.int .i64 r,.bool ok])∧Below w.heap.size w w':=by
 obtain ⟨A,c,es,h,rfl⟩:=h
 obtain ⟨q0,q1,q2⟩:=h.b.facts
 rw[List.length_map] at hl
 subst hr hk
 by_cases h1:n<0
 ·unfold termAt
  rw[if_pos h1]
  clear h hl
  go_enter Tryz.func111,Tryz.ntmps111
  go_wp2
  exact bodyPost_ret (v:=.tuple #[.int .i64 0,.bool false]) (by simp[results,Tryz.results111,go_sem]) rfl ⟨rfl,Below.refl _ _⟩
 ·by_cases h2:(es.length:Int)<n
  ·have:termAt (es.map EV.e) n=none:=by
    unfold termAt
    rw[if_neg h1,if_neg (by omega),List.getElem?_eq_none (by rw[List.length_map];omega)];rfl
   rw[this]
   clear this h hl
   generalize es.length=N at *
   go_enter Tryz.func111,Tryz.ntmps111
   go_wp2
   exact bodyPost_ret (v:=.tuple #[.int .i64 0,.bool false]) (by simp[results,Tryz.results111,go_sem]) rfl ⟨rfl,Below.refl _ _⟩
  ·by_cases h3:n=0
   ·subst h3
    clear h hl h1
    generalize es.length=N at *
    go_enter Tryz.func111,Tryz.ntmps111
    go_wp2
    exact bodyPost_ret (v:=.tuple #[.int .i64 0,.bool true]) (by simp[results,Tryz.results111,go_sem]) rfl ⟨rfl,Below.refl _ _⟩
   ·obtain ⟨k,rfl⟩:∃ k:Nat,n=(k:Int)+1:=⟨(n - 1).toNat,by omega⟩
    obtain ⟨x,hx⟩:∃ x,es[k]?=some x:=⟨es[k]'(by omega),List.getElem?_eq_getElem (by omega)⟩
    have hT:termAt (es.map EV.e) ((k:Int)+1)=some x.t:=by
     have:=termAt_nat (es.map EV.e) (k+1)
     rw[if_neg (by omega),show k+1 - 1=k by omega,map_at hx] at this
     simpa [EV.e] using this
    have hc:=((show ES w Z A es from h.seen).at_ hx).1
    have hp:=(h.seen.1).plain (by omega)
    have hix:=fun W=>ixE hp c k (by omega) W
    rw[hT]
    clear hT hx h hp h1 h3
    generalize es.length=N at *
    have hw:IntKind.i64.wrap ((k:Int)+1 - 1)=(k:Int):=by rw[IntWalk.i64_in _ (by omega)];omega
    have hw2:IntKind.i64.wrap (k:Int)=(k:Int):=IntWalk.i64_in _ (by omega)
    have hz:¬ ((k:Int)+1=0):=by omega
    have hz2:¬ ((k:Int)+1<0):=by omega
    clear hl hn
    go_enter Tryz.func111,Tryz.ntmps111
    go_wp2
    exact bodyPost_ret (v:=.tuple #[.int .i64 x.t,.bool true]) (by simp[results,Tryz.results111,go_sem]) rfl ⟨rfl,Below.refl _ _⟩
end Go.Proofs.YtdfobfjpkjddpaaGreat
namespace Go.Proofs.YtdfobfjpkjddpaaGreat
open Go.RowKit Go.Own Go.Quo
def SortPost (base:Nat)(A:Option Addr)(n c:Nat)(zs:List Int)(w:World)(e:Ending)(w':World):Prop:=
 e=.returned (.tuple #[])∧w'.ownsRow base 3 1 (.slice A n c) n ((srt zs).map (Value.int .i64))∧w.grownBy w' (Value.slice A n c).ownBlock
theorem sort_own (base:Nat)(A:Option Addr)(n c:Nat)(zs:List Int)(w:World)(hown:w.ownsRow base 3 1 (.slice A n c) n (zs.map (Value.int .i64)))(hnb:n≤1000000) :
 Calls Tryz.prog 86 #[.slice A n c] w (SortPost base A n c zs w):=by
 have hl:zs.length=n:=by simpa using hown.1
 rcases Nat.eq_zero_or_pos n with h0 | h0
 ·subst h0
  have hz:zs=[]:=List.eq_nil_of_length_eq_zero hl
  subst hz
  refine (Tryz.slices_Sort_int_none_f86 A c w).mono ?_
  rintro e w' ⟨rfl,rfl⟩
  exact ⟨rfl,by simpa [srt] using hown,World.grownBy.refl _ _⟩
 ·rcases hown.2 with ⟨_,hv⟩ | ⟨g,cap,cur,hv,hb,hg,hnc,hcm,hsz,htk⟩
  ·omega
  ·injection hv with h1 h2 h3
   subst h1 h3
   have hH:=holds_of_blockI hg (by rw[hl];simpa using htk)
   have hlen:zs.length<4611686018427387904:=by omega
   refine (hl ▸ Tryz.slices_Sort_int_f86 g 0 c zs w hH ((Array.getElem?_eq_some_iff.1 hg).1) hlen).mono ?_
   rintro e w' ⟨rfl,k,os,rfl⟩
   refine ⟨rfl,?_,grownBy_sortedI _⟩
   have:=ownsRow_sortedI (n:=k) (os:=os) (ss:=zs) (ts:=srt zs) (srt_length zs) hb hg (by omega) hcm hsz
   rw[hl] at this
   exact this
def CompPost (base:Nat)(A:Option Addr)(n c:Nat)(zs:List Int)(w:World)(e:Ending)(w':World):Prop:=
 e=.returned (.slice A (Lib.compact zs).length c)∧Reads w' (base≤·) 1 A (Lib.compact zs).length ((Lib.compact zs).map (Value.int .i64))∧w.grownBy w' (Value.slice A n c).ownBlock∧(Lib.compact zs).length≤c
theorem compact_own (base:Nat)(A:Option Addr)(n c:Nat)(zs:List Int)(w:World)(hown:w.ownsRow base 3 1 (.slice A n c) n (zs.map (Value.int .i64)))(hnb:n≤1000000)(h0:0<n) :
 Calls Tryz.prog 87 #[.slice A n c] w (CompPost base A n c zs w):=by
 obtain rfl:zs.length=n:=by simpa using hown.1
 rcases hown.2 with ⟨_,hv⟩ | ⟨g,cap,cur,hv,hb,hg,hnc,hcm,hsz,htk⟩
 ·omega
 ·injection hv with h1 h2 h3
  subst h1 h3
  have hH:=holds_of_blockI hg (by simpa using htk)
  have hcl:(Lib.compact zs).length≤zs.length:=by
   unfold Lib.compact Lib.compactUpTo
   rw[List.length_map]
   exact Nat.le_trans (List.length_filter_le _ _) (by simp)
  refine (Tryz.slices_Compact_int g 0 c zs w hH (by omega) (by omega)).mono ?_
  rintro e w' ⟨rfl,q,rfl⟩
  have hg2:w.grownBy (Sort.grow (Sort.putRow (Value.int .i64) (Sort.ahead w q) g 0 (Lib.compact zs ++ List.replicate (zs.length - (Lib.compact zs).length) 0).toArray) #[]) (some g):=grownBy_sortedI _
  have:=ownsRow_sortedI (n:=q) (os:=#[]) (ss:=zs) (ts:=Lib.compact zs ++ List.replicate (zs.length - (Lib.compact zs).length) 0) (by simp;omega) hb hg (by omega) hcm hsz
  rw[Sort.grow_empty] at this hg2
  refine ⟨rfl,?_,hg2,by omega⟩
  have hr:=Reads.of_own this
  refine ⟨by simp,fun hn=>?_⟩
  obtain ⟨ad,e1,e2,e3⟩:=hr.2 (by omega)
  refine ⟨ad,e1,?_,fun j u hu=>e3 j u ?_⟩
  ·exact (this.lt _ e2).1
  ·have hj:j<(Lib.compact zs).length:=by
    have:=(List.getElem?_eq_some_iff.1 hu).1
    simpa using this
   rw[List.map_append,List.getElem?_append_left (by simpa using hj)]
   exact hu
def MemPost (l:List Int)(w:World)(e:Ending)(w':World):Prop:=∃ A c,e=.returned (.slice A l.length c)∧RI w' (w.heap.size≤·) A l∧Below w.heap.size w w'∧l.length≤c
theorem ints_one (l:List Int):∀ u∈l.map (Value.int .i64),u.oneCell'=true:=ints_oneCell .i64 l
theorem members_no (B:Nat→Prop)(m:Ms)(w:World)(h:MR w B m)(hv:vB m.o m.n=false) :
 Calls Tryz.prog 55 #[msV m] w (MemPost [] w):=by
 have HO:=ħ (valid_b B m _ (h.alloc (.cells (msC m) 24)) false hv)
 clear h hv
 go_enter Tryz.func55,Tryz.ntmps55
 go_wp2_with (go_at_call 54;((with_reducible refine HO.out.mono ?_);rintro e w1 ⟨rfl,rfl⟩))
 go_ret
 exact ⟨none,0,rfl,Reads.none_,((Below.refl _ _).alloc (Nat.le_refl _) _).alloc (by simp) _,Nat.le_refl _⟩
theorem members_yes (B:Nat→Prop)(m:Ms)(w:World)(h:MR w B m)(hv:vB m.o m.n=true) :
 Calls Tryz.prog 55 #[msV m] w (MemPost (memF m.o m.n) w):=by
 have HO:=ħ (valid_b B m _ (h.alloc (.cells (msC m) 24)) true hv)
 have HV:=ħ hv
 have hlen:=v_lens hv
 clear hv
 go_enter Tryz.func55,Tryz.ntmps55
 go_wp2_with (go_at_call 54;((with_reducible refine HO.out.mono ?_);rintro e w1 ⟨rfl,rfl⟩))
 generalize hW:(w.alloc (.cells (msC m) 24)).alloc (.cells (msC m) 24)=W
 have hb0:Blk W w.heap.size 24 (msC m):=by rw[←hW];exact (Blk.new w 24 _).alloc _
 have hmW:MR W B m:=by rw[←hW];exact (h.alloc _).alloc _
 have hbW:Below w.heap.size w W:=by rw[←hW];exact ((Below.refl _ _).alloc (Nat.le_refl _) _).alloc (by simp) _
 have hsW:w.heap.size<W.heap.size:=by rw[←hW];simp;omega
 clear hW h
 have ho:=(hmW.o.old (by omega)).more (B':=(· < W.heap.size)) (fun k hk=>hk.2)
 have hn:=(hmW.n.old (by omega)).more (B':=(· < W.heap.size)) (fun k hk=>hk.2)
 obtain ⟨q0,q1,q2⟩:=hb0.facts
 have p0:W.cell? ⟨w.heap.size,0,none⟩=some (.slice m.A m.o.length m.c):=hb0.cell 0
 have p1:W.cell? ⟨w.heap.size,1,none⟩=some (.slice m.A' m.n.length m.c'):=hb0.cell 1
 clear q1 q2 hmW
 go_region_law (first
  | (refine step_append_any _ (by rfl) (.const (.slice none 0 0)) (.tmp 8) _ (by rfl) W.heap.size 3 (.int .i64 0) 1 8 Tryz.underlying22 info3 rfl (by omega) (.slice none 0 0) 0 [] (by rfl) (World.ownsRow_nil _ _ _ _) (· < W.heap.size) m.A m.o.length m.c (m.o.map (Value.int .i64)) (by rfl) ho.drew (ints_one _) (by simp only[maxLen];omega) (by omega) (by simp) ?_
     intro A2 c2 w2 hown2 hgr2 hat2
     simp only[Nat.zero_add,List.nil_append] at hown2 hat2
     have hs2:W.heap.size≤w2.heap.size:=by have:=hgr2.size;simpa using this
     have p1':w2.cell? ⟨w.heap.size,1,none⟩=some (.slice m.A' m.n.length m.c'):=by rw[grown_cell hgr2 (by simpa using hsW) (by simp[Value.ownBlock])];exact p1
     have hn2:=hn.drew.grown hgr2 (by simp[Value.ownBlock]))
  | (refine step_append_any _ (by rfl) (.tmp 9) (.tmp 11) _ (by rfl) W.heap.size 3 (.int .i64 0) 1 8 Tryz.underlying22 info3 rfl (by omega) (.slice A2 m.o.length c2) m.o.length (m.o.map (Value.int .i64)) (by rfl) hown2 (· < W.heap.size) m.A' m.n.length m.c' (m.n.map (Value.int .i64)) (by rfl) hn2 (ints_one _) (by simp only[maxLen];omega) (by omega) hs2 ?_
     intro A3 c3 w3 hown3 hgr3 hat3))
 all_goals
  rw[←List.map_append] at hown3
  have hpos:0<m.o.length+m.n.length:=by omega
  have hrow2:∀ g,(Value.slice A2 m.o.length c2).ownBlock=some g→W.heap.size≤g:=fun g hg=>(hown2.lt g hg).1
  have b2:Below w.heap.size w w2:=(hbW.drew).grown hgr2 (by simpa using hbW.size) (by simp[Value.ownBlock])
  have b3:Below w.heap.size w w3:=b2.grown hgr3 b2.size (fun g hg=>by have:=hrow2 g hg;omega)
  have HSo:=ħ (sort_own W.heap.size A3 _ c3 (m.o ++ m.n) w3 hown3 (by omega))
  clear hown2 hgr2 hat2 hgr3 hat3 hn2 p1' hrow2 hown3 p0 p1
  go_wp2_with fail
  refine HSo.out.mono ?_
  rintro e w4 ⟨rfl,hown4,hgr4⟩
  have HCo:=ħ (compact_own W.heap.size A3 _ c3 (srt (m.o ++ m.n)) w4 hown4 (by omega) hpos)
  have hrow4:∀ g,(Value.slice A3 (m.o.length+m.n.length) c3).ownBlock=some g→W.heap.size≤g:=fun g hg=>(hown4.lt g hg).1
  have b4:Below w.heap.size w w4:=b3.grown hgr4 b3.size (fun g hg=>by have:=hrow4 g hg;omega)
  clear hown4 hgr4
  go_wp2_with fail
  refine HCo.out.mono ?_
  rintro e w5 ⟨rfl,hr5,hgr5,hc5⟩
  rw[compact_mem HV.out] at hr5 hc5⊢
  go_wp2
  go_ret
  exact ⟨A3,c3,rfl,hr5.more (fun k hk=>by omega),b4.grown hgr5 b4.size (fun g hg=>by have:=hrow4 g hg;omega),hc5⟩
def memV (o n:List Int):List Int:=if vB o n=true then memF o n else []
theorem members_any (B:Nat→Prop)(m:Ms)(w:World)(h:MR w B m):Calls Tryz.prog 55 #[msV m] w (MemPost (memV m.o m.n) w):=by
 unfold memV
 cases hv:vB m.o m.n with
 | false=>rw[if_neg (by simp)];exact members_no B m w h hv
 | true=>rw[if_pos rfl];exact members_yes B m w h hv
end Go.Proofs.YtdfobfjpkjddpaaGreat
namespace Go.Proofs.YtdfobfjpkjddpaaGreat
open Go.RowKit Go.Own Go.Quo Go.Wire
theorem info2:(Tryz.prog.info? 2).map (fun i=>(i.zero,i.size,i.bytes))=some (some (.int .i64 0),1,8):=by kernel_rfl
theorem i2x:∃ i,Tryz.prog.info? 2=some i∧i.size=1:=by obtain ⟨i,h,_,h2,_⟩:=info_parts info2;exact ⟨i,h,h2⟩
theorem ixL64 {A:Option Addr}{n:Nat}(hA:Plain A n)(c k:Nat)(hk:k<n)(w:World):(Instr.indexAt 66 (.slice A n c) (.int .i64 (k:Int))).run Tryz.prog w=.ok (.pointer (some ⟨bk A,ofs A+k,none⟩)) w:=by
 obtain ⟨i,h1,h2⟩:=i2x
 simpa using run_indexAt2 (P:=Tryz.prog) Tryz.underlying66 h1 h2 hA c k hk w
theorem ixL64b (g n c k:Nat)(hk:k<n)(w:World):(Instr.indexAt 66 (.slice (some ⟨g,0,none⟩) n c) (.int .i64 (k:Int))).run Tryz.prog w=.ok (.pointer (some ⟨g,k,none⟩)) w:=by
 have:=ixL64 (A:=some ⟨g,0,none⟩) (n:=n) (fun _=>⟨g,0,rfl⟩) c k hk w
 simpa [bk,ofs,adr] using this
abbrev ivs (l:List Int):List Value:=l.map (Value.int .i64)
theorem gd_set {l:List Int}{k j:Nat}{v:Int}(hk:k<l.length):gd (l.set k v) j=if j=k then v else gd l j:=by
 unfold gd
 rw[List.getD_eq_getElem?_getD,List.getD_eq_getElem?_getD,List.getElem?_set]
 by_cases h:k=j
 ·subst h;rw[if_pos rfl,if_pos rfl,if_pos hk];rfl
 ·rw[if_neg h,if_neg (fun e=>h e.symm)]
theorem ivs_set (l:List Int)(k:Nat)(v:Int):(ivs l).toArray.setIfInBounds k (.int .i64 v)=(ivs (l.set k v)).toArray:=by
 simp[ivs,List.map_set]
theorem ivs_get {l:List Int}{k:Nat}(hk:k<l.length):(ivs l).toArray[k]?=some (.int .i64 (gd l k)):=by
 simp[ivs,gd_get hk,hk]
theorem gd_ext {a b:List Int}(hl:a.length=b.length)(h:∀ j,j<b.length→gd a j=gd b j):a=b:=by
 apply List.ext_getElem hl
 intro i h1 h2
 have:=h i h2
 rwa [gd_get h1,gd_get h2] at this
def SortPost64 (base:Nat)(A:Option Addr)(n c:Nat)(zs:List Int)(w:World)(e:Ending)(w':World):Prop:=
 e=.returned (.tuple #[])∧w'.ownsRow base 2 1 (.slice A n c) n ((srt zs).map (Value.int .i64))∧w.grownBy w' (Value.slice A n c).ownBlock
theorem sort_own64 (base:Nat)(A:Option Addr)(n c:Nat)(zs:List Int)(w:World)(hown:w.ownsRow base 2 1 (.slice A n c) n (zs.map (Value.int .i64)))(hnb:n≤1000000) :
 Calls Tryz.prog 157 #[.slice A n c] w (SortPost64 base A n c zs w):=by
 have hl:zs.length=n:=by simpa using hown.1
 rcases Nat.eq_zero_or_pos n with h0 | h0
 ·subst h0
  have hz:zs=[]:=List.eq_nil_of_length_eq_zero hl
  subst hz
  refine (Tryz.slices_Sort_int_none_f157 A c w).mono ?_
  rintro e w' ⟨rfl,rfl⟩
  exact ⟨rfl,by simpa [srt] using hown,World.grownBy.refl _ _⟩
 ·rcases hown.2 with ⟨_,hv⟩ | ⟨g,cap,cur,hv,hb,hg,hnc,hcm,hsz,htk⟩
  ·omega
  ·injection hv with h1 h2 h3
   subst h1 h3
   have hH:=holds_of_blockI hg (by rw[hl];simpa using htk)
   have hlen:zs.length<4611686018427387904:=by omega
   refine (hl ▸ Tryz.slices_Sort_int_f157 g 0 c zs w hH ((Array.getElem?_eq_some_iff.1 hg).1) hlen).mono ?_
   rintro e w' ⟨rfl,k,os,rfl⟩
   refine ⟨rfl,?_,grownBy_sortedI _⟩
   have:=ownsRow_sortedI (n:=k) (os:=os) (ss:=zs) (ts:=srt zs) (srt_length zs) hb hg (by omega) hcm hsz
   rw[hl] at this
   exact this
theorem own_of_blk {w:World}{g base:Nat}{l:List Int}(h:Blk w g 2 (ivs l).toArray)(hb:base≤g)(hl:l.length≤1000000):w.ownsRow base 2 1 (.slice (some ⟨g,0,none⟩) l.length l.length) l.length (ivs l):=
 ⟨by simp,.inr ⟨g,l.length,(ivs l).toArray,rfl,hb,h,Nat.le_refl _,by simp only[maxLen];omega,by simp,by rw[Nat.mul_one];exact List.take_of_length_le (by simp)⟩⟩
theorem gd_map {l:List Int}(f:Int→Int){k:Nat}(hk:k<l.length):gd (l.map f) k=f (gd l k):=by
 rw[gd_get (by simpa using hk),gd_get hk,List.getElem_map]
theorem committed_any (B:Nat→Prop)(A:Option Addr)(c g:Nat)(l nums:List Int)(w:World)(hr:RI w B A l)(hg:Blk w g 2 (ivs nums).toArray)(hn:64≤nums.length)(h0:0<l.length)(hl:l.length≤9)(hx:∀ x∈l,0≤x∧x<64) :
 Calls Tryz.prog 138 #[.slice A l.length c,.slice (some ⟨g,0,none⟩) nums.length nums.length] w fun e w'=>e=.returned (.int .i64 (medF (l.map fun m=>gd nums m.toNat)))∧Below w.heap.size w w':=by
 have pA:=hr.plain (by omega)
 have HX:=ħ hx
 clear hx
 have hgl:=hg.lt
 have hmk:=run_make1 (P:=Tryz.prog) 66 2 (.int .i64 0) 8 Tryz.underlying66 info2 rfl l.length (by omega) (by omega)
 have HVl:=ħ (show (l.map fun m=>gd nums m.toNat).length=l.length by simp)
 have HVg:=ħ fun k (hk:k<l.length)=>gd_map (fun m=>gd nums m.toNat) hk
 have k1:Blk (w.alloc (.cells (zrow (.int .i64 0) l.length) 2)) w.heap.size 2 (ivs (List.replicate l.length 0)).toArray:=by
  have:=Blk.new w 2 (zrow (.int .i64 0) l.length)
  simpa [zrow,ivs] using this
 have b1:Below w.heap.size w (w.alloc (.cells (zrow (.int .i64 0) l.length) 2)):=(Below.refl _ _).alloc (Nat.le_refl _) _
 have HMj:=ħ fun W=>majority_any A l.length c W (by omega)
 generalize (l.map fun m=>gd nums m.toNat)=vs at *
 go_enter Tryz.func138,Tryz.ntmps138
 go_wp2_with fail
 generalize w.alloc (.cells (zrow (.int .i64 0) l.length) 2)=W1 at *
 clear hmk
 go_loopw [13] (fun vi wr=>∃ (k:Nat) (q:List Int),k≤l.length∧vi=.int .i64 k∧q.length=l.length∧(∀ j,j<k→gd q j=gd vs j)∧Blk wr w.heap.size 2 (ivs q).toArray∧Below w.heap.size w wr) (fun i _=>l.length - (intOf i).toNat)
 case atStart=>exact ⟨0,List.replicate l.length 0,Nat.zero_le _,rfl,by simp,fun j hj=>absurd hj (by omega),k1,b1⟩
 case round=>
  obtain ⟨k,q,hk,rfl,hql,hqv,hkq,hb⟩:=hrel
  have HQl:=ħ hql
  have HQv:=ħ hqv
  have hq1:q.length≤l.length:=by omega
  have hq2:l.length≤q.length:=by omega
  clear hql hqv k1 b1
  have a0:=hkq.lt
  have a2:=hkq.frozen
  by_cases hlt:k<l.length
  ·have hlt':(k:Int)<l.length:=by omega
   have hix:=fun W=>ix22 pA c k hlt W
   have hc:=RI.at_ (hr.fr (S:=fun _=>False) (Fr.of_below hb) (fun _ _=>id)) hlt
   have hxr:=HX.out (gd l k) (by rw[gd_get hlt];exact List.getElem_mem hlt)
   have hix2:∀ W:World,(Instr.indexAt 66 (.slice (some ⟨g,0,none⟩) nums.length nums.length) (.int .i64 (gd l k))).run Tryz.prog W=.ok (.pointer (some ⟨g,(gd l k).toNat,none⟩)) W:=by
    intro W
    have:=ixL64b g nums.length nums.length (gd l k).toNat (by omega) W
    rwa [Int.toNat_of_nonneg hxr.1] at this
   have hc2:wr.cell? ⟨g,(gd l k).toNat,none⟩=some (.int .i64 (gd nums (gd l k).toNat)):=by
    rw[(hg.below hb hgl).cell];exact ivs_get (by omega)
   have hix3:=fun W=>ixL64b w.heap.size l.length l.length k hlt W
   have hcq:wr.cell? ⟨w.heap.size,k,none⟩=some (.int .i64 (gd q k)):=by
    rw[hkq.cell];exact ivs_get (by omega)
   have HVk:=ħ (HVg.out k hlt)
   generalize gd nums (gd l k).toNat=v at *
   go_wp2_with fail
   refine ⟨⟨k+1,q.set k v,by omega,by go_num,by rw[List.length_set];exact HQl.out,fun j hj=>?_,?_,hb.setCell (by simp) _⟩,by simp[intOf];omega⟩
   ·rw[gd_set (by omega)]
    split
    ·rename_i e;rw[e,HVk.out]
    ·exact HQv.out j (by omega)
   ·have:=hkq.set_ k (.int .i64 v)
    rwa [ivs_set] at this
  ·have hge:¬ ((k:Int)<l.length):=by omega
   have hqe:q=vs:=gd_ext (by rw[HQl.out,HVl.out]) (fun j hj=>HQv.out j (by have:=HVl.out;omega))
   subst hqe
   have hown:=own_of_blk hkq (Nat.le_refl _) (by omega)
   have HSo:=ħ (sort_own64 _ _ _ _ q wr hown (by omega))
   rw[HVl.out] at HSo
   obtain ⟨i,hi⟩:∃ i:Nat,i=l.length - (l.length / 2+1):=⟨_,rfl⟩
   have hil:i<l.length:=by omega
   have hsub:(l.length:Int) - ((l.length / 2+1:Nat):Int)=(i:Int):=by omega
   have HMd:=ħ (show medF q=gd (srt q) i by unfold medF;rw[HVl.out,hi])
   have HMj:=ħ fun W=>(show Calls Tryz.prog 158 #[.slice A l.length c] W fun e w'=>e=.returned (.int .i64 ((l.length:Int) - (i:Int)))∧W=w' by
    have:=HMj.out W
    rw[show ((l.length / 2+1:Nat):Int)=(l.length:Int) - (i:Int) by omega] at this
    exact this)
   clear hi hsub
   have hix3:=fun W=>ixL64b w.heap.size l.length l.length i hil W
   have hsi:(l.length:Int) - ((l.length:Int) - (i:Int))=i:=by omega
   go_wp2_with fail
   refine HSo.out.mono ?_
   rintro e w5 ⟨rfl,hown5,hgr5⟩
   have hc5:w5.cell? ⟨w.heap.size,i,none⟩=some (.int .i64 (gd (srt q) i)):=by
    rw[hown5.cellAt i (by omega)]
    have h5:i<(srt q).length:=by rw[srt_length,HVl.out];exact hil
    simp[h5,gd_get h5]
   go_wp2_with (go_at_call 158;((with_reducible refine (HMj.out _).mono ?_);rintro e w6 ⟨rfl,rfl⟩))
   go_ret
   exact ⟨by rw[HMd.out];rfl,hb.grown hgr5 (Nat.le_of_lt a0) (fun g hg=>by simp[Value.ownBlock] at hg;omega)⟩
end Go.Proofs.YtdfobfjpkjddpaaGreat
namespace Go.Wire
end Go.Wire
namespace Go.Proofs.YtdfobfjpkjddpaaGreat
open Go.RowKit Go.Own Go.Quo Go.Wire
theorem length_ok (p:Nat)(B:Nat→Prop)(rest:List Int)(w:World)(h:RdP w p B rest 0)(hp:¬ B p)(hB:Bytes rest) :
 Calls Tryz.prog 152 #[.pointer (some ⟨p,0,none⟩)] w fun e w'=>e=.returned (.int .i64 (rdL rest).2.1)∧RdP w' p B (rdL rest).2.2 (rdL rest).1∧Fr (·=p) w w':=by
 have HI:=ħ (int_ok p B rest w h hp hB)
 have HL:=ħ (show rdL rest=if (rdI rest).1=0 then (if (rdI rest).2.1<0 then (2,0,[]) else if ((rdI rest).2.2.length:Int)<(rdI rest).2.1 then (11,0,[]) else rdI rest) else ((rdI rest).1,0,[]) from rfl)
 have HEr:=ħ (rdI_err rest)
 generalize rdL rest=RL at *
 generalize rdI rest=R0 at *
 obtain ⟨e1,n,r1⟩:=R0
 simp only at HI HL
 clear h hp hB
 go_enter Tryz.func152,Tryz.ntmps152
 go_wp2_with fail
 refine HI.out.mono ?_
 rintro e w1 ⟨rfl,hrd,hfr⟩
 have HF:=ħ fun er=>fail_any p B r1 e1 er w1 hrd
 obtain ⟨A1,c1,hk1,hr1,hc1⟩:=id hrd
 obtain ⟨q0,q1,q2⟩:=hk1.facts
 by_cases h0:e1=0
 ·have h0b:(e1 == 0)=true:=by simpa using h0
  by_cases hn:n<0
  ·have HE:=ħ (show RL=(2,0,[]) by rw[HL.out,if_pos h0,if_pos hn])
   clear h0
   go_wp2_with (go_at_call 125;((with_reducible refine (HF.out _).mono ?_);rintro e w2 ⟨rfl,h3,h4⟩))
   go_ret
   rw[HE.out]
   exact ⟨rfl,h3,hfr.trans h4⟩
  ·by_cases hlt:(r1.length:Int)<n
   ·have HE:=ħ (show RL=(11,0,[]) by rw[HL.out,if_pos h0,if_neg hn,if_pos hlt])
    clear h0
    go_wp2_with (go_at_call 125;((with_reducible refine (HF.out _).mono ?_);rintro e w2 ⟨rfl,h3,h4⟩))
    go_ret
    rw[HE.out]
    exact ⟨rfl,h3,hfr.trans h4⟩
   ·have HE:=ħ (show RL=(e1,n,r1) by rw[HL.out,if_pos h0,if_neg hn,if_neg hlt])
    clear h0
    go_wp2
    go_ret
    rw[HE.out]
    exact ⟨rfl,hrd,hfr⟩
 ·have h0b:(e1 == 0)=false:=by simpa using h0
  obtain ⟨rfl,rfl⟩:n=0∧r1=[]:=by
   rcases HEr.out with h | ⟨_,h⟩
   ·exact absurd h h0
   ·simpa using h
  have HE:=ħ (show RL=(e1,0,[]) by rw[HL.out,if_neg h0])
  clear h0
  go_wp2
  go_ret
  rw[HE.out]
  exact ⟨rfl,hrd,hfr⟩
theorem length_err (p:Nat)(B:Nat→Prop)(rest:List Int)(err:Int)(w:World)(h:RdP w p B rest err)(he:err≠0) :
 Calls Tryz.prog 152 #[.pointer (some ⟨p,0,none⟩)] w fun e w'=>e=.returned (.int .i64 0)∧w=w':=by
 have HI:=ħ (int_err p B rest err w h he)
 obtain ⟨A1,c1,hk1,hr1,hc1⟩:=h
 obtain ⟨q0,q1,q2⟩:=hk1.facts
 have heb:(err == 0)=false:=by simpa using he
 clear he
 go_enter Tryz.func152,Tryz.ntmps152
 go_wp2_with (go_at_call 92;((with_reducible refine HI.out.mono ?_);rintro e w1 ⟨rfl,rfl⟩))
 go_ret
 exact ⟨rfl,rfl⟩
end Go.Proofs.YtdfobfjpkjddpaaGreat

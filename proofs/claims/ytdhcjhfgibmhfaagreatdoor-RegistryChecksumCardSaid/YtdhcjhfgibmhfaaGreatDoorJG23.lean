import Derived.Test.YtdhcjhfgibmhfaaGreatDoorJG15
import Derived.Test.YtdhcjhfgibmhfaaGreatDoorJG22
import Derived.Test.YtdhcjhfgibmhfaaGreatDoorJG6
import Derived.Laws.AppendOwn
import Derived.Test.YtdhcjhfgibmhfaaGreatDoorJG12
set_option linter.unusedVariables false
set_option linter.unusedSimpArgs false
set_option maxRecDepth 10000
set_option maxHeartbeats 8000000
namespace Go.Proofs.YtdhcjhfgibmhfaaGreatDoor
open Go.RowKit Go.Own Go.Quo Go.Inc
theorem dB {w:World}{base:Nat}{e:TypeId}{g n m c:Nat}{xs:List Value}(h:w.ownsRow base e 1 (.slice (some ⟨g,0,none⟩) n c) n xs)(hm:m≤n):w.ownsRow base e 1 (.slice (some ⟨g,0,none⟩) m c) m (xs.take m):=by
 have hl:xs.length=n:=by simpa using h.1
 refine ⟨by rw[List.length_take];omega,?_⟩
 rcases h.2 with ⟨h0,_⟩ | ⟨g',cap,cur,hv,hb,hg,hnc,hcm,hsz,htk⟩
 ·cases h0
 ·injection hv with h1 h2 h3
  injection h1 with h1
  injection h1 with h1
  subst h1 h3
  exact .inr ⟨g,c,cur,rfl,hb,hg,by omega,hcm,hsz,by rw[←htk,List.take_take,Nat.mul_one,Nat.mul_one,Nat.min_eq_left hm]⟩
def DF (base:Nat)(e:TypeId)(A:Option Addr)(c:Nat)(l:List Int)(w:World)(en:Ending)(w':World):Prop:=
 en=.returned (.slice A l.length c)∧w'.ownsRow base e 1 (.slice A l.length c) l.length (l.map (Value.int .i64))∧w.grownBy w' (Value.slice A l.length c).ownBlock
theorem X_ {w:World}{base g c n q:Nat}{e:TypeId}{l ts:List Int}(h:w.ownsRow base e 1 (.slice (some ⟨g,0,none⟩) l.length c) l.length (l.map (Value.int .i64)))(ht:ts.length=l.length)(hm:n≤l.length) :
 (Sort.putRow (Value.int .i64) (Sort.ahead w q) g 0 ts.toArray).ownsRow base e 1 (.slice (some ⟨g,0,none⟩) n c) n ((ts.take n).map (Value.int .i64))∧w.grownBy (Sort.putRow (Value.int .i64) (Sort.ahead w q) g 0 ts.toArray) (some g):=by
 have hgr:∀ W:World,Sort.grow W #[]=W:=fun W=>by simp[Sort.grow]
 rcases h.2 with ⟨h0,_⟩ | ⟨g',cap,cur,hv,hb,hg,hnc,hcm,hsz,htk⟩
 ·cases h0
 ·injection hv with h1 h2 h3
  injection h1 with h1
  injection h1 with h1
  subst h1 h3
  have h1:=ownsRow_sortedI (n:=q) (os:=#[]) (ss:=l) (ts:=ts) ht hb hg hnc hcm hsz
  have h2:=grownBy_sortedI (w:=w) (g:=g) (n:=q) (os:=#[]) ts.toArray
  rw[hgr] at h1 h2
  refine ⟨?_,h2⟩
  have h3:=dB h1 hm
  rwa [←List.map_take] at h3
theorem U7 {w:World}{base g c:Nat}{e:TypeId}{l:List Int}(h:w.ownsRow base e 1 (.slice (some ⟨g,0,none⟩) l.length c) l.length (l.map (Value.int .i64))):Sort.Holds (Value.int .i64) w g 0 l.toArray∧l.length≤c∧c≤maxLen∧g<w.heap.size:=by
 rcases h.2 with ⟨h0,_⟩ | ⟨g',cap,cur,hv,hb,hg,hnc,hcm,hsz,htk⟩
 ·cases h0
 ·injection hv with h1 h2 h3
  injection h1 with h1
  injection h1 with h1
  subst h1 h3
  exact ⟨holds_of_blockI hg (by simpa using htk),hnc,hcm,(Array.getElem?_eq_some_iff.1 hg).1⟩
theorem YK (l:List Int):∀ u∈l.map (Value.int .i64),u.oneCell'=true:=by
 intro u hu
 obtain ⟨n,_,rfl⟩:=List.mem_map.1 hu
 rfl
def Zb (a b:List Int)(k:Nat):List Int:=if k=0 then [] else if k=1 then a else a ++ b
theorem KH (a b:List Int)(k:Nat):(Zb a b k).length≤a.length+b.length:=by
 unfold Zb
 split
 ·simp
 ·split
  ·omega
  ·rw[List.length_append];omega
def JD (l:List Int)(x:Int):List Int:=l.filter (fun y=>!decide (y=x))
theorem Us (l:List Int)(x:Int):(JD l x).length≤l.length:=List.length_filter_le _ _
theorem Tt (x y:Int)(B:Nat)(W:World)(hc:W.cell? ⟨B,0,none⟩=some (ι x)):FnGives Tryz.prog 99 #[.pointer (some ⟨B,0,none⟩)] #[ι y] (.bool (decide (y=x))) W:=by
 show Calls Tryz.prog 99 #[ι y,.pointer (some ⟨B,0,none⟩)] W _
 by_cases h:y=x
 ·subst h
  go_enter Tryz.func99,Tryz.ntmps99
  go_wp2
  go_ret
  exact ⟨by simp,0,rfl⟩
 ·have h1:(y == x)=false:=by simpa using h
  go_enter Tryz.func99,Tryz.ntmps99
  go_wp2
  go_ret
  exact ⟨by simp[h],0,rfl⟩
theorem oV (n:Nat)(hn:n≤1000000)(w:World):Calls Tryz.prog 104 #[.slice none 0 0,ι (n:Int)] w (fun en w'=>∃ A c,en=.returned (.slice A 0 c)∧w'.ownsRow w.heap.size 3 1 (.slice A 0 c) 0 []∧Below w.heap.size w w'):=by
 rcases Nat.eq_zero_or_pos n with h0 | h0
 ·subst h0
  refine (Any8.slices_Grow_room Tryz.grN none 0 0 0 w (Nat.le_refl _) (by omega) (by omega) (by omega)).mono ?_
  rintro en w' ⟨rfl,rfl⟩
  exact ⟨none,0,rfl,World.ownsRow_nil _ _ _ _,Below.refl _ _⟩
 ·obtain ⟨i,hi,hz0,hz1,hz2⟩:=info_parts (show (Tryz.prog.info? 3).map (fun i=>(i.zero,i.size,i.bytes))=some (some (ι 0),1,8) by kernel_rfl)
  refine (Any8.slices_Grow_grow Tryz.grN i (ι 0) hi hz0 (by omega) none 0 0 n [] w (Nat.le_refl _) (by omega) (by rw[hz2];omega) (by omega) (by simp) (fun _=>rfl) (fun a h=>by cases h)).mono ?_
  rintro en w' ⟨rfl,rfl⟩
  have hge:=grownCap_ge w (0+n) 0 3
  refine ⟨_,_,rfl,⟨by simp,.inr ⟨w.heap.size,_,_,rfl,Nat.le_refl _,heap_alloc_new w.drew _,Nat.zero_le _,grownCap_le_maxLen w _ _ _ (by simp only[maxLen];omega),?_,by simp⟩⟩,(Below.refl w.heap.size w).drew.alloc (Nat.le_refl _) _⟩
  rw[Array.size_append,Array.size_append,size_zeroCells,size_zeroCells]
  have h1:(ι 0).cells.size=1:=rfl
  rw[h1]
  show 0+(0+n - 0) * 1+(grownCap w (0+n) 0 3 - (0+n)) * 1=grownCap w (0+n) 0 3 * 1
  omega
theorem sJ (B:Nat→Prop)(A1 A2:Option Addr)(c1 c2:Nat)(l1 l2:List Int)(g:Nat)(w:World)(hg:zb w g 32 #[.slice A1 l1.length c1,.slice A2 l2.length c2])(h1:RI w B A1 l1)(h2:RI w B A2 l2)(n1:l1.length≤100000)(n2:l2.length≤100000) :
 Calls Tryz.prog 59 #[.slice (some ⟨g,0,none⟩) 2 2] w (qL (l1 ++ l2) 3 w):=by
 have HG:=ħ hg
 have H1:=ħ h1
 have H2:=ħ h2
 have HI:=ħ (show (Tryz.prog.info? 3).map (fun i=>(i.zero,i.size,i.bytes))=some (some (ι 0),1,8) by kernel_rfl)
 have x0:=hg.facts
 clear h1 h2 hg
 go_enter Tryz.func59,Tryz.ntmps59
 go_wp2_with fail
 go_loopw [3,11] (fun vs vi wr=>∃ (k m:Nat),k≤2∧vi=ι (k:Int)∧vs=ι (m:Int)∧m=(Zb l1 l2 k).length∧w=wr) (fun _ vi _=>2 - (intOf vi).toNat)
 case atStart=>exact ⟨0,0,by omega,rfl,rfl,rfl,rfl⟩
 case round=>
  obtain ⟨k,m,hk,rfl,rfl,hm,rfl⟩:=hrel
  rcases (by omega:k=0∨k=1∨k=2) with rfl | rfl | rfl
  ·have hm0:m=0:=hm
   subst hm0
   clear hm
   go_wp2_with fail
   exact ⟨⟨1,l1.length,by omega,by go_num,by go_num,rfl,(by first | rfl | trivial)⟩,by simp[intOf]⟩
  ·have hm0:m=l1.length:=hm
   subst hm0
   clear hm
   go_wp2_with fail
   exact ⟨⟨2,l1.length+l2.length,by omega,by go_num,by go_num,by show _=(l1 ++ l2).length;rw[List.length_append],(by first | rfl | trivial)⟩,by simp[intOf]⟩
  ·have hm0:m=l1.length+l2.length:=by rw[hm];show (l1 ++ l2).length=_;rw[List.length_append]
   clear hm
   have IP:=ħ (oV m (by omega) w)
   have hmb:m≤200000:=by omega
   have Nj:=ħ hm0
   clear hm0
   go_upto_region 10 with (go_at_call 104;((with_reducible refine IP.out.mono ?_);rintro en w3 ⟨A3,c3,rfl,ho,hb⟩;have zC:=ħ ho;have HB3:=ħ hb;clear ho hb))
   clear x0
   go_wp2_with fail
   go_loopw [6,27] (fun vo vi wr=>∃ (k m:Nat) (A:Option Addr) (c:Nat),k≤2∧vi=ι (k:Int)∧vo=.slice A m c∧m=(Zb l1 l2 k).length∧wr.ownsRow w.heap.size 3 1 (.slice A m c) m ((Zb l1 l2 k).map (Value.int .i64))∧Below w.heap.size w wr) (fun _ vi _=>2 - (intOf vi).toNat)
   case atStart=>exact ⟨0,0,_,_,by omega,rfl,rfl,rfl,zC.out,HB3.out⟩
   case round=>
    obtain ⟨k,m,A,c,hk,rfl,rfl,hm,ho,hb⟩:=hrel
    have HS:=ħ ho
    have HB:=ħ hb
    have x0:=(HG.out.below hb HG.out.lt).facts
    have lm:=KH l1 l2 k
    rw[←hm] at lm
    have VW:=ħ hm
    clear ho hb hm
    rcases (by omega:k=0∨k=1∨k=2) with rfl | rfl | rfl
    ·have HX:=ħ (show (Zb l1 l2 0).map (Value.int .i64) ++ l1.map (Value.int .i64)=(Zb l1 l2 1).map (Value.int .i64) by rw[←List.map_append];rfl)
     have HY:=ħ (show m+l1.length=(Zb l1 l2 1).length by rw[VW.out,←List.length_append];rfl)
     go_wp2_with (at_builtin;refine ze _ rfl _ _ _ rfl w.heap.size 3 _ 1 8 Tryz.underlying32 HI.out rfl (by omega) (.slice A m c) m ((Zb l1 l2 0).map (Value.int .i64)) rfl HS.out _ A1 l1.length c1 (l1.map (Value.int .i64)) rfl (zl H1.out HB.out) (YK _) (by simp only[maxLen];omega) (by omega) HB.out.size ?_;intro A5 c5 w5 hown hgr hat;have QE:=ħ hown;have ZN:=ħ (Below.grown HB.out hgr HB.out.size (fun j hj=>(HS.out.lt j hj).1));clear hown hgr hat)
     exact ⟨⟨1,m+l1.length,A5,c5,by omega,by go_num,rfl,HY.out,by rw[←HX.out];exact QE.out,ZN.out⟩,by simp[intOf]⟩
    ·have HX:=ħ (show (Zb l1 l2 1).map (Value.int .i64) ++ l2.map (Value.int .i64)=(Zb l1 l2 2).map (Value.int .i64) by rw[←List.map_append];rfl)
     have HY:=ħ (show m+l2.length=(Zb l1 l2 2).length by rw[VW.out,←List.length_append];rfl)
     go_wp2_with (at_builtin;refine ze _ rfl _ _ _ rfl w.heap.size 3 _ 1 8 Tryz.underlying32 HI.out rfl (by omega) (.slice A m c) m ((Zb l1 l2 1).map (Value.int .i64)) rfl HS.out _ A2 l2.length c2 (l2.map (Value.int .i64)) rfl (zl H2.out HB.out) (YK _) (by simp only[maxLen];omega) (by omega) HB.out.size ?_;intro A5 c5 w5 hown hgr hat;have QE:=ħ hown;have ZN:=ħ (Below.grown HB.out hgr HB.out.size (fun j hj=>(HS.out.lt j hj).1));clear hown hgr hat)
     exact ⟨⟨2,m+l2.length,A5,c5,by omega,by go_num,rfl,HY.out,by rw[←HX.out];exact QE.out,ZN.out⟩,by simp[intOf]⟩
    ·go_wp2_with fail
     go_ret
     have hm:=VW.out
     subst hm
     exact ⟨A,c,rfl,HS.out,HB.out⟩
theorem mf (x:Int)(B:Nat)(w:World)(hB:B<w.heap.size)(hc:w.cell? ⟨B,0,none⟩=some (ι x)):PredAt Tryz.prog 99 #[.pointer (some ⟨B,0,none⟩)] (Value.int .i64) (fun y=>decide (y=x)) w:=
 fun W y hb=>Tt x y B W ((hb.cell (p:=⟨B,0,none⟩) hB).trans hc)
theorem l_ (x:Int)(B blk off size:Nat)(w:World)(hB:B<w.heap.size)(hne:B≠blk)(hc:w.cell? ⟨B,0,none⟩=some (ι x)):PredOver Tryz.prog 99 #[.pointer (some ⟨B,0,none⟩)] (Value.int .i64) (fun y=>decide (y=x)) blk off size w:=
 fun n os dk y _=>Tt x y B _ (by
  unfold sortWorld
  rw[Sort.cell?_grow _ _ _ (by show B<(Sort.putRow _ _ _ _ _).heap.size;rw[Sort.size_putRow];exact hB),Sort.cell?_putRow_other _ _ blk off _ _ (Or.inl hne)]
  exact hc)
theorem oO (base:Nat)(A:Option Addr)(c:Nat)(l:List Int)(x:Int)(B:Nat)(w:World)(hown:w.ownsRow base 3 1 (.slice A l.length c) l.length (l.map (Value.int .i64)))(h0:0<l.length)(hB:B<w.heap.size)(hne:∀ g,(Value.slice A l.length c).ownBlock=some g→B≠g)(hc:w.cell? ⟨B,0,none⟩=some (ι x)) :
 Calls Tryz.prog 98 #[.slice A l.length c,.func (.func 99) #[] #[.pointer (some ⟨B,0,none⟩)]] w (DF base 3 A c (JD l x) w):=by
 obtain ⟨g,cur,rfl,-,-,-,-⟩:=Da hown h0
 obtain ⟨hH,hcap,hmx,hg⟩:=U7 hown
 have hne:=hne g rfl
 have eg:∀ args w,(callFunc 99 args).run Tryz.prog w=.ok (.enter 99 args) w:=enters_of Tryz.func99 (by kernel_rfl) rfl
 have hcon:=AnyE.slices_DeleteFunc Tryz.delN (Value.int .i64) (fun _=>rfl) (fun y=>decide (y=x)) 99 #[.pointer (some ⟨B,0,none⟩)] eg 0 Tryz.zeroValue3 g 0 c l.toArray w
  (mf x B w hB hc) (l_ x B g 0 l.toArray.size w hB hne hc) hH (by simp only[maxLen] at hmx;rw[List.size_toArray];omega) (by simpa using hcap)
 change Calls Tryz.prog 98 _ _ _ at hcon
 refine hcon.mono ?_
 rintro en w' ⟨rfl,q,rfl⟩
 have hn:=Us l x
 have hle:(JD l x ++ List.replicate (l.length - (JD l x).length) 0).length=l.length:=by rw[List.length_append,List.length_replicate];omega
 have h2:=X_ (q:=q) (n:=(JD l x).length) hown hle hn
 rw[List.take_left] at h2
 refine ⟨?_,h2.1,h2.2⟩
 show _=Ending.returned (Value.slice (some ⟨g,0,none⟩) (JD l x).length c)
 rfl
theorem kQ (x y:Int)(B:Nat)(W:World)(hc:W.cell? ⟨B,0,none⟩=some (ι x)):FnGives Tryz.prog 102 #[.pointer (some ⟨B,0,none⟩)] #[ι y] (.bool (decide (y=x))) W:=by
 show Calls Tryz.prog 102 #[ι y,.pointer (some ⟨B,0,none⟩)] W _
 by_cases h:y=x
 ·subst h
  go_enter Tryz.func102,Tryz.ntmps102
  go_wp2
  go_ret
  exact ⟨by simp,0,rfl⟩
 ·have h1:(y == x)=false:=by simpa using h
  go_enter Tryz.func102,Tryz.ntmps102
  go_wp2
  go_ret
  exact ⟨by simp[h],0,rfl⟩
theorem nz (n:Nat)(hn:n≤1000000)(w:World):Calls Tryz.prog 103 #[.slice none 0 0,ι (n:Int)] w (fun en w'=>∃ A c,en=.returned (.slice A 0 c)∧w'.ownsRow w.heap.size 2 1 (.slice A 0 c) 0 []∧Below w.heap.size w w'):=by
 rcases Nat.eq_zero_or_pos n with h0 | h0
 ·subst h0
  refine (Any8.slices_Grow_room Tryz.grC none 0 0 0 w (Nat.le_refl _) (by omega) (by omega) (by omega)).mono ?_
  rintro en w' ⟨rfl,rfl⟩
  exact ⟨none,0,rfl,World.ownsRow_nil _ _ _ _,Below.refl _ _⟩
 ·obtain ⟨i,hi,hz0,hz1,hz2⟩:=info_parts (show (Tryz.prog.info? 2).map (fun i=>(i.zero,i.size,i.bytes))=some (some (ι 0),1,8) by kernel_rfl)
  refine (Any8.slices_Grow_grow Tryz.grC i (ι 0) hi hz0 (by omega) none 0 0 n [] w (Nat.le_refl _) (by omega) (by rw[hz2];omega) (by omega) (by simp) (fun _=>rfl) (fun a h=>by cases h)).mono ?_
  rintro en w' ⟨rfl,rfl⟩
  have hge:=grownCap_ge w (0+n) 0 2
  refine ⟨_,_,rfl,⟨by simp,.inr ⟨w.heap.size,_,_,rfl,Nat.le_refl _,heap_alloc_new w.drew _,Nat.zero_le _,grownCap_le_maxLen w _ _ _ (by simp only[maxLen];omega),?_,by simp⟩⟩,(Below.refl w.heap.size w).drew.alloc (Nat.le_refl _) _⟩
  rw[Array.size_append,Array.size_append,size_zeroCells,size_zeroCells]
  have h1:(ι 0).cells.size=1:=rfl
  rw[h1]
  show 0+(0+n - 0) * 1+(grownCap w (0+n) 0 2 - (0+n)) * 1=grownCap w (0+n) 0 2 * 1
  omega
theorem rJ (B:Nat→Prop)(A1 A2:Option Addr)(c1 c2:Nat)(l1 l2:List Int)(g:Nat)(w:World)(hg:zb w g 46 #[.slice A1 l1.length c1,.slice A2 l2.length c2])(h1:RI w B A1 l1)(h2:RI w B A2 l2)(n1:l1.length≤100000)(n2:l2.length≤100000) :
 Calls Tryz.prog 58 #[.slice (some ⟨g,0,none⟩) 2 2] w (qL (l1 ++ l2) 2 w):=by
 have HG:=ħ hg
 have H1:=ħ h1
 have H2:=ħ h2
 have HI:=ħ (show (Tryz.prog.info? 2).map (fun i=>(i.zero,i.size,i.bytes))=some (some (ι 0),1,8) by kernel_rfl)
 have x0:=hg.facts
 clear h1 h2 hg
 go_enter Tryz.func58,Tryz.ntmps58
 go_wp2_with fail
 go_loopw [3,11] (fun vs vi wr=>∃ (k m:Nat),k≤2∧vi=ι (k:Int)∧vs=ι (m:Int)∧m=(Zb l1 l2 k).length∧w=wr) (fun _ vi _=>2 - (intOf vi).toNat)
 case atStart=>exact ⟨0,0,by omega,rfl,rfl,rfl,rfl⟩
 case round=>
  obtain ⟨k,m,hk,rfl,rfl,hm,rfl⟩:=hrel
  rcases (by omega:k=0∨k=1∨k=2) with rfl | rfl | rfl
  ·have hm0:m=0:=hm
   subst hm0
   clear hm
   go_wp2_with fail
   exact ⟨⟨1,l1.length,by omega,by go_num,by go_num,rfl,(by first | rfl | trivial)⟩,by simp[intOf]⟩
  ·have hm0:m=l1.length:=hm
   subst hm0
   clear hm
   go_wp2_with fail
   exact ⟨⟨2,l1.length+l2.length,by omega,by go_num,by go_num,by show _=(l1 ++ l2).length;rw[List.length_append],(by first | rfl | trivial)⟩,by simp[intOf]⟩
  ·have hm0:m=l1.length+l2.length:=by rw[hm];show (l1 ++ l2).length=_;rw[List.length_append]
   clear hm
   have IP:=ħ (nz m (by omega) w)
   have hmb:m≤200000:=by omega
   have Nj:=ħ hm0
   clear hm0
   go_upto_region 10 with (go_at_call 103;((with_reducible refine IP.out.mono ?_);rintro en w3 ⟨A3,c3,rfl,ho,hb⟩;have zC:=ħ ho;have HB3:=ħ hb;clear ho hb))
   clear x0
   go_wp2_with fail
   go_loopw [6,27] (fun vo vi wr=>∃ (k m:Nat) (A:Option Addr) (c:Nat),k≤2∧vi=ι (k:Int)∧vo=.slice A m c∧m=(Zb l1 l2 k).length∧wr.ownsRow w.heap.size 2 1 (.slice A m c) m ((Zb l1 l2 k).map (Value.int .i64))∧Below w.heap.size w wr) (fun _ vi _=>2 - (intOf vi).toNat)
   case atStart=>exact ⟨0,0,_,_,by omega,rfl,rfl,rfl,zC.out,HB3.out⟩
   case round=>
    obtain ⟨k,m,A,c,hk,rfl,rfl,hm,ho,hb⟩:=hrel
    have HS:=ħ ho
    have HB:=ħ hb
    have x0:=(HG.out.below hb HG.out.lt).facts
    have lm:=KH l1 l2 k
    rw[←hm] at lm
    have VW:=ħ hm
    clear ho hb hm
    rcases (by omega:k=0∨k=1∨k=2) with rfl | rfl | rfl
    ·have HX:=ħ (show (Zb l1 l2 0).map (Value.int .i64) ++ l1.map (Value.int .i64)=(Zb l1 l2 1).map (Value.int .i64) by rw[←List.map_append];rfl)
     have HY:=ħ (show m+l1.length=(Zb l1 l2 1).length by rw[VW.out,←List.length_append];rfl)
     go_wp2_with (at_builtin;refine ze _ rfl _ _ _ rfl w.heap.size 2 _ 1 8 Tryz.underlying46 HI.out rfl (by omega) (.slice A m c) m ((Zb l1 l2 0).map (Value.int .i64)) rfl HS.out _ A1 l1.length c1 (l1.map (Value.int .i64)) rfl (zl H1.out HB.out) (YK _) (by simp only[maxLen];omega) (by omega) HB.out.size ?_;intro A5 c5 w5 hown hgr hat;have QE:=ħ hown;have ZN:=ħ (Below.grown HB.out hgr HB.out.size (fun j hj=>(HS.out.lt j hj).1));clear hown hgr hat)
     exact ⟨⟨1,m+l1.length,A5,c5,by omega,by go_num,rfl,HY.out,by rw[←HX.out];exact QE.out,ZN.out⟩,by simp[intOf]⟩
    ·have HX:=ħ (show (Zb l1 l2 1).map (Value.int .i64) ++ l2.map (Value.int .i64)=(Zb l1 l2 2).map (Value.int .i64) by rw[←List.map_append];rfl)
     have HY:=ħ (show m+l2.length=(Zb l1 l2 2).length by rw[VW.out,←List.length_append];rfl)
     go_wp2_with (at_builtin;refine ze _ rfl _ _ _ rfl w.heap.size 2 _ 1 8 Tryz.underlying46 HI.out rfl (by omega) (.slice A m c) m ((Zb l1 l2 1).map (Value.int .i64)) rfl HS.out _ A2 l2.length c2 (l2.map (Value.int .i64)) rfl (zl H2.out HB.out) (YK _) (by simp only[maxLen];omega) (by omega) HB.out.size ?_;intro A5 c5 w5 hown hgr hat;have QE:=ħ hown;have ZN:=ħ (Below.grown HB.out hgr HB.out.size (fun j hj=>(HS.out.lt j hj).1));clear hown hgr hat)
     exact ⟨⟨2,m+l2.length,A5,c5,by omega,by go_num,rfl,HY.out,by rw[←HX.out];exact QE.out,ZN.out⟩,by simp[intOf]⟩
    ·go_wp2_with fail
     go_ret
     have hm:=VW.out
     subst hm
     exact ⟨A,c,rfl,HS.out,HB.out⟩
theorem aP (x:Int)(B:Nat)(w:World)(hB:B<w.heap.size)(hc:w.cell? ⟨B,0,none⟩=some (ι x)):PredAt Tryz.prog 102 #[.pointer (some ⟨B,0,none⟩)] (Value.int .i64) (fun y=>decide (y=x)) w:=
 fun W y hb=>kQ x y B W ((hb.cell (p:=⟨B,0,none⟩) hB).trans hc)
theorem di (x:Int)(B blk off size:Nat)(w:World)(hB:B<w.heap.size)(hne:B≠blk)(hc:w.cell? ⟨B,0,none⟩=some (ι x)):PredOver Tryz.prog 102 #[.pointer (some ⟨B,0,none⟩)] (Value.int .i64) (fun y=>decide (y=x)) blk off size w:=
 fun n os dk y _=>kQ x y B _ (by
  unfold sortWorld
  rw[Sort.cell?_grow _ _ _ (by show B<(Sort.putRow _ _ _ _ _).heap.size;rw[Sort.size_putRow];exact hB),Sort.cell?_putRow_other _ _ blk off _ _ (Or.inl hne)]
  exact hc)
theorem iU (base:Nat)(A:Option Addr)(c:Nat)(l:List Int)(x:Int)(B:Nat)(w:World)(hown:w.ownsRow base 2 1 (.slice A l.length c) l.length (l.map (Value.int .i64)))(h0:0<l.length)(hB:B<w.heap.size)(hne:∀ g,(Value.slice A l.length c).ownBlock=some g→B≠g)(hc:w.cell? ⟨B,0,none⟩=some (ι x)) :
 Calls Tryz.prog 101 #[.slice A l.length c,.func (.func 102) #[] #[.pointer (some ⟨B,0,none⟩)]] w (DF base 2 A c (JD l x) w):=by
 obtain ⟨g,cur,rfl,-,-,-,-⟩:=Da hown h0
 obtain ⟨hH,hcap,hmx,hg⟩:=U7 hown
 have hne:=hne g rfl
 have eg:∀ args w,(callFunc 102 args).run Tryz.prog w=.ok (.enter 102 args) w:=enters_of Tryz.func102 (by kernel_rfl) rfl
 have hcon:=AnyE.slices_DeleteFunc Tryz.delC (Value.int .i64) (fun _=>rfl) (fun y=>decide (y=x)) 102 #[.pointer (some ⟨B,0,none⟩)] eg 0 Tryz.zeroValue2 g 0 c l.toArray w
  (aP x B w hB hc) (di x B g 0 l.toArray.size w hB hne hc) hH (by simp only[maxLen] at hmx;rw[List.size_toArray];omega) (by simpa using hcap)
 change Calls Tryz.prog 101 _ _ _ at hcon
 refine hcon.mono ?_
 rintro en w' ⟨rfl,q,rfl⟩
 have hn:=Us l x
 have hle:(JD l x ++ List.replicate (l.length - (JD l x).length) 0).length=l.length:=by rw[List.length_append,List.length_replicate];omega
 have h2:=X_ (q:=q) (n:=(JD l x).length) hown hle hn
 rw[List.take_left] at h2
 refine ⟨?_,h2.1,h2.2⟩
 show _=Ending.returned (Value.slice (some ⟨g,0,none⟩) (JD l x).length c)
 rfl
def FC (base:Nat)(A:Option Addr)(n c:Nat)(zs:List Int)(w:World)(e:Ending)(w':World):Prop:=
 e=.returned (.tuple #[])∧w'.ownsRow base 3 1 (.slice A n c) n ((Ya zs).map (Value.int .i64))∧w.grownBy w' (Value.slice A n c).ownBlock
theorem H8 (base:Nat)(A:Option Addr)(n c:Nat)(zs:List Int)(w:World)(hown:w.ownsRow base 3 1 (.slice A n c) n (zs.map (Value.int .i64)))(hnb:n≤1000000) :
 Calls Tryz.prog 60 #[.slice A n c] w (FC base A n c zs w):=by
 have hl:zs.length=n:=by simpa using hown.1
 rcases Nat.eq_zero_or_pos n with h0 | h0
 ·subst h0
  have hz:zs=[]:=List.eq_nil_of_length_eq_zero hl
  subst hz
  refine (Tryz.slices_Sort_int_none_f60 A c w).mono ?_
  rintro e w' ⟨rfl,rfl⟩
  exact ⟨rfl,by simpa [Ya] using hown,World.grownBy.refl _ _⟩
 ·rcases hown.2 with ⟨_,hv⟩ | ⟨g,cap,cur,hv,hb,hg,hnc,hcm,hsz,htk⟩
  ·omega
  ·injection hv with h1 h2 h3
   subst h1 h3
   have hH:=holds_of_blockI hg (by rw[hl];simpa using htk)
   have hlen:zs.length<4611686018427387904:=by omega
   refine (hl ▸ Tryz.slices_Sort_int_f60 g 0 c zs w hH ((Array.getElem?_eq_some_iff.1 hg).1) hlen).mono ?_
   rintro e w' ⟨rfl,k,os,rfl⟩
   refine ⟨rfl,?_,grownBy_sortedI _⟩
   have:=ownsRow_sortedI (n:=k) (os:=os) (ss:=zs) (ts:=Ya zs) (jE zs) hb hg (by omega) hcm hsz
   rw[hl] at this
   exact this
theorem Aa (B:Nat→Prop)(A:Option Addr)(c:Nat)(l:List Int)(n:Int)(w:World)(h:RI w B A l)(hl:l.length≤100000):Calls Tryz.prog 132 #[.slice A l.length c,ι n] w (fun e w'=>e=.returned (ι (Vv l n))∧w'=w):=by
 have hp:=h.plain (by omega)
 have HR:=ħ h
 clear h
 go_enter Tryz.func132,Tryz.ntmps132
 go_wp2_with fail
 go_loopw [8] (fun vi wr=>∃ (k:Nat),k≤l.length∧vi=ι k∧(∀ i,i<k→gd l i≠n)∧wr=w) (fun vi _=>l.length - (intOf vi).toNat)
 case atStart=>exact ⟨0,Nat.zero_le _,rfl,fun i hi=>by omega,rfl⟩
 case round=>
  obtain ⟨k,hk,rfl,hz,rfl⟩:=hrel
  have HZ:=ħ hz
  clear hz
  by_cases hlt:k<l.length
  ·have hlt':(k:Int)<l.length:=by omega
   have hix:=fun W=>JI hp c k hlt W
   have hc:=qJ HR.out hlt
   by_cases h0:gd l k=n
   ·have HF:=ħ (Fx hlt h0 HZ.out)
    rw[h0] at hc
    clear h0
    go_wp2_with fail
    go_ret
    exact ⟨by rw[HF.out];rfl,rfl⟩
   ·have HF:=ħ (show ∀ i,i<k+1→gd l i≠n from fun i hi=>by
     rcases (by omega:i<k∨i=k) with e | rfl
     ·exact HZ.out i e
     ·exact h0)
    generalize gd l k=v at *
    have d0:(n == v)=false:=by simpa using fun e:n=v=>h0 e.symm
    clear h0
    go_wp2_with fail
    exact ⟨⟨k+1,by omega,by go_num,HF.out,(by first | rfl | trivial)⟩,by simp[intOf];omega⟩
  ·have hlt':¬ (k:Int)<l.length:=by omega
   obtain rfl:k=l.length:=by omega
   have HF:=ħ (Fj HZ.out)
   go_wp2_with fail
   go_ret
   exact ⟨by rw[HF.out];rfl,rfl⟩
theorem XX (B:Nat→Prop)(A:Option Addr)(c:Nat)(l:List Int)(n:Int)(w:World)(h:RI w B A l)(hl:l.length≤100000):Calls Tryz.prog 97 #[.slice A l.length c,ι n] w (jr (hasB l n) w):=by
 have HI:=ħ (Aa B A c l n w h hl)
 rw[←AZ]
 clear h
 generalize Vv l n=v at *
 go_enter Tryz.func97,Tryz.ntmps97
 go_wp2_with (go_at_call 132;((with_reducible refine HI.out.mono ?_);rintro e w3 ⟨rfl,rfl⟩))
 go_ret
 exact ⟨rfl,rfl⟩
theorem I_ (B:Nat→Prop)(A:Option Addr)(c:Nat)(l:List Int)(n:Int)(w:World)(h:RI w B A l)(hl:l.length≤100000)(hs:l.Pairwise (fun a b=>a≤b)):Calls Tryz.prog 92 #[.slice A l.length c,ι n] w (fun e w'=>∃ k:Int,e=.returned (.tuple #[ι k,.bool (hasB l n)])∧Below w.heap.size w w'):=by
 rcases Nat.eq_zero_or_pos l.length with h0 | h0
 ·have hz:l=[]:=List.eq_nil_of_length_eq_zero h0
  subst hz
  refine (Tryz.slices_BinarySearch_int_empty A c n w).mono ?_
  rintro e w' ⟨rfl,rfl⟩
  exact ⟨0,rfl,Below.refl _ _⟩
 ·obtain ⟨b,o,rfl⟩:=h.plain (by omega) h0
  refine (Tryz.slices_BinarySearch_int b o l.length c l n w (Nat.le_refl _) (by omega) (fun j hj=>?_) (by rw[List.take_length];exact hs)).mono ?_
  ·have:=qJ h hj
   simpa [bk,qP,aO,gd] using this
  ·rintro e w' ⟨rfl,q,rfl⟩
   rw[List.take_length]
   exact ⟨_,rfl,((Fr.refl (fun _=>False) w).drewN q).below (Nat.le_refl _) (fun _ _ e=>e)⟩
end Go.Proofs.YtdhcjhfgibmhfaaGreatDoor

import Derived.Test.YtdfobfjpkjddpaaGreatUG9
import Derived.Test.YtdfobfjpkjddpaaGreatUG1
import Derived.Test.YtdfobfjpkjddpaaGreatUG32
import Derived.Test.YtdfobfjpkjddpaaGreatUG27
import Derived.Deep.RegionHeld3
import Derived.Test.YtdfobfjpkjddpaaGreatUG0
set_option linter.unusedVariables false
set_option linter.unusedSimpArgs false
set_option maxRecDepth 100000
set_option maxHeartbeats 8000000
namespace Go.Proofs.YtdfobfjpkjddpaaGreat
open Go.RowKit Go.Own Go.Quo Go.Wire
def IntsPost (l:List Int)(w:World)(e:Ending)(w':World):Prop:=∃ A c,e=.returned (.slice A l.length c)∧RI w' (w.heap.size≤·) A l∧Below w.heap.size w w'
def memTo (o n:List Int)(k:Nat):List Int:=((List.range k).map (fun j:Nat=>(j:Int))).filter fun m=>hasB o m || hasB n m
theorem memTo_succ (o n:List Int)(k:Nat):memTo o n (k+1)=memTo o n k ++ (if (hasB o k || hasB n k)=true then [(k:Int)] else []):=by
 unfold memTo
 rw[List.range_succ,List.map_append,List.filter_append]
 congr 1
 rw[List.map_cons,List.map_nil,List.filter_cons,List.filter_nil]
theorem memTo_le (o n:List Int)(k:Nat):(memTo o n k).length≤k:=by
 have:=List.length_filter_le (fun m=>hasB o m || hasB n m) ((List.range k).map (fun j:Nat=>(j:Int)))
 unfold memTo;simpa using this
def allV (o n:List Int):List Int:=if vB o n=true then memF o n else []
theorem all_no (B:Nat→Prop)(m:Ms)(w:World)(h:MR w B m)(hv:vB m.o m.n=false) :
 Calls Tryz.prog 51 #[msV m] w (IntsPost (allV m.o m.n) w):=by
 have HEm:=ħ (show allV m.o m.n=[] by unfold allV;rw[if_neg (by simp[hv])])
 have HO:=ħ (right_b B m _ (h.alloc (.cells (msC m) 24)) false hv)
 have g1:Blk (w.alloc (.cells (msC m) 24)) w.heap.size 24 (msC m):=Blk.new w 24 _
 obtain ⟨q0,q1,q2⟩:=g1.facts
 clear h hv
 go_enter Tryz.func51,Tryz.ntmps51
 go_wp2_with fail
 go_loopw [3,4] (fun vo vi wr=>vo=.slice none 0 0∧vi=.int .i64 0∧wr=w.alloc (.cells (msC m) 24)) (fun _ _ _=>0)
 case atStart=>exact ⟨rfl,rfl,rfl⟩
 case round=>
  obtain ⟨rfl,rfl,rfl⟩:=hrel
  go_wp2_with (go_at_call 52;((with_reducible refine HO.out.mono ?_);rintro e w1 ⟨rfl,rfl⟩))
  go_ret
  rw[HEm.out]
  exact ⟨none,0,rfl,Reads.none_,((Below.refl _ _).alloc (Nat.le_refl _) _).alloc (by simp) _⟩
theorem all_yes (B:Nat→Prop)(m:Ms)(w:World)(h:MR w B m)(hv:vB m.o m.n=true) :
 Calls Tryz.prog 51 #[msV m] w (IntsPost (allV m.o m.n) w):=by
 obtain ⟨hl1,hl2,hl3⟩:=v_lens hv
 have HEm:=ħ (show allV m.o m.n=memTo m.o m.n 64 by unfold allV;rw[if_pos hv];rfl)
 have HO:=ħ fun W (hw:MR W B m)=>right_b B m W hw true hv
 have h1:=h.alloc (.cells (msC m) 24)
 have g1:Blk (w.alloc (.cells (msC m) 24)) w.heap.size 24 (msC m):=Blk.new w 24 _
 have b1:Below w.heap.size w (w.alloc (.cells (msC m) 24)):=(Below.refl _ _).alloc (Nat.le_refl _) _
 clear h hv
 go_enter Tryz.func51,Tryz.ntmps51
 go_wp2_with fail
 generalize w.alloc (.cells (msC m) 24)=W1 at *
 go_loopw [3,4] (fun vo vi wr=>∃ (k:Nat) (A:Option Addr) (c:Nat),k≤64∧vi=.int .i64 k∧vo=.slice A (memTo m.o m.n k).length c∧wr.ownsRow W1.heap.size 3 1 (.slice A (memTo m.o m.n k).length c) (memTo m.o m.n k).length ((memTo m.o m.n k).map (Value.int .i64))∧Below W1.heap.size W1 wr) (fun _ i _=>64 - (intOf i).toNat)
 case atStart=>exact ⟨0,none,0,by omega,rfl,rfl,World.ownsRow_nil _ _ _ _,Below.refl _ _⟩
 case round=>
  obtain ⟨k,A,c,hk,rfl,rfl,hown,hb⟩:=hrel
  have hs:=hb.size
  have gr:=g1.below hb g1.lt
  obtain ⟨q0,q1,q2⟩:=gr.facts
  by_cases hlt:k<64
  ·have hlt':(k:Int)<64:=by omega
   have hmr:=h1.below hb
   have hmr2:=hmr.alloc (.cells (msC m) 24)
   have gr2:=gr.alloc (.cells (msC m) 24)
   have HOr:=ħ (HO.out wr hmr)
   have HSu:=ħ (memTo_succ m.o m.n k)
   have hUl:=memTo_le m.o m.n k
   have hown2:=hown.alloc (.cells (msC m) 24)
   have hb2:=hb.alloc hs (.cells (msC m) 24)
   have HH1:=ħ fun q hq=>has_b B m.A m.c m.o (k:Int) _ hmr2.o (by omega) q hq
   have HH2:=ħ fun q hq=>has_b B m.A' m.c' m.n (k:Int) _ hmr2.n (by omega) q hq
   generalize memTo m.o m.n k=U at *
   cases h1o:hasB m.o k with
   | true=>
    have HH1:=ħ (HH1.out true h1o)
    rw[h1o] at HSu
    clear h1o HH2 hmr hmr2
    go_wp2_with (first
     | (go_at_call 52;((with_reducible refine HOr.out.mono ?_);rintro e w1 ⟨rfl,rfl⟩))
     | (go_at_call 83;((with_reducible refine HH1.out.mono ?_);rintro e w1 ⟨rfl,rfl⟩))
     | (at_builtin;refine wpList_append_any _ rfl _ _ _ rfl W1.heap.size 3 _ 1 8 Tryz.underlying22 info3 rfl (by omega) (.slice A U.length c) U.length (U.map (Value.int .i64)) rfl (hown2.alloc _) _ (some ⟨wr.heap.size+1,0,none⟩) 1 1 [.int .i64 (k:Int)] rfl (Reads.newS _ [.int .i64 (k:Int)] 3 (0,0) 1 1 rfl _ (by simp)) (by simp[Value.oneCell']) (by simp only[maxLen];omega) (by omega) (by simp;omega) ?_;intro A4 c4 w4 hown4 hgr4 hat4))
    have HS:=ħ (show memTo m.o m.n (k+1)=U ++ [(k:Int)] by rw[HSu.out];simp)
    have e4:(U ++ [(k:Int)]).length=U.length+1:=by simp
    refine ⟨⟨k+1,A4,c4,by omega,by go_num,by rw[HS.out,e4],by rw[HS.out];simpa using hown4,(hb2.alloc (Nat.le_trans hs (by simp)) _).grown hgr4 (by simp;omega) (fun g hg=>by have:=(hown.lt g hg).1;omega)⟩,by simp[intOf];omega⟩
   | false=>
    have HH1:=ħ (HH1.out false h1o)
    rw[h1o] at HSu
    clear h1o
    cases h2o:hasB m.n k with
    | true=>
     have HH2:=ħ (HH2.out true h2o)
     rw[h2o] at HSu
     clear h2o hmr hmr2
     go_wp2_with (first
      | (go_at_call 52;((with_reducible refine HOr.out.mono ?_);rintro e w1 ⟨rfl,rfl⟩))
      | (go_at_call 83;((with_reducible refine HH1.out.mono ?_);rintro e w1 ⟨rfl,rfl⟩))
      | (go_at_call 83;((with_reducible refine HH2.out.mono ?_);rintro e w1 ⟨rfl,rfl⟩))
      | (at_builtin;refine wpList_append_any _ rfl _ _ _ rfl W1.heap.size 3 _ 1 8 Tryz.underlying22 info3 rfl (by omega) (.slice A U.length c) U.length (U.map (Value.int .i64)) rfl (hown2.alloc _) _ (some ⟨wr.heap.size+1,0,none⟩) 1 1 [.int .i64 (k:Int)] rfl (Reads.newS _ [.int .i64 (k:Int)] 3 (0,0) 1 1 rfl _ (by simp)) (by simp[Value.oneCell']) (by simp only[maxLen];omega) (by omega) (by simp;omega) ?_;intro A4 c4 w4 hown4 hgr4 hat4))
     have HS:=ħ (show memTo m.o m.n (k+1)=U ++ [(k:Int)] by rw[HSu.out];simp)
     have e4:(U ++ [(k:Int)]).length=U.length+1:=by simp
     refine ⟨⟨k+1,A4,c4,by omega,by go_num,by rw[HS.out,e4],by rw[HS.out];simpa using hown4,(hb2.alloc (Nat.le_trans hs (by simp)) _).grown hgr4 (by simp;omega) (fun g hg=>by have:=(hown.lt g hg).1;omega)⟩,by simp[intOf];omega⟩
    | false=>
     have HH2:=ħ (HH2.out false h2o)
     rw[h2o] at HSu
     clear h2o hmr hmr2
     go_wp2_with (first
      | (go_at_call 52;((with_reducible refine HOr.out.mono ?_);rintro e w1 ⟨rfl,rfl⟩))
      | (go_at_call 83;((with_reducible refine HH1.out.mono ?_);rintro e w1 ⟨rfl,rfl⟩))
      | (go_at_call 83;((with_reducible refine HH2.out.mono ?_);rintro e w1 ⟨rfl,rfl⟩))
      | (at_builtin;refine wpList_append_any _ rfl _ _ _ rfl W1.heap.size 3 _ 1 8 Tryz.underlying22 info3 rfl (by omega) (.slice A U.length c) U.length (U.map (Value.int .i64)) rfl (hown2.alloc _) _ (some ⟨wr.heap.size+1,0,none⟩) 1 1 [.int .i64 (k:Int)] rfl (Reads.newS _ [.int .i64 (k:Int)] 3 (0,0) 1 1 rfl _ (by simp)) (by simp[Value.oneCell']) (by simp only[maxLen];omega) (by omega) (by simp;omega) ?_;intro A4 c4 w4 hown4 hgr4 hat4))
     have HS:=ħ (show memTo m.o m.n (k+1)=U by rw[HSu.out];simp)
     exact ⟨⟨k+1,A,c,by omega,by go_num,by rw[HS.out],by rw[HS.out];exact hown2,hb2⟩,by simp[intOf];omega⟩
  ·have hge:¬ ((k:Int)<64):=by omega
   have HK:=ħ (show k=64 by omega)
   go_wp2
   go_ret
   rw[HEm.out]
   obtain rfl:=HK.out
   exact ⟨A,c,rfl,(Reads.of_own hown).more (fun g hg=>by have:=(hown.lt g hg).1;have:=b1.size;omega),b1.trans (hb.mono b1.size)⟩
theorem all_any (B:Nat→Prop)(m:Ms)(w:World)(h:MR w B m):Calls Tryz.prog 51 #[msV m] w (IntsPost (allV m.o m.n) w):=by
 cases hv:vB m.o m.n with
 | false=>exact all_no B m w h hv
 | true=>exact all_yes B m w h hv
end Go.Proofs.YtdfobfjpkjddpaaGreat
namespace Go.Proofs.YtdfobfjpkjddpaaGreat
open Go.RowKit Go.Own Go.Quo Go.Wire Go.Raft
attribute [local irreducible] Go.wpQuiet
theorem bytes_off (w:World)(p:Nat)(X:Nat→Prop)(data:List Int)(dur:Int)(h:FileP w p X data dur true) :
 Calls Tryz.prog 56 #[.pointer (some ⟨p,0,none⟩)] w fun e w'=>e=.returned (.tuple #[.slice none 0 0,.int .i64 7])∧w=w':=by
 obtain ⟨A,c,h1,h2,h3⟩:=h
 obtain ⟨q0,q1,q2⟩:=h1.facts
 go_enter Tryz.func56,Tryz.ntmps56
 go_wp2_with fail
 refine bodyPost_ret (v:=.tuple #[.slice none 0 0,.int .i64 7]) (by simp[results,Tryz.results56,go_sem]) rfl ⟨rfl,rfl⟩
theorem jopen_off (w:World)(p:Nat)(X:Nat→Prop)(data:List Int)(dur:Int)(h:FileP w p X data dur true) :
 Calls Tryz.prog 31 #[.pointer (some ⟨p,0,none⟩)] w fun e w'=>e=.returned (.tuple #[.pointer none,.int .i64 7])∧w=w':=by
 have H56:=ħ (bytes_off w p X data dur h)
 clear h
 go_enter Tryz.func31,Tryz.ntmps31
 go_wp2_with (go_at_call 56;((with_reducible refine H56.out.mono ?_);rintro e w2 ⟨rfl,rfl⟩))
 refine bodyPost_ret (v:=.tuple #[.pointer none,.int .i64 7]) (by simp[results,Tryz.results31,go_sem]) rfl ⟨rfl,rfl⟩
theorem open9_off (w:World)(f:Nat)(X B:Nat→Prop)(data:List Int)(dur:Int)(id wait beat now:Int)(m:Ms)(hfp:FileP w f X data dur true)(hm:MR w B m)(hid:0≤id∧id<9)(hpm:permB m.o m.n=true)(hwb:1≤wait∧wait≤MT∧1≤beat∧beat≤MT) :
 Calls Tryz.prog 9 #[.int .i64 id,msV m,.pointer (some ⟨f,0,none⟩),.int .i64 wait,.int .i64 beat,.int .i64 now] w fun e w'=>e=.returned (.tuple #[.pointer none,.int .i64 7])∧Below w.heap.size w w':=by
 unfold MT at hwb
 have b1:Below w.heap.size w (w.alloc (.cells (msC m) 24)):=(Below.refl _ _).alloc (Nat.le_refl _) _
 have g1:Blk (w.alloc (.cells (msC m) 24)) w.heap.size 24 (msC m):=Blk.new w 24 _
 have m1:=hm.alloc (.cells (msC m) 24)
 have f1:=hfp.fr (Fr.of_below (S:=fun _=>False) b1) (fun e=>e) (fun _ _ e=>e)
 have wi1:¬ id<0:=by omega
 have wi2:¬ 9≤id:=by omega
 have v1:¬ wait<1:=by omega
 have v2:¬ 1099511627776<wait:=by omega
 have v3:¬ beat<1:=by omega
 have v4:¬ 1099511627776<beat:=by omega
 clear hwb hid
 go_enter Tryz.func9,Tryz.ntmps9
 go_upto_region 1 with fail
 generalize w.alloc (.cells (msC m) 24)=W1 at *
 have H30:=ħ (permitted30 _ m W1 m1 true hpm)
 have y0:W1.cell? ⟨w.heap.size,0,none⟩=some (.slice m.A m.o.length m.c):=g1.cell 0
 have y1:W1.cell? ⟨w.heap.size,1,none⟩=some (.slice m.A' m.n.length m.c'):=g1.cell 1
 have y2:=g1.lt
 have H31:=ħ fun W (hb:Below W1.heap.size W1 W)=>jopen_off W f X data dur (f1.fr (Fr.of_below (S:=fun _=>False) hb) (fun e=>e) (fun _ _ e=>e))
 have HB1:=ħ b1
 clear hpm hm m1 f1 g1 hfp b1
 go_wp2_with (first
  | (go_at_call 30;((with_reducible refine H30.out.mono ?_);rintro e w2 ⟨rfl,b2⟩;have HB2:=ħ b2;clear b2))
  | (go_at_call 31;((with_reducible refine (H31.out _ HB2.out).mono ?_);rintro e w3 ⟨rfl,rfl⟩)))
 refine bodyPost_ret (v:=.tuple #[.pointer none,.int .i64 7]) (by simp[results,Tryz.results9,go_sem]) rfl ⟨rfl,HB1.out.trans (HB2.out.mono HB1.out.size)⟩
theorem most53 (w:World):Calls Tryz.prog 53 #[] w fun e w'=>e=.returned (.int .i64 1099511627776)∧w=w':=by
 go_enter Tryz.func53,Tryz.ntmps53
 go_wp2
 go_ret
 exact ⟨rfl,rfl⟩
theorem number28 (w:World)(n l:Int)(q:Bool)(hq:(decide (l≤n) && decide (n≤MT))=q):Calls Tryz.prog 28 #[.int .i64 n,.int .i64 l] w fun e w'=>e=.returned (.bool q)∧w=w':=by
 have H53:=ħ (most53 w)
 unfold MT at hq
 by_cases h1:l≤n
 ·by_cases h2:n≤1099511627776
  ·have HQ:=ħ (show q=true by rw[←hq];simp[h1,h2])
   clear hq
   go_enter Tryz.func28,Tryz.ntmps28
   go_wp2_with (go_at_call 53;((with_reducible refine H53.out.mono ?_);rintro e w2 ⟨rfl,rfl⟩))
   go_ret
   exact ⟨by rw[HQ.out];rfl,rfl⟩
  ·have HQ:=ħ (show q=false by rw[←hq];simp[h2])
   have HN2:=ħ (decide_eq_false h2)
   clear hq
   go_enter Tryz.func28,Tryz.ntmps28
   go_wp2_with (go_at_call 53;((with_reducible refine H53.out.mono ?_);rintro e w2 ⟨rfl,rfl⟩))
   go_ret
   exact ⟨by rw[HQ.out];show Ending.returned (Value.bool (decide (n≤1099511627776)))=_;rw[HN2.out],rfl⟩
 ·have HQ:=ħ (show q=false by rw[←hq];simp[h1])
  clear hq
  go_enter Tryz.func28,Tryz.ntmps28
  go_wp2_with fail
  go_ret
  exact ⟨by rw[HQ.out];rfl,rfl⟩
theorem mem_last {o n:List Int}(hv:vB o n=true):1≤(memF o n).length∧(permB o n=decide (gd (memF o n) ((memF o n).length - 1)≤8)):=by
 refine ⟨(mem_len hv).1,?_⟩
 rw[perm_last hv]
 congr 1
 exact propext ⟨fun h=>by omega,fun h=>by omega⟩
theorem members27 (B:Nat→Prop)(m:Ms)(w:World)(h:MR w B m)(q:Bool)(hq:permB m.o m.n=q):Calls Tryz.prog 27 #[msV m] w fun e w'=>e=.returned (.bool q)∧Below w.heap.size w w':=by
 have b1:Below w.heap.size w (w.alloc (.cells (msC m) 24)):=(Below.refl _ _).alloc (Nat.le_refl _) _
 have g1:Blk (w.alloc (.cells (msC m) 24)) w.heap.size 24 (msC m):=Blk.new w 24 _
 have m1:=h.alloc (.cells (msC m) 24)
 have HB1:=ħ b1
 have HG1:=ħ g1
 have H51:=ħ (all_any B m _ m1)
 have H52:=ħ fun W (hb:Below (w.alloc (.cells (msC m) 24)).heap.size (w.alloc (.cells (msC m) 24)) W) q hq=>right_b B m W (m1.below hb) q hq
 have HPV:=ħ (show permB m.o m.n=(vB m.o m.n && (memF m.o m.n).all fun x=>decide (x<9)) from rfl)
 clear h b1 m1
 go_enter Tryz.func27,Tryz.ntmps27
 go_upto_region 1 with fail
 generalize w.alloc (.cells (msC m) 24)=W1 at *
 have y0:W1.cell? ⟨w.heap.size,0,none⟩=some (.slice m.A m.o.length m.c):=g1.cell 0
 have y1:W1.cell? ⟨w.heap.size,1,none⟩=some (.slice m.A' m.n.length m.c'):=g1.cell 1
 have y2:=g1.lt
 go_upto_region 2 with (go_at_call 51;((with_reducible refine H51.out.mono ?_);rintro e w2 ⟨A2,c2,rfl,r2,b2⟩;have HR2:=ħ r2;have HB2:=ħ b2;clear r2 b2))
 clear y0 y1 y2 g1
 have g2:=HG1.out.below HB2.out HG1.out.lt
 have y0:w2.cell? ⟨w.heap.size,0,none⟩=some (.slice m.A m.o.length m.c):=g2.cell 0
 have y1:w2.cell? ⟨w.heap.size,1,none⟩=some (.slice m.A' m.n.length m.c'):=g2.cell 1
 have y2:=g2.lt
 have HB3:=ħ (HB1.out.trans (HB2.out.mono HB1.out.size))
 clear g2
 cases hv:vB m.o m.n with
 | false=>
  have H52':=ħ (H52.out w2 HB2.out false hv)
  have HQ:=ħ (show q=false by rw[←hq,HPV.out,hv];rfl)
  clear hq hv
  go_wp2_with (go_at_call 52;((with_reducible refine H52'.out.mono ?_);rintro e w3 ⟨rfl,rfl⟩))
  go_ret
  exact ⟨by rw[HQ.out];rfl,HB3.out.alloc HB3.out.size _⟩
 | true=>
  have H52':=ħ (H52.out w2 HB2.out true hv)
  obtain ⟨hl1,hpq⟩:=mem_last hv
  obtain ⟨L,hL⟩:∃ L,L=memF m.o m.n:=⟨_,rfl⟩
  have hAL:allV m.o m.n=L:=by rw[hL];unfold allV;rw[if_pos hv]
  rw[hAL] at HR2
  rw[hAL]
  have HL64:=ħ (show L.length≤64 by rw[hL];exact memF_le _ _)
  rw[←hL] at hl1 hpq
  have HQ:=ħ (show q=decide (gd L (L.length - 1)≤8) by rw[←hq,hpq])
  clear hq hv hpq hL hAL HPV
  obtain ⟨k,hk⟩:∃ k,L.length=k+1:=⟨L.length - 1,by omega⟩
  have hk64:k<64:=by have:=HL64.out;omega
  have hri:=HR2.out.alloc (.cells (msC m) 24)
  rw[hk] at HQ⊢
  have hpl:=Reads.plain hri (by decide)
  rw[hk] at hpl
  have hix:=fun W=>ix22 hpl c2 k (by omega) W
  have hwk:IntKind.i64.wrap ((k:Int)+1 - 1)=(k:Int):=by rw[IntWalk.i64_in _ (by omega)];omega
  have hwk2:IntKind.i64.wrap (k:Int)=(k:Int):=IntWalk.i64_in _ (by omega)
  have q1:(w2.alloc (.cells (msC m) 24)).cell? ⟨bk A2,ofs A2+k,none⟩=some (.int .i64 (gd L k)):=RI.at_ hri (by omega)
  obtain ⟨x,hx⟩:∃ x,x=gd L k:=⟨_,rfl⟩
  rw[Nat.add_sub_cancel,←hx] at HQ
  rw[←hx] at q1
  clear hri hpl hx
  by_cases hx8:x≤8
  ·go_wp2_with (go_at_call 52;((with_reducible refine H52'.out.mono ?_);rintro e w3 ⟨rfl,rfl⟩))
   go_ret
   exact ⟨by rw[HQ.out,decide_eq_true hx8];rfl,HB3.out.alloc HB3.out.size _⟩
  ·have HX8:=ħ (decide_eq_false hx8)
   go_wp2_with (go_at_call 52;((with_reducible refine H52'.out.mono ?_);rintro e w3 ⟨rfl,rfl⟩))
   go_ret
   exact ⟨by rw[HQ.out,HX8.out];rfl,HB3.out.alloc HB3.out.size _⟩
theorem hold29 (w:World)(p:Nat)(cs:Array Value)(now:Int)(h:Blk w p 75 cs)(h12:cs[12]?=some (.int .i64 0)) :
 Calls Tryz.prog 29 #[.pointer (some ⟨p,0,none⟩),.int .i64 now] w fun e w'=>∃ r l:Int,e=.returned (.int .i64 r)∧w'=w.setCell ⟨p,12,none⟩ (.int .i64 l):=by
 have H53:=ħ (most53 w)
 have y0:w.cell? ⟨p,12,none⟩=some (.int .i64 0):=(h.cell 12).trans h12
 have y1:=h.frozen 12
 have y2:=h.lt
 clear h h12
 go_enter Tryz.func29,Tryz.ntmps29
 by_cases h1:1099511627776<now
 ·go_wp2_with (go_at_call 53;((with_reducible refine H53.out.mono ?_);rintro e w2 ⟨rfl,rfl⟩))
  go_ret
  exact ⟨_,_,rfl,rfl⟩
 ·by_cases h2:now<0
  ·go_wp2_with (go_at_call 53;((with_reducible refine H53.out.mono ?_);rintro e w2 ⟨rfl,rfl⟩))
   go_ret
   exact ⟨_,_,rfl,rfl⟩
  ·go_wp2_with (go_at_call 53;((with_reducible refine H53.out.mono ?_);rintro e w2 ⟨rfl,rfl⟩))
   go_ret
   exact ⟨_,_,rfl,rfl⟩
theorem ropen8 (B:Nat→Prop)(m:Ms)(id wait beat now:Int)(w:World)(h:MR w B m)(q:Bool)(hq:(decide (0≤id) && decide (id<9) && permB m.o m.n && (decide (1≤wait) && decide (wait≤MT)) && (decide (1≤beat) && decide (beat≤MT)))=q) :
 Calls Tryz.prog 8 #[.int .i64 id,msV m,.int .i64 wait,.int .i64 beat,.int .i64 now] w fun e w'=>(∃ v,e=.returned (.tuple #[v,.bool q]))∧Below w.heap.size w w':=by
 have b1:Below w.heap.size w (w.alloc (.cells (msC m) 24)):=(Below.refl _ _).alloc (Nat.le_refl _) _
 have g1:Blk (w.alloc (.cells (msC m) 24)) w.heap.size 24 (msC m):=Blk.new w 24 _
 have m1:=h.alloc (.cells (msC m) 24)
 have HB1:=ħ b1
 have HG1:=ħ g1
 have H27:=ħ fun q hq=>members27 B m _ m1 q hq
 clear h b1 m1
 go_enter Tryz.func8,Tryz.ntmps8
 go_upto_region 1 with fail
 generalize w.alloc (.cells (msC m) 24)=W1 at *
 have y0:W1.cell? ⟨w.heap.size,0,none⟩=some (.slice m.A m.o.length m.c):=g1.cell 0
 have y1:W1.cell? ⟨w.heap.size,1,none⟩=some (.slice m.A' m.n.length m.c'):=g1.cell 1
 have y2:=g1.lt
 clear g1
 by_cases h1:0≤id∧id<9
 ·obtain ⟨h1a,h1b⟩:=h1
  have i1:¬ id<0:=by omega
  have i2:¬ 8<id:=by omega
  cases hp:permB m.o m.n with
  | false=>
   have H27':=ħ (H27.out false hp)
   have HQ:=ħ (show q=false by rw[←hq,hp];simp)
   clear hq hp
   go_wp2_with (go_at_call 27;((with_reducible refine H27'.out.mono ?_);rintro e w2 ⟨rfl,b2⟩;have HB2:=ħ (HB1.out.trans (b2.mono HB1.out.size));clear b2))
   refine bodyPost_ret (v:=.tuple #[.pointer none,.bool false]) (by simp[results,Tryz.results8,go_sem]) rfl ⟨⟨.pointer none,by rw[HQ.out]⟩,HB2.out⟩
  | true=>
   have H27':=ħ (H27.out true hp)
   cases hw:(decide (1≤wait) && decide (wait≤MT)) with
   | false=>
    have HQ:=ħ (show q=false by rw[←hq,hw];simp)
    have H28:=ħ fun W=>number28 W wait 1 false hw
    clear hq hp hw
    go_wp2_with (first
     | (go_at_call 27;((with_reducible refine H27'.out.mono ?_);rintro e w2 ⟨rfl,b2⟩;have HB2:=ħ (HB1.out.trans (b2.mono HB1.out.size));clear b2))
     | (go_at_call 28;((with_reducible refine (H28.out _).mono ?_);rintro e w3 ⟨rfl,rfl⟩)))
    refine bodyPost_ret (v:=.tuple #[.pointer none,.bool false]) (by simp[results,Tryz.results8,go_sem]) rfl ⟨⟨.pointer none,by rw[HQ.out]⟩,HB2.out⟩
   | true=>
    have H28:=ħ fun W=>number28 W wait 1 true hw
    cases hb:(decide (1≤beat) && decide (beat≤MT)) with
    | false=>
     have HQ:=ħ (show q=false by rw[←hq,hb];simp)
     have H28b:=ħ fun W=>number28 W beat 1 false hb
     clear hq hp hw hb
     go_wp2_with (first
      | (go_at_call 27;((with_reducible refine H27'.out.mono ?_);rintro e w2 ⟨rfl,b2⟩;have HB2:=ħ (HB1.out.trans (b2.mono HB1.out.size));clear b2))
      | (go_at_call 28;((with_reducible refine (H28.out _).mono ?_);rintro e w3 ⟨rfl,rfl⟩))
      | (go_at_call 28;((with_reducible refine (H28b.out _).mono ?_);rintro e w3 ⟨rfl,rfl⟩)))
     refine bodyPost_ret (v:=.tuple #[.pointer none,.bool false]) (by simp[results,Tryz.results8,go_sem]) rfl ⟨⟨.pointer none,by rw[HQ.out]⟩,HB2.out⟩
    | true=>
     have HQ:=ħ (show q=true by rw[←hq,hp,hw,hb,decide_eq_true h1a,decide_eq_true h1b];rfl)
     have H28b:=ħ fun W=>number28 W beat 1 true hb
     clear hq hp hw hb y0 y1 y2
     have HY:=ħ fun W (hb:Below W1.heap.size W1 W)=>(show W.cell? ⟨w.heap.size,0,none⟩=some (.slice m.A m.o.length m.c)∧W.cell? ⟨w.heap.size,1,none⟩=some (.slice m.A' m.n.length m.c')∧w.heap.size<W.heap.size from by
      have g:=HG1.out.below hb HG1.out.lt
      exact ⟨g.cell 0,g.cell 1,g.lt⟩)
     obtain ⟨y0,y1,y2⟩:=HY.out _ (Below.refl _ _)
     go_upto_region 3 with (first
      | (go_at_call 27;((with_reducible refine H27'.out.mono ?_);rintro e w2 ⟨rfl,b2⟩;have HB2:=ħ b2;clear b2))
      | (go_at_call 28;((with_reducible refine (H28.out _).mono ?_);rintro e w3 ⟨rfl,rfl⟩))
      | (go_at_call 28;((with_reducible refine (H28b.out _).mono ?_);rintro e w3 ⟨rfl,rfl⟩)))
     clear y0 y1 y2
     obtain ⟨y0,y1,y2⟩:=HY.out _ HB2.out
     have HB3:=ħ (HB1.out.trans (HB2.out.mono HB1.out.size))
     go_upto_region 4 with fail
     have g3:Blk (w2.alloc (.cells #[.int .i64 id,.slice m.A m.o.length m.c,.slice m.A' m.n.length m.c',.int .i64 wait,.int .i64 beat,.int .i64 0,.int .i64 (-1),.slice none 0 0,.int .i64 1,.int .i64 (-1),.int .i64 0,.int .i64 0,.int .i64 0,.int .i64 0,.slice none 0 0,.slice none 0 0,.slice none 0 0] 75)) w2.heap.size 75 #[.int .i64 id,.slice m.A m.o.length m.c,.slice m.A' m.n.length m.c',.int .i64 wait,.int .i64 beat,.int .i64 0,.int .i64 (-1),.slice none 0 0,.int .i64 1,.int .i64 (-1),.int .i64 0,.int .i64 0,.int .i64 0,.int .i64 0,.slice none 0 0,.slice none 0 0,.slice none 0 0]:=Blk.new w2 75 _
     have hb3:=HB3.out.alloc HB3.out.size (.cells #[.int .i64 id,.slice m.A m.o.length m.c,.slice m.A' m.n.length m.c',.int .i64 wait,.int .i64 beat,.int .i64 0,.int .i64 (-1),.slice none 0 0,.int .i64 1,.int .i64 (-1),.int .i64 0,.int .i64 0,.int .i64 0,.int .i64 0,.slice none 0 0,.slice none 0 0,.slice none 0 0] 75)
     have hsw:=HB3.out.size
     obtain ⟨pp,hpp⟩:∃ b,b=w2.heap.size:=⟨_,rfl⟩
     rw[←hpp] at g3⊢
     generalize w2.alloc (.cells #[.int .i64 id,.slice m.A m.o.length m.c,.slice m.A' m.n.length m.c',.int .i64 wait,.int .i64 beat,.int .i64 0,.int .i64 (-1),.slice none 0 0,.int .i64 1,.int .i64 (-1),.int .i64 0,.int .i64 0,.int .i64 0,.int .i64 0,.slice none 0 0,.slice none 0 0,.slice none 0 0] 75)=w4 at *
     have H29:=ħ (hold29 w4 pp _ now g3 rfl)
     have HG3:=ħ g3
     have HB4:=ħ hb3
     have HPP:=ħ (show w.heap.size≤pp by omega)
     clear y0 y1 y2 hb3 hsw hpp
     clear g3
     go_upto_region 5 with (go_at_call 29;((with_reducible refine H29.out.mono ?_);rintro e w5 ⟨r,l,rfl,rfl⟩;have g5:=HG3.out.set_ 12 (.int .i64 l);have z0:=g5.lt;have z1:(w4.setCell ⟨pp,12,none⟩ (.int .i64 l)).cell? ⟨pp,11,none⟩=some (.int .i64 0):=g5.cell 11;have z2:=g5.frozen 11;clear g5))
     go_wp2_with fail
     refine bodyPost_ret (v:=.tuple #[.pointer (some ⟨pp,0,none⟩),.bool true]) (by simp[results,Tryz.results8,go_sem]) rfl ⟨⟨.pointer (some ⟨pp,0,none⟩),by rw[HQ.out]⟩,?_⟩
     have f1:Fr (fun k=>k=pp) w4 ((w4.setCell ⟨pp,12,none⟩ (.int .i64 l)).setCell ⟨pp,11,none⟩ (.int .i64 r)):=((Fr.refl (fun k=>k=pp) w4).setCell (p:=⟨pp,12,none⟩) (.inl rfl) _).setCell (p:=⟨pp,11,none⟩) (.inl rfl) _
     exact HB4.out.trans (f1.below HB4.out.size (fun k hk e=>by have:=HPP.out;omega))
 ·have HQ:=ħ (show q=false by rw[←hq];simp only[Bool.and_eq_false_iff,decide_eq_false_iff_not];omega)
  clear hq
  by_cases i1:id<0
  ·go_wp2_with fail
   refine bodyPost_ret (v:=.tuple #[.pointer none,.bool false]) (by simp[results,Tryz.results8,go_sem]) rfl ⟨⟨.pointer none,by rw[HQ.out]⟩,HB1.out⟩
  ·have i2:8<id:=by omega
   go_wp2_with fail
   refine bodyPost_ret (v:=.tuple #[.pointer none,.bool false]) (by simp[results,Tryz.results8,go_sem]) rfl ⟨⟨.pointer none,by rw[HQ.out]⟩,HB1.out⟩
theorem open3 (w:World)(id wait beat now:Int)(m:Ms)(ho:RI w (fun _=>True) m.A m.o)(hn:RI w (fun _=>True) m.A' m.n) :
 Calls Tryz.prog 3 #[.agg (mdC id wait beat now m)] w fun e w'=>e=.returned (.bool true)∧Below w.heap.size w w':=by
 have b0:Below w.heap.size w (w.alloc (.cells (mdC id wait beat now m) 26)):=(Below.refl _ _).alloc (Nat.le_refl _) _
 have g0:Blk (w.alloc (.cells (mdC id wait beat now m) 26)) w.heap.size 26 (mdC id wait beat now m):=Blk.new w 26 _
 have HO0:=ħ (ho.old (by decide))
 have HN0:=ħ (hn.old (by decide))
 have HB0:=ħ b0
 have HG0:=ħ g0
 have H7:=ħ fun W=>awake7 W
 obtain ⟨xb,hxb⟩:∃ b,b=w.heap.size:=⟨_,rfl⟩
 have hxl:w.heap.size≤xb:=by omega
 have HXL:=ħ hxl
 clear ho hn b0 g0 hxl
 go_enter Tryz.func3,Tryz.ntmps3
 go_upto_region 1 with fail
 rw[←hxb] at HG0⊢
 generalize w.alloc (.cells (mdC id wait beat now m) 26)=W1 at *
 have HK:=ħ fun W (b:Blk W xb 26 (mdC id wait beat now m))=>(show (W.cell? ⟨xb,0,none⟩=some (.int .i64 id))∧(W.cell? ⟨xb,1,none⟩=some (.slice m.A m.o.length m.c)∧W.cell? ⟨xb,2,none⟩=some (.slice m.A' m.n.length m.c'))∧(W.cell? ⟨xb,3,none⟩=some (.int .i64 wait))∧(W.cell? ⟨xb,4,none⟩=some (.int .i64 beat))∧(W.cell? ⟨xb,5,none⟩=some (.int .i64 now)) from ⟨b.cell 0,⟨b.cell 1,b.cell 2⟩,b.cell 3,b.cell 4,b.cell 5⟩)
 clear hxb
 by_cases hlong:20<m.o.length∨20<m.n.length
 ·by_cases hl1:20<m.o.length
  ·have hl1':(20:Int)<(m.o.length:Int):=by omega
   go_wp2_with (first
    | (go_at_call 7;((with_reducible refine (H7.out W1).mono ?_);rintro e w2 ⟨rfl,b2⟩;have HB2:=ħ (HB0.out.trans (b2.mono HB0.out.size));have g2:=HG0.out.below b2 HG0.out.lt;obtain ⟨y0,⟨y1,y2⟩,y3,y4,y5⟩:=HK.out _ g2;clear g2 b2))
    | (go_at_call 7;((with_reducible refine (H7.out w2).mono ?_);rintro e w3 ⟨rfl,b3⟩;have HB3:=ħ (HB2.out.trans (b3.mono HB2.out.size));clear b3)))
   go_ret
   exact ⟨rfl,HB3.out⟩
  ·have hl1':¬ (20:Int)<(m.o.length:Int):=by omega
   have hl2':(20:Int)<(m.n.length:Int):=by omega
   go_wp2_with (first
    | (go_at_call 7;((with_reducible refine (H7.out W1).mono ?_);rintro e w2 ⟨rfl,b2⟩;have HB2:=ħ (HB0.out.trans (b2.mono HB0.out.size));have g2:=HG0.out.below b2 HG0.out.lt;obtain ⟨y0,⟨y1,y2⟩,y3,y4,y5⟩:=HK.out _ g2;clear g2 b2))
    | (go_at_call 7;((with_reducible refine (H7.out w2).mono ?_);rintro e w3 ⟨rfl,b3⟩;have HB3:=ħ (HB2.out.trans (b3.mono HB2.out.size));clear b3)))
   go_ret
   exact ⟨rfl,HB3.out⟩
 ·have hl1':¬ (20:Int)<(m.o.length:Int):=by omega
  have hl2':¬ (20:Int)<(m.n.length:Int):=by omega
  have HM:=ħ fun W (hb:Below w.heap.size w W)=>(show MR W (fun k=>k<w.heap.size) m from ⟨(HO0.out.below hb (fun _ h=>h.2)).more (fun _ h=>h.2),(HN0.out.below hb (fun _ h=>h.2)).more (fun _ h=>h.2),by omega,by omega⟩)
  go_upto_region 3 with (go_at_call 7;((with_reducible refine (H7.out W1).mono ?_);rintro e w2 ⟨rfl,b2⟩;have HB2:=ħ (HB0.out.trans (b2.mono HB0.out.size));have HG2:=ħ (HG0.out.below b2 HG0.out.lt);obtain ⟨y0,⟨y1,y2⟩,y3,y4,y5⟩:=HK.out _ HG2.out;clear b2))
  clear hl1' hl2' hlong
  have HC:=ħ fun W (hb:Below w.heap.size w W)=>conf10 _ m W (HM.out W hb)
  obtain ⟨q,hq⟩:∃ q,q=(decide (0≤id) && decide (id<9) && permB m.o m.n && (decide (1≤wait) && decide (wait≤MT)) && (decide (1≤beat) && decide (beat≤MT))):=⟨_,rfl⟩
  have HQ:=ħ hq
  have H8:=ħ (ropen8 _ m id wait beat now w2 (HM.out w2 HB2.out) q hq.symm)
  clear hq
  go_upto_region 4 with (go_at_call 8;((with_reducible refine H8.out.mono ?_);rintro e w3 ⟨⟨v8,rfl⟩,b3⟩;have HB3:=ħ (HB2.out.trans (b3.mono HB2.out.size));have g3:=HG2.out.below b3 HG2.out.lt;have HG3:=ħ g3;clear b3))
  clear y0 y1 y2 y3 y4 y5
  have HB1:=ħ fun W m' (e:m'.o=m.o∧m'.n=m.n) B (mr:MR W B m') fp (hbad:¬ (0≤id∧id<9∧permB m'.o m'.n=true∧fp≠none∧1≤wait∧wait≤MT∧1≤beat∧beat≤MT))=>open9_bad W B id wait beat now m' fp mr hbad
  cases q with
  | false=>
   have HBAD:=ħ fun (m':Ms) (e:m'.o=m.o∧m'.n=m.n) (fp:Option Addr)=>(show ¬ (0≤id∧id<9∧permB m'.o m'.n=true∧fp≠none∧1≤wait∧wait≤MT∧1≤beat∧beat≤MT) from fun h=>by
    have h2:=HQ.out
    rw[e.1,e.2] at h
    rw[decide_eq_true h.1,decide_eq_true h.2.1,h.2.2.1,decide_eq_true h.2.2.2.2.1,decide_eq_true h.2.2.2.2.2.1,decide_eq_true h.2.2.2.2.2.2.1,decide_eq_true h.2.2.2.2.2.2.2] at h2
    exact absurd h2 (by decide))
   have S3:=HK.out _ g3
   go_region_held3 (fun W=>(W.cell? ⟨xb,0,none⟩=some (.int .i64 id))∧(W.cell? ⟨xb,1,none⟩=some (.slice m.A m.o.length m.c)∧W.cell? ⟨xb,2,none⟩=some (.slice m.A' m.n.length m.c'))∧(W.cell? ⟨xb,3,none⟩=some (.int .i64 wait))∧(W.cell? ⟨xb,4,none⟩=some (.int .i64 beat))∧(W.cell? ⟨xb,5,none⟩=some (.int .i64 now))) (first | assumption | exact S3) (first
    | (((with_reducible refine (HC.out _ (HB3.out.drew)).mono ?_);rintro e w5 ⟨mw5,rfl,ew5a,ew5b,mrw5,bbw5⟩;have Bw5:=((Below.refl w3.heap.size w3).drew).trans bbw5;have gw5:=g3.below Bw5 g3.lt;have Sw5:=HK.out _ gw5;have Ew5:=ħ (And.intro ew5a ew5b);have Mw5:=ħ (show MR w5 _ mw5 from ⟨mrw5.o.old (by decide),mrw5.n.old (by decide),mrw5.ol,mrw5.nl⟩);have Zw5:=ħ Bw5;clear ew5a ew5b mrw5 bbw5 Bw5))
    | (((with_reducible refine (storage_new w5).mono ?_);rintro e w6 ⟨rfl,-,b6⟩;have g6:=gw5.below b6 gw5.lt;have S6:=HK.out _ g6;have M6:=ħ (Mw5.out.below b6);have Z6:=ħ (Zw5.out.trans (b6.mono Zw5.out.size));clear b6))
    | (((with_reducible refine (HB1.out w6 mw5 Ew5.out _ M6.out _ (HBAD.out mw5 Ew5.out _)).mono ?_);rintro e w7 ⟨rfl,b7⟩;have g7:=g6.below b7 g6.lt;have S7:=HK.out _ g7;have Z7:=ħ (HB3.out.trans ((Z6.out.trans (b7.mono Z6.out.size)).mono HB3.out.size));clear b7)))
   go_upto_region 5 with fail
   have S7:=HK.out _ g7
   go_region_held3 (fun W=>(W.cell? ⟨xb,0,none⟩=some (.int .i64 id))∧(W.cell? ⟨xb,1,none⟩=some (.slice m.A m.o.length m.c)∧W.cell? ⟨xb,2,none⟩=some (.slice m.A' m.n.length m.c'))∧(W.cell? ⟨xb,3,none⟩=some (.int .i64 wait))∧(W.cell? ⟨xb,4,none⟩=some (.int .i64 beat))∧(W.cell? ⟨xb,5,none⟩=some (.int .i64 now))) (first | assumption | exact S7) (first
    | (((with_reducible refine (HC.out _ (Z7.out.drew)).mono ?_);rintro e w8 ⟨mw8,rfl,ew8a,ew8b,mrw8,bbw8⟩;have Bw8:=((Below.refl w7.heap.size w7).drew).trans bbw8;have gw8:=g7.below Bw8 g7.lt;have Sw8:=HK.out _ gw8;have Ew8:=ħ (And.intro ew8a ew8b);have Mw8:=ħ (show MR w8 _ mw8 from ⟨mrw8.o.old (by decide),mrw8.n.old (by decide),mrw8.ol,mrw8.nl⟩);have Zw8:=ħ Bw8;clear ew8a ew8b mrw8 bbw8 Bw8))
    | (((with_reducible refine (HB1.out w8 mw8 Ew8.out _ Mw8.out none (HBAD.out mw8 Ew8.out none)).mono ?_);rintro e w9 ⟨rfl,b9⟩;have g9:=gw8.below b9 gw8.lt;have S9:=HK.out _ g9;have Z9:=ħ (Z7.out.trans ((Zw8.out.trans (b9.mono Zw8.out.size)).mono Z7.out.size));clear b9)))
   go_upto_region 8 with (first
    | (go_at_call 11;((with_reducible refine (storage_new w9).mono ?_);rintro e w10 ⟨rfl,fp10,b10⟩;have g10:=g9.below b10 g9.lt;have F10:=ħ fp10;have Z10:=ħ (Z9.out.trans (b10.mono Z9.out.size));have hf10:=b10.size;have hz9:=Z9.out.size;have hg9:=g9.lt;clear b10 fp10))
    | (go_at_call 12;((with_reducible refine (powerFail_any w10 w9.heap.size _ [] 0 0 F10.out (by decide) (by decide)).mono ?_);rintro e w11 ⟨rfl,fp11,f11⟩;have g11:=g10.fr f11 (by omega);have F11:=ħ (show FileP w11 w9.heap.size (fun _=>False) [] 0 true from fp11);have Z11:=ħ (Z10.out.trans (f11.below Z10.out.size (fun k hk e=>by have e:k=w9.heap.size:=e;omega)));clear fp11 f11)))
   have S11:=HK.out _ g11
   go_region_held3 (fun W=>(W.cell? ⟨xb,0,none⟩=some (.int .i64 id))∧(W.cell? ⟨xb,1,none⟩=some (.slice m.A m.o.length m.c)∧W.cell? ⟨xb,2,none⟩=some (.slice m.A' m.n.length m.c'))∧(W.cell? ⟨xb,3,none⟩=some (.int .i64 wait))∧(W.cell? ⟨xb,4,none⟩=some (.int .i64 beat))∧(W.cell? ⟨xb,5,none⟩=some (.int .i64 now))) (first | assumption | exact S11) (first
    | (((with_reducible refine (HC.out _ (Z11.out.drew)).mono ?_);rintro e w12 ⟨mw12,rfl,ew12a,ew12b,mrw12,bbw12⟩;have Bw12:=((Below.refl w11.heap.size w11).drew).trans bbw12;have gw12:=g11.below Bw12 g11.lt;have Sw12:=HK.out _ gw12;have Ew12:=ħ (And.intro ew12a ew12b);have Mw12:=ħ (show MR w12 _ mw12 from ⟨mrw12.o.old (by decide),mrw12.n.old (by decide),mrw12.ol,mrw12.nl⟩);have Zw12:=ħ Bw12;clear ew12a ew12b mrw12 bbw12 Bw12))
    | (((with_reducible refine (HB1.out w12 mw12 Ew12.out _ Mw12.out _ (HBAD.out mw12 Ew12.out _)).mono ?_);rintro e w13 ⟨rfl,b13⟩;have g13:=gw12.below b13 gw12.lt;have S13:=HK.out _ g13;have Z13:=ħ (Z11.out.trans ((Zw12.out.trans (b13.mono Zw12.out.size)).mono Z11.out.size));clear b13)))
   go_wp2_with fail
   go_ret
   exact ⟨rfl,Z13.out⟩
  | true=>
   obtain ⟨v1,v2,v3,v4,v5,v6,v7⟩:0≤id∧id<9∧permB m.o m.n=true∧1≤wait∧wait≤MT∧1≤beat∧beat≤MT:=by
    have h:=HQ.out.symm
    simp only[Bool.and_eq_true,decide_eq_true_eq] at h
    exact ⟨h.1.1.1.1,h.1.1.1.2,h.1.1.2,h.1.2.1,h.1.2.2,h.2.1,h.2.2⟩
   have HV:=ħ (And.intro (And.intro v1 v2) (And.intro v3 (And.intro v4 (And.intro v5 (And.intro v6 v7)))))
   have HOK:=ħ fun W m' (e:m'.o=m.o∧m'.n=m.n) B (mr:MR W B m') f (hBf:∀ k,B k→k≠f) (fp:FileP W f (fun _=>False) [] 0 false)=>(show Calls Tryz.prog 9 #[.int .i64 id,msV m',.pointer (some ⟨f,0,none⟩),.int .i64 wait,.int .i64 beat,.int .i64 now] W (OkP f (fun _=>False) (opened id wait beat (max 0 (min (max now 0) MT)) ⟨m'.o,m'.n⟩ [] 0 (-1) []) W) from
    open9_ok W f (fun _=>False) B id wait beat now m' [] 0 (-1) [] (by rw[show encJ initS []=[] from by simp[encJ]];exact fp) mr hBf HV.out.1 (by rw[e.1,e.2];exact HV.out.2.1) HV.out.2.2 RcOk.nil.fit RcOk.nil.rl RcOk.nil.ok RcOk.nil.rv RcOk.nil.lg RcOk.nil.e RcOk.nil.s RcOk.nil.ll)
   have HBN:=ħ fun (m':Ms) (e:m'.o=m.o∧m'.n=m.n) (fp:Option Addr)=>(show fp=none→¬ (0≤id∧id<9∧permB m'.o m'.n=true∧fp≠none∧1≤wait∧wait≤MT∧1≤beat∧beat≤MT) from fun e h=>h.2.2.2.1 e)
   have HOFF:=ħ fun W m' (e:m'.o=m.o∧m'.n=m.n) B (mr:MR W B m') f (fp:FileP W f (fun _=>False) [] 0 true)=>open9_off W f (fun _=>False) B [] 0 id wait beat now m' fp mr HV.out.1 (by rw[e.1,e.2];exact HV.out.2.1) HV.out.2.2
   clear v1 v2 v3 v4 v5 v6 v7
   have S3:=HK.out _ g3
   go_region_held3 (fun W=>(W.cell? ⟨xb,0,none⟩=some (.int .i64 id))∧(W.cell? ⟨xb,1,none⟩=some (.slice m.A m.o.length m.c)∧W.cell? ⟨xb,2,none⟩=some (.slice m.A' m.n.length m.c'))∧(W.cell? ⟨xb,3,none⟩=some (.int .i64 wait))∧(W.cell? ⟨xb,4,none⟩=some (.int .i64 beat))∧(W.cell? ⟨xb,5,none⟩=some (.int .i64 now))) (first | assumption | exact S3) (first
    | (((with_reducible refine (HC.out _ (HB3.out.drew)).mono ?_);rintro e w5 ⟨mw5,rfl,ew5a,ew5b,mrw5,bbw5⟩;have Bw5:=((Below.refl w3.heap.size w3).drew).trans bbw5;have gw5:=g3.below Bw5 g3.lt;have Sw5:=HK.out _ gw5;have Ew5:=ħ (And.intro ew5a ew5b);have Mw5:=ħ (show MR w5 _ mw5 from ⟨mrw5.o.old (by decide),mrw5.n.old (by decide),mrw5.ol,mrw5.nl⟩);have Zw5:=ħ Bw5;clear ew5a ew5b mrw5 bbw5 Bw5))
    | (((with_reducible refine (storage_new w5).mono ?_);rintro e w6 ⟨rfl,fp6,b6⟩;have g6:=gw5.below b6 gw5.lt;have S6:=HK.out _ g6;have M6:=ħ (Mw5.out.below b6);have F6:=ħ fp6;have Z6:=ħ (Zw5.out.trans (b6.mono Zw5.out.size));clear b6 fp6))
    | (((with_reducible refine (HOK.out w6 mw5 Ew5.out _ M6.out w5.heap.size (fun k hk e=>by have:=hk.2;omega) F6.out).mono ?_);rintro e w7 ⟨p7,v7,j7,l7,c7,rfl,-,-,-,f7⟩;have g7:=g6.fr f7 (fun e=>by have:=Zw5.out.size;have:=g3.lt;rcases e with e | e;omega;exact e);have S7:=HK.out _ g7;have Z7:=ħ (HB3.out.trans ((Z6.out.trans (f7.below Z6.out.size (fun k hk e=>by have:=Zw5.out.size;rcases e with e | e;omega;exact e))).mono HB3.out.size));clear f7)))
   go_upto_region 5 with fail
   have S7:=HK.out _ g7
   go_region_held3 (fun W=>(W.cell? ⟨xb,0,none⟩=some (.int .i64 id))∧(W.cell? ⟨xb,1,none⟩=some (.slice m.A m.o.length m.c)∧W.cell? ⟨xb,2,none⟩=some (.slice m.A' m.n.length m.c'))∧(W.cell? ⟨xb,3,none⟩=some (.int .i64 wait))∧(W.cell? ⟨xb,4,none⟩=some (.int .i64 beat))∧(W.cell? ⟨xb,5,none⟩=some (.int .i64 now))) (first | assumption | exact S7) (first
    | (((with_reducible refine (HC.out _ (Z7.out.drew)).mono ?_);rintro e w8 ⟨mw8,rfl,ew8a,ew8b,mrw8,bbw8⟩;have Bw8:=((Below.refl w7.heap.size w7).drew).trans bbw8;have gw8:=g7.below Bw8 g7.lt;have Sw8:=HK.out _ gw8;have Ew8:=ħ (And.intro ew8a ew8b);have Mw8:=ħ (show MR w8 _ mw8 from ⟨mrw8.o.old (by decide),mrw8.n.old (by decide),mrw8.ol,mrw8.nl⟩);have Zw8:=ħ Bw8;clear ew8a ew8b mrw8 bbw8 Bw8))
    | (((with_reducible refine (HB1.out w8 mw8 Ew8.out _ Mw8.out none (HBN.out mw8 Ew8.out none rfl)).mono ?_);rintro e w9 ⟨rfl,b9⟩;have g9:=gw8.below b9 gw8.lt;have S9:=HK.out _ g9;have Z9:=ħ (Z7.out.trans ((Zw8.out.trans (b9.mono Zw8.out.size)).mono Z7.out.size));clear b9)))
   go_upto_region 8 with (first
    | (go_at_call 11;((with_reducible refine (storage_new w9).mono ?_);rintro e w10 ⟨rfl,fp10,b10⟩;have g10:=g9.below b10 g9.lt;have F10:=ħ fp10;have Z10:=ħ (Z9.out.trans (b10.mono Z9.out.size));have hf10:=b10.size;have hz9:=Z9.out.size;have hg9:=g9.lt;clear b10 fp10))
    | (go_at_call 12;((with_reducible refine (powerFail_any w10 w9.heap.size _ [] 0 0 F10.out (by decide) (by decide)).mono ?_);rintro e w11 ⟨rfl,fp11,f11⟩;have g11:=g10.fr f11 (by omega);have F11:=ħ (show FileP w11 w9.heap.size (fun _=>False) [] 0 true from fp11);have Z11:=ħ (Z10.out.trans (f11.below Z10.out.size (fun k hk e=>by have e:k=w9.heap.size:=e;omega)));clear fp11 f11)))
   have S11:=HK.out _ g11
   go_region_held3 (fun W=>(W.cell? ⟨xb,0,none⟩=some (.int .i64 id))∧(W.cell? ⟨xb,1,none⟩=some (.slice m.A m.o.length m.c)∧W.cell? ⟨xb,2,none⟩=some (.slice m.A' m.n.length m.c'))∧(W.cell? ⟨xb,3,none⟩=some (.int .i64 wait))∧(W.cell? ⟨xb,4,none⟩=some (.int .i64 beat))∧(W.cell? ⟨xb,5,none⟩=some (.int .i64 now))) (first | assumption | exact S11) (first
    | (((with_reducible refine (HC.out _ (Z11.out.drew)).mono ?_);rintro e w12 ⟨mw12,rfl,ew12a,ew12b,mrw12,bbw12⟩;have Bw12:=((Below.refl w11.heap.size w11).drew).trans bbw12;have gw12:=g11.below Bw12 g11.lt;have Sw12:=HK.out _ gw12;have Ew12:=ħ (And.intro ew12a ew12b);have Mw12:=ħ (show MR w12 _ mw12 from ⟨mrw12.o.old (by decide),mrw12.n.old (by decide),mrw12.ol,mrw12.nl⟩);have Zw12:=ħ Bw12;clear ew12a ew12b mrw12 bbw12 Bw12))
    | (((with_reducible refine (HOFF.out w12 mw12 Ew12.out _ Mw12.out w9.heap.size (F11.out.fr (Fr.of_below (S:=fun _=>False) Zw12.out) (fun e=>e) (fun _ _ e=>e))).mono ?_);rintro e w13 ⟨rfl,b13⟩;have g13:=gw12.below b13 gw12.lt;have S13:=HK.out _ g13;have Z13:=ħ (Z11.out.trans ((Zw12.out.trans (b13.mono Zw12.out.size)).mono Z11.out.size));clear b13)))
   go_wp2_with fail
   go_ret
   exact ⟨rfl,Z13.out⟩
section
variable {H:Type} {enc:TypeId × Value→H} {w:World}
theorem pc26:Tryz.prog.cellsOf 26=6:=by kernel_rfl
theorem pc24:Tryz.prog.cellsOf 24=2:=by kernel_rfl
theorem pc22:Tryz.prog.cellsOf 22=1:=by kernel_rfl
theorem pc3:Tryz.prog.cellsOf 3=1:=by kernel_rfl
theorem pc2:Tryz.prog.cellsOf 2=1:=by kernel_rfl
theorem open_md {b0:Nat}{r:Reach}{v:Value}{d:DataW H}{p:List MemPlace}(hv:Value.okWide Tryz.prog w r b0 26 v)(h:DataW.Trod enc Tryz.prog w 0 (fun _=>true) true 26 v d p):∃ (id wait beat now:Int) (m:Ms),v=.agg (mdC id wait beat now m)∧RI w (fun _=>True) m.A m.o∧RI w (fun _=>True) m.A' m.n:=by
 obtain ⟨cs,rfl,hsz⟩:∃ cs,v=.agg cs∧cs.size=Tryz.prog.cellsOf 26:=by
  simp only[Value.okWide,Tryz.underlying26] at hv
  obtain ⟨cs,h1,h2,_⟩:=hv
  exact ⟨cs,h1,h2⟩
 have h1:=Rdy.of_trod h
 obtain ⟨-,hf⟩:=h1.struct Tryz.underlying26
 rw[pc26] at hsz
 obtain ⟨l⟩:=cs
 match l,hsz with
 | [e0,e1,e2,e3,e4,e5],_=>
  have f0:Rdy enc Tryz.prog w 3 (([e0,e1,e2,e3,e4,e5].drop 0).take (Tryz.prog.cellsOf 3)):=hf 0 _ rfl
  have f1:Rdy enc Tryz.prog w 24 (([e0,e1,e2,e3,e4,e5].drop 1).take (Tryz.prog.cellsOf 24)):=hf 1 _ rfl
  have f2:Rdy enc Tryz.prog w 2 (([e0,e1,e2,e3,e4,e5].drop 3).take (Tryz.prog.cellsOf 2)):=hf 2 _ rfl
  have f3:Rdy enc Tryz.prog w 2 (([e0,e1,e2,e3,e4,e5].drop 4).take (Tryz.prog.cellsOf 2)):=hf 3 _ rfl
  have f4:Rdy enc Tryz.prog w 2 (([e0,e1,e2,e3,e4,e5].drop 5).take (Tryz.prog.cellsOf 2)):=hf 4 _ rfl
  rw[pc3] at f0
  rw[pc24] at f1
  rw[pc2] at f2 f3 f4
  obtain ⟨-,hg⟩:=f1.struct Tryz.underlying24
  have g0:Rdy enc Tryz.prog w 22 (([e1,e2].drop 0).take (Tryz.prog.cellsOf 22)):=hg 0 _ rfl
  have g1:Rdy enc Tryz.prog w 22 (([e1,e2].drop 1).take (Tryz.prog.cellsOf 22)):=hg 1 _ rfl
  rw[pc22] at g0 g1
  obtain ⟨id,k0,-⟩:=f0.int Tryz.underlying3
  obtain ⟨wt,k2,-⟩:=f2.int Tryz.underlying2
  obtain ⟨bt,k3,-⟩:=f3.int Tryz.underlying2
  obtain ⟨nw,k4,-⟩:=f4.int Tryz.underlying2
  obtain ⟨A,c,lo,k5,-,-,r5,-⟩:=g0.ints Tryz.underlying22 Tryz.underlying3 pc3
  obtain ⟨A',c',ln,k6,-,-,r6,-⟩:=g1.ints Tryz.underlying22 Tryz.underlying3 pc3
  simp at k0 k2 k3 k4 k5 k6
  subst k0 k2 k3 k4 k5 k6
  exact ⟨id,wt,bt,nw,⟨A,c,lo,A',c',ln⟩,rfl,r5.more (fun _ _=>trivial),r6.more (fun _ _=>trivial)⟩
end
end Go.Proofs.YtdfobfjpkjddpaaGreat
